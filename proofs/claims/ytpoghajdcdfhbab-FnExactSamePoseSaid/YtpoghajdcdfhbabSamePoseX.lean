/- What functions that FnExactSamePose reaches compute, and that the program's and the reference's answers are the same. No conditions. -/
import Derived.Test.YtpoghajdcdfhbabFwF
import Derived.Test.YtpoghajdcdfhbabProg
import Derived.KernelRfl
set_option maxRecDepth 100000
set_option maxHeartbeats 4000000
set_option linter.all false
namespace Go.Proofs
open Go.Ab
theorem hm : Try.prog.follows .mixedOrders = true := by kernel_rfl
def en0 (p : (Nat × Nat × Nat × Nat)) : AV := (AV.agg [(.flt .f32 p.1), (.flt .f32 p.2.1), (.flt .f32 p.2.2.1), (.flt .f32 p.2.2.2)])
def dc_en0 : AV → Option (Nat × Nat × Nat × Nat)
  | .agg [.flt .f32 y0, .flt .f32 y1, .flt .f32 y2, .flt .f32 y3] => some (y0, y1, y2, y3)
  | _ => none
theorem dc_en0_map (ys : List (Nat × Nat × Nat × Nat)) : decL dc_en0 (List.map en0 ys) = some ys := decL_map (d := dc_en0) (e := en0) (fun p => by rfl) ys
theorem dc_en0_inv : ∀ x p, dc_en0 x = some p → x = en0 p := by
  intro x p h; unfold dc_en0 at h; split at h
  · cases h; rfl
  · cases h
theorem dc_en0_es (l : List (Nat × Nat × Nat × Nat)) : List.all (List.map en0 l) (esIs 4) = true := all_enc (fun _ => rfl) l
theorem dc_en0_st (l : List (Nat × Nat × Nat × Nat)) : List.all (List.map en0 l) (esSt 4) = true := all_enc (fun _ => rfl) l
theorem dc_en0_fl (l : List (Nat × Nat × Nat × Nat)) : List.all (List.map en0 l) flatE = true := all_enc (fun _ => rfl) l
def grpC := And.intro @dc_en0_map <| And.intro @dc_en0_es <| And.intro @dc_en0_st @dc_en0_fl
def m_laws_szTurnS (x0 : (List (Nat × Nat × Nat × Nat))) (x1 : Int) : Int := (if (decide ((IntKind.wrap .i64 (x1 - ((List.length x0 : Nat) : Int))) < 0)) = true then (-1) else
      (IntKind.wrap .i64 (x1 - ((List.length x0 : Nat) : Int))))
def g_laws_szTurnS : List AV → Option AV
  | [.sl w0, .int .i64 y1] => (match decL dc_en0 w0 with | some y0 => (some (.int .i64 (m_laws_szTurnS y0 y1))) | none => none)
  | _ => none
def ic53 : ICode := (.seq (.reg [⟨(some 4), none, (.mov (.c (.int .i64 0)))⟩] [0, 1]) (.seq (.reg [⟨(some 5), none, (.mov (.t 1))⟩, ⟨(some 6), none, (.mov (.t 0))⟩, ⟨(some 7), none,
      (.len false (.t 6))⟩, ⟨(some 8), none, (.bin .sub false (.t 5) (.t 7))⟩, ⟨(some 1), none, (.mov (.t 8))⟩] [1]) (.seq (.seq (.reg [⟨(some 9), none, (.mov (.t 1))⟩, ⟨(some 10),
      none, (.bin .lss false (.t 9) (.c (.int .i64 0)))⟩] [1, 10]) (.cond (.t 10) (.seq (.reg [⟨(some 4), none, (.mov (.c (.int .i64 (-1))))⟩] [4]) .ret) .skip)) (.seq (.reg [⟨(some
      11), none, (.mov (.t 1))⟩, ⟨(some 4), none, (.mov (.t 11))⟩] [4]) .ret))))
def cp53 : CP := CP.mk [] [] [[0, 1], [1], [1, 10], [4], [4]] 12
theorem fc53_0 : IntKind.wrap .i64 1 = 1 := by decide
theorem fc53_1 : IntKind.wrap .i64 2 = 2 := by decide
theorem fc53_2 : IntKind.wrap .i64 3 = 3 := by decide
theorem s53 : ∀ vs r, g_laws_szTurnS vs = some r → SaysM Try.prog .any 53 vs r := by
  intro vs r h
  unfold g_laws_szTurnS at h
  split at h
  · rename_i w0 y1
    cases hd_y0 : decL dc_en0 w0 with
    | none => rw [hd_y0] at h; cases h
    | some y0 =>
    rw [hd_y0] at h
    obtain rfl := decL_inv dc_en0_inv hd_y0
    clear hd_y0
    dsimp only at h
    cases h
    refine spec_of (m := .any) (tab := tabOf []) (cp := cp53) (ic := ic53) (rvl := [(.t 4)]) hm tabOk_nil Try.func53 rfl rfl rfl (by kernel_rfl) rfl (Nat.le_of_ble_eq_true rfl) (Nat.le_of_ble_eq_true rfl) ?_
    show eA _ _ _ _
    unfold ic53
    simp only [
        grpS, grpD, grpF, grpL, eop, vop, bop, uop, fltop, convop, endOk, newE, new1, freshL, Md.isNew, outV, pureV, pureX, pure1, AV.cells, AV.one, storable, laid, refless,
              refless1, vload, loadC, storeC, vnil, vfaddr, vextract, flatT, flatE, flatC, vconv, vmm, vidxA, viaddrA, vfield, vlen, elemsOf, dF32, dF64, dI64, dU8, dBool, dStr,
              esOk, elemsS, vsliceX, bnd, ownV, ownC, own1, ownT, isSl, nSl, endL, Md.isOwn, purge, purgeH, purgeB, purgeE, hasName, name1, List.any_cons, List.any_nil, Md.isWr,
              pureV.pureP, Option.map, reduceIte, Nat.reduceEqDiff, Nat.reduceAdd, Nat.reduceMul, Nat.reduceLT, Nat.reduceLeDiff, List.mapM_cons, List.mapM_nil, Option.pure_def,
              Option.bind_eq_bind, Option.bind_some, implies_true, forall_const, beq_self_eq_true, decide_true, decide_false, eq_self, Int.reduceEq, Int.reduceLE, Int.reduceLT,
              if_true, if_false, fc53_0, fc53_1, fc53_2, Int.reduceAdd, Int.reduceSub, Int.reduceMul, Int.reduceNeg, Int.reducePow, Nat.reducePow, Int.reduceToNat, Nat.reduceSub,
              List.replicate, Nat.reduceBEq, wAs, wA, wC, zipW, noDupN, grpE, grpC, en0, dc_en0]
    repeat' (first
      | ((first | (refine eGI_of (fun h => ?_) (fun h => ?_)) | (refine eCc_of (fun h => ?_) (fun h => ?_))) <;> (try simp only [Bool.not_eq_true', Bool.not_eq_false'] at h) <;> simp only [h,
        grpS, grpD, grpF, grpL, eop, vop, bop, uop, fltop, convop, endOk, newE, new1, freshL, Md.isNew, outV, pureV, pureX, pure1, AV.cells, AV.one, storable, laid, refless,
              refless1, vload, loadC, storeC, vnil, vfaddr, vextract, flatT, flatE, flatC, vconv, vmm, vidxA, viaddrA, vfield, vlen, elemsOf, dF32, dF64, dI64, dU8, dBool, dStr,
              esOk, elemsS, vsliceX, bnd, ownV, ownC, own1, ownT, isSl, nSl, endL, Md.isOwn, purge, purgeH, purgeB, purgeE, hasName, name1, List.any_cons, List.any_nil, Md.isWr,
              pureV.pureP, Option.map, reduceIte, Nat.reduceEqDiff, Nat.reduceAdd, Nat.reduceMul, Nat.reduceLT, Nat.reduceLeDiff, List.mapM_cons, List.mapM_nil, Option.pure_def,
              Option.bind_eq_bind, Option.bind_some, implies_true, forall_const, beq_self_eq_true, decide_true, decide_false, eq_self, Int.reduceEq, Int.reduceLE, Int.reduceLT,
              if_true, if_false, fc53_0, fc53_1, fc53_2, Int.reduceAdd, Int.reduceSub, Int.reduceMul, Int.reduceNeg, Int.reducePow, Nat.reducePow, Int.reduceToNat, Nat.reduceSub,
              List.replicate, Nat.reduceBEq, wAs, wA, wC, zipW, noDupN, grpE, grpC, en0, dc_en0]))
    all_goals (try simp only [*, m_laws_szTurnS, Bool.and_true, Bool.true_and, Bool.and_false, Bool.false_and, Bool.or_true, Bool.true_or, Bool.or_false, Bool.false_or, Bool.not_true, Bool.not_false, Bool.false_eq_true, if_true, if_false, reduceIte, decide_true, decide_false])
    all_goals (try (simp_all; done))
  · cases h
def m_laws_szPose (x0 : (Nat × Nat × Nat × (List (Nat × Nat × Nat × Nat)))) (x1 : Int) : Int := (if (decide ((m_laws_szTurnS x0.2.2.2 x1) < 0)) = true then (-1) else (m_laws_szTurnS
      x0.2.2.2 x1))
def g_laws_szPose : List AV → Option AV
  | [.agg [.flt .f32 y0, .flt .f32 y1, .flt .f32 y2, .sl w3], .int .i64 y4] => (match decL dc_en0 w3 with | some y3 => (some (.int .i64 (m_laws_szPose (y0, y1, y2, y3) y4))) | none => none)
  | _ => none
def ic22 : ICode := (.seq (.reg [⟨(some 2), none, (.box 4 (.t 0))⟩, ⟨(some 4), none, (.mov (.c (.int .i64 0)))⟩] [1, 2]) (.seq (.reg [⟨(some 5), none, (.faddr 3 (.t 2))⟩, ⟨(some 6),
      none, (.load none (.t 5))⟩, ⟨(some 7), none, (.mov (.t 1))⟩, ⟨(some 8), none, (.call (.fn 53) [(.t 6), (.t 7)] [])⟩, ⟨(some 1), none, (.mov (.t 8))⟩] [1]) (.seq (.seq (.reg
      [⟨(some 9), none, (.mov (.t 1))⟩, ⟨(some 10), none, (.bin .lss false (.t 9) (.c (.int .i64 0)))⟩] [1, 10]) (.cond (.t 10) (.seq (.reg [⟨(some 4), none, (.mov (.c (.int .i64
      (-1))))⟩] [4]) .ret) .skip)) (.seq (.reg [⟨(some 11), none, (.mov (.t 1))⟩, ⟨(some 4), none, (.mov (.t 11))⟩] [4]) .ret))))
def cp22 : CP := CP.mk [] [] [[1, 2], [1], [1, 10], [4], [4]] 12
theorem fc22_0 : IntKind.wrap .i64 1 = 1 := by decide
theorem fc22_1 : IntKind.wrap .i64 2 = 2 := by decide
theorem fc22_2 : IntKind.wrap .i64 3 = 3 := by decide
theorem s22 : ∀ vs r, g_laws_szPose vs = some r → SaysM Try.prog .any 22 vs r := by
  intro vs r h
  unfold g_laws_szPose at h
  split at h
  · rename_i y0 y1 y2 w3 y4
    cases hd_y3 : decL dc_en0 w3 with
    | none => rw [hd_y3] at h; cases h
    | some y3 =>
    rw [hd_y3] at h
    obtain rfl := decL_inv dc_en0_inv hd_y3
    clear hd_y3
    dsimp only at h
    cases h
    refine spec_of (m := .any) (tab := tabOf [(53, wM .any g_laws_szTurnS)]) (cp := cp22) (ic := ic22) (rvl := [(.t 4)]) hm (tabOk_cons (m := .any) s53 tabOk_nil) Try.func22 rfl rfl rfl (by kernel_rfl) rfl (Nat.le_of_ble_eq_true rfl) (Nat.le_of_ble_eq_true rfl) ?_
    show eA _ _ _ _
    unfold ic22
    simp only [
        grpS, grpD, grpF, grpL, eop, vop, bop, uop, fltop, convop, endOk, newE, new1, freshL, Md.isNew, outV, pureV, pureX, pure1, AV.cells, AV.one, storable, laid, refless,
              refless1, vload, loadC, storeC, vnil, vfaddr, vextract, flatT, flatE, flatC, vconv, vmm, vidxA, viaddrA, vfield, vlen, elemsOf, dF32, dF64, dI64, dU8, dBool, dStr,
              esOk, elemsS, vsliceX, bnd, ownV, ownC, own1, ownT, isSl, nSl, endL, Md.isOwn, purge, purgeH, purgeB, purgeE, hasName, name1, List.any_cons, List.any_nil, Md.isWr,
              pureV.pureP, Option.map, reduceIte, Nat.reduceEqDiff, Nat.reduceAdd, Nat.reduceMul, Nat.reduceLT, Nat.reduceLeDiff, List.mapM_cons, List.mapM_nil, Option.pure_def,
              Option.bind_eq_bind, Option.bind_some, implies_true, forall_const, beq_self_eq_true, decide_true, decide_false, eq_self, Int.reduceEq, Int.reduceLE, Int.reduceLT,
              if_true, if_false, fc22_0, fc22_1, fc22_2, Int.reduceAdd, Int.reduceSub, Int.reduceMul, Int.reduceNeg, Int.reducePow, Nat.reducePow, Int.reduceToNat, Nat.reduceSub,
              List.replicate, Nat.reduceBEq, wAs, wA, wC, zipW, noDupN, grpE, g_laws_szTurnS, grpC, en0, dc_en0]
    repeat' (first
      | ((first | (refine eGI_of (fun h => ?_) (fun h => ?_)) | (refine eCc_of (fun h => ?_) (fun h => ?_))) <;> (try simp only [Bool.not_eq_true', Bool.not_eq_false'] at h) <;> simp only [h,
        grpS, grpD, grpF, grpL, eop, vop, bop, uop, fltop, convop, endOk, newE, new1, freshL, Md.isNew, outV, pureV, pureX, pure1, AV.cells, AV.one, storable, laid, refless,
              refless1, vload, loadC, storeC, vnil, vfaddr, vextract, flatT, flatE, flatC, vconv, vmm, vidxA, viaddrA, vfield, vlen, elemsOf, dF32, dF64, dI64, dU8, dBool, dStr,
              esOk, elemsS, vsliceX, bnd, ownV, ownC, own1, ownT, isSl, nSl, endL, Md.isOwn, purge, purgeH, purgeB, purgeE, hasName, name1, List.any_cons, List.any_nil, Md.isWr,
              pureV.pureP, Option.map, reduceIte, Nat.reduceEqDiff, Nat.reduceAdd, Nat.reduceMul, Nat.reduceLT, Nat.reduceLeDiff, List.mapM_cons, List.mapM_nil, Option.pure_def,
              Option.bind_eq_bind, Option.bind_some, implies_true, forall_const, beq_self_eq_true, decide_true, decide_false, eq_self, Int.reduceEq, Int.reduceLE, Int.reduceLT,
              if_true, if_false, fc22_0, fc22_1, fc22_2, Int.reduceAdd, Int.reduceSub, Int.reduceMul, Int.reduceNeg, Int.reducePow, Nat.reducePow, Int.reduceToNat, Nat.reduceSub,
              List.replicate, Nat.reduceBEq, wAs, wA, wC, zipW, noDupN, grpE, g_laws_szTurnS, grpC, en0, dc_en0]))
    all_goals (try simp only [*, m_laws_szPose, Bool.and_true, Bool.true_and, Bool.and_false, Bool.false_and, Bool.or_true, Bool.true_or, Bool.or_false, Bool.false_or, Bool.not_true, Bool.not_false, Bool.false_eq_true, if_true, if_false, reduceIte, decide_true, decide_false])
    all_goals (try (simp_all; done))
  · cases h
def m_laws_toVector (x0 : (Nat × Nat × Nat)) : (Nat × Nat × Nat) := (x0.1, x0.2.1, x0.2.2)
def g_laws_toVector : List AV → Option AV
  | [.agg [.flt .f32 y0, .flt .f32 y1, .flt .f32 y2]] => some (AV.agg [(.flt .f32 (m_laws_toVector (y0, y1, y2)).1), (.flt .f32
      (m_laws_toVector (y0, y1, y2)).2.1), (.flt .f32 (m_laws_toVector (y0, y1, y2)).2.2)])
  | _ => none
def ic45 : ICode := (.seq (.reg [⟨(some 1), none, (.box 3 (.t 0))⟩, ⟨(some 2), none, (.alloc (.agg [(.flt .f32 0), (.flt .f32 0), (.flt .f32 0)]))⟩] [1, 2]) (.seq (.reg [⟨(some 3),
      none, (.alloc (.agg [(.flt .f32 0), (.flt .f32 0), (.flt .f32 0)]))⟩] [1, 2, 3]) (.seq (.reg [⟨(some 4), none, (.faddr 0 (.t 1))⟩, ⟨(some 5), none, (.load none (.t 4))⟩,
      ⟨(some 6), none, (.faddr 0 (.t 3))⟩, ⟨none, none, (.store 1 (.t 6) (.t 5))⟩] [1, 2, 3]) (.seq (.reg [⟨(some 7), none, (.faddr 1 (.t 1))⟩, ⟨(some 8), none, (.load none (.t
      7))⟩, ⟨(some 9), none, (.faddr 1 (.t 3))⟩, ⟨none, none, (.store 1 (.t 9) (.t 8))⟩] [1, 2, 3]) (.seq (.reg [⟨(some 10), none, (.faddr 2 (.t 1))⟩, ⟨(some 11), none, (.load none
      (.t 10))⟩, ⟨(some 12), none, (.faddr 2 (.t 3))⟩, ⟨none, none, (.store 1 (.t 12) (.t 11))⟩] [2, 3]) (.seq (.reg [⟨(some 13), none, (.load (some 3) (.t 3))⟩, ⟨none, none,
      (.store 3 (.t 2) (.t 13))⟩] [2]) .ret))))))
def cp45 : CP := CP.mk [] [] [[1, 2], [1, 2, 3], [1, 2, 3], [1, 2, 3], [2, 3], [2]] 14
theorem fc45_0 : IntKind.wrap .i64 1 = 1 := by decide
theorem fc45_1 : IntKind.wrap .i64 2 = 2 := by decide
theorem fc45_2 : IntKind.wrap .i64 3 = 3 := by decide
theorem s45 : ∀ vs r, g_laws_toVector vs = some r → SaysM Try.prog .any 45 vs r := by
  intro vs r h
  unfold g_laws_toVector at h
  split at h
  · rename_i y0 y1 y2
    cases h
    refine spec_of (m := .any) (tab := tabOf []) (cp := cp45) (ic := ic45) (rvl := [(.c 2 (some 3))]) hm tabOk_nil Try.func45 rfl rfl rfl (by kernel_rfl) rfl (Nat.le_of_ble_eq_true rfl) (Nat.le_of_ble_eq_true rfl) ?_
    show eA _ _ _ _
    unfold ic45
    simp only [
        grpS, grpD, grpF, grpL, eop, vop, bop, uop, fltop, convop, endOk, newE, new1, freshL, Md.isNew, outV, pureV, pureX, pure1, AV.cells, AV.one, storable, laid, refless,
              refless1, vload, loadC, storeC, vnil, vfaddr, vextract, flatT, flatE, flatC, vconv, vmm, vidxA, viaddrA, vfield, vlen, elemsOf, dF32, dF64, dI64, dU8, dBool, dStr,
              esOk, elemsS, vsliceX, bnd, ownV, ownC, own1, ownT, isSl, nSl, endL, Md.isOwn, purge, purgeH, purgeB, purgeE, hasName, name1, List.any_cons, List.any_nil, Md.isWr,
              pureV.pureP, Option.map, reduceIte, Nat.reduceEqDiff, Nat.reduceAdd, Nat.reduceMul, Nat.reduceLT, Nat.reduceLeDiff, List.mapM_cons, List.mapM_nil, Option.pure_def,
              Option.bind_eq_bind, Option.bind_some, implies_true, forall_const, beq_self_eq_true, decide_true, decide_false, eq_self, Int.reduceEq, Int.reduceLE, Int.reduceLT,
              if_true, if_false, fc45_0, fc45_1, fc45_2, Int.reduceAdd, Int.reduceSub, Int.reduceMul, Int.reduceNeg, Int.reducePow, Nat.reducePow, Int.reduceToNat, Nat.reduceSub,
              List.replicate, Nat.reduceBEq, wAs, wA, wC, zipW, noDupN, grpE, grpC, en0, dc_en0]
    repeat' (first
      | ((first | (refine eGI_of (fun h => ?_) (fun h => ?_)) | (refine eCc_of (fun h => ?_) (fun h => ?_))) <;> (try simp only [Bool.not_eq_true', Bool.not_eq_false'] at h) <;> simp only [h,
        grpS, grpD, grpF, grpL, eop, vop, bop, uop, fltop, convop, endOk, newE, new1, freshL, Md.isNew, outV, pureV, pureX, pure1, AV.cells, AV.one, storable, laid, refless,
              refless1, vload, loadC, storeC, vnil, vfaddr, vextract, flatT, flatE, flatC, vconv, vmm, vidxA, viaddrA, vfield, vlen, elemsOf, dF32, dF64, dI64, dU8, dBool, dStr,
              esOk, elemsS, vsliceX, bnd, ownV, ownC, own1, ownT, isSl, nSl, endL, Md.isOwn, purge, purgeH, purgeB, purgeE, hasName, name1, List.any_cons, List.any_nil, Md.isWr,
              pureV.pureP, Option.map, reduceIte, Nat.reduceEqDiff, Nat.reduceAdd, Nat.reduceMul, Nat.reduceLT, Nat.reduceLeDiff, List.mapM_cons, List.mapM_nil, Option.pure_def,
              Option.bind_eq_bind, Option.bind_some, implies_true, forall_const, beq_self_eq_true, decide_true, decide_false, eq_self, Int.reduceEq, Int.reduceLE, Int.reduceLT,
              if_true, if_false, fc45_0, fc45_1, fc45_2, Int.reduceAdd, Int.reduceSub, Int.reduceMul, Int.reduceNeg, Int.reducePow, Nat.reducePow, Int.reduceToNat, Nat.reduceSub,
              List.replicate, Nat.reduceBEq, wAs, wA, wC, zipW, noDupN, grpE, grpC, en0, dc_en0]))
    all_goals (try simp only [*, m_laws_toVector, Bool.and_true, Bool.true_and, Bool.and_false, Bool.false_and, Bool.or_true, Bool.true_or, Bool.or_false, Bool.false_or, Bool.not_true, Bool.not_false, Bool.false_eq_true, if_true, if_false, reduceIte, decide_true, decide_false])
    all_goals (try (simp_all; done))
  · cases h
def m_laws_toTurn (x0 : (Nat × Nat × Nat × Nat)) : (Nat × Nat × Nat × Nat) := (x0.1, x0.2.1, x0.2.2.1, x0.2.2.2)
def g_laws_toTurn : List AV → Option AV
  | [.agg [.flt .f32 y0, .flt .f32 y1, .flt .f32 y2, .flt .f32 y3]] => some (AV.agg [(.flt .f32 (m_laws_toTurn (y0, y1, y2, y3)).1), (.flt
      .f32 (m_laws_toTurn (y0, y1, y2, y3)).2.1), (.flt .f32 (m_laws_toTurn (y0, y1, y2, y3)).2.2.1), (.flt .f32 (m_laws_toTurn (y0, y1, y2, y3)).2.2.2)])
  | _ => none
def ic79 : ICode := (.seq (.reg [⟨(some 1), none, (.box 4 (.t 0))⟩, ⟨(some 2), none, (.alloc (.agg [(.flt .f32 0), (.flt .f32 0), (.flt .f32 0), (.flt .f32 0)]))⟩] [1, 2]) (.seq
      (.reg [⟨(some 3), none, (.alloc (.agg [(.flt .f32 0), (.flt .f32 0), (.flt .f32 0), (.flt .f32 0)]))⟩] [1, 2, 3]) (.seq (.reg [⟨(some 4), none, (.faddr 0 (.t 1))⟩, ⟨(some 5),
      none, (.load none (.t 4))⟩, ⟨(some 6), none, (.faddr 0 (.t 3))⟩, ⟨none, none, (.store 1 (.t 6) (.t 5))⟩] [1, 2, 3]) (.seq (.reg [⟨(some 7), none, (.faddr 1 (.t 1))⟩, ⟨(some
      8), none, (.load none (.t 7))⟩, ⟨(some 9), none, (.faddr 1 (.t 3))⟩, ⟨none, none, (.store 1 (.t 9) (.t 8))⟩] [1, 2, 3]) (.seq (.reg [⟨(some 10), none, (.faddr 2 (.t 1))⟩,
      ⟨(some 11), none, (.load none (.t 10))⟩, ⟨(some 12), none, (.faddr 2 (.t 3))⟩, ⟨none, none, (.store 1 (.t 12) (.t 11))⟩] [1, 2, 3]) (.seq (.reg [⟨(some 13), none, (.faddr 3
      (.t 1))⟩, ⟨(some 14), none, (.load none (.t 13))⟩, ⟨(some 15), none, (.faddr 3 (.t 3))⟩, ⟨none, none, (.store 1 (.t 15) (.t 14))⟩] [2, 3]) (.seq (.reg [⟨(some 16), none,
      (.load (some 4) (.t 3))⟩, ⟨none, none, (.store 4 (.t 2) (.t 16))⟩] [2]) .ret)))))))
def cp79 : CP := CP.mk [] [] [[1, 2], [1, 2, 3], [1, 2, 3], [1, 2, 3], [1, 2, 3], [2, 3], [2]] 17
theorem fc79_0 : IntKind.wrap .i64 1 = 1 := by decide
theorem fc79_1 : IntKind.wrap .i64 2 = 2 := by decide
theorem fc79_2 : IntKind.wrap .i64 3 = 3 := by decide
theorem s79 : ∀ vs r, g_laws_toTurn vs = some r → SaysM Try.prog .any 79 vs r := by
  intro vs r h
  unfold g_laws_toTurn at h
  split at h
  · rename_i y0 y1 y2 y3
    cases h
    refine spec_of (m := .any) (tab := tabOf []) (cp := cp79) (ic := ic79) (rvl := [(.c 2 (some 4))]) hm tabOk_nil Try.func79 rfl rfl rfl (by kernel_rfl) rfl (Nat.le_of_ble_eq_true rfl) (Nat.le_of_ble_eq_true rfl) ?_
    show eA _ _ _ _
    unfold ic79
    simp only [
        grpS, grpD, grpF, grpL, eop, vop, bop, uop, fltop, convop, endOk, newE, new1, freshL, Md.isNew, outV, pureV, pureX, pure1, AV.cells, AV.one, storable, laid, refless,
              refless1, vload, loadC, storeC, vnil, vfaddr, vextract, flatT, flatE, flatC, vconv, vmm, vidxA, viaddrA, vfield, vlen, elemsOf, dF32, dF64, dI64, dU8, dBool, dStr,
              esOk, elemsS, vsliceX, bnd, ownV, ownC, own1, ownT, isSl, nSl, endL, Md.isOwn, purge, purgeH, purgeB, purgeE, hasName, name1, List.any_cons, List.any_nil, Md.isWr,
              pureV.pureP, Option.map, reduceIte, Nat.reduceEqDiff, Nat.reduceAdd, Nat.reduceMul, Nat.reduceLT, Nat.reduceLeDiff, List.mapM_cons, List.mapM_nil, Option.pure_def,
              Option.bind_eq_bind, Option.bind_some, implies_true, forall_const, beq_self_eq_true, decide_true, decide_false, eq_self, Int.reduceEq, Int.reduceLE, Int.reduceLT,
              if_true, if_false, fc79_0, fc79_1, fc79_2, Int.reduceAdd, Int.reduceSub, Int.reduceMul, Int.reduceNeg, Int.reducePow, Nat.reducePow, Int.reduceToNat, Nat.reduceSub,
              List.replicate, Nat.reduceBEq, wAs, wA, wC, zipW, noDupN, grpE, grpC, en0, dc_en0]
    repeat' (first
      | ((first | (refine eGI_of (fun h => ?_) (fun h => ?_)) | (refine eCc_of (fun h => ?_) (fun h => ?_))) <;> (try simp only [Bool.not_eq_true', Bool.not_eq_false'] at h) <;> simp only [h,
        grpS, grpD, grpF, grpL, eop, vop, bop, uop, fltop, convop, endOk, newE, new1, freshL, Md.isNew, outV, pureV, pureX, pure1, AV.cells, AV.one, storable, laid, refless,
              refless1, vload, loadC, storeC, vnil, vfaddr, vextract, flatT, flatE, flatC, vconv, vmm, vidxA, viaddrA, vfield, vlen, elemsOf, dF32, dF64, dI64, dU8, dBool, dStr,
              esOk, elemsS, vsliceX, bnd, ownV, ownC, own1, ownT, isSl, nSl, endL, Md.isOwn, purge, purgeH, purgeB, purgeE, hasName, name1, List.any_cons, List.any_nil, Md.isWr,
              pureV.pureP, Option.map, reduceIte, Nat.reduceEqDiff, Nat.reduceAdd, Nat.reduceMul, Nat.reduceLT, Nat.reduceLeDiff, List.mapM_cons, List.mapM_nil, Option.pure_def,
              Option.bind_eq_bind, Option.bind_some, implies_true, forall_const, beq_self_eq_true, decide_true, decide_false, eq_self, Int.reduceEq, Int.reduceLE, Int.reduceLT,
              if_true, if_false, fc79_0, fc79_1, fc79_2, Int.reduceAdd, Int.reduceSub, Int.reduceMul, Int.reduceNeg, Int.reducePow, Nat.reducePow, Int.reduceToNat, Nat.reduceSub,
              List.replicate, Nat.reduceBEq, wAs, wA, wC, zipW, noDupN, grpE, grpC, en0, dc_en0]))
    all_goals (try simp only [*, m_laws_toTurn, Bool.and_true, Bool.true_and, Bool.and_false, Bool.false_and, Bool.or_true, Bool.true_or, Bool.or_false, Bool.false_or, Bool.not_true, Bool.not_false, Bool.false_eq_true, if_true, if_false, reduceIte, decide_true, decide_false])
    all_goals (try (simp_all; done))
  · cases h
def l_laws_toTurnS_0 (x0 : (List (Nat × Nat × Nat × Nat))) : Nat → (List (Nat × Nat × Nat × Nat)) → Int → Option (List (Nat × Nat × Nat × Nat))
  | 0, _, _ => none
  | n + 1, z0_0, z0_1 => (if (decide (z0_1 < ((List.length x0 : Nat) : Int))) = true then (need (inB z0_1 (List.length x0)) (need (inB z0_1 (List.length z0_0)) (l_laws_toTurnS_0 x0
        n (List.set z0_0 (Int.toNat z0_1) (m_laws_toTurn (atI x0 z0_1))) (IntKind.wrap .i64 (z0_1 + 1))))) else (some z0_0))
def m_laws_toTurnS (x0 : (List (Nat × Nat × Nat × Nat))) : (List (Nat × Nat × Nat × Nat)) := (Option.getD (l_laws_toTurnS_0 x0 (Int.toNat (((List.length x0 : Nat) : Int) - 0) + 2)
      (List.replicate (Int.toNat ((List.length x0 : Nat) : Int)) (0, 0, 0, 0)) 0) default)
def p_laws_toTurnS (x0 : (List (Nat × Nat × Nat × Nat))) : Bool := ((decide (0 ≤ ((List.length x0 : Nat) : Int))) && ((decide (((List.length x0 : Nat) : Int) * 16 ≤ 70368744177664))
      && ((decide (((List.length x0 : Nat) : Int) ≤ 70368744177664)) && (Option.isSome (l_laws_toTurnS_0 x0 (Int.toNat (((List.length x0 : Nat) : Int) - 0) + 2) (List.replicate
      (Int.toNat ((List.length x0 : Nat) : Int)) (0, 0, 0, 0)) 0)))))
def g_laws_toTurnS : List AV → Option AV
  | [.sl w0] => (match decL dc_en0 w0 with | some y0 => (if p_laws_toTurnS y0 = true then some (.sl (List.map en0 (m_laws_toTurnS y0))) else none) | none => none)
  | _ => none
def lb55_0 : ICode := (.seq (.seq (.reg [⟨(some 8), none, (.mov (.t 4))⟩, ⟨(some 9), none, (.mov (.t 0))⟩, ⟨(some 10), none, (.len false (.t 9))⟩, ⟨(some 11), none, (.bin .lss false
      (.t 8) (.t 10))⟩] [0, 3, 4, 11]) (.cond (.t 11) .skip (.exit 0))) (.seq (.block 1 (.reg [⟨(some 14), none, (.mov (.t 3))⟩, ⟨(some 15), none, (.mov (.t 4))⟩, ⟨(some 16), none,
      (.mov (.t 0))⟩, ⟨(some 17), none, (.mov (.t 4))⟩, ⟨(some 18), none, (.iaddrS 4 (.t 16) (.t 17))⟩, ⟨(some 19), none, (.load (some 4) (.t 18))⟩, ⟨(some 20), none, (.call (.fn
      79) [(.t 19)] [])⟩, ⟨(some 21), none, (.iaddrS 4 (.t 14) (.t 15))⟩, ⟨none, none, (.store 4 (.t 21) (.t 20))⟩] [0, 3, 4])) (.reg [⟨(some 12), none, (.mov (.t 4))⟩, ⟨(some 13),
      none, (.bin .add false (.t 12) (.c (.int .i64 1)))⟩, ⟨(some 4), none, (.mov (.t 13))⟩] [0, 3, 4])))
def ic55 : ICode := (.seq (.reg [⟨(some 2), none, (.mov (.c .snil))⟩] [0]) (.seq (.reg [⟨(some 5), none, (.mov (.t 0))⟩, ⟨(some 6), none, (.len false (.t 5))⟩, ⟨(some 7), none,
      (.mkslice 4 16 (.agg [(.flt .f32 0), (.flt .f32 0), (.flt .f32 0), (.flt .f32 0)]) (.t 6) (.t 6))⟩, ⟨(some 3), none, (.mov (.t 7))⟩] [0, 3]) (.seq (.seq (.reg [⟨(some 4),
      none, (.mov (.c (.int .i64 0)))⟩] [0, 3, 4]) (.block 0 (.loop lb55_0))) (.seq (.reg [⟨(some 22), none, (.mov (.t 3))⟩, ⟨(some 2), none, (.mov (.t 22))⟩] [2]) .ret))))
def cp55 : CP := CP.mk [] [] [[0], [0, 3], [0, 3, 4], [0, 3, 4, 11], [0, 3, 4], [0, 3, 4], [2]] 23
theorem fc55_0 : IntKind.wrap .i64 1 = 1 := by decide
theorem fc55_1 : IntKind.wrap .i64 2 = 2 := by decide
theorem fc55_2 : IntKind.wrap .i64 3 = 3 := by decide
theorem sl55_0 (x0 : (List (Nat × Nat × Nat × Nat))) : ∀ (n : Nat) (z0_0 : (List (Nat × Nat × Nat × Nat))) (z0_1 : Int) (o : (List (Nat × Nat × Nat × Nat))) (K : IExit → St → Prop),
      l_laws_toTurnS_0 x0 n z0_0 z0_1 = some o → (∀ st, Wk st (⟨[(3, (.lsl 7 0 (List.length o)))], [(7, (some ⟨4, true, (List.map en0 o)⟩))]⟩ : St) → K (.exit 0) st) → eA (tabOf
      [(79, wM .any g_laws_toTurn)]) (.loop lb55_0) (⟨[(0, (.sl (List.map en0 x0))), (3, (.lsl 7 0 (List.length z0_0))), (4, (.int .i64 z0_1))], [(7, (some ⟨4, true, (List.map en0
      z0_0)⟩))]⟩ : St) K := by
  intro n
  induction n with
  | zero =>
    intro z0_0 z0_1 o K h h0
    simp only [l_laws_toTurnS_0, reduceCtorEq] at h
  | succ n ih =>
    intro z0_0 z0_1 o K h h0
    refine eA_loop ?_
    unfold lb55_0
    unfold l_laws_toTurnS_0 at h
    (try simp only [need_iff] at h)
    simp only [
      need_iff, h, grpS, grpD, grpF, grpL, eop, vop, bop, uop, fltop, convop, endOk, newE, new1, freshL, Md.isNew, outV, pureV, pureX, pure1, AV.cells, AV.one, storable, laid,
            refless, refless1, vload, loadC, storeC, vnil, vfaddr, vextract, flatT, flatE, flatC, vconv, vmm, vidxA, viaddrA, vfield, vlen, elemsOf, dF32, dF64, dI64, dU8, dBool,
            dStr, esOk, elemsS, vsliceX, bnd, ownV, ownC, own1, ownT, isSl, nSl, endL, Md.isOwn, purge, purgeH, purgeB, purgeE, hasName, name1, List.any_cons, List.any_nil, Md.isWr,
            pureV.pureP, Option.map, reduceIte, Nat.reduceEqDiff, Nat.reduceAdd, Nat.reduceMul, Nat.reduceLT, Nat.reduceLeDiff, List.mapM_cons, List.mapM_nil, Option.pure_def,
            Option.bind_eq_bind, Option.bind_some, implies_true, forall_const, beq_self_eq_true, decide_true, decide_false, eq_self, Int.reduceEq, Int.reduceLE, Int.reduceLT,
            if_true, if_false, fc55_0, fc55_1, fc55_2, Int.reduceAdd, Int.reduceSub, Int.reduceMul, Int.reduceNeg, Int.reducePow, Nat.reducePow, Int.reduceToNat, Nat.reduceSub,
            List.replicate, Nat.reduceBEq, wAs, wA, wC, zipW, noDupN, grpE, g_laws_toTurn, grpC, en0, dc_en0]
    repeat' (first
      | ((first | (refine eGI_of (fun hc => ?_) (fun hc => ?_)) | (refine eCc_of (fun hc => ?_) (fun hc => ?_)) | (have hc := True.intro; refine KW_refl ?_)) <;> (try simp only [Bool.not_eq_true', Bool.not_eq_false'] at hc) <;> (try simp only [hc, need_iff, reduceCtorEq, Bool.not_eq_true', decide_eq_false_iff_not, Bool.not_true, Bool.not_false, Bool.false_or, Bool.true_or, Bool.true_and, Bool.false_and, Bool.and_eq_true, Bool.or_eq_true, if_true, if_false, reduceIte, Bool.false_eq_true, and_true, true_and, false_or, or_false, decide_eq_true_eq, not_false_eq_true, not_true_eq_false] at h) <;> (try (have hc2 := hc; simp only [decide_eq_true_eq, decide_eq_false_iff_not] at hc2; simp only [hc2, if_true, if_false, reduceCtorEq, Bool.not_eq_true', decide_eq_false_iff_not, Bool.not_true, Bool.not_false, Bool.false_or, Bool.true_or, Bool.true_and, Bool.false_and, Bool.and_eq_true, Bool.or_eq_true, if_true, if_false, reduceIte, Bool.false_eq_true, and_true, true_and, false_or, or_false, decide_eq_true_eq, not_false_eq_true, not_true_eq_false] at h)) <;> simp only [hc,
      need_iff, h, grpS, grpD, grpF, grpL, eop, vop, bop, uop, fltop, convop, endOk, newE, new1, freshL, Md.isNew, outV, pureV, pureX, pure1, AV.cells, AV.one, storable, laid,
            refless, refless1, vload, loadC, storeC, vnil, vfaddr, vextract, flatT, flatE, flatC, vconv, vmm, vidxA, viaddrA, vfield, vlen, elemsOf, dF32, dF64, dI64, dU8, dBool,
            dStr, esOk, elemsS, vsliceX, bnd, ownV, ownC, own1, ownT, isSl, nSl, endL, Md.isOwn, purge, purgeH, purgeB, purgeE, hasName, name1, List.any_cons, List.any_nil, Md.isWr,
            pureV.pureP, Option.map, reduceIte, Nat.reduceEqDiff, Nat.reduceAdd, Nat.reduceMul, Nat.reduceLT, Nat.reduceLeDiff, List.mapM_cons, List.mapM_nil, Option.pure_def,
            Option.bind_eq_bind, Option.bind_some, implies_true, forall_const, beq_self_eq_true, decide_true, decide_false, eq_self, Int.reduceEq, Int.reduceLE, Int.reduceLT,
            if_true, if_false, fc55_0, fc55_1, fc55_2, Int.reduceAdd, Int.reduceSub, Int.reduceMul, Int.reduceNeg, Int.reducePow, Nat.reducePow, Int.reduceToNat, Nat.reduceSub,
            List.replicate, Nat.reduceBEq, wAs, wA, wC, zipW, noDupN, grpE, g_laws_toTurn, grpC, en0, dc_en0]))
    all_goals (repeat (replace h := And.right h))
    all_goals first
      | (refine eA_wk (wk_norm (ks := [0, 3, 4]) (ls := [7]) ?_) (eA_cast ?_ (ih _ _ _ _ h h0)); (simp only [normOk, optIn, blkIn, nameIn,
      need_iff, h, grpS, grpD, grpF, grpL, eop, vop, bop, uop, fltop, convop, endOk, newE, new1, freshL, Md.isNew, outV, pureV, pureX, pure1, AV.cells, AV.one, storable, laid,
            refless, refless1, vload, loadC, storeC, vnil, vfaddr, vextract, flatT, flatE, flatC, vconv, vmm, vidxA, viaddrA, vfield, vlen, elemsOf, dF32, dF64, dI64, dU8, dBool,
            dStr, esOk, elemsS, vsliceX, bnd, ownV, ownC, own1, ownT, isSl, nSl, endL, Md.isOwn, purge, purgeH, purgeB, purgeE, hasName, name1, List.any_cons, List.any_nil, Md.isWr,
            pureV.pureP, Option.map, reduceIte, Nat.reduceEqDiff, Nat.reduceAdd, Nat.reduceMul, Nat.reduceLT, Nat.reduceLeDiff, List.mapM_cons, List.mapM_nil, Option.pure_def,
            Option.bind_eq_bind, Option.bind_some, implies_true, forall_const, beq_self_eq_true, decide_true, decide_false, eq_self, Int.reduceEq, Int.reduceLE, Int.reduceLT,
            if_true, if_false, fc55_0, fc55_1, fc55_2, Int.reduceAdd, Int.reduceSub, Int.reduceMul, Int.reduceNeg, Int.reducePow, Nat.reducePow, Int.reduceToNat, Nat.reduceSub,
            List.replicate, Nat.reduceBEq, wAs, wA, wC, zipW, noDupN, grpE, g_laws_toTurn, grpC, en0, dc_en0] <;> rfl); (simp only [normS, List.map_append, List.length_append, List.map_set, List.length_set, List.map_replicate, List.length_replicate, List.map_nil, List.map_cons,
      need_iff, h, grpS, grpD, grpF, grpL, eop, vop, bop, uop, fltop, convop, endOk, newE, new1, freshL, Md.isNew, outV, pureV, pureX, pure1, AV.cells, AV.one, storable, laid,
            refless, refless1, vload, loadC, storeC, vnil, vfaddr, vextract, flatT, flatE, flatC, vconv, vmm, vidxA, viaddrA, vfield, vlen, elemsOf, dF32, dF64, dI64, dU8, dBool,
            dStr, esOk, elemsS, vsliceX, bnd, ownV, ownC, own1, ownT, isSl, nSl, endL, Md.isOwn, purge, purgeH, purgeB, purgeE, hasName, name1, List.any_cons, List.any_nil, Md.isWr,
            pureV.pureP, Option.map, reduceIte, Nat.reduceEqDiff, Nat.reduceAdd, Nat.reduceMul, Nat.reduceLT, Nat.reduceLeDiff, List.mapM_cons, List.mapM_nil, Option.pure_def,
            Option.bind_eq_bind, Option.bind_some, implies_true, forall_const, beq_self_eq_true, decide_true, decide_false, eq_self, Int.reduceEq, Int.reduceLE, Int.reduceLT,
            if_true, if_false, fc55_0, fc55_1, fc55_2, Int.reduceAdd, Int.reduceSub, Int.reduceMul, Int.reduceNeg, Int.reducePow, Nat.reducePow, Int.reduceToNat, Nat.reduceSub,
            List.replicate, Nat.reduceBEq, wAs, wA, wC, zipW, noDupN, grpE, g_laws_toTurn, grpC, en0, dc_en0] <;> rfl))
      | (cases h; refine h0 _ (Wk.cast (wk_norm (ks := [3]) (ls := [7]) ?_) ?_); (simp only [normOk, optIn, blkIn, nameIn,
      grpS, grpD, grpF, grpL, eop, vop, bop, uop, fltop, convop, endOk, newE, new1, freshL, Md.isNew, outV, pureV, pureX, pure1, AV.cells, AV.one, storable, laid, refless, refless1,
            vload, loadC, storeC, vnil, vfaddr, vextract, flatT, flatE, flatC, vconv, vmm, vidxA, viaddrA, vfield, vlen, elemsOf, dF32, dF64, dI64, dU8, dBool, dStr, esOk, elemsS,
            vsliceX, bnd, ownV, ownC, own1, ownT, isSl, nSl, endL, Md.isOwn, purge, purgeH, purgeB, purgeE, hasName, name1, List.any_cons, List.any_nil, Md.isWr, pureV.pureP,
            Option.map, reduceIte, Nat.reduceEqDiff, Nat.reduceAdd, Nat.reduceMul, Nat.reduceLT, Nat.reduceLeDiff, List.mapM_cons, List.mapM_nil, Option.pure_def,
            Option.bind_eq_bind, Option.bind_some, implies_true, forall_const, beq_self_eq_true, decide_true, decide_false, eq_self, Int.reduceEq, Int.reduceLE, Int.reduceLT,
            if_true, if_false, fc55_0, fc55_1, fc55_2, Int.reduceAdd, Int.reduceSub, Int.reduceMul, Int.reduceNeg, Int.reducePow, Nat.reducePow, Int.reduceToNat, Nat.reduceSub,
            List.replicate, Nat.reduceBEq, wAs, wA, wC, zipW, noDupN, grpE, g_laws_toTurn, grpC, en0, dc_en0] <;> rfl); (simp only [normS, List.map_append, List.length_append, List.map_set, List.length_set, List.map_replicate, List.length_replicate,
      grpS, grpD, grpF, grpL, eop, vop, bop, uop, fltop, convop, endOk, newE, new1, freshL, Md.isNew, outV, pureV, pureX, pure1, AV.cells, AV.one, storable, laid, refless, refless1,
            vload, loadC, storeC, vnil, vfaddr, vextract, flatT, flatE, flatC, vconv, vmm, vidxA, viaddrA, vfield, vlen, elemsOf, dF32, dF64, dI64, dU8, dBool, dStr, esOk, elemsS,
            vsliceX, bnd, ownV, ownC, own1, ownT, isSl, nSl, endL, Md.isOwn, purge, purgeH, purgeB, purgeE, hasName, name1, List.any_cons, List.any_nil, Md.isWr, pureV.pureP,
            Option.map, reduceIte, Nat.reduceEqDiff, Nat.reduceAdd, Nat.reduceMul, Nat.reduceLT, Nat.reduceLeDiff, List.mapM_cons, List.mapM_nil, Option.pure_def,
            Option.bind_eq_bind, Option.bind_some, implies_true, forall_const, beq_self_eq_true, decide_true, decide_false, eq_self, Int.reduceEq, Int.reduceLE, Int.reduceLT,
            if_true, if_false, fc55_0, fc55_1, fc55_2, Int.reduceAdd, Int.reduceSub, Int.reduceMul, Int.reduceNeg, Int.reducePow, Nat.reducePow, Int.reduceToNat, Nat.reduceSub,
            List.replicate, Nat.reduceBEq, wAs, wA, wC, zipW, noDupN, grpE, g_laws_toTurn, grpC, en0, dc_en0] <;> rfl))
theorem s55 : ∀ vs r, g_laws_toTurnS vs = some r → SaysM Try.prog (.own [4]) 55 vs r := by
  intro vs r h
  unfold g_laws_toTurnS at h
  split at h
  · rename_i w0
    cases hd_y0 : decL dc_en0 w0 with
    | none => rw [hd_y0] at h; cases h
    | some y0 =>
    rw [hd_y0] at h
    obtain rfl := decL_inv dc_en0_inv hd_y0
    clear hd_y0
    dsimp only at h
    split at h
    · rename_i hp
      cases h
      refine spec_of (m := (.own [4])) (tab := tabOf [(79, wM .any g_laws_toTurn)]) (cp := cp55) (ic := ic55) (rvl := [(.t 2)]) hm (tabOk_cons (m := .any) s79 tabOk_nil) Try.func55 rfl rfl rfl (by kernel_rfl) rfl (Nat.le_of_ble_eq_true rfl) (Nat.le_of_ble_eq_true rfl) ?_
      show eA _ _ _ _
      unfold ic55
      simp only [p_laws_toTurnS, Bool.and_eq_true, Bool.or_eq_true, decide_eq_true_eq, Bool.not_eq_true', decide_eq_false_iff_not] at hp
      simp only [
          hp, grpS, grpD, grpF, grpL, eop, vop, bop, uop, fltop, convop, endOk, newE, new1, freshL, Md.isNew, outV, pureV, pureX, pure1, AV.cells, AV.one, storable, laid, refless,
                refless1, vload, loadC, storeC, vnil, vfaddr, vextract, flatT, flatE, flatC, vconv, vmm, vidxA, viaddrA, vfield, vlen, elemsOf, dF32, dF64, dI64, dU8, dBool, dStr,
                esOk, elemsS, vsliceX, bnd, ownV, ownC, own1, ownT, isSl, nSl, endL, Md.isOwn, purge, purgeH, purgeB, purgeE, hasName, name1, List.any_cons, List.any_nil, Md.isWr,
                pureV.pureP, Option.map, reduceIte, Nat.reduceEqDiff, Nat.reduceAdd, Nat.reduceMul, Nat.reduceLT, Nat.reduceLeDiff, List.mapM_cons, List.mapM_nil, Option.pure_def,
                Option.bind_eq_bind, Option.bind_some, implies_true, forall_const, beq_self_eq_true, decide_true, decide_false, eq_self, Int.reduceEq, Int.reduceLE, Int.reduceLT,
                if_true, if_false, fc55_0, fc55_1, fc55_2, Int.reduceAdd, Int.reduceSub, Int.reduceMul, Int.reduceNeg, Int.reducePow, Nat.reducePow, Int.reduceToNat, Nat.reduceSub,
                List.replicate, Nat.reduceBEq, wAs, wA, wC, zipW, noDupN, grpE, g_laws_toTurn, grpC, en0, dc_en0]
      repeat' (first
        | ((first | (refine eGI_of (fun h => ?_) (fun h => ?_)) | (refine eCc_of (fun h => ?_) (fun h => ?_)) | (have h := True.intro; refine KW_refl ?_)) <;> (try simp only [Bool.not_eq_true', Bool.not_eq_false'] at h) <;> (try simp only [h, reduceCtorEq, Bool.not_eq_true', decide_eq_false_iff_not, Bool.not_true, Bool.not_false, Bool.false_or, Bool.true_or, Bool.true_and, Bool.false_and, Bool.and_eq_true, Bool.or_eq_true, if_true, if_false, reduceIte, Bool.false_eq_true, and_true, true_and, false_or, or_false, decide_eq_true_eq, not_false_eq_true, not_true_eq_false] at hp) <;> (try (have h2 := h; simp only [decide_eq_true_eq, decide_eq_false_iff_not] at h2; (first | (replace h2 := eq_false h2) | (replace h2 := eq_true h2)); simp only [h2, if_true, if_false, false_or, true_or, or_true, or_false, and_true, true_and, not_false_eq_true, not_true_eq_false] at hp)) <;> simp only [h,
          hp, grpS, grpD, grpF, grpL, eop, vop, bop, uop, fltop, convop, endOk, newE, new1, freshL, Md.isNew, outV, pureV, pureX, pure1, AV.cells, AV.one, storable, laid, refless,
                refless1, vload, loadC, storeC, vnil, vfaddr, vextract, flatT, flatE, flatC, vconv, vmm, vidxA, viaddrA, vfield, vlen, elemsOf, dF32, dF64, dI64, dU8, dBool, dStr,
                esOk, elemsS, vsliceX, bnd, ownV, ownC, own1, ownT, isSl, nSl, endL, Md.isOwn, purge, purgeH, purgeB, purgeE, hasName, name1, List.any_cons, List.any_nil, Md.isWr,
                pureV.pureP, Option.map, reduceIte, Nat.reduceEqDiff, Nat.reduceAdd, Nat.reduceMul, Nat.reduceLT, Nat.reduceLeDiff, List.mapM_cons, List.mapM_nil, Option.pure_def,
                Option.bind_eq_bind, Option.bind_some, implies_true, forall_const, beq_self_eq_true, decide_true, decide_false, eq_self, Int.reduceEq, Int.reduceLE, Int.reduceLT,
                if_true, if_false, fc55_0, fc55_1, fc55_2, Int.reduceAdd, Int.reduceSub, Int.reduceMul, Int.reduceNeg, Int.reducePow, Nat.reducePow, Int.reduceToNat, Nat.reduceSub,
                List.replicate, Nat.reduceBEq, wAs, wA, wC, zipW, noDupN, grpE, g_laws_toTurn, grpC, en0, dc_en0])
        | (refine eA_wk (wk_norm (ks := [0, 3, 4]) (ls := [7]) ?_) (eA_cast ?_ (sl55_0 y0 _ _ _ _ _ (getD_some (d := default) (x := (l_laws_toTurnS_0 y0 (Int.toNat (((List.length y0 : Nat) : Int) - 0) + 2) (List.replicate (Int.toNat ((List.length y0 : Nat) : Int)) (0, 0, 0, 0)) 0)) ?_) ?_)); (simp only [nilS, nilV, normOk, optIn, blkIn, nameIn, 
          hp, grpS, grpD, grpF, grpL, eop, vop, bop, uop, fltop, convop, endOk, newE, new1, freshL, Md.isNew, outV, pureV, pureX, pure1, AV.cells, AV.one, storable, laid, refless,
                refless1, vload, loadC, storeC, vnil, vfaddr, vextract, flatT, flatE, flatC, vconv, vmm, vidxA, viaddrA, vfield, vlen, elemsOf, dF32, dF64, dI64, dU8, dBool, dStr,
                esOk, elemsS, vsliceX, bnd, ownV, ownC, own1, ownT, isSl, nSl, endL, Md.isOwn, purge, purgeH, purgeB, purgeE, hasName, name1, List.any_cons, List.any_nil, Md.isWr,
                pureV.pureP, Option.map, reduceIte, Nat.reduceEqDiff, Nat.reduceAdd, Nat.reduceMul, Nat.reduceLT, Nat.reduceLeDiff, List.mapM_cons, List.mapM_nil, Option.pure_def,
                Option.bind_eq_bind, Option.bind_some, implies_true, forall_const, beq_self_eq_true, decide_true, decide_false, eq_self, Int.reduceEq, Int.reduceLE, Int.reduceLT,
                if_true, if_false, fc55_0, fc55_1, fc55_2, Int.reduceAdd, Int.reduceSub, Int.reduceMul, Int.reduceNeg, Int.reducePow, Nat.reducePow, Int.reduceToNat, Nat.reduceSub,
                List.replicate, Nat.reduceBEq, wAs, wA, wC, zipW, noDupN, grpE, g_laws_toTurn, grpC, en0, dc_en0] <;> rfl); (simp only [nilS, nilV, normS,  List.map_append, List.length_append, List.map_set, List.length_set, List.map_replicate, List.length_replicate, List.map_nil, List.map_cons,
          hp, grpS, grpD, grpF, grpL, eop, vop, bop, uop, fltop, convop, endOk, newE, new1, freshL, Md.isNew, outV, pureV, pureX, pure1, AV.cells, AV.one, storable, laid, refless,
                refless1, vload, loadC, storeC, vnil, vfaddr, vextract, flatT, flatE, flatC, vconv, vmm, vidxA, viaddrA, vfield, vlen, elemsOf, dF32, dF64, dI64, dU8, dBool, dStr,
                esOk, elemsS, vsliceX, bnd, ownV, ownC, own1, ownT, isSl, nSl, endL, Md.isOwn, purge, purgeH, purgeB, purgeE, hasName, name1, List.any_cons, List.any_nil, Md.isWr,
                pureV.pureP, Option.map, reduceIte, Nat.reduceEqDiff, Nat.reduceAdd, Nat.reduceMul, Nat.reduceLT, Nat.reduceLeDiff, List.mapM_cons, List.mapM_nil, Option.pure_def,
                Option.bind_eq_bind, Option.bind_some, implies_true, forall_const, beq_self_eq_true, decide_true, decide_false, eq_self, Int.reduceEq, Int.reduceLE, Int.reduceLT,
                if_true, if_false, fc55_0, fc55_1, fc55_2, Int.reduceAdd, Int.reduceSub, Int.reduceMul, Int.reduceNeg, Int.reducePow, Nat.reducePow, Int.reduceToNat, Nat.reduceSub,
                List.replicate, Nat.reduceBEq, wAs, wA, wC, zipW, noDupN, grpE, g_laws_toTurn, grpC, en0, dc_en0] <;> rfl); (simp only [hp]); (
        intro st2 hw; (try simp only [reduceCtorEq, Bool.not_eq_true', decide_eq_false_iff_not, Bool.not_true, Bool.not_false, Bool.false_or, Bool.true_or, Bool.true_and, Bool.false_and, Bool.and_eq_true, Bool.or_eq_true, if_true, if_false, reduceIte, Bool.false_eq_true, and_true, true_and, false_or, or_false, decide_eq_true_eq, not_false_eq_true, not_true_eq_false] at hp); simp only [
          hp, grpS, grpD, grpF, grpL, eop, vop, bop, uop, fltop, convop, endOk, newE, new1, freshL, Md.isNew, outV, pureV, pureX, pure1, AV.cells, AV.one, storable, laid, refless,
                refless1, vload, loadC, storeC, vnil, vfaddr, vextract, flatT, flatE, flatC, vconv, vmm, vidxA, viaddrA, vfield, vlen, elemsOf, dF32, dF64, dI64, dU8, dBool, dStr,
                esOk, elemsS, vsliceX, bnd, ownV, ownC, own1, ownT, isSl, nSl, endL, Md.isOwn, purge, purgeH, purgeB, purgeE, hasName, name1, List.any_cons, List.any_nil, Md.isWr,
                pureV.pureP, Option.map, reduceIte, Nat.reduceEqDiff, Nat.reduceAdd, Nat.reduceMul, Nat.reduceLT, Nat.reduceLeDiff, List.mapM_cons, List.mapM_nil, Option.pure_def,
                Option.bind_eq_bind, Option.bind_some, implies_true, forall_const, beq_self_eq_true, decide_true, decide_false, eq_self, Int.reduceEq, Int.reduceLE, Int.reduceLT,
                if_true, if_false, fc55_0, fc55_1, fc55_2, Int.reduceAdd, Int.reduceSub, Int.reduceMul, Int.reduceNeg, Int.reducePow, Nat.reducePow, Int.reduceToNat, Nat.reduceSub,
                List.replicate, Nat.reduceBEq, wAs, wA, wC, zipW, noDupN, grpE, g_laws_toTurn, grpC, en0, dc_en0]; refine KW_of hw ?_; simp only [
          hp, grpS, grpD, grpF, grpL, eop, vop, bop, uop, fltop, convop, endOk, newE, new1, freshL, Md.isNew, outV, pureV, pureX, pure1, AV.cells, AV.one, storable, laid, refless,
                refless1, vload, loadC, storeC, vnil, vfaddr, vextract, flatT, flatE, flatC, vconv, vmm, vidxA, viaddrA, vfield, vlen, elemsOf, dF32, dF64, dI64, dU8, dBool, dStr,
                esOk, elemsS, vsliceX, bnd, ownV, ownC, own1, ownT, isSl, nSl, endL, Md.isOwn, purge, purgeH, purgeB, purgeE, hasName, name1, List.any_cons, List.any_nil, Md.isWr,
                pureV.pureP, Option.map, reduceIte, Nat.reduceEqDiff, Nat.reduceAdd, Nat.reduceMul, Nat.reduceLT, Nat.reduceLeDiff, List.mapM_cons, List.mapM_nil, Option.pure_def,
                Option.bind_eq_bind, Option.bind_some, implies_true, forall_const, beq_self_eq_true, decide_true, decide_false, eq_self, Int.reduceEq, Int.reduceLE, Int.reduceLT,
                if_true, if_false, fc55_0, fc55_1, fc55_2, Int.reduceAdd, Int.reduceSub, Int.reduceMul, Int.reduceNeg, Int.reducePow, Nat.reducePow, Int.reduceToNat, Nat.reduceSub,
                List.replicate, Nat.reduceBEq, wAs, wA, wC, zipW, noDupN, grpE, g_laws_toTurn, grpC, en0, dc_en0])))
      all_goals (try simp only [*, m_laws_toTurnS, Bool.and_true, Bool.true_and, Bool.and_false, Bool.false_and, Bool.or_true, Bool.true_or, Bool.or_false, Bool.false_or, Bool.not_true, Bool.not_false, Bool.false_eq_true, if_true, if_false, reduceIte, decide_true, decide_false])
      all_goals (try (simp_all; done))
    · cases h
  · cases h
def m_laws_toPose (x0 : (Nat × Nat × Nat × (List (Nat × Nat × Nat × Nat)))) : (Nat × Nat × Nat × (List (Nat × Nat × Nat × Nat))) := ((m_laws_toVector (x0.1, x0.2.1, x0.2.2.1)).1,
      (m_laws_toVector (x0.1, x0.2.1, x0.2.2.1)).2.1, (m_laws_toVector (x0.1, x0.2.1, x0.2.2.1)).2.2, (m_laws_toTurnS x0.2.2.2))
def p_laws_toPose (x0 : (Nat × Nat × Nat × (List (Nat × Nat × Nat × Nat)))) : Bool := (p_laws_toTurnS x0.2.2.2)
def g_laws_toPose : List AV → Option AV
  | [.agg [.flt .f32 y0, .flt .f32 y1, .flt .f32 y2, .sl w3]] => (match decL dc_en0 w3 with | some y3 => (if p_laws_toPose (y0, y1, y2, y3) = true then some (AV.agg [(.flt .f32 (m_laws_toPose (y0, y1, y2, y3)).1), (.flt .f32 (m_laws_toPose (y0, y1, y2, y3)).2.1), (.flt .f32 (m_laws_toPose (y0, y1, y2, y3)).2.2.1), (.sl (List.map en0 (m_laws_toPose (y0, y1, y2, y3)).2.2.2))]) else none) | none => none)
  | _ => none
def ic24 : ICode := (.seq (.reg [⟨(some 1), none, (.box 4 (.t 0))⟩, ⟨(some 2), none, (.alloc (.agg [(.flt .f32 0), (.flt .f32 0), (.flt .f32 0), .snil]))⟩] [1, 2]) (.seq (.reg
      [⟨(some 3), none, (.alloc (.agg [(.flt .f32 0), (.flt .f32 0), (.flt .f32 0), .snil]))⟩] [1, 2, 3]) (.seq (.reg [⟨(some 4), none, (.faddr 0 (.t 1))⟩, ⟨(some 5), none, (.load
      (some 3) (.t 4))⟩, ⟨(some 6), none, (.call (.fn 45) [(.t 5)] [])⟩, ⟨(some 7), none, (.faddr 0 (.t 3))⟩, ⟨none, none, (.store 3 (.t 7) (.t 6))⟩] [1, 2, 3]) (.seq (.reg [⟨(some
      8), none, (.faddr 3 (.t 1))⟩, ⟨(some 9), none, (.load none (.t 8))⟩, ⟨(some 10), none, (.call (.fn 55) [(.t 9)] [4])⟩, ⟨(some 11), none, (.faddr 3 (.t 3))⟩, ⟨none, none,
      (.store 1 (.t 11) (.t 10))⟩] [2, 3]) (.seq (.reg [⟨(some 12), none, (.load (some 4) (.t 3))⟩, ⟨none, none, (.store 4 (.t 2) (.t 12))⟩] [2]) .ret)))))
def cp24 : CP := CP.mk [(10, [4])] [] [[1, 2], [1, 2, 3], [1, 2, 3], [2, 3], [2]] 13
theorem fc24_0 : IntKind.wrap .i64 1 = 1 := by decide
theorem fc24_1 : IntKind.wrap .i64 2 = 2 := by decide
theorem fc24_2 : IntKind.wrap .i64 3 = 3 := by decide
theorem s24 : ∀ vs r, g_laws_toPose vs = some r → SaysM Try.prog (.own [4]) 24 vs r := by
  intro vs r h
  unfold g_laws_toPose at h
  split at h
  · rename_i y0 y1 y2 w3
    cases hd_y3 : decL dc_en0 w3 with
    | none => rw [hd_y3] at h; cases h
    | some y3 =>
    rw [hd_y3] at h
    obtain rfl := decL_inv dc_en0_inv hd_y3
    clear hd_y3
    dsimp only at h
    split at h
    · rename_i hp
      cases h
      refine spec_of (m := (.own [4])) (tab := tabOf [(45, wM .any g_laws_toVector), (55, wM (.own [4]) g_laws_toTurnS)]) (cp := cp24) (ic := ic24) (rvl := [(.c 2 (some 4))]) hm (tabOk_cons (m := .any) s45 (tabOk_cons (m := (.own [4])) s55 tabOk_nil)) Try.func24 rfl rfl rfl (by kernel_rfl) rfl (Nat.le_of_ble_eq_true rfl) (Nat.le_of_ble_eq_true rfl) ?_
      show eA _ _ _ _
      unfold ic24
      simp only [p_laws_toPose, Bool.and_eq_true, Bool.or_eq_true, decide_eq_true_eq, Bool.not_eq_true', decide_eq_false_iff_not] at hp
      simp only [
          hp, grpS, grpD, grpF, grpL, eop, vop, bop, uop, fltop, convop, endOk, newE, new1, freshL, Md.isNew, outV, pureV, pureX, pure1, AV.cells, AV.one, storable, laid, refless,
                refless1, vload, loadC, storeC, vnil, vfaddr, vextract, flatT, flatE, flatC, vconv, vmm, vidxA, viaddrA, vfield, vlen, elemsOf, dF32, dF64, dI64, dU8, dBool, dStr,
                esOk, elemsS, vsliceX, bnd, ownV, ownC, own1, ownT, isSl, nSl, endL, Md.isOwn, purge, purgeH, purgeB, purgeE, hasName, name1, List.any_cons, List.any_nil, Md.isWr,
                pureV.pureP, Option.map, reduceIte, Nat.reduceEqDiff, Nat.reduceAdd, Nat.reduceMul, Nat.reduceLT, Nat.reduceLeDiff, List.mapM_cons, List.mapM_nil, Option.pure_def,
                Option.bind_eq_bind, Option.bind_some, implies_true, forall_const, beq_self_eq_true, decide_true, decide_false, eq_self, Int.reduceEq, Int.reduceLE, Int.reduceLT,
                if_true, if_false, fc24_0, fc24_1, fc24_2, Int.reduceAdd, Int.reduceSub, Int.reduceMul, Int.reduceNeg, Int.reducePow, Nat.reducePow, Int.reduceToNat, Nat.reduceSub,
                List.replicate, Nat.reduceBEq, wAs, wA, wC, zipW, noDupN, grpE, g_laws_toVector, g_laws_toTurnS, grpC, en0, dc_en0]
      repeat' (first
        | ((first | (refine eGI_of (fun h => ?_) (fun h => ?_)) | (refine eCc_of (fun h => ?_) (fun h => ?_))) <;> (try simp only [Bool.not_eq_true', Bool.not_eq_false'] at h) <;> (try simp only [h, reduceCtorEq, Bool.not_eq_true', decide_eq_false_iff_not, Bool.not_true, Bool.not_false, Bool.false_or, Bool.true_or, Bool.true_and, Bool.false_and, Bool.and_eq_true, Bool.or_eq_true, if_true, if_false, reduceIte, Bool.false_eq_true, and_true, true_and, false_or, or_false, decide_eq_true_eq, not_false_eq_true, not_true_eq_false] at hp) <;> (try (have h2 := h; simp only [decide_eq_true_eq, decide_eq_false_iff_not] at h2; (first | (replace h2 := eq_false h2) | (replace h2 := eq_true h2)); simp only [h2, if_true, if_false, false_or, true_or, or_true, or_false, and_true, true_and, not_false_eq_true, not_true_eq_false] at hp)) <;> simp only [h,
          hp, grpS, grpD, grpF, grpL, eop, vop, bop, uop, fltop, convop, endOk, newE, new1, freshL, Md.isNew, outV, pureV, pureX, pure1, AV.cells, AV.one, storable, laid, refless,
                refless1, vload, loadC, storeC, vnil, vfaddr, vextract, flatT, flatE, flatC, vconv, vmm, vidxA, viaddrA, vfield, vlen, elemsOf, dF32, dF64, dI64, dU8, dBool, dStr,
                esOk, elemsS, vsliceX, bnd, ownV, ownC, own1, ownT, isSl, nSl, endL, Md.isOwn, purge, purgeH, purgeB, purgeE, hasName, name1, List.any_cons, List.any_nil, Md.isWr,
                pureV.pureP, Option.map, reduceIte, Nat.reduceEqDiff, Nat.reduceAdd, Nat.reduceMul, Nat.reduceLT, Nat.reduceLeDiff, List.mapM_cons, List.mapM_nil, Option.pure_def,
                Option.bind_eq_bind, Option.bind_some, implies_true, forall_const, beq_self_eq_true, decide_true, decide_false, eq_self, Int.reduceEq, Int.reduceLE, Int.reduceLT,
                if_true, if_false, fc24_0, fc24_1, fc24_2, Int.reduceAdd, Int.reduceSub, Int.reduceMul, Int.reduceNeg, Int.reducePow, Nat.reducePow, Int.reduceToNat, Nat.reduceSub,
                List.replicate, Nat.reduceBEq, wAs, wA, wC, zipW, noDupN, grpE, g_laws_toVector, g_laws_toTurnS, grpC, en0, dc_en0]))
      all_goals (try simp only [*, m_laws_toPose, Bool.and_true, Bool.true_and, Bool.and_false, Bool.false_and, Bool.or_true, Bool.true_or, Bool.or_false, Bool.false_or, Bool.not_true, Bool.not_false, Bool.false_eq_true, if_true, if_false, reduceIte, decide_true, decide_false])
      all_goals (try (simp_all; done))
    · cases h
  · cases h
theorem s89 : ∀ vs r, g_f32bits vs = some r → SaysM Try.prog .any 89 vs r := t_f32bits Try.func89 (by kernel_rfl) rfl (by kernel_rfl) (by kernel_rfl)
def m_spec_l01Bits (x0 : Nat) : Int := (if (feq .f32 x0 x0) = true then (IntKind.wrap .i64 ((x0 : Nat) : Int)) else 2143289344)
def p_spec_l01Bits (x0 : Nat) : Bool := (!(feq .f32 x0 x0) || (feq .f32 x0 x0))
def g_spec_l01Bits : List AV → Option AV
  | [.flt .f32 y0] => if p_spec_l01Bits y0 = true then some (.int .i64 (m_spec_l01Bits y0)) else none
  | _ => none
def ic87 : ICode := (.seq (.reg [⟨(some 2), none, (.mov (.c (.int .i64 0)))⟩] [0]) (.seq (.seq (.reg [⟨(some 3), none, (.mov (.t 0))⟩, ⟨(some 4), none, (.mov (.t 0))⟩, ⟨(some 5),
      none, (.bin .neq false (.t 3) (.t 4))⟩] [0, 5]) (.cond (.t 5) (.seq (.reg [⟨(some 2), none, (.mov (.c (.int .i64 2143289344)))⟩] [2]) .ret) .skip)) (.seq (.reg [⟨(some 6),
      none, (.mov (.t 0))⟩, ⟨(some 7), none, (.call (.fn 89) [(.t 6)] [])⟩, ⟨(some 8), none, (.conv (.int .i64) (.t 7))⟩, ⟨(some 2), none, (.mov (.t 8))⟩] [2]) .ret)))
def cp87 : CP := CP.mk [] [] [[0], [0, 5], [2], [2]] 9
theorem fc87_0 : IntKind.wrap .i64 1 = 1 := by decide
theorem fc87_1 : IntKind.wrap .i64 2 = 2 := by decide
theorem fc87_2 : IntKind.wrap .i64 3 = 3 := by decide
theorem s87 : ∀ vs r, g_spec_l01Bits vs = some r → SaysM Try.prog .any 87 vs r := by
  intro vs r h
  unfold g_spec_l01Bits at h
  split at h
  · rename_i y0
    split at h
    · rename_i hp
      cases h
      refine spec_of (m := .any) (tab := tabOf [(89, wM .any g_f32bits)]) (cp := cp87) (ic := ic87) (rvl := [(.t 2)]) hm (tabOk_cons (m := .any) s89 tabOk_nil) Try.func87 rfl rfl rfl (by kernel_rfl) rfl (Nat.le_of_ble_eq_true rfl) (Nat.le_of_ble_eq_true rfl) ?_
      show eA _ _ _ _
      unfold ic87
      simp only [p_spec_l01Bits, Bool.and_eq_true, Bool.or_eq_true, decide_eq_true_eq, Bool.not_eq_true', decide_eq_false_iff_not] at hp
      simp only [
          hp, grpS, grpD, grpF, grpL, eop, vop, bop, uop, fltop, convop, endOk, newE, new1, freshL, Md.isNew, outV, pureV, pureX, pure1, AV.cells, AV.one, storable, laid, refless,
                refless1, vload, loadC, storeC, vnil, vfaddr, vextract, flatT, flatE, flatC, vconv, vmm, vidxA, viaddrA, vfield, vlen, elemsOf, dF32, dF64, dI64, dU8, dBool, dStr,
                esOk, elemsS, vsliceX, bnd, ownV, ownC, own1, ownT, isSl, nSl, endL, Md.isOwn, purge, purgeH, purgeB, purgeE, hasName, name1, List.any_cons, List.any_nil, Md.isWr,
                pureV.pureP, Option.map, reduceIte, Nat.reduceEqDiff, Nat.reduceAdd, Nat.reduceMul, Nat.reduceLT, Nat.reduceLeDiff, List.mapM_cons, List.mapM_nil, Option.pure_def,
                Option.bind_eq_bind, Option.bind_some, implies_true, forall_const, beq_self_eq_true, decide_true, decide_false, eq_self, Int.reduceEq, Int.reduceLE, Int.reduceLT,
                if_true, if_false, fc87_0, fc87_1, fc87_2, Int.reduceAdd, Int.reduceSub, Int.reduceMul, Int.reduceNeg, Int.reducePow, Nat.reducePow, Int.reduceToNat, Nat.reduceSub,
                List.replicate, Nat.reduceBEq, wAs, wA, wC, zipW, noDupN, grpE, g_f32bits, grpC, en0, dc_en0]
      repeat' (first
        | ((first | (refine eGI_of (fun h => ?_) (fun h => ?_)) | (refine eCc_of (fun h => ?_) (fun h => ?_))) <;> (try simp only [Bool.not_eq_true', Bool.not_eq_false'] at h) <;> (try simp only [h, reduceCtorEq, Bool.not_eq_true', decide_eq_false_iff_not, Bool.not_true, Bool.not_false, Bool.false_or, Bool.true_or, Bool.true_and, Bool.false_and, Bool.and_eq_true, Bool.or_eq_true, if_true, if_false, reduceIte, Bool.false_eq_true, and_true, true_and, false_or, or_false, decide_eq_true_eq, not_false_eq_true, not_true_eq_false] at hp) <;> (try (have h2 := h; simp only [decide_eq_true_eq, decide_eq_false_iff_not] at h2; (first | (replace h2 := eq_false h2) | (replace h2 := eq_true h2)); simp only [h2, if_true, if_false, false_or, true_or, or_true, or_false, and_true, true_and, not_false_eq_true, not_true_eq_false] at hp)) <;> simp only [h,
          hp, grpS, grpD, grpF, grpL, eop, vop, bop, uop, fltop, convop, endOk, newE, new1, freshL, Md.isNew, outV, pureV, pureX, pure1, AV.cells, AV.one, storable, laid, refless,
                refless1, vload, loadC, storeC, vnil, vfaddr, vextract, flatT, flatE, flatC, vconv, vmm, vidxA, viaddrA, vfield, vlen, elemsOf, dF32, dF64, dI64, dU8, dBool, dStr,
                esOk, elemsS, vsliceX, bnd, ownV, ownC, own1, ownT, isSl, nSl, endL, Md.isOwn, purge, purgeH, purgeB, purgeE, hasName, name1, List.any_cons, List.any_nil, Md.isWr,
                pureV.pureP, Option.map, reduceIte, Nat.reduceEqDiff, Nat.reduceAdd, Nat.reduceMul, Nat.reduceLT, Nat.reduceLeDiff, List.mapM_cons, List.mapM_nil, Option.pure_def,
                Option.bind_eq_bind, Option.bind_some, implies_true, forall_const, beq_self_eq_true, decide_true, decide_false, eq_self, Int.reduceEq, Int.reduceLE, Int.reduceLT,
                if_true, if_false, fc87_0, fc87_1, fc87_2, Int.reduceAdd, Int.reduceSub, Int.reduceMul, Int.reduceNeg, Int.reducePow, Nat.reducePow, Int.reduceToNat, Nat.reduceSub,
                List.replicate, Nat.reduceBEq, wAs, wA, wC, zipW, noDupN, grpE, g_f32bits, grpC, en0, dc_en0]))
      all_goals (try simp only [*, m_spec_l01Bits, Bool.and_true, Bool.true_and, Bool.and_false, Bool.false_and, Bool.or_true, Bool.true_or, Bool.or_false, Bool.false_or, Bool.not_true, Bool.not_false, Bool.false_eq_true, if_true, if_false, reduceIte, decide_true, decide_false])
      all_goals (try (simp_all; done))
    · cases h
  · cases h
def m_spec_l01Same (x0 : Nat) (x1 : Nat) : Bool := (decide ((m_spec_l01Bits x0) = (m_spec_l01Bits x1)))
def p_spec_l01Same (x0 : Nat) (x1 : Nat) : Bool := ((p_spec_l01Bits x0) && (p_spec_l01Bits x1))
def g_spec_l01Same : List AV → Option AV
  | [.flt .f32 y0, .flt .f32 y1] => if p_spec_l01Same y0 y1 = true then some (.bool (m_spec_l01Same y0 y1)) else none
  | _ => none
def ic85 : ICode := (.seq (.reg [⟨(some 4), none, (.mov (.c (.bool false)))⟩] [0, 1]) (.seq (.reg [⟨(some 5), none, (.mov (.t 0))⟩, ⟨(some 6), none, (.call (.fn 87) [(.t 5)] [])⟩,
      ⟨(some 7), none, (.mov (.t 1))⟩, ⟨(some 8), none, (.call (.fn 87) [(.t 7)] [])⟩, ⟨(some 9), none, (.bin .eql false (.t 6) (.t 8))⟩, ⟨(some 4), none, (.mov (.t 9))⟩] [4])
      .ret))
def cp85 : CP := CP.mk [] [] [[0, 1], [4]] 10
theorem fc85_0 : IntKind.wrap .i64 1 = 1 := by decide
theorem fc85_1 : IntKind.wrap .i64 2 = 2 := by decide
theorem fc85_2 : IntKind.wrap .i64 3 = 3 := by decide
theorem s85 : ∀ vs r, g_spec_l01Same vs = some r → SaysM Try.prog .any 85 vs r := by
  intro vs r h
  unfold g_spec_l01Same at h
  split at h
  · rename_i y0 y1
    split at h
    · rename_i hp
      cases h
      refine spec_of (m := .any) (tab := tabOf [(87, wM .any g_spec_l01Bits)]) (cp := cp85) (ic := ic85) (rvl := [(.t 4)]) hm (tabOk_cons (m := .any) s87 tabOk_nil) Try.func85 rfl rfl rfl (by kernel_rfl) rfl (Nat.le_of_ble_eq_true rfl) (Nat.le_of_ble_eq_true rfl) ?_
      show eA _ _ _ _
      unfold ic85
      simp only [p_spec_l01Same, Bool.and_eq_true, Bool.or_eq_true, decide_eq_true_eq, Bool.not_eq_true', decide_eq_false_iff_not] at hp
      simp only [
          hp, grpS, grpD, grpF, grpL, eop, vop, bop, uop, fltop, convop, endOk, newE, new1, freshL, Md.isNew, outV, pureV, pureX, pure1, AV.cells, AV.one, storable, laid, refless,
                refless1, vload, loadC, storeC, vnil, vfaddr, vextract, flatT, flatE, flatC, vconv, vmm, vidxA, viaddrA, vfield, vlen, elemsOf, dF32, dF64, dI64, dU8, dBool, dStr,
                esOk, elemsS, vsliceX, bnd, ownV, ownC, own1, ownT, isSl, nSl, endL, Md.isOwn, purge, purgeH, purgeB, purgeE, hasName, name1, List.any_cons, List.any_nil, Md.isWr,
                pureV.pureP, Option.map, reduceIte, Nat.reduceEqDiff, Nat.reduceAdd, Nat.reduceMul, Nat.reduceLT, Nat.reduceLeDiff, List.mapM_cons, List.mapM_nil, Option.pure_def,
                Option.bind_eq_bind, Option.bind_some, implies_true, forall_const, beq_self_eq_true, decide_true, decide_false, eq_self, Int.reduceEq, Int.reduceLE, Int.reduceLT,
                if_true, if_false, fc85_0, fc85_1, fc85_2, Int.reduceAdd, Int.reduceSub, Int.reduceMul, Int.reduceNeg, Int.reducePow, Nat.reducePow, Int.reduceToNat, Nat.reduceSub,
                List.replicate, Nat.reduceBEq, wAs, wA, wC, zipW, noDupN, grpE, g_spec_l01Bits, grpC, en0, dc_en0]
      repeat' (first
        | ((first | (refine eGI_of (fun h => ?_) (fun h => ?_)) | (refine eCc_of (fun h => ?_) (fun h => ?_))) <;> (try simp only [Bool.not_eq_true', Bool.not_eq_false'] at h) <;> (try simp only [h, reduceCtorEq, Bool.not_eq_true', decide_eq_false_iff_not, Bool.not_true, Bool.not_false, Bool.false_or, Bool.true_or, Bool.true_and, Bool.false_and, Bool.and_eq_true, Bool.or_eq_true, if_true, if_false, reduceIte, Bool.false_eq_true, and_true, true_and, false_or, or_false, decide_eq_true_eq, not_false_eq_true, not_true_eq_false] at hp) <;> (try (have h2 := h; simp only [decide_eq_true_eq, decide_eq_false_iff_not] at h2; (first | (replace h2 := eq_false h2) | (replace h2 := eq_true h2)); simp only [h2, if_true, if_false, false_or, true_or, or_true, or_false, and_true, true_and, not_false_eq_true, not_true_eq_false] at hp)) <;> simp only [h,
          hp, grpS, grpD, grpF, grpL, eop, vop, bop, uop, fltop, convop, endOk, newE, new1, freshL, Md.isNew, outV, pureV, pureX, pure1, AV.cells, AV.one, storable, laid, refless,
                refless1, vload, loadC, storeC, vnil, vfaddr, vextract, flatT, flatE, flatC, vconv, vmm, vidxA, viaddrA, vfield, vlen, elemsOf, dF32, dF64, dI64, dU8, dBool, dStr,
                esOk, elemsS, vsliceX, bnd, ownV, ownC, own1, ownT, isSl, nSl, endL, Md.isOwn, purge, purgeH, purgeB, purgeE, hasName, name1, List.any_cons, List.any_nil, Md.isWr,
                pureV.pureP, Option.map, reduceIte, Nat.reduceEqDiff, Nat.reduceAdd, Nat.reduceMul, Nat.reduceLT, Nat.reduceLeDiff, List.mapM_cons, List.mapM_nil, Option.pure_def,
                Option.bind_eq_bind, Option.bind_some, implies_true, forall_const, beq_self_eq_true, decide_true, decide_false, eq_self, Int.reduceEq, Int.reduceLE, Int.reduceLT,
                if_true, if_false, fc85_0, fc85_1, fc85_2, Int.reduceAdd, Int.reduceSub, Int.reduceMul, Int.reduceNeg, Int.reducePow, Nat.reducePow, Int.reduceToNat, Nat.reduceSub,
                List.replicate, Nat.reduceBEq, wAs, wA, wC, zipW, noDupN, grpE, g_spec_l01Bits, grpC, en0, dc_en0]))
      all_goals (try simp only [*, m_spec_l01Same, Bool.and_true, Bool.true_and, Bool.and_false, Bool.false_and, Bool.or_true, Bool.true_or, Bool.or_false, Bool.false_or, Bool.not_true, Bool.not_false, Bool.false_eq_true, if_true, if_false, reduceIte, decide_true, decide_false])
      all_goals (try (simp_all; done))
    · cases h
  · cases h
def m_spec_l01VSame (x0 : (Nat × Nat × Nat)) (x1 : (Nat × Nat × Nat)) : Bool := (if (m_spec_l01Same x0.1 x1.1) = true then (if (m_spec_l01Same x0.2.1 x1.2.1) = true then
      (m_spec_l01Same x0.2.2 x1.2.2) else false) else false)
def p_spec_l01VSame (x0 : (Nat × Nat × Nat)) (x1 : (Nat × Nat × Nat)) : Bool := ((p_spec_l01Same x0.1 x1.1) && (!(m_spec_l01Same x0.1 x1.1) || ((p_spec_l01Same x0.2.1 x1.2.1) &&
      (!(m_spec_l01Same x0.2.1 x1.2.1) || (p_spec_l01Same x0.2.2 x1.2.2)))))
def g_spec_l01VSame : List AV → Option AV
  | [.agg [.flt .f32 y0, .flt .f32 y1, .flt .f32 y2], .agg [.flt .f32 y3, .flt .f32 y4, .flt .f32 y5]] => if p_spec_l01VSame (y0, y1, y2)
      (y3, y4, y5) = true then some (.bool (m_spec_l01VSame (y0, y1, y2) (y3, y4, y5))) else none
  | _ => none
def ic77 : ICode := (.seq (.reg [⟨(some 2), none, (.box 3 (.t 0))⟩, ⟨(some 3), none, (.box 3 (.t 1))⟩, ⟨(some 4), none, (.mov (.c (.bool false)))⟩] [2, 3]) (.seq (.reg [⟨(some 5),
      none, (.faddr 0 (.t 2))⟩, ⟨(some 6), none, (.load none (.t 5))⟩, ⟨(some 7), none, (.faddr 0 (.t 3))⟩, ⟨(some 8), none, (.load none (.t 7))⟩, ⟨(some 9), none, (.call (.fn 85)
      [(.t 6), (.t 8)] [])⟩, ⟨(some 10), none, (.mov (.t 9))⟩, ⟨(some 11), (some (10, true)), (.faddr 1 (.t 2))⟩, ⟨(some 12), (some (10, true)), (.load none (.t 11))⟩, ⟨(some 13),
      (some (10, true)), (.faddr 1 (.t 3))⟩, ⟨(some 14), (some (10, true)), (.load none (.t 13))⟩, ⟨(some 15), (some (10, true)), (.call (.fn 85) [(.t 12), (.t 14)] [])⟩, ⟨(some
      16), none, (.pick (.t 10) (.t 15) (.c (.bool false)))⟩, ⟨(some 17), none, (.mov (.t 16))⟩, ⟨(some 18), (some (17, true)), (.faddr 2 (.t 2))⟩, ⟨(some 19), (some (17, true)),
      (.load none (.t 18))⟩, ⟨(some 20), (some (17, true)), (.faddr 2 (.t 3))⟩, ⟨(some 21), (some (17, true)), (.load none (.t 20))⟩, ⟨(some 22), (some (17, true)), (.call (.fn 85)
      [(.t 19), (.t 21)] [])⟩, ⟨(some 23), none, (.pick (.t 17) (.t 22) (.c (.bool false)))⟩, ⟨(some 4), none, (.mov (.t 23))⟩] [4]) .ret))
def cp77 : CP := CP.mk [] [] [[2, 3], [4]] 24
theorem fc77_0 : IntKind.wrap .i64 1 = 1 := by decide
theorem fc77_1 : IntKind.wrap .i64 2 = 2 := by decide
theorem fc77_2 : IntKind.wrap .i64 3 = 3 := by decide
theorem s77 : ∀ vs r, g_spec_l01VSame vs = some r → SaysM Try.prog .any 77 vs r := by
  intro vs r h
  unfold g_spec_l01VSame at h
  split at h
  · rename_i y0 y1 y2 y3 y4 y5
    split at h
    · rename_i hp
      cases h
      refine spec_of (m := .any) (tab := tabOf [(85, wM .any g_spec_l01Same)]) (cp := cp77) (ic := ic77) (rvl := [(.t 4)]) hm (tabOk_cons (m := .any) s85 tabOk_nil) Try.func77 rfl rfl rfl (by kernel_rfl) rfl (Nat.le_of_ble_eq_true rfl) (Nat.le_of_ble_eq_true rfl) ?_
      show eA _ _ _ _
      unfold ic77
      simp only [p_spec_l01VSame, Bool.and_eq_true, Bool.or_eq_true, decide_eq_true_eq, Bool.not_eq_true', decide_eq_false_iff_not] at hp
      simp only [
          hp, grpS, grpD, grpF, grpL, eop, vop, bop, uop, fltop, convop, endOk, newE, new1, freshL, Md.isNew, outV, pureV, pureX, pure1, AV.cells, AV.one, storable, laid, refless,
                refless1, vload, loadC, storeC, vnil, vfaddr, vextract, flatT, flatE, flatC, vconv, vmm, vidxA, viaddrA, vfield, vlen, elemsOf, dF32, dF64, dI64, dU8, dBool, dStr,
                esOk, elemsS, vsliceX, bnd, ownV, ownC, own1, ownT, isSl, nSl, endL, Md.isOwn, purge, purgeH, purgeB, purgeE, hasName, name1, List.any_cons, List.any_nil, Md.isWr,
                pureV.pureP, Option.map, reduceIte, Nat.reduceEqDiff, Nat.reduceAdd, Nat.reduceMul, Nat.reduceLT, Nat.reduceLeDiff, List.mapM_cons, List.mapM_nil, Option.pure_def,
                Option.bind_eq_bind, Option.bind_some, implies_true, forall_const, beq_self_eq_true, decide_true, decide_false, eq_self, Int.reduceEq, Int.reduceLE, Int.reduceLT,
                if_true, if_false, fc77_0, fc77_1, fc77_2, Int.reduceAdd, Int.reduceSub, Int.reduceMul, Int.reduceNeg, Int.reducePow, Nat.reducePow, Int.reduceToNat, Nat.reduceSub,
                List.replicate, Nat.reduceBEq, wAs, wA, wC, zipW, noDupN, grpE, g_spec_l01Same, grpC, en0, dc_en0, ↓b_pick, ePk_true, ePk_false]
      repeat' (first
        | ((first | (refine eGI_of (fun h => ?_) (fun h => ?_)) | (refine eCc_of (fun h => ?_) (fun h => ?_)) | (refine ePk_of (fun h => ?_) (fun h => ?_))) <;> (try simp only [Bool.not_eq_true', Bool.not_eq_false'] at h) <;> (try simp only [h, reduceCtorEq, Bool.not_eq_true', decide_eq_false_iff_not, Bool.not_true, Bool.not_false, Bool.false_or, Bool.true_or, Bool.true_and, Bool.false_and, Bool.and_eq_true, Bool.or_eq_true, if_true, if_false, reduceIte, Bool.false_eq_true, and_true, true_and, false_or, or_false, decide_eq_true_eq, not_false_eq_true, not_true_eq_false] at hp) <;> (try (have h2 := h; simp only [decide_eq_true_eq, decide_eq_false_iff_not] at h2; (first | (replace h2 := eq_false h2) | (replace h2 := eq_true h2)); simp only [h2, if_true, if_false, false_or, true_or, or_true, or_false, and_true, true_and, not_false_eq_true, not_true_eq_false] at hp)) <;> simp only [h,
          hp, grpS, grpD, grpF, grpL, eop, vop, bop, uop, fltop, convop, endOk, newE, new1, freshL, Md.isNew, outV, pureV, pureX, pure1, AV.cells, AV.one, storable, laid, refless,
                refless1, vload, loadC, storeC, vnil, vfaddr, vextract, flatT, flatE, flatC, vconv, vmm, vidxA, viaddrA, vfield, vlen, elemsOf, dF32, dF64, dI64, dU8, dBool, dStr,
                esOk, elemsS, vsliceX, bnd, ownV, ownC, own1, ownT, isSl, nSl, endL, Md.isOwn, purge, purgeH, purgeB, purgeE, hasName, name1, List.any_cons, List.any_nil, Md.isWr,
                pureV.pureP, Option.map, reduceIte, Nat.reduceEqDiff, Nat.reduceAdd, Nat.reduceMul, Nat.reduceLT, Nat.reduceLeDiff, List.mapM_cons, List.mapM_nil, Option.pure_def,
                Option.bind_eq_bind, Option.bind_some, implies_true, forall_const, beq_self_eq_true, decide_true, decide_false, eq_self, Int.reduceEq, Int.reduceLE, Int.reduceLT,
                if_true, if_false, fc77_0, fc77_1, fc77_2, Int.reduceAdd, Int.reduceSub, Int.reduceMul, Int.reduceNeg, Int.reducePow, Nat.reducePow, Int.reduceToNat, Nat.reduceSub,
                List.replicate, Nat.reduceBEq, wAs, wA, wC, zipW, noDupN, grpE, g_spec_l01Same, grpC, en0, dc_en0, ↓b_pick, ePk_true, ePk_false]))
      all_goals (try simp only [*, m_spec_l01VSame, Bool.and_true, Bool.true_and, Bool.and_false, Bool.false_and, Bool.or_true, Bool.true_or, Bool.or_false, Bool.false_or, Bool.not_true, Bool.not_false, Bool.false_eq_true, if_true, if_false, reduceIte, decide_true, decide_false])
      all_goals (try (simp_all; done))
    · cases h
  · cases h
def m_spec_l02Same (x0 : (Nat × Nat × Nat × Nat)) (x1 : (Nat × Nat × Nat × Nat)) : Bool := (if (m_spec_l01Same x0.1 x1.1) = true then (if (m_spec_l01Same x0.2.1 x1.2.1) = true then
      (if (m_spec_l01Same x0.2.2.1 x1.2.2.1) = true then (m_spec_l01Same x0.2.2.2 x1.2.2.2) else false) else false) else false)
def p_spec_l02Same (x0 : (Nat × Nat × Nat × Nat)) (x1 : (Nat × Nat × Nat × Nat)) : Bool := ((p_spec_l01Same x0.1 x1.1) && (!(m_spec_l01Same x0.1 x1.1) || ((p_spec_l01Same x0.2.1
      x1.2.1) && (!(m_spec_l01Same x0.2.1 x1.2.1) || ((p_spec_l01Same x0.2.2.1 x1.2.2.1) && (!(m_spec_l01Same x0.2.2.1 x1.2.2.1) || (p_spec_l01Same x0.2.2.2 x1.2.2.2)))))))
def g_spec_l02Same : List AV → Option AV
  | [.agg [.flt .f32 y0, .flt .f32 y1, .flt .f32 y2, .flt .f32 y3], .agg [.flt .f32 y4, .flt .f32 y5, .flt .f32 y6, .flt .f32 y7]] => if
      p_spec_l02Same (y0, y1, y2, y3) (y4, y5, y6, y7) = true then some (.bool (m_spec_l02Same (y0, y1, y2, y3) (y4, y5, y6, y7))) else none
  | _ => none
def ic78 : ICode := (.seq (.reg [⟨(some 2), none, (.box 4 (.t 0))⟩, ⟨(some 3), none, (.box 4 (.t 1))⟩, ⟨(some 4), none, (.mov (.c (.bool false)))⟩] [2, 3]) (.seq (.reg [⟨(some 5),
      none, (.faddr 0 (.t 2))⟩, ⟨(some 6), none, (.load none (.t 5))⟩, ⟨(some 7), none, (.faddr 0 (.t 3))⟩, ⟨(some 8), none, (.load none (.t 7))⟩, ⟨(some 9), none, (.call (.fn 85)
      [(.t 6), (.t 8)] [])⟩, ⟨(some 10), none, (.mov (.t 9))⟩, ⟨(some 11), (some (10, true)), (.faddr 1 (.t 2))⟩, ⟨(some 12), (some (10, true)), (.load none (.t 11))⟩, ⟨(some 13),
      (some (10, true)), (.faddr 1 (.t 3))⟩, ⟨(some 14), (some (10, true)), (.load none (.t 13))⟩, ⟨(some 15), (some (10, true)), (.call (.fn 85) [(.t 12), (.t 14)] [])⟩, ⟨(some
      16), none, (.pick (.t 10) (.t 15) (.c (.bool false)))⟩, ⟨(some 17), none, (.mov (.t 16))⟩, ⟨(some 18), (some (17, true)), (.faddr 2 (.t 2))⟩, ⟨(some 19), (some (17, true)),
      (.load none (.t 18))⟩, ⟨(some 20), (some (17, true)), (.faddr 2 (.t 3))⟩, ⟨(some 21), (some (17, true)), (.load none (.t 20))⟩, ⟨(some 22), (some (17, true)), (.call (.fn 85)
      [(.t 19), (.t 21)] [])⟩, ⟨(some 23), none, (.pick (.t 17) (.t 22) (.c (.bool false)))⟩, ⟨(some 24), none, (.mov (.t 23))⟩, ⟨(some 25), (some (24, true)), (.faddr 3 (.t 2))⟩,
      ⟨(some 26), (some (24, true)), (.load none (.t 25))⟩, ⟨(some 27), (some (24, true)), (.faddr 3 (.t 3))⟩, ⟨(some 28), (some (24, true)), (.load none (.t 27))⟩, ⟨(some 29),
      (some (24, true)), (.call (.fn 85) [(.t 26), (.t 28)] [])⟩, ⟨(some 30), none, (.pick (.t 24) (.t 29) (.c (.bool false)))⟩, ⟨(some 4), none, (.mov (.t 30))⟩] [4]) .ret))
def cp78 : CP := CP.mk [] [] [[2, 3], [4]] 31
theorem fc78_0 : IntKind.wrap .i64 1 = 1 := by decide
theorem fc78_1 : IntKind.wrap .i64 2 = 2 := by decide
theorem fc78_2 : IntKind.wrap .i64 3 = 3 := by decide
theorem s78 : ∀ vs r, g_spec_l02Same vs = some r → SaysM Try.prog .any 78 vs r := by
  intro vs r h
  unfold g_spec_l02Same at h
  split at h
  · rename_i y0 y1 y2 y3 y4 y5 y6 y7
    split at h
    · rename_i hp
      cases h
      refine spec_of (m := .any) (tab := tabOf [(85, wM .any g_spec_l01Same)]) (cp := cp78) (ic := ic78) (rvl := [(.t 4)]) hm (tabOk_cons (m := .any) s85 tabOk_nil) Try.func78 rfl rfl rfl (by kernel_rfl) rfl (Nat.le_of_ble_eq_true rfl) (Nat.le_of_ble_eq_true rfl) ?_
      show eA _ _ _ _
      unfold ic78
      simp only [p_spec_l02Same, Bool.and_eq_true, Bool.or_eq_true, decide_eq_true_eq, Bool.not_eq_true', decide_eq_false_iff_not] at hp
      simp only [
          hp, grpS, grpD, grpF, grpL, eop, vop, bop, uop, fltop, convop, endOk, newE, new1, freshL, Md.isNew, outV, pureV, pureX, pure1, AV.cells, AV.one, storable, laid, refless,
                refless1, vload, loadC, storeC, vnil, vfaddr, vextract, flatT, flatE, flatC, vconv, vmm, vidxA, viaddrA, vfield, vlen, elemsOf, dF32, dF64, dI64, dU8, dBool, dStr,
                esOk, elemsS, vsliceX, bnd, ownV, ownC, own1, ownT, isSl, nSl, endL, Md.isOwn, purge, purgeH, purgeB, purgeE, hasName, name1, List.any_cons, List.any_nil, Md.isWr,
                pureV.pureP, Option.map, reduceIte, Nat.reduceEqDiff, Nat.reduceAdd, Nat.reduceMul, Nat.reduceLT, Nat.reduceLeDiff, List.mapM_cons, List.mapM_nil, Option.pure_def,
                Option.bind_eq_bind, Option.bind_some, implies_true, forall_const, beq_self_eq_true, decide_true, decide_false, eq_self, Int.reduceEq, Int.reduceLE, Int.reduceLT,
                if_true, if_false, fc78_0, fc78_1, fc78_2, Int.reduceAdd, Int.reduceSub, Int.reduceMul, Int.reduceNeg, Int.reducePow, Nat.reducePow, Int.reduceToNat, Nat.reduceSub,
                List.replicate, Nat.reduceBEq, wAs, wA, wC, zipW, noDupN, grpE, g_spec_l01Same, grpC, en0, dc_en0, ↓b_pick, ePk_true, ePk_false]
      repeat' (first
        | ((first | (refine eGI_of (fun h => ?_) (fun h => ?_)) | (refine eCc_of (fun h => ?_) (fun h => ?_)) | (refine ePk_of (fun h => ?_) (fun h => ?_))) <;> (try simp only [Bool.not_eq_true', Bool.not_eq_false'] at h) <;> (try simp only [h, reduceCtorEq, Bool.not_eq_true', decide_eq_false_iff_not, Bool.not_true, Bool.not_false, Bool.false_or, Bool.true_or, Bool.true_and, Bool.false_and, Bool.and_eq_true, Bool.or_eq_true, if_true, if_false, reduceIte, Bool.false_eq_true, and_true, true_and, false_or, or_false, decide_eq_true_eq, not_false_eq_true, not_true_eq_false] at hp) <;> (try (have h2 := h; simp only [decide_eq_true_eq, decide_eq_false_iff_not] at h2; (first | (replace h2 := eq_false h2) | (replace h2 := eq_true h2)); simp only [h2, if_true, if_false, false_or, true_or, or_true, or_false, and_true, true_and, not_false_eq_true, not_true_eq_false] at hp)) <;> simp only [h,
          hp, grpS, grpD, grpF, grpL, eop, vop, bop, uop, fltop, convop, endOk, newE, new1, freshL, Md.isNew, outV, pureV, pureX, pure1, AV.cells, AV.one, storable, laid, refless,
                refless1, vload, loadC, storeC, vnil, vfaddr, vextract, flatT, flatE, flatC, vconv, vmm, vidxA, viaddrA, vfield, vlen, elemsOf, dF32, dF64, dI64, dU8, dBool, dStr,
                esOk, elemsS, vsliceX, bnd, ownV, ownC, own1, ownT, isSl, nSl, endL, Md.isOwn, purge, purgeH, purgeB, purgeE, hasName, name1, List.any_cons, List.any_nil, Md.isWr,
                pureV.pureP, Option.map, reduceIte, Nat.reduceEqDiff, Nat.reduceAdd, Nat.reduceMul, Nat.reduceLT, Nat.reduceLeDiff, List.mapM_cons, List.mapM_nil, Option.pure_def,
                Option.bind_eq_bind, Option.bind_some, implies_true, forall_const, beq_self_eq_true, decide_true, decide_false, eq_self, Int.reduceEq, Int.reduceLE, Int.reduceLT,
                if_true, if_false, fc78_0, fc78_1, fc78_2, Int.reduceAdd, Int.reduceSub, Int.reduceMul, Int.reduceNeg, Int.reducePow, Nat.reducePow, Int.reduceToNat, Nat.reduceSub,
                List.replicate, Nat.reduceBEq, wAs, wA, wC, zipW, noDupN, grpE, g_spec_l01Same, grpC, en0, dc_en0, ↓b_pick, ePk_true, ePk_false]))
      all_goals (try simp only [*, m_spec_l02Same, Bool.and_true, Bool.true_and, Bool.and_false, Bool.false_and, Bool.or_true, Bool.true_or, Bool.or_false, Bool.false_or, Bool.not_true, Bool.not_false, Bool.false_eq_true, if_true, if_false, reduceIte, decide_true, decide_false])
      all_goals (try (simp_all; done))
    · cases h
  · cases h
def l_spec_l03Same_0 (x0 : (Nat × Nat × Nat × (List (Nat × Nat × Nat × Nat)))) (x1 : (Nat × Nat × Nat × (List (Nat × Nat × Nat × Nat)))) : Nat → Int → Option (Bool × Bool × Unit)
  | 0, _ => none
  | n + 1, z0_0 => (if (decide (z0_0 < ((List.length x0.2.2.2 : Nat) : Int))) = true then (need (inB z0_0 (List.length x0.2.2.2)) (need (inB z0_0 (List.length x1.2.2.2)) (need
        (p_spec_l02Same (atI x0.2.2.2 z0_0) (atI x1.2.2.2 z0_0)) (if (m_spec_l02Same (atI x0.2.2.2 z0_0) (atI x1.2.2.2 z0_0)) = true then (l_spec_l03Same_0 x0 x1 n (IntKind.wrap
        .i64 (z0_0 + 1))) else (some (true, false, default)))))) else (some (false, default, ())))
def m_spec_l03Same (x0 : (Nat × Nat × Nat × (List (Nat × Nat × Nat × Nat)))) (x1 : (Nat × Nat × Nat × (List (Nat × Nat × Nat × Nat)))) : Bool := (if (m_spec_l01VSame (x0.1, x0.2.1,
      x0.2.2.1) (x1.1, x1.2.1, x1.2.2.1)) = true then (if (decide (((List.length x0.2.2.2 : Nat) : Int) = ((List.length x1.2.2.2 : Nat) : Int))) = true then (if (Option.getD
      (l_spec_l03Same_0 x0 x1 (Int.toNat (((List.length x0.2.2.2 : Nat) : Int) - 0) + 2) 0) default).1 = true then (Option.getD (l_spec_l03Same_0 x0 x1 (Int.toNat (((List.length
      x0.2.2.2 : Nat) : Int) - 0) + 2) 0) default).2.1 else true) else false) else false)
def p_spec_l03Same (x0 : (Nat × Nat × Nat × (List (Nat × Nat × Nat × Nat)))) (x1 : (Nat × Nat × Nat × (List (Nat × Nat × Nat × Nat)))) : Bool := ((p_spec_l01VSame (x0.1, x0.2.1,
      x0.2.2.1) (x1.1, x1.2.1, x1.2.2.1)) && (!(m_spec_l01VSame (x0.1, x0.2.1, x0.2.2.1) (x1.1, x1.2.1, x1.2.2.1)) || (!(decide (((List.length x0.2.2.2 : Nat) : Int) = ((List.length
      x1.2.2.2 : Nat) : Int))) || (Option.isSome (l_spec_l03Same_0 x0 x1 (Int.toNat (((List.length x0.2.2.2 : Nat) : Int) - 0) + 2) 0)))))
def g_spec_l03Same : List AV → Option AV
  | [.ptr (.agg [.flt .f32 y0, .flt .f32 y1, .flt .f32 y2, .sl w3]) 0, .ptr (.agg [.flt .f32 y4, .flt .f32 y5, .flt .f32 y6, .sl w7]) 0] => (match decL dc_en0 w3 with | some y3 => ((match decL dc_en0 w7 with | some y7 => (if p_spec_l03Same (y0, y1, y2, y3) (y4, y5, y6, y7) = true then some (.bool (m_spec_l03Same (y0, y1, y2, y3) (y4, y5, y6, y7))) else none) | none => none)) | none => none)
  | _ => none
def lb54_0 : ICode := (.seq (.reg [⟨(some 35), none, (.bin .lss false (.t 34) (.t 33))⟩] [0, 1, 33, 34, 35]) (.seq (.cond (.t 35) .skip (.exit 0)) (.seq (.block 1 (.seq (.reg
      [⟨(some 36), none, (.mov (.t 34))⟩, ⟨(some 5), none, (.mov (.t 36))⟩] [0, 1, 5, 33, 34]) (.seq (.reg [⟨(some 37), none, (.mov (.t 0))⟩, ⟨(some 38), none, (.nilchk (.t 37))⟩,
      ⟨(some 39), none, (.faddr 3 (.t 38))⟩, ⟨(some 40), none, (.load none (.t 39))⟩, ⟨(some 41), none, (.mov (.t 5))⟩, ⟨(some 42), none, (.iaddrS 4 (.t 40) (.t 41))⟩, ⟨(some 43),
      none, (.load (some 4) (.t 42))⟩, ⟨(some 44), none, (.mov (.t 1))⟩, ⟨(some 45), none, (.nilchk (.t 44))⟩, ⟨(some 46), none, (.faddr 3 (.t 45))⟩, ⟨(some 47), none, (.load none
      (.t 46))⟩, ⟨(some 48), none, (.mov (.t 5))⟩, ⟨(some 49), none, (.iaddrS 4 (.t 47) (.t 48))⟩, ⟨(some 50), none, (.load (some 4) (.t 49))⟩, ⟨(some 51), none, (.call (.fn 78)
      [(.t 43), (.t 50)] [])⟩, ⟨(some 52), none, (.un .not (.t 51))⟩] [0, 1, 33, 34, 52]) (.cond (.t 52) (.seq (.reg [⟨(some 4), none, (.mov (.c (.bool false)))⟩] [4]) .ret)
      .skip)))) (.reg [⟨(some 53), none, (.bin .add false (.t 34) (.c (.int .i64 1)))⟩, ⟨(some 34), none, (.mov (.t 53))⟩] [0, 1, 33, 34]))))
def ic54 : ICode := (.seq (.reg [⟨(some 4), none, (.mov (.c (.bool false)))⟩] [0, 1]) (.seq (.seq (.reg [⟨(some 6), none, (.mov (.t 0))⟩, ⟨(some 7), none, (.nilchk (.t 6))⟩, ⟨(some
      8), none, (.faddr 0 (.t 7))⟩, ⟨(some 9), none, (.load (some 3) (.t 8))⟩, ⟨(some 10), none, (.mov (.t 1))⟩, ⟨(some 11), none, (.nilchk (.t 10))⟩, ⟨(some 12), none, (.faddr 0
      (.t 11))⟩, ⟨(some 13), none, (.load (some 3) (.t 12))⟩, ⟨(some 14), none, (.call (.fn 77) [(.t 9), (.t 13)] [])⟩, ⟨(some 15), none, (.un .not (.t 14))⟩, ⟨(some 16), none,
      (.mov (.t 15))⟩, ⟨(some 17), (some (16, false)), (.mov (.t 0))⟩, ⟨(some 18), (some (16, false)), (.nilchk (.t 17))⟩, ⟨(some 19), (some (16, false)), (.faddr 3 (.t 18))⟩,
      ⟨(some 20), (some (16, false)), (.load none (.t 19))⟩, ⟨(some 21), (some (16, false)), (.len false (.t 20))⟩, ⟨(some 22), (some (16, false)), (.mov (.t 1))⟩, ⟨(some 23), (some
      (16, false)), (.nilchk (.t 22))⟩, ⟨(some 24), (some (16, false)), (.faddr 3 (.t 23))⟩, ⟨(some 25), (some (16, false)), (.load none (.t 24))⟩, ⟨(some 26), (some (16, false)),
      (.len false (.t 25))⟩, ⟨(some 27), (some (16, false)), (.bin .neq false (.t 21) (.t 26))⟩, ⟨(some 28), none, (.pick (.t 16) (.c (.bool true)) (.t 27))⟩] [0, 1, 28]) (.cond (.t
      28) (.seq (.reg [⟨(some 4), none, (.mov (.c (.bool false)))⟩] [4]) .ret) .skip)) (.seq (.seq (.reg [⟨(some 29), none, (.mov (.t 0))⟩, ⟨(some 30), none, (.nilchk (.t 29))⟩,
      ⟨(some 31), none, (.faddr 3 (.t 30))⟩, ⟨(some 32), none, (.load none (.t 31))⟩, ⟨(some 33), none, (.len false (.t 32))⟩, ⟨(some 34), none, (.mov (.c (.int .i64 0)))⟩] [0, 1,
      33, 34]) (.block 0 (.loop lb54_0))) (.seq (.reg [⟨(some 4), none, (.mov (.c (.bool true)))⟩] [4]) .ret))))
def cp54 : CP := CP.mk [] [] [[0, 1], [0, 1, 28], [4], [0, 1, 33, 34], [0, 1, 33, 34, 35], [0, 1, 5, 33, 34], [0, 1, 33, 34, 52], [4], [0, 1, 33, 34], [4]] 54
theorem fc54_0 : IntKind.wrap .i64 1 = 1 := by decide
theorem fc54_1 : IntKind.wrap .i64 2 = 2 := by decide
theorem fc54_2 : IntKind.wrap .i64 3 = 3 := by decide
theorem sl54_0 (x0 : (Nat × Nat × Nat × (List (Nat × Nat × Nat × Nat)))) (x1 : (Nat × Nat × Nat × (List (Nat × Nat × Nat × Nat)))) : ∀ (n : Nat) (z0_0 : Int) (o : (Bool × Bool ×
      Unit)) (K : IExit → St → Prop), l_spec_l03Same_0 x0 x1 n z0_0 = some o → (∀ st, o.1 = true → outM .any st [(.t 4)] = some (.bool o.2.1) → K .ret st) → (∀ st, o.1 = false → Wk
      st (⟨[], []⟩ : St) → K (.exit 0) st) → eA (tabOf [(77, wM .any g_spec_l01VSame), (78, wM .any g_spec_l02Same)]) (.loop lb54_0) (⟨[(0, (.ptr (AV.agg [(.flt .f32 x0.1), (.flt
      .f32 x0.2.1), (.flt .f32 x0.2.2.1), (.sl (List.map en0 x0.2.2.2))]) 0)), (1, (.ptr (AV.agg [(.flt .f32 x1.1), (.flt .f32 x1.2.1), (.flt .f32 x1.2.2.1), (.sl (List.map en0
      x1.2.2.2))]) 0)), (33, (.int .i64 ((List.length x0.2.2.2 : Nat) : Int))), (34, (.int .i64 z0_0))], []⟩ : St) K := by
  intro n
  induction n with
  | zero =>
    intro z0_0 o K h h0 h1
    simp only [l_spec_l03Same_0, reduceCtorEq] at h
  | succ n ih =>
    intro z0_0 o K h h0 h1
    refine eA_loop ?_
    unfold lb54_0
    unfold l_spec_l03Same_0 at h
    (try simp only [need_iff] at h)
    simp only [
      need_iff, h, grpS, grpD, grpF, grpL, eop, vop, bop, uop, fltop, convop, endOk, newE, new1, freshL, Md.isNew, outV, pureV, pureX, pure1, AV.cells, AV.one, storable, laid,
            refless, refless1, vload, loadC, storeC, vnil, vfaddr, vextract, flatT, flatE, flatC, vconv, vmm, vidxA, viaddrA, vfield, vlen, elemsOf, dF32, dF64, dI64, dU8, dBool,
            dStr, esOk, elemsS, vsliceX, bnd, ownV, ownC, own1, ownT, isSl, nSl, endL, Md.isOwn, purge, purgeH, purgeB, purgeE, hasName, name1, List.any_cons, List.any_nil, Md.isWr,
            pureV.pureP, Option.map, reduceIte, Nat.reduceEqDiff, Nat.reduceAdd, Nat.reduceMul, Nat.reduceLT, Nat.reduceLeDiff, List.mapM_cons, List.mapM_nil, Option.pure_def,
            Option.bind_eq_bind, Option.bind_some, implies_true, forall_const, beq_self_eq_true, decide_true, decide_false, eq_self, Int.reduceEq, Int.reduceLE, Int.reduceLT,
            if_true, if_false, fc54_0, fc54_1, fc54_2, Int.reduceAdd, Int.reduceSub, Int.reduceMul, Int.reduceNeg, Int.reducePow, Nat.reducePow, Int.reduceToNat, Nat.reduceSub,
            List.replicate, Nat.reduceBEq, wAs, wA, wC, zipW, noDupN, grpE, g_spec_l01VSame, g_spec_l02Same, grpC, en0, dc_en0, ↓b_pick, ePk_true, ePk_false]
    repeat' (first
      | ((first | (refine eGI_of (fun hc => ?_) (fun hc => ?_)) | (refine eCc_of (fun hc => ?_) (fun hc => ?_)) | (refine ePk_of (fun hc => ?_) (fun hc => ?_)) | (have hc := True.intro; refine KW_refl ?_)) <;> (try simp only [Bool.not_eq_true', Bool.not_eq_false'] at hc) <;> (try simp only [hc, need_iff, reduceCtorEq, Bool.not_eq_true', decide_eq_false_iff_not, Bool.not_true, Bool.not_false, Bool.false_or, Bool.true_or, Bool.true_and, Bool.false_and, Bool.and_eq_true, Bool.or_eq_true, if_true, if_false, reduceIte, Bool.false_eq_true, and_true, true_and, false_or, or_false, decide_eq_true_eq, not_false_eq_true, not_true_eq_false] at h) <;> (try (have hc2 := hc; simp only [decide_eq_true_eq, decide_eq_false_iff_not] at hc2; simp only [hc2, if_true, if_false, reduceCtorEq, Bool.not_eq_true', decide_eq_false_iff_not, Bool.not_true, Bool.not_false, Bool.false_or, Bool.true_or, Bool.true_and, Bool.false_and, Bool.and_eq_true, Bool.or_eq_true, if_true, if_false, reduceIte, Bool.false_eq_true, and_true, true_and, false_or, or_false, decide_eq_true_eq, not_false_eq_true, not_true_eq_false] at h)) <;> simp only [hc,
      need_iff, h, grpS, grpD, grpF, grpL, eop, vop, bop, uop, fltop, convop, endOk, newE, new1, freshL, Md.isNew, outV, pureV, pureX, pure1, AV.cells, AV.one, storable, laid,
            refless, refless1, vload, loadC, storeC, vnil, vfaddr, vextract, flatT, flatE, flatC, vconv, vmm, vidxA, viaddrA, vfield, vlen, elemsOf, dF32, dF64, dI64, dU8, dBool,
            dStr, esOk, elemsS, vsliceX, bnd, ownV, ownC, own1, ownT, isSl, nSl, endL, Md.isOwn, purge, purgeH, purgeB, purgeE, hasName, name1, List.any_cons, List.any_nil, Md.isWr,
            pureV.pureP, Option.map, reduceIte, Nat.reduceEqDiff, Nat.reduceAdd, Nat.reduceMul, Nat.reduceLT, Nat.reduceLeDiff, List.mapM_cons, List.mapM_nil, Option.pure_def,
            Option.bind_eq_bind, Option.bind_some, implies_true, forall_const, beq_self_eq_true, decide_true, decide_false, eq_self, Int.reduceEq, Int.reduceLE, Int.reduceLT,
            if_true, if_false, fc54_0, fc54_1, fc54_2, Int.reduceAdd, Int.reduceSub, Int.reduceMul, Int.reduceNeg, Int.reducePow, Nat.reducePow, Int.reduceToNat, Nat.reduceSub,
            List.replicate, Nat.reduceBEq, wAs, wA, wC, zipW, noDupN, grpE, g_spec_l01VSame, g_spec_l02Same, grpC, en0, dc_en0, ↓b_pick, ePk_true, ePk_false]))
    all_goals (repeat (replace h := And.right h))
    all_goals first
      | (refine eA_wk (wk_norm (ks := [0, 1, 33, 34]) (ls := []) ?_) (eA_cast ?_ (ih _ _ _ h h0 h1)); (simp only [normOk, optIn, blkIn, nameIn,
      need_iff, h, grpS, grpD, grpF, grpL, eop, vop, bop, uop, fltop, convop, endOk, newE, new1, freshL, Md.isNew, outV, pureV, pureX, pure1, AV.cells, AV.one, storable, laid,
            refless, refless1, vload, loadC, storeC, vnil, vfaddr, vextract, flatT, flatE, flatC, vconv, vmm, vidxA, viaddrA, vfield, vlen, elemsOf, dF32, dF64, dI64, dU8, dBool,
            dStr, esOk, elemsS, vsliceX, bnd, ownV, ownC, own1, ownT, isSl, nSl, endL, Md.isOwn, purge, purgeH, purgeB, purgeE, hasName, name1, List.any_cons, List.any_nil, Md.isWr,
            pureV.pureP, Option.map, reduceIte, Nat.reduceEqDiff, Nat.reduceAdd, Nat.reduceMul, Nat.reduceLT, Nat.reduceLeDiff, List.mapM_cons, List.mapM_nil, Option.pure_def,
            Option.bind_eq_bind, Option.bind_some, implies_true, forall_const, beq_self_eq_true, decide_true, decide_false, eq_self, Int.reduceEq, Int.reduceLE, Int.reduceLT,
            if_true, if_false, fc54_0, fc54_1, fc54_2, Int.reduceAdd, Int.reduceSub, Int.reduceMul, Int.reduceNeg, Int.reducePow, Nat.reducePow, Int.reduceToNat, Nat.reduceSub,
            List.replicate, Nat.reduceBEq, wAs, wA, wC, zipW, noDupN, grpE, g_spec_l01VSame, g_spec_l02Same, grpC, en0, dc_en0, ↓b_pick, ePk_true, ePk_false] <;> rfl); (simp only [normS, List.map_append, List.length_append, List.map_set, List.length_set, List.map_replicate, List.length_replicate, List.map_nil, List.map_cons,
      need_iff, h, grpS, grpD, grpF, grpL, eop, vop, bop, uop, fltop, convop, endOk, newE, new1, freshL, Md.isNew, outV, pureV, pureX, pure1, AV.cells, AV.one, storable, laid,
            refless, refless1, vload, loadC, storeC, vnil, vfaddr, vextract, flatT, flatE, flatC, vconv, vmm, vidxA, viaddrA, vfield, vlen, elemsOf, dF32, dF64, dI64, dU8, dBool,
            dStr, esOk, elemsS, vsliceX, bnd, ownV, ownC, own1, ownT, isSl, nSl, endL, Md.isOwn, purge, purgeH, purgeB, purgeE, hasName, name1, List.any_cons, List.any_nil, Md.isWr,
            pureV.pureP, Option.map, reduceIte, Nat.reduceEqDiff, Nat.reduceAdd, Nat.reduceMul, Nat.reduceLT, Nat.reduceLeDiff, List.mapM_cons, List.mapM_nil, Option.pure_def,
            Option.bind_eq_bind, Option.bind_some, implies_true, forall_const, beq_self_eq_true, decide_true, decide_false, eq_self, Int.reduceEq, Int.reduceLE, Int.reduceLT,
            if_true, if_false, fc54_0, fc54_1, fc54_2, Int.reduceAdd, Int.reduceSub, Int.reduceMul, Int.reduceNeg, Int.reducePow, Nat.reducePow, Int.reduceToNat, Nat.reduceSub,
            List.replicate, Nat.reduceBEq, wAs, wA, wC, zipW, noDupN, grpE, g_spec_l01VSame, g_spec_l02Same, grpC, en0, dc_en0, ↓b_pick, ePk_true, ePk_false] <;> rfl))
      | (cases h; refine h0 _ rfl ?_; simp only [
      grpS, grpD, grpF, grpL, eop, vop, bop, uop, fltop, convop, endOk, newE, new1, freshL, Md.isNew, outV, pureV, pureX, pure1, AV.cells, AV.one, storable, laid, refless, refless1,
            vload, loadC, storeC, vnil, vfaddr, vextract, flatT, flatE, flatC, vconv, vmm, vidxA, viaddrA, vfield, vlen, elemsOf, dF32, dF64, dI64, dU8, dBool, dStr, esOk, elemsS,
            vsliceX, bnd, ownV, ownC, own1, ownT, isSl, nSl, endL, Md.isOwn, purge, purgeH, purgeB, purgeE, hasName, name1, List.any_cons, List.any_nil, Md.isWr, pureV.pureP,
            Option.map, reduceIte, Nat.reduceEqDiff, Nat.reduceAdd, Nat.reduceMul, Nat.reduceLT, Nat.reduceLeDiff, List.mapM_cons, List.mapM_nil, Option.pure_def,
            Option.bind_eq_bind, Option.bind_some, implies_true, forall_const, beq_self_eq_true, decide_true, decide_false, eq_self, Int.reduceEq, Int.reduceLE, Int.reduceLT,
            if_true, if_false, fc54_0, fc54_1, fc54_2, Int.reduceAdd, Int.reduceSub, Int.reduceMul, Int.reduceNeg, Int.reducePow, Nat.reducePow, Int.reduceToNat, Nat.reduceSub,
            List.replicate, Nat.reduceBEq, wAs, wA, wC, zipW, noDupN, grpE, g_spec_l01VSame, g_spec_l02Same, grpC, en0, dc_en0, ↓b_pick, ePk_true, ePk_false])
      | (cases h; refine h1 _ rfl (Wk.cast (wk_norm (ks := []) (ls := []) ?_) ?_); (simp only [normOk, optIn, blkIn, nameIn,
      grpS, grpD, grpF, grpL, eop, vop, bop, uop, fltop, convop, endOk, newE, new1, freshL, Md.isNew, outV, pureV, pureX, pure1, AV.cells, AV.one, storable, laid, refless, refless1,
            vload, loadC, storeC, vnil, vfaddr, vextract, flatT, flatE, flatC, vconv, vmm, vidxA, viaddrA, vfield, vlen, elemsOf, dF32, dF64, dI64, dU8, dBool, dStr, esOk, elemsS,
            vsliceX, bnd, ownV, ownC, own1, ownT, isSl, nSl, endL, Md.isOwn, purge, purgeH, purgeB, purgeE, hasName, name1, List.any_cons, List.any_nil, Md.isWr, pureV.pureP,
            Option.map, reduceIte, Nat.reduceEqDiff, Nat.reduceAdd, Nat.reduceMul, Nat.reduceLT, Nat.reduceLeDiff, List.mapM_cons, List.mapM_nil, Option.pure_def,
            Option.bind_eq_bind, Option.bind_some, implies_true, forall_const, beq_self_eq_true, decide_true, decide_false, eq_self, Int.reduceEq, Int.reduceLE, Int.reduceLT,
            if_true, if_false, fc54_0, fc54_1, fc54_2, Int.reduceAdd, Int.reduceSub, Int.reduceMul, Int.reduceNeg, Int.reducePow, Nat.reducePow, Int.reduceToNat, Nat.reduceSub,
            List.replicate, Nat.reduceBEq, wAs, wA, wC, zipW, noDupN, grpE, g_spec_l01VSame, g_spec_l02Same, grpC, en0, dc_en0, ↓b_pick, ePk_true, ePk_false] <;> rfl); (simp only [normS, List.map_append, List.length_append, List.map_set, List.length_set, List.map_replicate, List.length_replicate,
      grpS, grpD, grpF, grpL, eop, vop, bop, uop, fltop, convop, endOk, newE, new1, freshL, Md.isNew, outV, pureV, pureX, pure1, AV.cells, AV.one, storable, laid, refless, refless1,
            vload, loadC, storeC, vnil, vfaddr, vextract, flatT, flatE, flatC, vconv, vmm, vidxA, viaddrA, vfield, vlen, elemsOf, dF32, dF64, dI64, dU8, dBool, dStr, esOk, elemsS,
            vsliceX, bnd, ownV, ownC, own1, ownT, isSl, nSl, endL, Md.isOwn, purge, purgeH, purgeB, purgeE, hasName, name1, List.any_cons, List.any_nil, Md.isWr, pureV.pureP,
            Option.map, reduceIte, Nat.reduceEqDiff, Nat.reduceAdd, Nat.reduceMul, Nat.reduceLT, Nat.reduceLeDiff, List.mapM_cons, List.mapM_nil, Option.pure_def,
            Option.bind_eq_bind, Option.bind_some, implies_true, forall_const, beq_self_eq_true, decide_true, decide_false, eq_self, Int.reduceEq, Int.reduceLE, Int.reduceLT,
            if_true, if_false, fc54_0, fc54_1, fc54_2, Int.reduceAdd, Int.reduceSub, Int.reduceMul, Int.reduceNeg, Int.reducePow, Nat.reducePow, Int.reduceToNat, Nat.reduceSub,
            List.replicate, Nat.reduceBEq, wAs, wA, wC, zipW, noDupN, grpE, g_spec_l01VSame, g_spec_l02Same, grpC, en0, dc_en0, ↓b_pick, ePk_true, ePk_false] <;> rfl))
theorem s54 : ∀ vs r, g_spec_l03Same vs = some r → SaysM Try.prog .any 54 vs r := by
  intro vs r h
  unfold g_spec_l03Same at h
  split at h
  · rename_i y0 y1 y2 w3 y4 y5 y6 w7
    cases hd_y3 : decL dc_en0 w3 with
    | none => rw [hd_y3] at h; cases h
    | some y3 =>
    rw [hd_y3] at h
    obtain rfl := decL_inv dc_en0_inv hd_y3
    clear hd_y3
    dsimp only at h
    cases hd_y7 : decL dc_en0 w7 with
    | none => rw [hd_y7] at h; cases h
    | some y7 =>
    rw [hd_y7] at h
    obtain rfl := decL_inv dc_en0_inv hd_y7
    clear hd_y7
    dsimp only at h
    split at h
    · rename_i hp
      cases h
      refine spec_of (m := .any) (tab := tabOf [(77, wM .any g_spec_l01VSame), (78, wM .any g_spec_l02Same)]) (cp := cp54) (ic := ic54) (rvl := [(.t 4)]) hm (tabOk_cons (m := .any) s77 (tabOk_cons (m := .any) s78 tabOk_nil)) Try.func54 rfl rfl rfl (by kernel_rfl) rfl (Nat.le_of_ble_eq_true rfl) (Nat.le_of_ble_eq_true rfl) ?_
      show eA _ _ _ _
      unfold ic54
      simp only [p_spec_l03Same, Bool.and_eq_true, Bool.or_eq_true, decide_eq_true_eq, Bool.not_eq_true', decide_eq_false_iff_not] at hp
      simp only [
          hp, grpS, grpD, grpF, grpL, eop, vop, bop, uop, fltop, convop, endOk, newE, new1, freshL, Md.isNew, outV, pureV, pureX, pure1, AV.cells, AV.one, storable, laid, refless,
                refless1, vload, loadC, storeC, vnil, vfaddr, vextract, flatT, flatE, flatC, vconv, vmm, vidxA, viaddrA, vfield, vlen, elemsOf, dF32, dF64, dI64, dU8, dBool, dStr,
                esOk, elemsS, vsliceX, bnd, ownV, ownC, own1, ownT, isSl, nSl, endL, Md.isOwn, purge, purgeH, purgeB, purgeE, hasName, name1, List.any_cons, List.any_nil, Md.isWr,
                pureV.pureP, Option.map, reduceIte, Nat.reduceEqDiff, Nat.reduceAdd, Nat.reduceMul, Nat.reduceLT, Nat.reduceLeDiff, List.mapM_cons, List.mapM_nil, Option.pure_def,
                Option.bind_eq_bind, Option.bind_some, implies_true, forall_const, beq_self_eq_true, decide_true, decide_false, eq_self, Int.reduceEq, Int.reduceLE, Int.reduceLT,
                if_true, if_false, fc54_0, fc54_1, fc54_2, Int.reduceAdd, Int.reduceSub, Int.reduceMul, Int.reduceNeg, Int.reducePow, Nat.reducePow, Int.reduceToNat, Nat.reduceSub,
                List.replicate, Nat.reduceBEq, wAs, wA, wC, zipW, noDupN, grpE, g_spec_l01VSame, g_spec_l02Same, grpC, en0, dc_en0, ↓b_pick, ePk_true, ePk_false]
      repeat' (first
        | ((first | (refine eGI_of (fun h => ?_) (fun h => ?_)) | (refine eCc_of (fun h => ?_) (fun h => ?_)) | (refine ePk_of (fun h => ?_) (fun h => ?_)) | (have h := True.intro; refine KW_refl ?_)) <;> (try simp only [Bool.not_eq_true', Bool.not_eq_false'] at h) <;> (try simp only [h, reduceCtorEq, Bool.not_eq_true', decide_eq_false_iff_not, Bool.not_true, Bool.not_false, Bool.false_or, Bool.true_or, Bool.true_and, Bool.false_and, Bool.and_eq_true, Bool.or_eq_true, if_true, if_false, reduceIte, Bool.false_eq_true, and_true, true_and, false_or, or_false, decide_eq_true_eq, not_false_eq_true, not_true_eq_false] at hp) <;> (try (have h2 := h; simp only [decide_eq_true_eq, decide_eq_false_iff_not] at h2; (first | (replace h2 := eq_false h2) | (replace h2 := eq_true h2)); simp only [h2, if_true, if_false, false_or, true_or, or_true, or_false, and_true, true_and, not_false_eq_true, not_true_eq_false] at hp)) <;> simp only [h,
          hp, grpS, grpD, grpF, grpL, eop, vop, bop, uop, fltop, convop, endOk, newE, new1, freshL, Md.isNew, outV, pureV, pureX, pure1, AV.cells, AV.one, storable, laid, refless,
                refless1, vload, loadC, storeC, vnil, vfaddr, vextract, flatT, flatE, flatC, vconv, vmm, vidxA, viaddrA, vfield, vlen, elemsOf, dF32, dF64, dI64, dU8, dBool, dStr,
                esOk, elemsS, vsliceX, bnd, ownV, ownC, own1, ownT, isSl, nSl, endL, Md.isOwn, purge, purgeH, purgeB, purgeE, hasName, name1, List.any_cons, List.any_nil, Md.isWr,
                pureV.pureP, Option.map, reduceIte, Nat.reduceEqDiff, Nat.reduceAdd, Nat.reduceMul, Nat.reduceLT, Nat.reduceLeDiff, List.mapM_cons, List.mapM_nil, Option.pure_def,
                Option.bind_eq_bind, Option.bind_some, implies_true, forall_const, beq_self_eq_true, decide_true, decide_false, eq_self, Int.reduceEq, Int.reduceLE, Int.reduceLT,
                if_true, if_false, fc54_0, fc54_1, fc54_2, Int.reduceAdd, Int.reduceSub, Int.reduceMul, Int.reduceNeg, Int.reducePow, Nat.reducePow, Int.reduceToNat, Nat.reduceSub,
                List.replicate, Nat.reduceBEq, wAs, wA, wC, zipW, noDupN, grpE, g_spec_l01VSame, g_spec_l02Same, grpC, en0, dc_en0, ↓b_pick, ePk_true, ePk_false])
        | (refine eA_wk (wk_norm (ks := [0, 1, 33, 34]) (ls := []) ?_) (eA_cast ?_ (sl54_0 (y0, y1, y2, y3) (y4, y5, y6, y7) _ _ _ _ (getD_some (d := default) (x := (l_spec_l03Same_0 (y0, y1, y2, y3) (y4, y5, y6, y7) (Int.toNat (((List.length (y0, y1, y2, y3).2.2.2 : Nat) : Int) - 0) + 2) 0)) ?_) ?_ ?_)); (simp only [nilS, nilV, normOk, optIn, blkIn, nameIn, 
          hp, grpS, grpD, grpF, grpL, eop, vop, bop, uop, fltop, convop, endOk, newE, new1, freshL, Md.isNew, outV, pureV, pureX, pure1, AV.cells, AV.one, storable, laid, refless,
                refless1, vload, loadC, storeC, vnil, vfaddr, vextract, flatT, flatE, flatC, vconv, vmm, vidxA, viaddrA, vfield, vlen, elemsOf, dF32, dF64, dI64, dU8, dBool, dStr,
                esOk, elemsS, vsliceX, bnd, ownV, ownC, own1, ownT, isSl, nSl, endL, Md.isOwn, purge, purgeH, purgeB, purgeE, hasName, name1, List.any_cons, List.any_nil, Md.isWr,
                pureV.pureP, Option.map, reduceIte, Nat.reduceEqDiff, Nat.reduceAdd, Nat.reduceMul, Nat.reduceLT, Nat.reduceLeDiff, List.mapM_cons, List.mapM_nil, Option.pure_def,
                Option.bind_eq_bind, Option.bind_some, implies_true, forall_const, beq_self_eq_true, decide_true, decide_false, eq_self, Int.reduceEq, Int.reduceLE, Int.reduceLT,
                if_true, if_false, fc54_0, fc54_1, fc54_2, Int.reduceAdd, Int.reduceSub, Int.reduceMul, Int.reduceNeg, Int.reducePow, Nat.reducePow, Int.reduceToNat, Nat.reduceSub,
                List.replicate, Nat.reduceBEq, wAs, wA, wC, zipW, noDupN, grpE, g_spec_l01VSame, g_spec_l02Same, grpC, en0, dc_en0, ↓b_pick, ePk_true, ePk_false] <;> rfl); (simp only [nilS, nilV, normS,  List.map_append, List.length_append, List.map_set, List.length_set, List.map_replicate, List.length_replicate, List.map_nil, List.map_cons,
          hp, grpS, grpD, grpF, grpL, eop, vop, bop, uop, fltop, convop, endOk, newE, new1, freshL, Md.isNew, outV, pureV, pureX, pure1, AV.cells, AV.one, storable, laid, refless,
                refless1, vload, loadC, storeC, vnil, vfaddr, vextract, flatT, flatE, flatC, vconv, vmm, vidxA, viaddrA, vfield, vlen, elemsOf, dF32, dF64, dI64, dU8, dBool, dStr,
                esOk, elemsS, vsliceX, bnd, ownV, ownC, own1, ownT, isSl, nSl, endL, Md.isOwn, purge, purgeH, purgeB, purgeE, hasName, name1, List.any_cons, List.any_nil, Md.isWr,
                pureV.pureP, Option.map, reduceIte, Nat.reduceEqDiff, Nat.reduceAdd, Nat.reduceMul, Nat.reduceLT, Nat.reduceLeDiff, List.mapM_cons, List.mapM_nil, Option.pure_def,
                Option.bind_eq_bind, Option.bind_some, implies_true, forall_const, beq_self_eq_true, decide_true, decide_false, eq_self, Int.reduceEq, Int.reduceLE, Int.reduceLT,
                if_true, if_false, fc54_0, fc54_1, fc54_2, Int.reduceAdd, Int.reduceSub, Int.reduceMul, Int.reduceNeg, Int.reducePow, Nat.reducePow, Int.reduceToNat, Nat.reduceSub,
                List.replicate, Nat.reduceBEq, wAs, wA, wC, zipW, noDupN, grpE, g_spec_l01VSame, g_spec_l02Same, grpC, en0, dc_en0, ↓b_pick, ePk_true, ePk_false] <;> rfl); (simp only [hp]); (
        intro st2 ht hw; simp only [Kq_ret, Kb_ret, Kl_ret, ret_ok]; first | exact h0 _ hw | exact h0 _ rfl hw | exact h1 _ rfl hw | exact h0 _ ht hw | exact h1 _ ht hw | refine ⟨_, hw, ?_⟩); rotate_left; (
        intro st2 ht hw; (try simp only [ht, reduceCtorEq, Bool.not_eq_true', decide_eq_false_iff_not, Bool.not_true, Bool.not_false, Bool.false_or, Bool.true_or, Bool.true_and, Bool.false_and, Bool.and_eq_true, Bool.or_eq_true, if_true, if_false, reduceIte, Bool.false_eq_true, and_true, true_and, false_or, or_false, decide_eq_true_eq, not_false_eq_true, not_true_eq_false] at hp); simp only [
          hp, grpS, grpD, grpF, grpL, eop, vop, bop, uop, fltop, convop, endOk, newE, new1, freshL, Md.isNew, outV, pureV, pureX, pure1, AV.cells, AV.one, storable, laid, refless,
                refless1, vload, loadC, storeC, vnil, vfaddr, vextract, flatT, flatE, flatC, vconv, vmm, vidxA, viaddrA, vfield, vlen, elemsOf, dF32, dF64, dI64, dU8, dBool, dStr,
                esOk, elemsS, vsliceX, bnd, ownV, ownC, own1, ownT, isSl, nSl, endL, Md.isOwn, purge, purgeH, purgeB, purgeE, hasName, name1, List.any_cons, List.any_nil, Md.isWr,
                pureV.pureP, Option.map, reduceIte, Nat.reduceEqDiff, Nat.reduceAdd, Nat.reduceMul, Nat.reduceLT, Nat.reduceLeDiff, List.mapM_cons, List.mapM_nil, Option.pure_def,
                Option.bind_eq_bind, Option.bind_some, implies_true, forall_const, beq_self_eq_true, decide_true, decide_false, eq_self, Int.reduceEq, Int.reduceLE, Int.reduceLT,
                if_true, if_false, fc54_0, fc54_1, fc54_2, Int.reduceAdd, Int.reduceSub, Int.reduceMul, Int.reduceNeg, Int.reducePow, Nat.reducePow, Int.reduceToNat, Nat.reduceSub,
                List.replicate, Nat.reduceBEq, wAs, wA, wC, zipW, noDupN, grpE, g_spec_l01VSame, g_spec_l02Same, grpC, en0, dc_en0, ↓b_pick, ePk_true, ePk_false]; refine KW_of hw ?_; simp only [ht, 
          hp, grpS, grpD, grpF, grpL, eop, vop, bop, uop, fltop, convop, endOk, newE, new1, freshL, Md.isNew, outV, pureV, pureX, pure1, AV.cells, AV.one, storable, laid, refless,
                refless1, vload, loadC, storeC, vnil, vfaddr, vextract, flatT, flatE, flatC, vconv, vmm, vidxA, viaddrA, vfield, vlen, elemsOf, dF32, dF64, dI64, dU8, dBool, dStr,
                esOk, elemsS, vsliceX, bnd, ownV, ownC, own1, ownT, isSl, nSl, endL, Md.isOwn, purge, purgeH, purgeB, purgeE, hasName, name1, List.any_cons, List.any_nil, Md.isWr,
                pureV.pureP, Option.map, reduceIte, Nat.reduceEqDiff, Nat.reduceAdd, Nat.reduceMul, Nat.reduceLT, Nat.reduceLeDiff, List.mapM_cons, List.mapM_nil, Option.pure_def,
                Option.bind_eq_bind, Option.bind_some, implies_true, forall_const, beq_self_eq_true, decide_true, decide_false, eq_self, Int.reduceEq, Int.reduceLE, Int.reduceLT,
                if_true, if_false, fc54_0, fc54_1, fc54_2, Int.reduceAdd, Int.reduceSub, Int.reduceMul, Int.reduceNeg, Int.reducePow, Nat.reducePow, Int.reduceToNat, Nat.reduceSub,
                List.replicate, Nat.reduceBEq, wAs, wA, wC, zipW, noDupN, grpE, g_spec_l01VSame, g_spec_l02Same, grpC, en0, dc_en0, ↓b_pick, ePk_true, ePk_false])))
      all_goals (try simp only [*, m_spec_l03Same, Bool.and_true, Bool.true_and, Bool.and_false, Bool.false_and, Bool.or_true, Bool.true_or, Bool.or_false, Bool.false_or, Bool.not_true, Bool.not_false, Bool.false_eq_true, if_true, if_false, reduceIte, decide_true, decide_false])
      all_goals (try (simp_all; done))
    · cases h
  · cases h
def m_spec_SamePose (x0 : (Nat × Nat × Nat × (List (Nat × Nat × Nat × Nat)))) (x1 : (Nat × Nat × Nat × (List (Nat × Nat × Nat × Nat)))) : Bool := (m_spec_l03Same x0 x1)
def p_spec_SamePose (x0 : (Nat × Nat × Nat × (List (Nat × Nat × Nat × Nat)))) (x1 : (Nat × Nat × Nat × (List (Nat × Nat × Nat × Nat)))) : Bool := (p_spec_l03Same x0 x1)
def g_spec_SamePose : List AV → Option AV
  | [.agg [.flt .f32 y0, .flt .f32 y1, .flt .f32 y2, .sl w3], .agg [.flt .f32 y4, .flt .f32 y5, .flt .f32 y6, .sl w7]] => (match decL dc_en0 w3 with | some y3 => ((match decL dc_en0 w7 with | some y7 => (if p_spec_SamePose (y0, y1, y2, y3) (y4, y5, y6, y7) = true then some (.bool (m_spec_SamePose (y0, y1, y2, y3) (y4, y5, y6, y7))) else none) | none => none)) | none => none)
  | _ => none
def ic23 : ICode := (.seq (.reg [⟨(some 2), none, (.box 4 (.t 0))⟩, ⟨(some 3), none, (.box 4 (.t 1))⟩, ⟨(some 4), none, (.mov (.c (.bool false)))⟩] [2, 3]) (.seq (.reg [⟨(some 5),
      none, (.call (.fn 54) [(.t 2), (.t 3)] [])⟩, ⟨(some 4), none, (.mov (.t 5))⟩] [4]) .ret))
def cp23 : CP := CP.mk [] [] [[2, 3], [4]] 6
theorem fc23_0 : IntKind.wrap .i64 1 = 1 := by decide
theorem fc23_1 : IntKind.wrap .i64 2 = 2 := by decide
theorem fc23_2 : IntKind.wrap .i64 3 = 3 := by decide
theorem s23 : ∀ vs r, g_spec_SamePose vs = some r → SaysM Try.prog .any 23 vs r := by
  intro vs r h
  unfold g_spec_SamePose at h
  split at h
  · rename_i y0 y1 y2 w3 y4 y5 y6 w7
    cases hd_y3 : decL dc_en0 w3 with
    | none => rw [hd_y3] at h; cases h
    | some y3 =>
    rw [hd_y3] at h
    obtain rfl := decL_inv dc_en0_inv hd_y3
    clear hd_y3
    dsimp only at h
    cases hd_y7 : decL dc_en0 w7 with
    | none => rw [hd_y7] at h; cases h
    | some y7 =>
    rw [hd_y7] at h
    obtain rfl := decL_inv dc_en0_inv hd_y7
    clear hd_y7
    dsimp only at h
    split at h
    · rename_i hp
      cases h
      refine spec_of (m := .any) (tab := tabOf [(54, wM .any g_spec_l03Same)]) (cp := cp23) (ic := ic23) (rvl := [(.t 4)]) hm (tabOk_cons (m := .any) s54 tabOk_nil) Try.func23 rfl rfl rfl (by kernel_rfl) rfl (Nat.le_of_ble_eq_true rfl) (Nat.le_of_ble_eq_true rfl) ?_
      show eA _ _ _ _
      unfold ic23
      simp only [p_spec_SamePose, Bool.and_eq_true, Bool.or_eq_true, decide_eq_true_eq, Bool.not_eq_true', decide_eq_false_iff_not] at hp
      simp only [
          hp, grpS, grpD, grpF, grpL, eop, vop, bop, uop, fltop, convop, endOk, newE, new1, freshL, Md.isNew, outV, pureV, pureX, pure1, AV.cells, AV.one, storable, laid, refless,
                refless1, vload, loadC, storeC, vnil, vfaddr, vextract, flatT, flatE, flatC, vconv, vmm, vidxA, viaddrA, vfield, vlen, elemsOf, dF32, dF64, dI64, dU8, dBool, dStr,
                esOk, elemsS, vsliceX, bnd, ownV, ownC, own1, ownT, isSl, nSl, endL, Md.isOwn, purge, purgeH, purgeB, purgeE, hasName, name1, List.any_cons, List.any_nil, Md.isWr,
                pureV.pureP, Option.map, reduceIte, Nat.reduceEqDiff, Nat.reduceAdd, Nat.reduceMul, Nat.reduceLT, Nat.reduceLeDiff, List.mapM_cons, List.mapM_nil, Option.pure_def,
                Option.bind_eq_bind, Option.bind_some, implies_true, forall_const, beq_self_eq_true, decide_true, decide_false, eq_self, Int.reduceEq, Int.reduceLE, Int.reduceLT,
                if_true, if_false, fc23_0, fc23_1, fc23_2, Int.reduceAdd, Int.reduceSub, Int.reduceMul, Int.reduceNeg, Int.reducePow, Nat.reducePow, Int.reduceToNat, Nat.reduceSub,
                List.replicate, Nat.reduceBEq, wAs, wA, wC, zipW, noDupN, grpE, g_spec_l03Same, grpC, en0, dc_en0]
      repeat' (first
        | ((first | (refine eGI_of (fun h => ?_) (fun h => ?_)) | (refine eCc_of (fun h => ?_) (fun h => ?_))) <;> (try simp only [Bool.not_eq_true', Bool.not_eq_false'] at h) <;> (try simp only [h, reduceCtorEq, Bool.not_eq_true', decide_eq_false_iff_not, Bool.not_true, Bool.not_false, Bool.false_or, Bool.true_or, Bool.true_and, Bool.false_and, Bool.and_eq_true, Bool.or_eq_true, if_true, if_false, reduceIte, Bool.false_eq_true, and_true, true_and, false_or, or_false, decide_eq_true_eq, not_false_eq_true, not_true_eq_false] at hp) <;> (try (have h2 := h; simp only [decide_eq_true_eq, decide_eq_false_iff_not] at h2; (first | (replace h2 := eq_false h2) | (replace h2 := eq_true h2)); simp only [h2, if_true, if_false, false_or, true_or, or_true, or_false, and_true, true_and, not_false_eq_true, not_true_eq_false] at hp)) <;> simp only [h,
          hp, grpS, grpD, grpF, grpL, eop, vop, bop, uop, fltop, convop, endOk, newE, new1, freshL, Md.isNew, outV, pureV, pureX, pure1, AV.cells, AV.one, storable, laid, refless,
                refless1, vload, loadC, storeC, vnil, vfaddr, vextract, flatT, flatE, flatC, vconv, vmm, vidxA, viaddrA, vfield, vlen, elemsOf, dF32, dF64, dI64, dU8, dBool, dStr,
                esOk, elemsS, vsliceX, bnd, ownV, ownC, own1, ownT, isSl, nSl, endL, Md.isOwn, purge, purgeH, purgeB, purgeE, hasName, name1, List.any_cons, List.any_nil, Md.isWr,
                pureV.pureP, Option.map, reduceIte, Nat.reduceEqDiff, Nat.reduceAdd, Nat.reduceMul, Nat.reduceLT, Nat.reduceLeDiff, List.mapM_cons, List.mapM_nil, Option.pure_def,
                Option.bind_eq_bind, Option.bind_some, implies_true, forall_const, beq_self_eq_true, decide_true, decide_false, eq_self, Int.reduceEq, Int.reduceLE, Int.reduceLT,
                if_true, if_false, fc23_0, fc23_1, fc23_2, Int.reduceAdd, Int.reduceSub, Int.reduceMul, Int.reduceNeg, Int.reducePow, Nat.reducePow, Int.reduceToNat, Nat.reduceSub,
                List.replicate, Nat.reduceBEq, wAs, wA, wC, zipW, noDupN, grpE, g_spec_l03Same, grpC, en0, dc_en0]))
      all_goals (try simp only [*, m_spec_SamePose, Bool.and_true, Bool.true_and, Bool.and_false, Bool.false_and, Bool.or_true, Bool.true_or, Bool.or_false, Bool.false_or, Bool.not_true, Bool.not_false, Bool.false_eq_true, if_true, if_false, reduceIte, decide_true, decide_false])
      all_goals (try (simp_all; done))
    · cases h
  · cases h
theorem s88 : ∀ vs r, g_f64bits vs = some r → SaysM Try.prog .any 88 vs r := t_f64bits Try.func88 (by kernel_rfl) rfl (by kernel_rfl) (by kernel_rfl)
def m_math_Signbit (x0 : Nat) : Bool := (decide ((IntKind.wrap .i64 ((x0 : Nat) : Int)) < 0))
def p_math_Signbit (x0 : Nat) : Bool := (feq .f64 x0 x0)
def g_math_Signbit : List AV → Option AV
  | [.flt .f64 y0] => if p_math_Signbit y0 = true then some (.bool (m_math_Signbit y0)) else none
  | _ => none
def ic86 : ICode := (.seq (.reg [⟨(some 2), none, (.mov (.c (.bool false)))⟩] [0]) (.seq (.reg [⟨(some 3), none, (.mov (.t 0))⟩, ⟨(some 4), none, (.call (.fn 88) [(.t 3)] [])⟩,
      ⟨(some 5), none, (.conv (.int .i64) (.t 4))⟩, ⟨(some 6), none, (.bin .lss false (.t 5) (.c (.int .i64 0)))⟩, ⟨(some 2), none, (.mov (.t 6))⟩] [2]) .ret))
def cp86 : CP := CP.mk [] [] [[0], [2]] 7
theorem fc86_0 : IntKind.wrap .i64 1 = 1 := by decide
theorem fc86_1 : IntKind.wrap .i64 2 = 2 := by decide
theorem fc86_2 : IntKind.wrap .i64 3 = 3 := by decide
theorem s86 : ∀ vs r, g_math_Signbit vs = some r → SaysM Try.prog .any 86 vs r := by
  intro vs r h
  unfold g_math_Signbit at h
  split at h
  · rename_i y0
    split at h
    · rename_i hp
      cases h
      refine spec_of (m := .any) (tab := tabOf [(88, wM .any g_f64bits)]) (cp := cp86) (ic := ic86) (rvl := [(.t 2)]) hm (tabOk_cons (m := .any) s88 tabOk_nil) Try.func86 rfl rfl rfl (by kernel_rfl) rfl (Nat.le_of_ble_eq_true rfl) (Nat.le_of_ble_eq_true rfl) ?_
      show eA _ _ _ _
      unfold ic86
      simp only [p_math_Signbit, Bool.and_eq_true, Bool.or_eq_true, decide_eq_true_eq, Bool.not_eq_true', decide_eq_false_iff_not] at hp
      simp only [
          hp, grpS, grpD, grpF, grpL, eop, vop, bop, uop, fltop, convop, endOk, newE, new1, freshL, Md.isNew, outV, pureV, pureX, pure1, AV.cells, AV.one, storable, laid, refless,
                refless1, vload, loadC, storeC, vnil, vfaddr, vextract, flatT, flatE, flatC, vconv, vmm, vidxA, viaddrA, vfield, vlen, elemsOf, dF32, dF64, dI64, dU8, dBool, dStr,
                esOk, elemsS, vsliceX, bnd, ownV, ownC, own1, ownT, isSl, nSl, endL, Md.isOwn, purge, purgeH, purgeB, purgeE, hasName, name1, List.any_cons, List.any_nil, Md.isWr,
                pureV.pureP, Option.map, reduceIte, Nat.reduceEqDiff, Nat.reduceAdd, Nat.reduceMul, Nat.reduceLT, Nat.reduceLeDiff, List.mapM_cons, List.mapM_nil, Option.pure_def,
                Option.bind_eq_bind, Option.bind_some, implies_true, forall_const, beq_self_eq_true, decide_true, decide_false, eq_self, Int.reduceEq, Int.reduceLE, Int.reduceLT,
                if_true, if_false, fc86_0, fc86_1, fc86_2, Int.reduceAdd, Int.reduceSub, Int.reduceMul, Int.reduceNeg, Int.reducePow, Nat.reducePow, Int.reduceToNat, Nat.reduceSub,
                List.replicate, Nat.reduceBEq, wAs, wA, wC, zipW, noDupN, grpE, g_f64bits, grpC, en0, dc_en0]
      repeat' (first
        | ((first | (refine eGI_of (fun h => ?_) (fun h => ?_)) | (refine eCc_of (fun h => ?_) (fun h => ?_))) <;> (try simp only [Bool.not_eq_true', Bool.not_eq_false'] at h) <;> (try simp only [h, reduceCtorEq, Bool.not_eq_true', decide_eq_false_iff_not, Bool.not_true, Bool.not_false, Bool.false_or, Bool.true_or, Bool.true_and, Bool.false_and, Bool.and_eq_true, Bool.or_eq_true, if_true, if_false, reduceIte, Bool.false_eq_true, and_true, true_and, false_or, or_false, decide_eq_true_eq, not_false_eq_true, not_true_eq_false] at hp) <;> (try (have h2 := h; simp only [decide_eq_true_eq, decide_eq_false_iff_not] at h2; (first | (replace h2 := eq_false h2) | (replace h2 := eq_true h2)); simp only [h2, if_true, if_false, false_or, true_or, or_true, or_false, and_true, true_and, not_false_eq_true, not_true_eq_false] at hp)) <;> simp only [h,
          hp, grpS, grpD, grpF, grpL, eop, vop, bop, uop, fltop, convop, endOk, newE, new1, freshL, Md.isNew, outV, pureV, pureX, pure1, AV.cells, AV.one, storable, laid, refless,
                refless1, vload, loadC, storeC, vnil, vfaddr, vextract, flatT, flatE, flatC, vconv, vmm, vidxA, viaddrA, vfield, vlen, elemsOf, dF32, dF64, dI64, dU8, dBool, dStr,
                esOk, elemsS, vsliceX, bnd, ownV, ownC, own1, ownT, isSl, nSl, endL, Md.isOwn, purge, purgeH, purgeB, purgeE, hasName, name1, List.any_cons, List.any_nil, Md.isWr,
                pureV.pureP, Option.map, reduceIte, Nat.reduceEqDiff, Nat.reduceAdd, Nat.reduceMul, Nat.reduceLT, Nat.reduceLeDiff, List.mapM_cons, List.mapM_nil, Option.pure_def,
                Option.bind_eq_bind, Option.bind_some, implies_true, forall_const, beq_self_eq_true, decide_true, decide_false, eq_self, Int.reduceEq, Int.reduceLE, Int.reduceLT,
                if_true, if_false, fc86_0, fc86_1, fc86_2, Int.reduceAdd, Int.reduceSub, Int.reduceMul, Int.reduceNeg, Int.reducePow, Nat.reducePow, Int.reduceToNat, Nat.reduceSub,
                List.replicate, Nat.reduceBEq, wAs, wA, wC, zipW, noDupN, grpE, g_f64bits, grpC, en0, dc_en0]))
      all_goals (try simp only [*, m_math_Signbit, Bool.and_true, Bool.true_and, Bool.and_false, Bool.false_and, Bool.or_true, Bool.true_or, Bool.or_false, Bool.false_or, Bool.not_true, Bool.not_false, Bool.false_eq_true, if_true, if_false, reduceIte, decide_true, decide_false])
      all_goals (try (simp_all; done))
    · cases h
  · cases h
def m_impl_SameNumber (x0 : Nat) (x1 : Nat) : Bool := (if (feq .f32 x0 x0) = true then (if (feq .f32 x1 x1) = true then (if (feq .f32 x0 x1) = true then ((m_math_Signbit (widen x0))
      == (m_math_Signbit (widen x1))) else false) else false) else (!(feq .f32 x1 x1)))
def p_impl_SameNumber (x0 : Nat) (x1 : Nat) : Bool := (!(feq .f32 x0 x0) || (!(feq .f32 x1 x1) || (!(feq .f32 x0 x1) || ((p_math_Signbit (widen x0)) && (p_math_Signbit (widen
      x1))))))
def g_impl_SameNumber : List AV → Option AV
  | [.flt .f32 y0, .flt .f32 y1] => if p_impl_SameNumber y0 y1 = true then some (.bool (m_impl_SameNumber y0 y1)) else none
  | _ => none
def ic80 : ICode := (.seq (.reg [⟨(some 4), none, (.mov (.c (.bool false)))⟩] [0, 1]) (.seq (.seq (.reg [⟨(some 5), none, (.mov (.t 0))⟩, ⟨(some 6), none, (.mov (.t 0))⟩, ⟨(some 7),
      none, (.bin .neq false (.t 5) (.t 6))⟩, ⟨(some 8), none, (.mov (.t 7))⟩, ⟨(some 9), (some (8, false)), (.mov (.t 1))⟩, ⟨(some 10), (some (8, false)), (.mov (.t 1))⟩, ⟨(some
      11), (some (8, false)), (.bin .neq false (.t 9) (.t 10))⟩, ⟨(some 12), none, (.pick (.t 8) (.c (.bool true)) (.t 11))⟩] [0, 1, 12]) (.cond (.t 12) (.seq (.reg [⟨(some 13),
      none, (.mov (.t 0))⟩, ⟨(some 14), none, (.mov (.t 0))⟩, ⟨(some 15), none, (.bin .neq false (.t 13) (.t 14))⟩, ⟨(some 16), none, (.mov (.t 15))⟩, ⟨(some 17), (some (16, true)),
      (.mov (.t 1))⟩, ⟨(some 18), (some (16, true)), (.mov (.t 1))⟩, ⟨(some 19), (some (16, true)), (.bin .neq false (.t 17) (.t 18))⟩, ⟨(some 20), none, (.pick (.t 16) (.t 19) (.c
      (.bool false)))⟩, ⟨(some 4), none, (.mov (.t 20))⟩] [4]) .ret) .skip)) (.seq (.reg [⟨(some 21), none, (.mov (.t 0))⟩, ⟨(some 22), none, (.mov (.t 1))⟩, ⟨(some 23), none, (.bin
      .eql false (.t 21) (.t 22))⟩, ⟨(some 24), none, (.mov (.t 23))⟩, ⟨(some 25), (some (24, true)), (.mov (.t 0))⟩, ⟨(some 26), (some (24, true)), (.conv (.flt .f64) (.t 25))⟩,
      ⟨(some 27), (some (24, true)), (.call (.fn 86) [(.t 26)] [])⟩, ⟨(some 28), (some (24, true)), (.mov (.t 1))⟩, ⟨(some 29), (some (24, true)), (.conv (.flt .f64) (.t 28))⟩,
      ⟨(some 30), (some (24, true)), (.call (.fn 86) [(.t 29)] [])⟩, ⟨(some 31), (some (24, true)), (.bin .eql true (.t 27) (.t 30))⟩, ⟨(some 32), none, (.pick (.t 24) (.t 31) (.c
      (.bool false)))⟩, ⟨(some 4), none, (.mov (.t 32))⟩] [4]) .ret)))
def cp80 : CP := CP.mk [] [] [[0, 1], [0, 1, 12], [4], [4]] 33
theorem fc80_0 : IntKind.wrap .i64 1 = 1 := by decide
theorem fc80_1 : IntKind.wrap .i64 2 = 2 := by decide
theorem fc80_2 : IntKind.wrap .i64 3 = 3 := by decide
theorem s80 : ∀ vs r, g_impl_SameNumber vs = some r → SaysM Try.prog .any 80 vs r := by
  intro vs r h
  unfold g_impl_SameNumber at h
  split at h
  · rename_i y0 y1
    split at h
    · rename_i hp
      cases h
      refine spec_of (m := .any) (tab := tabOf [(86, wM .any g_math_Signbit)]) (cp := cp80) (ic := ic80) (rvl := [(.t 4)]) hm (tabOk_cons (m := .any) s86 tabOk_nil) Try.func80 rfl rfl rfl (by kernel_rfl) rfl (Nat.le_of_ble_eq_true rfl) (Nat.le_of_ble_eq_true rfl) ?_
      show eA _ _ _ _
      unfold ic80
      simp only [p_impl_SameNumber, Bool.and_eq_true, Bool.or_eq_true, decide_eq_true_eq, Bool.not_eq_true', decide_eq_false_iff_not] at hp
      simp only [
          hp, grpS, grpD, grpF, grpL, eop, vop, bop, uop, fltop, convop, endOk, newE, new1, freshL, Md.isNew, outV, pureV, pureX, pure1, AV.cells, AV.one, storable, laid, refless,
                refless1, vload, loadC, storeC, vnil, vfaddr, vextract, flatT, flatE, flatC, vconv, vmm, vidxA, viaddrA, vfield, vlen, elemsOf, dF32, dF64, dI64, dU8, dBool, dStr,
                esOk, elemsS, vsliceX, bnd, ownV, ownC, own1, ownT, isSl, nSl, endL, Md.isOwn, purge, purgeH, purgeB, purgeE, hasName, name1, List.any_cons, List.any_nil, Md.isWr,
                pureV.pureP, Option.map, reduceIte, Nat.reduceEqDiff, Nat.reduceAdd, Nat.reduceMul, Nat.reduceLT, Nat.reduceLeDiff, List.mapM_cons, List.mapM_nil, Option.pure_def,
                Option.bind_eq_bind, Option.bind_some, implies_true, forall_const, beq_self_eq_true, decide_true, decide_false, eq_self, Int.reduceEq, Int.reduceLE, Int.reduceLT,
                if_true, if_false, fc80_0, fc80_1, fc80_2, Int.reduceAdd, Int.reduceSub, Int.reduceMul, Int.reduceNeg, Int.reducePow, Nat.reducePow, Int.reduceToNat, Nat.reduceSub,
                List.replicate, Nat.reduceBEq, wAs, wA, wC, zipW, noDupN, grpE, g_math_Signbit, grpC, en0, dc_en0, ↓b_pick, ePk_true, ePk_false]
      repeat' (first
        | ((first | (refine eGI_of (fun h => ?_) (fun h => ?_)) | (refine eCc_of (fun h => ?_) (fun h => ?_)) | (refine ePk_of (fun h => ?_) (fun h => ?_))) <;> (try simp only [Bool.not_eq_true', Bool.not_eq_false'] at h) <;> (try simp only [h, reduceCtorEq, Bool.not_eq_true', decide_eq_false_iff_not, Bool.not_true, Bool.not_false, Bool.false_or, Bool.true_or, Bool.true_and, Bool.false_and, Bool.and_eq_true, Bool.or_eq_true, if_true, if_false, reduceIte, Bool.false_eq_true, and_true, true_and, false_or, or_false, decide_eq_true_eq, not_false_eq_true, not_true_eq_false] at hp) <;> (try (have h2 := h; simp only [decide_eq_true_eq, decide_eq_false_iff_not] at h2; (first | (replace h2 := eq_false h2) | (replace h2 := eq_true h2)); simp only [h2, if_true, if_false, false_or, true_or, or_true, or_false, and_true, true_and, not_false_eq_true, not_true_eq_false] at hp)) <;> simp only [h,
          hp, grpS, grpD, grpF, grpL, eop, vop, bop, uop, fltop, convop, endOk, newE, new1, freshL, Md.isNew, outV, pureV, pureX, pure1, AV.cells, AV.one, storable, laid, refless,
                refless1, vload, loadC, storeC, vnil, vfaddr, vextract, flatT, flatE, flatC, vconv, vmm, vidxA, viaddrA, vfield, vlen, elemsOf, dF32, dF64, dI64, dU8, dBool, dStr,
                esOk, elemsS, vsliceX, bnd, ownV, ownC, own1, ownT, isSl, nSl, endL, Md.isOwn, purge, purgeH, purgeB, purgeE, hasName, name1, List.any_cons, List.any_nil, Md.isWr,
                pureV.pureP, Option.map, reduceIte, Nat.reduceEqDiff, Nat.reduceAdd, Nat.reduceMul, Nat.reduceLT, Nat.reduceLeDiff, List.mapM_cons, List.mapM_nil, Option.pure_def,
                Option.bind_eq_bind, Option.bind_some, implies_true, forall_const, beq_self_eq_true, decide_true, decide_false, eq_self, Int.reduceEq, Int.reduceLE, Int.reduceLT,
                if_true, if_false, fc80_0, fc80_1, fc80_2, Int.reduceAdd, Int.reduceSub, Int.reduceMul, Int.reduceNeg, Int.reducePow, Nat.reducePow, Int.reduceToNat, Nat.reduceSub,
                List.replicate, Nat.reduceBEq, wAs, wA, wC, zipW, noDupN, grpE, g_math_Signbit, grpC, en0, dc_en0, ↓b_pick, ePk_true, ePk_false]))
      all_goals (try simp only [*, m_impl_SameNumber, Bool.and_true, Bool.true_and, Bool.and_false, Bool.false_and, Bool.or_true, Bool.true_or, Bool.or_false, Bool.false_or, Bool.not_true, Bool.not_false, Bool.false_eq_true, if_true, if_false, reduceIte, decide_true, decide_false])
      all_goals (try (simp_all; done))
    · cases h
  · cases h
def m_impl_SameVector (x0 : (Nat × Nat × Nat)) (x1 : (Nat × Nat × Nat)) : Bool := (if (m_impl_SameNumber x0.1 x1.1) = true then (if (m_impl_SameNumber x0.2.1 x1.2.1) = true then
      (m_impl_SameNumber x0.2.2 x1.2.2) else false) else false)
def p_impl_SameVector (x0 : (Nat × Nat × Nat)) (x1 : (Nat × Nat × Nat)) : Bool := ((p_impl_SameNumber x0.1 x1.1) && (!(m_impl_SameNumber x0.1 x1.1) || ((p_impl_SameNumber x0.2.1
      x1.2.1) && (!(m_impl_SameNumber x0.2.1 x1.2.1) || (p_impl_SameNumber x0.2.2 x1.2.2)))))
def g_impl_SameVector : List AV → Option AV
  | [.agg [.flt .f32 y0, .flt .f32 y1, .flt .f32 y2], .agg [.flt .f32 y3, .flt .f32 y4, .flt .f32 y5]] => if p_impl_SameVector (y0, y1,
      y2) (y3, y4, y5) = true then some (.bool (m_impl_SameVector (y0, y1, y2) (y3, y4, y5))) else none
  | _ => none
def ic56 : ICode := (.seq (.reg [⟨(some 2), none, (.box 3 (.t 0))⟩, ⟨(some 3), none, (.box 3 (.t 1))⟩, ⟨(some 4), none, (.mov (.c (.bool false)))⟩] [2, 3]) (.seq (.reg [⟨(some 5),
      none, (.faddr 0 (.t 2))⟩, ⟨(some 6), none, (.load none (.t 5))⟩, ⟨(some 7), none, (.faddr 0 (.t 3))⟩, ⟨(some 8), none, (.load none (.t 7))⟩, ⟨(some 9), none, (.call (.fn 80)
      [(.t 6), (.t 8)] [])⟩, ⟨(some 10), none, (.mov (.t 9))⟩, ⟨(some 11), (some (10, true)), (.faddr 1 (.t 2))⟩, ⟨(some 12), (some (10, true)), (.load none (.t 11))⟩, ⟨(some 13),
      (some (10, true)), (.faddr 1 (.t 3))⟩, ⟨(some 14), (some (10, true)), (.load none (.t 13))⟩, ⟨(some 15), (some (10, true)), (.call (.fn 80) [(.t 12), (.t 14)] [])⟩, ⟨(some
      16), none, (.pick (.t 10) (.t 15) (.c (.bool false)))⟩, ⟨(some 17), none, (.mov (.t 16))⟩, ⟨(some 18), (some (17, true)), (.faddr 2 (.t 2))⟩, ⟨(some 19), (some (17, true)),
      (.load none (.t 18))⟩, ⟨(some 20), (some (17, true)), (.faddr 2 (.t 3))⟩, ⟨(some 21), (some (17, true)), (.load none (.t 20))⟩, ⟨(some 22), (some (17, true)), (.call (.fn 80)
      [(.t 19), (.t 21)] [])⟩, ⟨(some 23), none, (.pick (.t 17) (.t 22) (.c (.bool false)))⟩, ⟨(some 4), none, (.mov (.t 23))⟩] [4]) .ret))
def cp56 : CP := CP.mk [] [] [[2, 3], [4]] 24
theorem fc56_0 : IntKind.wrap .i64 1 = 1 := by decide
theorem fc56_1 : IntKind.wrap .i64 2 = 2 := by decide
theorem fc56_2 : IntKind.wrap .i64 3 = 3 := by decide
theorem s56 : ∀ vs r, g_impl_SameVector vs = some r → SaysM Try.prog .any 56 vs r := by
  intro vs r h
  unfold g_impl_SameVector at h
  split at h
  · rename_i y0 y1 y2 y3 y4 y5
    split at h
    · rename_i hp
      cases h
      refine spec_of (m := .any) (tab := tabOf [(80, wM .any g_impl_SameNumber)]) (cp := cp56) (ic := ic56) (rvl := [(.t 4)]) hm (tabOk_cons (m := .any) s80 tabOk_nil) Try.func56 rfl rfl rfl (by kernel_rfl) rfl (Nat.le_of_ble_eq_true rfl) (Nat.le_of_ble_eq_true rfl) ?_
      show eA _ _ _ _
      unfold ic56
      simp only [p_impl_SameVector, Bool.and_eq_true, Bool.or_eq_true, decide_eq_true_eq, Bool.not_eq_true', decide_eq_false_iff_not] at hp
      simp only [
          hp, grpS, grpD, grpF, grpL, eop, vop, bop, uop, fltop, convop, endOk, newE, new1, freshL, Md.isNew, outV, pureV, pureX, pure1, AV.cells, AV.one, storable, laid, refless,
                refless1, vload, loadC, storeC, vnil, vfaddr, vextract, flatT, flatE, flatC, vconv, vmm, vidxA, viaddrA, vfield, vlen, elemsOf, dF32, dF64, dI64, dU8, dBool, dStr,
                esOk, elemsS, vsliceX, bnd, ownV, ownC, own1, ownT, isSl, nSl, endL, Md.isOwn, purge, purgeH, purgeB, purgeE, hasName, name1, List.any_cons, List.any_nil, Md.isWr,
                pureV.pureP, Option.map, reduceIte, Nat.reduceEqDiff, Nat.reduceAdd, Nat.reduceMul, Nat.reduceLT, Nat.reduceLeDiff, List.mapM_cons, List.mapM_nil, Option.pure_def,
                Option.bind_eq_bind, Option.bind_some, implies_true, forall_const, beq_self_eq_true, decide_true, decide_false, eq_self, Int.reduceEq, Int.reduceLE, Int.reduceLT,
                if_true, if_false, fc56_0, fc56_1, fc56_2, Int.reduceAdd, Int.reduceSub, Int.reduceMul, Int.reduceNeg, Int.reducePow, Nat.reducePow, Int.reduceToNat, Nat.reduceSub,
                List.replicate, Nat.reduceBEq, wAs, wA, wC, zipW, noDupN, grpE, g_impl_SameNumber, grpC, en0, dc_en0, ↓b_pick, ePk_true, ePk_false]
      repeat' (first
        | ((first | (refine eGI_of (fun h => ?_) (fun h => ?_)) | (refine eCc_of (fun h => ?_) (fun h => ?_)) | (refine ePk_of (fun h => ?_) (fun h => ?_))) <;> (try simp only [Bool.not_eq_true', Bool.not_eq_false'] at h) <;> (try simp only [h, reduceCtorEq, Bool.not_eq_true', decide_eq_false_iff_not, Bool.not_true, Bool.not_false, Bool.false_or, Bool.true_or, Bool.true_and, Bool.false_and, Bool.and_eq_true, Bool.or_eq_true, if_true, if_false, reduceIte, Bool.false_eq_true, and_true, true_and, false_or, or_false, decide_eq_true_eq, not_false_eq_true, not_true_eq_false] at hp) <;> (try (have h2 := h; simp only [decide_eq_true_eq, decide_eq_false_iff_not] at h2; (first | (replace h2 := eq_false h2) | (replace h2 := eq_true h2)); simp only [h2, if_true, if_false, false_or, true_or, or_true, or_false, and_true, true_and, not_false_eq_true, not_true_eq_false] at hp)) <;> simp only [h,
          hp, grpS, grpD, grpF, grpL, eop, vop, bop, uop, fltop, convop, endOk, newE, new1, freshL, Md.isNew, outV, pureV, pureX, pure1, AV.cells, AV.one, storable, laid, refless,
                refless1, vload, loadC, storeC, vnil, vfaddr, vextract, flatT, flatE, flatC, vconv, vmm, vidxA, viaddrA, vfield, vlen, elemsOf, dF32, dF64, dI64, dU8, dBool, dStr,
                esOk, elemsS, vsliceX, bnd, ownV, ownC, own1, ownT, isSl, nSl, endL, Md.isOwn, purge, purgeH, purgeB, purgeE, hasName, name1, List.any_cons, List.any_nil, Md.isWr,
                pureV.pureP, Option.map, reduceIte, Nat.reduceEqDiff, Nat.reduceAdd, Nat.reduceMul, Nat.reduceLT, Nat.reduceLeDiff, List.mapM_cons, List.mapM_nil, Option.pure_def,
                Option.bind_eq_bind, Option.bind_some, implies_true, forall_const, beq_self_eq_true, decide_true, decide_false, eq_self, Int.reduceEq, Int.reduceLE, Int.reduceLT,
                if_true, if_false, fc56_0, fc56_1, fc56_2, Int.reduceAdd, Int.reduceSub, Int.reduceMul, Int.reduceNeg, Int.reducePow, Nat.reducePow, Int.reduceToNat, Nat.reduceSub,
                List.replicate, Nat.reduceBEq, wAs, wA, wC, zipW, noDupN, grpE, g_impl_SameNumber, grpC, en0, dc_en0, ↓b_pick, ePk_true, ePk_false]))
      all_goals (try simp only [*, m_impl_SameVector, Bool.and_true, Bool.true_and, Bool.and_false, Bool.false_and, Bool.or_true, Bool.true_or, Bool.or_false, Bool.false_or, Bool.not_true, Bool.not_false, Bool.false_eq_true, if_true, if_false, reduceIte, decide_true, decide_false])
      all_goals (try (simp_all; done))
    · cases h
  · cases h
def m_impl_SameTurn (x0 : (Nat × Nat × Nat × Nat)) (x1 : (Nat × Nat × Nat × Nat)) : Bool := (if (m_impl_SameNumber x0.1 x1.1) = true then (if (m_impl_SameNumber x0.2.1 x1.2.1) =
      true then (if (m_impl_SameNumber x0.2.2.1 x1.2.2.1) = true then (m_impl_SameNumber x0.2.2.2 x1.2.2.2) else false) else false) else false)
def p_impl_SameTurn (x0 : (Nat × Nat × Nat × Nat)) (x1 : (Nat × Nat × Nat × Nat)) : Bool := ((p_impl_SameNumber x0.1 x1.1) && (!(m_impl_SameNumber x0.1 x1.1) || ((p_impl_SameNumber
      x0.2.1 x1.2.1) && (!(m_impl_SameNumber x0.2.1 x1.2.1) || ((p_impl_SameNumber x0.2.2.1 x1.2.2.1) && (!(m_impl_SameNumber x0.2.2.1 x1.2.2.1) || (p_impl_SameNumber x0.2.2.2
      x1.2.2.2)))))))
def g_impl_SameTurn : List AV → Option AV
  | [.agg [.flt .f32 y0, .flt .f32 y1, .flt .f32 y2, .flt .f32 y3], .agg [.flt .f32 y4, .flt .f32 y5, .flt .f32 y6, .flt .f32 y7]] => if
      p_impl_SameTurn (y0, y1, y2, y3) (y4, y5, y6, y7) = true then some (.bool (m_impl_SameTurn (y0, y1, y2, y3) (y4, y5, y6, y7))) else none
  | _ => none
def ic58 : ICode := (.seq (.reg [⟨(some 2), none, (.box 4 (.t 0))⟩, ⟨(some 3), none, (.box 4 (.t 1))⟩, ⟨(some 4), none, (.mov (.c (.bool false)))⟩] [2, 3]) (.seq (.reg [⟨(some 5),
      none, (.faddr 0 (.t 2))⟩, ⟨(some 6), none, (.load none (.t 5))⟩, ⟨(some 7), none, (.faddr 0 (.t 3))⟩, ⟨(some 8), none, (.load none (.t 7))⟩, ⟨(some 9), none, (.call (.fn 80)
      [(.t 6), (.t 8)] [])⟩, ⟨(some 10), none, (.mov (.t 9))⟩, ⟨(some 11), (some (10, true)), (.faddr 1 (.t 2))⟩, ⟨(some 12), (some (10, true)), (.load none (.t 11))⟩, ⟨(some 13),
      (some (10, true)), (.faddr 1 (.t 3))⟩, ⟨(some 14), (some (10, true)), (.load none (.t 13))⟩, ⟨(some 15), (some (10, true)), (.call (.fn 80) [(.t 12), (.t 14)] [])⟩, ⟨(some
      16), none, (.pick (.t 10) (.t 15) (.c (.bool false)))⟩, ⟨(some 17), none, (.mov (.t 16))⟩, ⟨(some 18), (some (17, true)), (.faddr 2 (.t 2))⟩, ⟨(some 19), (some (17, true)),
      (.load none (.t 18))⟩, ⟨(some 20), (some (17, true)), (.faddr 2 (.t 3))⟩, ⟨(some 21), (some (17, true)), (.load none (.t 20))⟩, ⟨(some 22), (some (17, true)), (.call (.fn 80)
      [(.t 19), (.t 21)] [])⟩, ⟨(some 23), none, (.pick (.t 17) (.t 22) (.c (.bool false)))⟩, ⟨(some 24), none, (.mov (.t 23))⟩, ⟨(some 25), (some (24, true)), (.faddr 3 (.t 2))⟩,
      ⟨(some 26), (some (24, true)), (.load none (.t 25))⟩, ⟨(some 27), (some (24, true)), (.faddr 3 (.t 3))⟩, ⟨(some 28), (some (24, true)), (.load none (.t 27))⟩, ⟨(some 29),
      (some (24, true)), (.call (.fn 80) [(.t 26), (.t 28)] [])⟩, ⟨(some 30), none, (.pick (.t 24) (.t 29) (.c (.bool false)))⟩, ⟨(some 4), none, (.mov (.t 30))⟩] [4]) .ret))
def cp58 : CP := CP.mk [] [] [[2, 3], [4]] 31
theorem fc58_0 : IntKind.wrap .i64 1 = 1 := by decide
theorem fc58_1 : IntKind.wrap .i64 2 = 2 := by decide
theorem fc58_2 : IntKind.wrap .i64 3 = 3 := by decide
theorem s58 : ∀ vs r, g_impl_SameTurn vs = some r → SaysM Try.prog .any 58 vs r := by
  intro vs r h
  unfold g_impl_SameTurn at h
  split at h
  · rename_i y0 y1 y2 y3 y4 y5 y6 y7
    split at h
    · rename_i hp
      cases h
      refine spec_of (m := .any) (tab := tabOf [(80, wM .any g_impl_SameNumber)]) (cp := cp58) (ic := ic58) (rvl := [(.t 4)]) hm (tabOk_cons (m := .any) s80 tabOk_nil) Try.func58 rfl rfl rfl (by kernel_rfl) rfl (Nat.le_of_ble_eq_true rfl) (Nat.le_of_ble_eq_true rfl) ?_
      show eA _ _ _ _
      unfold ic58
      simp only [p_impl_SameTurn, Bool.and_eq_true, Bool.or_eq_true, decide_eq_true_eq, Bool.not_eq_true', decide_eq_false_iff_not] at hp
      simp only [
          hp, grpS, grpD, grpF, grpL, eop, vop, bop, uop, fltop, convop, endOk, newE, new1, freshL, Md.isNew, outV, pureV, pureX, pure1, AV.cells, AV.one, storable, laid, refless,
                refless1, vload, loadC, storeC, vnil, vfaddr, vextract, flatT, flatE, flatC, vconv, vmm, vidxA, viaddrA, vfield, vlen, elemsOf, dF32, dF64, dI64, dU8, dBool, dStr,
                esOk, elemsS, vsliceX, bnd, ownV, ownC, own1, ownT, isSl, nSl, endL, Md.isOwn, purge, purgeH, purgeB, purgeE, hasName, name1, List.any_cons, List.any_nil, Md.isWr,
                pureV.pureP, Option.map, reduceIte, Nat.reduceEqDiff, Nat.reduceAdd, Nat.reduceMul, Nat.reduceLT, Nat.reduceLeDiff, List.mapM_cons, List.mapM_nil, Option.pure_def,
                Option.bind_eq_bind, Option.bind_some, implies_true, forall_const, beq_self_eq_true, decide_true, decide_false, eq_self, Int.reduceEq, Int.reduceLE, Int.reduceLT,
                if_true, if_false, fc58_0, fc58_1, fc58_2, Int.reduceAdd, Int.reduceSub, Int.reduceMul, Int.reduceNeg, Int.reducePow, Nat.reducePow, Int.reduceToNat, Nat.reduceSub,
                List.replicate, Nat.reduceBEq, wAs, wA, wC, zipW, noDupN, grpE, g_impl_SameNumber, grpC, en0, dc_en0, ↓b_pick, ePk_true, ePk_false]
      repeat' (first
        | ((first | (refine eGI_of (fun h => ?_) (fun h => ?_)) | (refine eCc_of (fun h => ?_) (fun h => ?_)) | (refine ePk_of (fun h => ?_) (fun h => ?_))) <;> (try simp only [Bool.not_eq_true', Bool.not_eq_false'] at h) <;> (try simp only [h, reduceCtorEq, Bool.not_eq_true', decide_eq_false_iff_not, Bool.not_true, Bool.not_false, Bool.false_or, Bool.true_or, Bool.true_and, Bool.false_and, Bool.and_eq_true, Bool.or_eq_true, if_true, if_false, reduceIte, Bool.false_eq_true, and_true, true_and, false_or, or_false, decide_eq_true_eq, not_false_eq_true, not_true_eq_false] at hp) <;> (try (have h2 := h; simp only [decide_eq_true_eq, decide_eq_false_iff_not] at h2; (first | (replace h2 := eq_false h2) | (replace h2 := eq_true h2)); simp only [h2, if_true, if_false, false_or, true_or, or_true, or_false, and_true, true_and, not_false_eq_true, not_true_eq_false] at hp)) <;> simp only [h,
          hp, grpS, grpD, grpF, grpL, eop, vop, bop, uop, fltop, convop, endOk, newE, new1, freshL, Md.isNew, outV, pureV, pureX, pure1, AV.cells, AV.one, storable, laid, refless,
                refless1, vload, loadC, storeC, vnil, vfaddr, vextract, flatT, flatE, flatC, vconv, vmm, vidxA, viaddrA, vfield, vlen, elemsOf, dF32, dF64, dI64, dU8, dBool, dStr,
                esOk, elemsS, vsliceX, bnd, ownV, ownC, own1, ownT, isSl, nSl, endL, Md.isOwn, purge, purgeH, purgeB, purgeE, hasName, name1, List.any_cons, List.any_nil, Md.isWr,
                pureV.pureP, Option.map, reduceIte, Nat.reduceEqDiff, Nat.reduceAdd, Nat.reduceMul, Nat.reduceLT, Nat.reduceLeDiff, List.mapM_cons, List.mapM_nil, Option.pure_def,
                Option.bind_eq_bind, Option.bind_some, implies_true, forall_const, beq_self_eq_true, decide_true, decide_false, eq_self, Int.reduceEq, Int.reduceLE, Int.reduceLT,
                if_true, if_false, fc58_0, fc58_1, fc58_2, Int.reduceAdd, Int.reduceSub, Int.reduceMul, Int.reduceNeg, Int.reducePow, Nat.reducePow, Int.reduceToNat, Nat.reduceSub,
                List.replicate, Nat.reduceBEq, wAs, wA, wC, zipW, noDupN, grpE, g_impl_SameNumber, grpC, en0, dc_en0, ↓b_pick, ePk_true, ePk_false]))
      all_goals (try simp only [*, m_impl_SameTurn, Bool.and_true, Bool.true_and, Bool.and_false, Bool.false_and, Bool.or_true, Bool.true_or, Bool.or_false, Bool.false_or, Bool.not_true, Bool.not_false, Bool.false_eq_true, if_true, if_false, reduceIte, decide_true, decide_false])
      all_goals (try (simp_all; done))
    · cases h
  · cases h
def l_impl_Turn_0 (x0 : (List (Nat × Nat × Nat × Nat))) (x1 : (List (Nat × Nat × Nat × Nat))) : Nat → Int → Option (Bool × Bool × Unit)
  | 0, _ => none
  | n + 1, z0_0 => (if (decide (z0_0 < ((List.length x0 : Nat) : Int))) = true then (need (inB z0_0 (List.length x0)) (need (inB z0_0 (List.length x1)) (need (p_impl_SameTurn (atI
        x0 z0_0) (atI x1 z0_0)) (if (m_impl_SameTurn (atI x0 z0_0) (atI x1 z0_0)) = true then (l_impl_Turn_0 x0 x1 n (IntKind.wrap .i64 (z0_0 + 1))) else (some (true, false,
        default)))))) else (some (false, default, ())))
def m_impl_Turn (x0 : (List (Nat × Nat × Nat × Nat))) (x1 : (List (Nat × Nat × Nat × Nat))) (x2 : Unit) : Bool := (if (decide (((List.length x0 : Nat) : Int) = ((List.length x1 :
      Nat) : Int))) = true then (if (Option.getD (l_impl_Turn_0 x0 x1 (Int.toNat (((List.length x0 : Nat) : Int) - 0) + 2) 0) default).1 = true then (Option.getD (l_impl_Turn_0 x0
      x1 (Int.toNat (((List.length x0 : Nat) : Int) - 0) + 2) 0) default).2.1 else true) else false)
def p_impl_Turn (x0 : (List (Nat × Nat × Nat × Nat))) (x1 : (List (Nat × Nat × Nat × Nat))) (x2 : Unit) : Bool := (!(decide (((List.length x0 : Nat) : Int) = ((List.length x1 : Nat)
      : Int))) || (Option.isSome (l_impl_Turn_0 x0 x1 (Int.toNat (((List.length x0 : Nat) : Int) - 0) + 2) 0)))
def g_impl_Turn : List AV → Option AV
  | [.sl w0, .sl w1, .fn (.func 58) [] []] => (match decL dc_en0 w0 with | some y0 => ((match decL dc_en0 w1 with | some y1 => (if p_impl_Turn y0 y1 () = true then some (.bool (m_impl_Turn y0 y1 ())) else none) | none => none)) | none => none)
  | _ => none
def lb57_0 : ICode := (.seq (.reg [⟨(some 18), none, (.bin .lss false (.t 17) (.t 16))⟩] [1, 2, 15, 16, 17, 18]) (.seq (.cond (.t 18) .skip (.exit 0)) (.seq (.block 1 (.seq (.reg
      [⟨(some 19), none, (.mov (.t 17))⟩, ⟨(some 20), none, (.iaddrS 4 (.t 15) (.t 17))⟩, ⟨(some 21), none, (.load (some 4) (.t 20))⟩, ⟨(some 8), none, (.alloc (.agg [(.flt .f32 0),
      (.flt .f32 0), (.flt .f32 0), (.flt .f32 0)]))⟩, ⟨(some 7), none, (.mov (.t 19))⟩, ⟨none, none, (.store 4 (.t 8) (.t 21))⟩] [1, 2, 7, 8, 15, 16, 17]) (.seq (.reg [⟨(some 22),
      none, (.mov (.t 1))⟩, ⟨(some 23), none, (.mov (.t 7))⟩, ⟨(some 24), none, (.iaddrS 4 (.t 22) (.t 23))⟩, ⟨(some 25), none, (.load (some 4) (.t 24))⟩, ⟨(some 9), none, (.alloc
      (.agg [(.flt .f32 0), (.flt .f32 0), (.flt .f32 0), (.flt .f32 0)]))⟩, ⟨none, none, (.store 4 (.t 9) (.t 25))⟩] [1, 2, 8, 9, 15, 16, 17]) (.seq (.reg [⟨(some 26), none, (.mov
      (.t 2))⟩, ⟨(some 27), none, (.load (some 4) (.t 8))⟩, ⟨(some 28), none, (.load (some 4) (.t 9))⟩, ⟨(some 29), none, (.call (.dyn (.t 26)) [(.t 27), (.t 28)] [])⟩, ⟨(some 30),
      none, (.un .not (.t 29))⟩] [1, 2, 15, 16, 17, 30]) (.cond (.t 30) (.seq (.reg [⟨(some 6), none, (.mov (.c (.bool false)))⟩] [6]) .ret) .skip))))) (.reg [⟨(some 31), none,
      (.bin .add false (.t 17) (.c (.int .i64 1)))⟩, ⟨(some 17), none, (.mov (.t 31))⟩] [1, 2, 15, 16, 17]))))
def ic57 : ICode := (.seq (.reg [⟨(some 6), none, (.mov (.c (.bool false)))⟩] [0, 1, 2]) (.seq (.seq (.reg [⟨(some 10), none, (.mov (.t 0))⟩, ⟨(some 11), none, (.len false (.t
      10))⟩, ⟨(some 12), none, (.mov (.t 1))⟩, ⟨(some 13), none, (.len false (.t 12))⟩, ⟨(some 14), none, (.bin .neq false (.t 11) (.t 13))⟩] [0, 1, 2, 14]) (.cond (.t 14) (.seq
      (.reg [⟨(some 6), none, (.mov (.c (.bool false)))⟩] [6]) .ret) .skip)) (.seq (.seq (.reg [⟨(some 15), none, (.mov (.t 0))⟩, ⟨(some 16), none, (.len false (.t 15))⟩, ⟨(some
      17), none, (.mov (.c (.int .i64 0)))⟩] [1, 2, 15, 16, 17]) (.block 0 (.loop lb57_0))) (.seq (.reg [⟨(some 6), none, (.mov (.c (.bool true)))⟩] [6]) .ret))))
def cp57 : CP := CP.mk [] [] [[0, 1, 2], [0, 1, 2, 14], [6], [1, 2, 15, 16, 17], [1, 2, 15, 16, 17, 18], [1, 2, 7, 8, 15, 16, 17], [1, 2, 8, 9, 15, 16, 17], [1, 2, 15, 16, 17, 30],
      [6], [1, 2, 15, 16, 17], [6]] 32
theorem fc57_0 : IntKind.wrap .i64 1 = 1 := by decide
theorem fc57_1 : IntKind.wrap .i64 2 = 2 := by decide
theorem fc57_2 : IntKind.wrap .i64 3 = 3 := by decide
theorem sl57_0 (x0 : (List (Nat × Nat × Nat × Nat))) (x1 : (List (Nat × Nat × Nat × Nat))) : ∀ (n : Nat) (z0_0 : Int) (o : (Bool × Bool × Unit)) (K : IExit → St → Prop),
      l_impl_Turn_0 x0 x1 n z0_0 = some o → (∀ st, o.1 = true → outM .any st [(.t 6)] = some (.bool o.2.1) → K .ret st) → (∀ st, o.1 = false → Wk st (⟨[], []⟩ : St) → K (.exit 0)
      st) → eA (tabOf [(58, wM .any g_impl_SameTurn)]) (.loop lb57_0) (⟨[(1, (.sl (List.map en0 x1))), (2, (.fn (.func 58) [] [])), (15, (.sl (List.map en0 x0))), (16, (.int .i64
      ((List.length x0 : Nat) : Int))), (17, (.int .i64 z0_0))], []⟩ : St) K := by
  intro n
  induction n with
  | zero =>
    intro z0_0 o K h h0 h1
    simp only [l_impl_Turn_0, reduceCtorEq] at h
  | succ n ih =>
    intro z0_0 o K h h0 h1
    refine eA_loop ?_
    unfold lb57_0
    unfold l_impl_Turn_0 at h
    (try simp only [need_iff] at h)
    simp only [
      need_iff, h, grpS, grpD, grpF, grpL, eop, vop, bop, uop, fltop, convop, endOk, newE, new1, freshL, Md.isNew, outV, pureV, pureX, pure1, AV.cells, AV.one, storable, laid,
            refless, refless1, vload, loadC, storeC, vnil, vfaddr, vextract, flatT, flatE, flatC, vconv, vmm, vidxA, viaddrA, vfield, vlen, elemsOf, dF32, dF64, dI64, dU8, dBool,
            dStr, esOk, elemsS, vsliceX, bnd, ownV, ownC, own1, ownT, isSl, nSl, endL, Md.isOwn, purge, purgeH, purgeB, purgeE, hasName, name1, List.any_cons, List.any_nil, Md.isWr,
            pureV.pureP, Option.map, reduceIte, Nat.reduceEqDiff, Nat.reduceAdd, Nat.reduceMul, Nat.reduceLT, Nat.reduceLeDiff, List.mapM_cons, List.mapM_nil, Option.pure_def,
            Option.bind_eq_bind, Option.bind_some, implies_true, forall_const, beq_self_eq_true, decide_true, decide_false, eq_self, Int.reduceEq, Int.reduceLE, Int.reduceLT,
            if_true, if_false, fc57_0, fc57_1, fc57_2, Int.reduceAdd, Int.reduceSub, Int.reduceMul, Int.reduceNeg, Int.reducePow, Nat.reducePow, Int.reduceToNat, Nat.reduceSub,
            List.replicate, Nat.reduceBEq, wAs, wA, wC, zipW, noDupN, grpE, g_impl_SameTurn, grpC, en0, dc_en0]
    repeat' (first
      | ((first | (refine eGI_of (fun hc => ?_) (fun hc => ?_)) | (refine eCc_of (fun hc => ?_) (fun hc => ?_)) | (have hc := True.intro; refine KW_refl ?_)) <;> (try simp only [Bool.not_eq_true', Bool.not_eq_false'] at hc) <;> (try simp only [hc, need_iff, reduceCtorEq, Bool.not_eq_true', decide_eq_false_iff_not, Bool.not_true, Bool.not_false, Bool.false_or, Bool.true_or, Bool.true_and, Bool.false_and, Bool.and_eq_true, Bool.or_eq_true, if_true, if_false, reduceIte, Bool.false_eq_true, and_true, true_and, false_or, or_false, decide_eq_true_eq, not_false_eq_true, not_true_eq_false] at h) <;> (try (have hc2 := hc; simp only [decide_eq_true_eq, decide_eq_false_iff_not] at hc2; simp only [hc2, if_true, if_false, reduceCtorEq, Bool.not_eq_true', decide_eq_false_iff_not, Bool.not_true, Bool.not_false, Bool.false_or, Bool.true_or, Bool.true_and, Bool.false_and, Bool.and_eq_true, Bool.or_eq_true, if_true, if_false, reduceIte, Bool.false_eq_true, and_true, true_and, false_or, or_false, decide_eq_true_eq, not_false_eq_true, not_true_eq_false] at h)) <;> simp only [hc,
      need_iff, h, grpS, grpD, grpF, grpL, eop, vop, bop, uop, fltop, convop, endOk, newE, new1, freshL, Md.isNew, outV, pureV, pureX, pure1, AV.cells, AV.one, storable, laid,
            refless, refless1, vload, loadC, storeC, vnil, vfaddr, vextract, flatT, flatE, flatC, vconv, vmm, vidxA, viaddrA, vfield, vlen, elemsOf, dF32, dF64, dI64, dU8, dBool,
            dStr, esOk, elemsS, vsliceX, bnd, ownV, ownC, own1, ownT, isSl, nSl, endL, Md.isOwn, purge, purgeH, purgeB, purgeE, hasName, name1, List.any_cons, List.any_nil, Md.isWr,
            pureV.pureP, Option.map, reduceIte, Nat.reduceEqDiff, Nat.reduceAdd, Nat.reduceMul, Nat.reduceLT, Nat.reduceLeDiff, List.mapM_cons, List.mapM_nil, Option.pure_def,
            Option.bind_eq_bind, Option.bind_some, implies_true, forall_const, beq_self_eq_true, decide_true, decide_false, eq_self, Int.reduceEq, Int.reduceLE, Int.reduceLT,
            if_true, if_false, fc57_0, fc57_1, fc57_2, Int.reduceAdd, Int.reduceSub, Int.reduceMul, Int.reduceNeg, Int.reducePow, Nat.reducePow, Int.reduceToNat, Nat.reduceSub,
            List.replicate, Nat.reduceBEq, wAs, wA, wC, zipW, noDupN, grpE, g_impl_SameTurn, grpC, en0, dc_en0]))
    all_goals (repeat (replace h := And.right h))
    all_goals first
      | (refine eA_wk (wk_norm (ks := [1, 2, 15, 16, 17]) (ls := []) ?_) (eA_cast ?_ (ih _ _ _ h h0 h1)); (simp only [normOk, optIn, blkIn, nameIn,
      need_iff, h, grpS, grpD, grpF, grpL, eop, vop, bop, uop, fltop, convop, endOk, newE, new1, freshL, Md.isNew, outV, pureV, pureX, pure1, AV.cells, AV.one, storable, laid,
            refless, refless1, vload, loadC, storeC, vnil, vfaddr, vextract, flatT, flatE, flatC, vconv, vmm, vidxA, viaddrA, vfield, vlen, elemsOf, dF32, dF64, dI64, dU8, dBool,
            dStr, esOk, elemsS, vsliceX, bnd, ownV, ownC, own1, ownT, isSl, nSl, endL, Md.isOwn, purge, purgeH, purgeB, purgeE, hasName, name1, List.any_cons, List.any_nil, Md.isWr,
            pureV.pureP, Option.map, reduceIte, Nat.reduceEqDiff, Nat.reduceAdd, Nat.reduceMul, Nat.reduceLT, Nat.reduceLeDiff, List.mapM_cons, List.mapM_nil, Option.pure_def,
            Option.bind_eq_bind, Option.bind_some, implies_true, forall_const, beq_self_eq_true, decide_true, decide_false, eq_self, Int.reduceEq, Int.reduceLE, Int.reduceLT,
            if_true, if_false, fc57_0, fc57_1, fc57_2, Int.reduceAdd, Int.reduceSub, Int.reduceMul, Int.reduceNeg, Int.reducePow, Nat.reducePow, Int.reduceToNat, Nat.reduceSub,
            List.replicate, Nat.reduceBEq, wAs, wA, wC, zipW, noDupN, grpE, g_impl_SameTurn, grpC, en0, dc_en0] <;> rfl); (simp only [normS, List.map_append, List.length_append, List.map_set, List.length_set, List.map_replicate, List.length_replicate, List.map_nil, List.map_cons,
      need_iff, h, grpS, grpD, grpF, grpL, eop, vop, bop, uop, fltop, convop, endOk, newE, new1, freshL, Md.isNew, outV, pureV, pureX, pure1, AV.cells, AV.one, storable, laid,
            refless, refless1, vload, loadC, storeC, vnil, vfaddr, vextract, flatT, flatE, flatC, vconv, vmm, vidxA, viaddrA, vfield, vlen, elemsOf, dF32, dF64, dI64, dU8, dBool,
            dStr, esOk, elemsS, vsliceX, bnd, ownV, ownC, own1, ownT, isSl, nSl, endL, Md.isOwn, purge, purgeH, purgeB, purgeE, hasName, name1, List.any_cons, List.any_nil, Md.isWr,
            pureV.pureP, Option.map, reduceIte, Nat.reduceEqDiff, Nat.reduceAdd, Nat.reduceMul, Nat.reduceLT, Nat.reduceLeDiff, List.mapM_cons, List.mapM_nil, Option.pure_def,
            Option.bind_eq_bind, Option.bind_some, implies_true, forall_const, beq_self_eq_true, decide_true, decide_false, eq_self, Int.reduceEq, Int.reduceLE, Int.reduceLT,
            if_true, if_false, fc57_0, fc57_1, fc57_2, Int.reduceAdd, Int.reduceSub, Int.reduceMul, Int.reduceNeg, Int.reducePow, Nat.reducePow, Int.reduceToNat, Nat.reduceSub,
            List.replicate, Nat.reduceBEq, wAs, wA, wC, zipW, noDupN, grpE, g_impl_SameTurn, grpC, en0, dc_en0] <;> rfl))
      | (cases h; refine h0 _ rfl ?_; simp only [
      grpS, grpD, grpF, grpL, eop, vop, bop, uop, fltop, convop, endOk, newE, new1, freshL, Md.isNew, outV, pureV, pureX, pure1, AV.cells, AV.one, storable, laid, refless, refless1,
            vload, loadC, storeC, vnil, vfaddr, vextract, flatT, flatE, flatC, vconv, vmm, vidxA, viaddrA, vfield, vlen, elemsOf, dF32, dF64, dI64, dU8, dBool, dStr, esOk, elemsS,
            vsliceX, bnd, ownV, ownC, own1, ownT, isSl, nSl, endL, Md.isOwn, purge, purgeH, purgeB, purgeE, hasName, name1, List.any_cons, List.any_nil, Md.isWr, pureV.pureP,
            Option.map, reduceIte, Nat.reduceEqDiff, Nat.reduceAdd, Nat.reduceMul, Nat.reduceLT, Nat.reduceLeDiff, List.mapM_cons, List.mapM_nil, Option.pure_def,
            Option.bind_eq_bind, Option.bind_some, implies_true, forall_const, beq_self_eq_true, decide_true, decide_false, eq_self, Int.reduceEq, Int.reduceLE, Int.reduceLT,
            if_true, if_false, fc57_0, fc57_1, fc57_2, Int.reduceAdd, Int.reduceSub, Int.reduceMul, Int.reduceNeg, Int.reducePow, Nat.reducePow, Int.reduceToNat, Nat.reduceSub,
            List.replicate, Nat.reduceBEq, wAs, wA, wC, zipW, noDupN, grpE, g_impl_SameTurn, grpC, en0, dc_en0])
      | (cases h; refine h1 _ rfl (Wk.cast (wk_norm (ks := []) (ls := []) ?_) ?_); (simp only [normOk, optIn, blkIn, nameIn,
      grpS, grpD, grpF, grpL, eop, vop, bop, uop, fltop, convop, endOk, newE, new1, freshL, Md.isNew, outV, pureV, pureX, pure1, AV.cells, AV.one, storable, laid, refless, refless1,
            vload, loadC, storeC, vnil, vfaddr, vextract, flatT, flatE, flatC, vconv, vmm, vidxA, viaddrA, vfield, vlen, elemsOf, dF32, dF64, dI64, dU8, dBool, dStr, esOk, elemsS,
            vsliceX, bnd, ownV, ownC, own1, ownT, isSl, nSl, endL, Md.isOwn, purge, purgeH, purgeB, purgeE, hasName, name1, List.any_cons, List.any_nil, Md.isWr, pureV.pureP,
            Option.map, reduceIte, Nat.reduceEqDiff, Nat.reduceAdd, Nat.reduceMul, Nat.reduceLT, Nat.reduceLeDiff, List.mapM_cons, List.mapM_nil, Option.pure_def,
            Option.bind_eq_bind, Option.bind_some, implies_true, forall_const, beq_self_eq_true, decide_true, decide_false, eq_self, Int.reduceEq, Int.reduceLE, Int.reduceLT,
            if_true, if_false, fc57_0, fc57_1, fc57_2, Int.reduceAdd, Int.reduceSub, Int.reduceMul, Int.reduceNeg, Int.reducePow, Nat.reducePow, Int.reduceToNat, Nat.reduceSub,
            List.replicate, Nat.reduceBEq, wAs, wA, wC, zipW, noDupN, grpE, g_impl_SameTurn, grpC, en0, dc_en0] <;> rfl); (simp only [normS, List.map_append, List.length_append, List.map_set, List.length_set, List.map_replicate, List.length_replicate,
      grpS, grpD, grpF, grpL, eop, vop, bop, uop, fltop, convop, endOk, newE, new1, freshL, Md.isNew, outV, pureV, pureX, pure1, AV.cells, AV.one, storable, laid, refless, refless1,
            vload, loadC, storeC, vnil, vfaddr, vextract, flatT, flatE, flatC, vconv, vmm, vidxA, viaddrA, vfield, vlen, elemsOf, dF32, dF64, dI64, dU8, dBool, dStr, esOk, elemsS,
            vsliceX, bnd, ownV, ownC, own1, ownT, isSl, nSl, endL, Md.isOwn, purge, purgeH, purgeB, purgeE, hasName, name1, List.any_cons, List.any_nil, Md.isWr, pureV.pureP,
            Option.map, reduceIte, Nat.reduceEqDiff, Nat.reduceAdd, Nat.reduceMul, Nat.reduceLT, Nat.reduceLeDiff, List.mapM_cons, List.mapM_nil, Option.pure_def,
            Option.bind_eq_bind, Option.bind_some, implies_true, forall_const, beq_self_eq_true, decide_true, decide_false, eq_self, Int.reduceEq, Int.reduceLE, Int.reduceLT,
            if_true, if_false, fc57_0, fc57_1, fc57_2, Int.reduceAdd, Int.reduceSub, Int.reduceMul, Int.reduceNeg, Int.reducePow, Nat.reducePow, Int.reduceToNat, Nat.reduceSub,
            List.replicate, Nat.reduceBEq, wAs, wA, wC, zipW, noDupN, grpE, g_impl_SameTurn, grpC, en0, dc_en0] <;> rfl))
theorem s57 : ∀ vs r, g_impl_Turn vs = some r → SaysM Try.prog .any 57 vs r := by
  intro vs r h
  unfold g_impl_Turn at h
  split at h
  · rename_i w0 w1
    cases hd_y0 : decL dc_en0 w0 with
    | none => rw [hd_y0] at h; cases h
    | some y0 =>
    rw [hd_y0] at h
    obtain rfl := decL_inv dc_en0_inv hd_y0
    clear hd_y0
    dsimp only at h
    cases hd_y1 : decL dc_en0 w1 with
    | none => rw [hd_y1] at h; cases h
    | some y1 =>
    rw [hd_y1] at h
    obtain rfl := decL_inv dc_en0_inv hd_y1
    clear hd_y1
    dsimp only at h
    split at h
    · rename_i hp
      cases h
      refine spec_of (m := .any) (tab := tabOf [(58, wM .any g_impl_SameTurn)]) (cp := cp57) (ic := ic57) (rvl := [(.t 6)]) hm (tabOk_cons (m := .any) s58 tabOk_nil) Try.func57 rfl rfl rfl (by kernel_rfl) rfl (Nat.le_of_ble_eq_true rfl) (Nat.le_of_ble_eq_true rfl) ?_
      show eA _ _ _ _
      unfold ic57
      simp only [p_impl_Turn, Bool.and_eq_true, Bool.or_eq_true, decide_eq_true_eq, Bool.not_eq_true', decide_eq_false_iff_not] at hp
      simp only [
          hp, grpS, grpD, grpF, grpL, eop, vop, bop, uop, fltop, convop, endOk, newE, new1, freshL, Md.isNew, outV, pureV, pureX, pure1, AV.cells, AV.one, storable, laid, refless,
                refless1, vload, loadC, storeC, vnil, vfaddr, vextract, flatT, flatE, flatC, vconv, vmm, vidxA, viaddrA, vfield, vlen, elemsOf, dF32, dF64, dI64, dU8, dBool, dStr,
                esOk, elemsS, vsliceX, bnd, ownV, ownC, own1, ownT, isSl, nSl, endL, Md.isOwn, purge, purgeH, purgeB, purgeE, hasName, name1, List.any_cons, List.any_nil, Md.isWr,
                pureV.pureP, Option.map, reduceIte, Nat.reduceEqDiff, Nat.reduceAdd, Nat.reduceMul, Nat.reduceLT, Nat.reduceLeDiff, List.mapM_cons, List.mapM_nil, Option.pure_def,
                Option.bind_eq_bind, Option.bind_some, implies_true, forall_const, beq_self_eq_true, decide_true, decide_false, eq_self, Int.reduceEq, Int.reduceLE, Int.reduceLT,
                if_true, if_false, fc57_0, fc57_1, fc57_2, Int.reduceAdd, Int.reduceSub, Int.reduceMul, Int.reduceNeg, Int.reducePow, Nat.reducePow, Int.reduceToNat, Nat.reduceSub,
                List.replicate, Nat.reduceBEq, wAs, wA, wC, zipW, noDupN, grpE, g_impl_SameTurn, grpC, en0, dc_en0]
      repeat' (first
        | ((first | (refine eGI_of (fun h => ?_) (fun h => ?_)) | (refine eCc_of (fun h => ?_) (fun h => ?_)) | (have h := True.intro; refine KW_refl ?_)) <;> (try simp only [Bool.not_eq_true', Bool.not_eq_false'] at h) <;> (try simp only [h, reduceCtorEq, Bool.not_eq_true', decide_eq_false_iff_not, Bool.not_true, Bool.not_false, Bool.false_or, Bool.true_or, Bool.true_and, Bool.false_and, Bool.and_eq_true, Bool.or_eq_true, if_true, if_false, reduceIte, Bool.false_eq_true, and_true, true_and, false_or, or_false, decide_eq_true_eq, not_false_eq_true, not_true_eq_false] at hp) <;> (try (have h2 := h; simp only [decide_eq_true_eq, decide_eq_false_iff_not] at h2; (first | (replace h2 := eq_false h2) | (replace h2 := eq_true h2)); simp only [h2, if_true, if_false, false_or, true_or, or_true, or_false, and_true, true_and, not_false_eq_true, not_true_eq_false] at hp)) <;> simp only [h,
          hp, grpS, grpD, grpF, grpL, eop, vop, bop, uop, fltop, convop, endOk, newE, new1, freshL, Md.isNew, outV, pureV, pureX, pure1, AV.cells, AV.one, storable, laid, refless,
                refless1, vload, loadC, storeC, vnil, vfaddr, vextract, flatT, flatE, flatC, vconv, vmm, vidxA, viaddrA, vfield, vlen, elemsOf, dF32, dF64, dI64, dU8, dBool, dStr,
                esOk, elemsS, vsliceX, bnd, ownV, ownC, own1, ownT, isSl, nSl, endL, Md.isOwn, purge, purgeH, purgeB, purgeE, hasName, name1, List.any_cons, List.any_nil, Md.isWr,
                pureV.pureP, Option.map, reduceIte, Nat.reduceEqDiff, Nat.reduceAdd, Nat.reduceMul, Nat.reduceLT, Nat.reduceLeDiff, List.mapM_cons, List.mapM_nil, Option.pure_def,
                Option.bind_eq_bind, Option.bind_some, implies_true, forall_const, beq_self_eq_true, decide_true, decide_false, eq_self, Int.reduceEq, Int.reduceLE, Int.reduceLT,
                if_true, if_false, fc57_0, fc57_1, fc57_2, Int.reduceAdd, Int.reduceSub, Int.reduceMul, Int.reduceNeg, Int.reducePow, Nat.reducePow, Int.reduceToNat, Nat.reduceSub,
                List.replicate, Nat.reduceBEq, wAs, wA, wC, zipW, noDupN, grpE, g_impl_SameTurn, grpC, en0, dc_en0])
        | (refine eA_wk (wk_norm (ks := [1, 2, 15, 16, 17]) (ls := []) ?_) (eA_cast ?_ (sl57_0 y0 y1 _ _ _ _ (getD_some (d := default) (x := (l_impl_Turn_0 y0 y1 (Int.toNat (((List.length y0 : Nat) : Int) - 0) + 2) 0)) ?_) ?_ ?_)); (simp only [nilS, nilV, normOk, optIn, blkIn, nameIn, 
          hp, grpS, grpD, grpF, grpL, eop, vop, bop, uop, fltop, convop, endOk, newE, new1, freshL, Md.isNew, outV, pureV, pureX, pure1, AV.cells, AV.one, storable, laid, refless,
                refless1, vload, loadC, storeC, vnil, vfaddr, vextract, flatT, flatE, flatC, vconv, vmm, vidxA, viaddrA, vfield, vlen, elemsOf, dF32, dF64, dI64, dU8, dBool, dStr,
                esOk, elemsS, vsliceX, bnd, ownV, ownC, own1, ownT, isSl, nSl, endL, Md.isOwn, purge, purgeH, purgeB, purgeE, hasName, name1, List.any_cons, List.any_nil, Md.isWr,
                pureV.pureP, Option.map, reduceIte, Nat.reduceEqDiff, Nat.reduceAdd, Nat.reduceMul, Nat.reduceLT, Nat.reduceLeDiff, List.mapM_cons, List.mapM_nil, Option.pure_def,
                Option.bind_eq_bind, Option.bind_some, implies_true, forall_const, beq_self_eq_true, decide_true, decide_false, eq_self, Int.reduceEq, Int.reduceLE, Int.reduceLT,
                if_true, if_false, fc57_0, fc57_1, fc57_2, Int.reduceAdd, Int.reduceSub, Int.reduceMul, Int.reduceNeg, Int.reducePow, Nat.reducePow, Int.reduceToNat, Nat.reduceSub,
                List.replicate, Nat.reduceBEq, wAs, wA, wC, zipW, noDupN, grpE, g_impl_SameTurn, grpC, en0, dc_en0] <;> rfl); (simp only [nilS, nilV, normS,  List.map_append, List.length_append, List.map_set, List.length_set, List.map_replicate, List.length_replicate, List.map_nil, List.map_cons,
          hp, grpS, grpD, grpF, grpL, eop, vop, bop, uop, fltop, convop, endOk, newE, new1, freshL, Md.isNew, outV, pureV, pureX, pure1, AV.cells, AV.one, storable, laid, refless,
                refless1, vload, loadC, storeC, vnil, vfaddr, vextract, flatT, flatE, flatC, vconv, vmm, vidxA, viaddrA, vfield, vlen, elemsOf, dF32, dF64, dI64, dU8, dBool, dStr,
                esOk, elemsS, vsliceX, bnd, ownV, ownC, own1, ownT, isSl, nSl, endL, Md.isOwn, purge, purgeH, purgeB, purgeE, hasName, name1, List.any_cons, List.any_nil, Md.isWr,
                pureV.pureP, Option.map, reduceIte, Nat.reduceEqDiff, Nat.reduceAdd, Nat.reduceMul, Nat.reduceLT, Nat.reduceLeDiff, List.mapM_cons, List.mapM_nil, Option.pure_def,
                Option.bind_eq_bind, Option.bind_some, implies_true, forall_const, beq_self_eq_true, decide_true, decide_false, eq_self, Int.reduceEq, Int.reduceLE, Int.reduceLT,
                if_true, if_false, fc57_0, fc57_1, fc57_2, Int.reduceAdd, Int.reduceSub, Int.reduceMul, Int.reduceNeg, Int.reducePow, Nat.reducePow, Int.reduceToNat, Nat.reduceSub,
                List.replicate, Nat.reduceBEq, wAs, wA, wC, zipW, noDupN, grpE, g_impl_SameTurn, grpC, en0, dc_en0] <;> rfl); (simp only [hp]); (
        intro st2 ht hw; simp only [Kq_ret, Kb_ret, Kl_ret, ret_ok]; first | exact h0 _ hw | exact h0 _ rfl hw | exact h1 _ rfl hw | exact h0 _ ht hw | exact h1 _ ht hw | refine ⟨_, hw, ?_⟩); rotate_left; (
        intro st2 ht hw; (try simp only [ht, reduceCtorEq, Bool.not_eq_true', decide_eq_false_iff_not, Bool.not_true, Bool.not_false, Bool.false_or, Bool.true_or, Bool.true_and, Bool.false_and, Bool.and_eq_true, Bool.or_eq_true, if_true, if_false, reduceIte, Bool.false_eq_true, and_true, true_and, false_or, or_false, decide_eq_true_eq, not_false_eq_true, not_true_eq_false] at hp); simp only [
          hp, grpS, grpD, grpF, grpL, eop, vop, bop, uop, fltop, convop, endOk, newE, new1, freshL, Md.isNew, outV, pureV, pureX, pure1, AV.cells, AV.one, storable, laid, refless,
                refless1, vload, loadC, storeC, vnil, vfaddr, vextract, flatT, flatE, flatC, vconv, vmm, vidxA, viaddrA, vfield, vlen, elemsOf, dF32, dF64, dI64, dU8, dBool, dStr,
                esOk, elemsS, vsliceX, bnd, ownV, ownC, own1, ownT, isSl, nSl, endL, Md.isOwn, purge, purgeH, purgeB, purgeE, hasName, name1, List.any_cons, List.any_nil, Md.isWr,
                pureV.pureP, Option.map, reduceIte, Nat.reduceEqDiff, Nat.reduceAdd, Nat.reduceMul, Nat.reduceLT, Nat.reduceLeDiff, List.mapM_cons, List.mapM_nil, Option.pure_def,
                Option.bind_eq_bind, Option.bind_some, implies_true, forall_const, beq_self_eq_true, decide_true, decide_false, eq_self, Int.reduceEq, Int.reduceLE, Int.reduceLT,
                if_true, if_false, fc57_0, fc57_1, fc57_2, Int.reduceAdd, Int.reduceSub, Int.reduceMul, Int.reduceNeg, Int.reducePow, Nat.reducePow, Int.reduceToNat, Nat.reduceSub,
                List.replicate, Nat.reduceBEq, wAs, wA, wC, zipW, noDupN, grpE, g_impl_SameTurn, grpC, en0, dc_en0]; refine KW_of hw ?_; simp only [ht, 
          hp, grpS, grpD, grpF, grpL, eop, vop, bop, uop, fltop, convop, endOk, newE, new1, freshL, Md.isNew, outV, pureV, pureX, pure1, AV.cells, AV.one, storable, laid, refless,
                refless1, vload, loadC, storeC, vnil, vfaddr, vextract, flatT, flatE, flatC, vconv, vmm, vidxA, viaddrA, vfield, vlen, elemsOf, dF32, dF64, dI64, dU8, dBool, dStr,
                esOk, elemsS, vsliceX, bnd, ownV, ownC, own1, ownT, isSl, nSl, endL, Md.isOwn, purge, purgeH, purgeB, purgeE, hasName, name1, List.any_cons, List.any_nil, Md.isWr,
                pureV.pureP, Option.map, reduceIte, Nat.reduceEqDiff, Nat.reduceAdd, Nat.reduceMul, Nat.reduceLT, Nat.reduceLeDiff, List.mapM_cons, List.mapM_nil, Option.pure_def,
                Option.bind_eq_bind, Option.bind_some, implies_true, forall_const, beq_self_eq_true, decide_true, decide_false, eq_self, Int.reduceEq, Int.reduceLE, Int.reduceLT,
                if_true, if_false, fc57_0, fc57_1, fc57_2, Int.reduceAdd, Int.reduceSub, Int.reduceMul, Int.reduceNeg, Int.reducePow, Nat.reducePow, Int.reduceToNat, Nat.reduceSub,
                List.replicate, Nat.reduceBEq, wAs, wA, wC, zipW, noDupN, grpE, g_impl_SameTurn, grpC, en0, dc_en0])))
      all_goals (try simp only [*, m_impl_Turn, Bool.and_true, Bool.true_and, Bool.and_false, Bool.false_and, Bool.or_true, Bool.true_or, Bool.or_false, Bool.false_or, Bool.not_true, Bool.not_false, Bool.false_eq_true, if_true, if_false, reduceIte, decide_true, decide_false])
      all_goals (try (simp_all; done))
    · cases h
  · cases h
def m_impl_SamePose (x0 : (Nat × Nat × Nat × (List (Nat × Nat × Nat × Nat)))) (x1 : (Nat × Nat × Nat × (List (Nat × Nat × Nat × Nat)))) : Bool := (if (m_impl_SameVector (x0.1,
      x0.2.1, x0.2.2.1) (x1.1, x1.2.1, x1.2.2.1)) = true then (m_impl_Turn x0.2.2.2 x1.2.2.2 ()) else false)
def p_impl_SamePose (x0 : (Nat × Nat × Nat × (List (Nat × Nat × Nat × Nat)))) (x1 : (Nat × Nat × Nat × (List (Nat × Nat × Nat × Nat)))) : Bool := ((p_impl_SameVector (x0.1, x0.2.1,
      x0.2.2.1) (x1.1, x1.2.1, x1.2.2.1)) && (!(m_impl_SameVector (x0.1, x0.2.1, x0.2.2.1) (x1.1, x1.2.1, x1.2.2.1)) || (p_impl_Turn x0.2.2.2 x1.2.2.2 ())))
def g_impl_SamePose : List AV → Option AV
  | [.agg [.flt .f32 y0, .flt .f32 y1, .flt .f32 y2, .sl w3], .agg [.flt .f32 y4, .flt .f32 y5, .flt .f32 y6, .sl w7]] => (match decL dc_en0 w3 with | some y3 => ((match decL dc_en0 w7 with | some y7 => (if p_impl_SamePose (y0, y1, y2, y3) (y4, y5, y6, y7) = true then some (.bool (m_impl_SamePose (y0, y1, y2, y3) (y4, y5, y6, y7))) else none) | none => none)) | none => none)
  | _ => none
def ic25 : ICode := (.seq (.reg [⟨(some 2), none, (.box 4 (.t 0))⟩, ⟨(some 3), none, (.box 4 (.t 1))⟩, ⟨(some 4), none, (.mov (.c (.bool false)))⟩] [2, 3]) (.seq (.reg [⟨(some 5),
      none, (.faddr 0 (.t 2))⟩, ⟨(some 6), none, (.load (some 3) (.t 5))⟩, ⟨(some 7), none, (.faddr 0 (.t 3))⟩, ⟨(some 8), none, (.load (some 3) (.t 7))⟩, ⟨(some 9), none, (.call
      (.fn 56) [(.t 6), (.t 8)] [])⟩, ⟨(some 10), none, (.mov (.t 9))⟩, ⟨(some 11), (some (10, true)), (.faddr 3 (.t 2))⟩, ⟨(some 12), (some (10, true)), (.load none (.t 11))⟩,
      ⟨(some 13), (some (10, true)), (.faddr 3 (.t 3))⟩, ⟨(some 14), (some (10, true)), (.load none (.t 13))⟩, ⟨(some 15), (some (10, true)), (.call (.fn 57) [(.t 12), (.t 14), (.f
      58)] [])⟩, ⟨(some 16), none, (.pick (.t 10) (.t 15) (.c (.bool false)))⟩, ⟨(some 4), none, (.mov (.t 16))⟩] [4]) .ret))
def cp25 : CP := CP.mk [] [] [[2, 3], [4]] 17
theorem fc25_0 : IntKind.wrap .i64 1 = 1 := by decide
theorem fc25_1 : IntKind.wrap .i64 2 = 2 := by decide
theorem fc25_2 : IntKind.wrap .i64 3 = 3 := by decide
theorem s25 : ∀ vs r, g_impl_SamePose vs = some r → SaysM Try.prog .any 25 vs r := by
  intro vs r h
  unfold g_impl_SamePose at h
  split at h
  · rename_i y0 y1 y2 w3 y4 y5 y6 w7
    cases hd_y3 : decL dc_en0 w3 with
    | none => rw [hd_y3] at h; cases h
    | some y3 =>
    rw [hd_y3] at h
    obtain rfl := decL_inv dc_en0_inv hd_y3
    clear hd_y3
    dsimp only at h
    cases hd_y7 : decL dc_en0 w7 with
    | none => rw [hd_y7] at h; cases h
    | some y7 =>
    rw [hd_y7] at h
    obtain rfl := decL_inv dc_en0_inv hd_y7
    clear hd_y7
    dsimp only at h
    split at h
    · rename_i hp
      cases h
      refine spec_of (m := .any) (tab := tabOf [(56, wM .any g_impl_SameVector), (57, wM .any g_impl_Turn)]) (cp := cp25) (ic := ic25) (rvl := [(.t 4)]) hm (tabOk_cons (m := .any) s56 (tabOk_cons (m := .any) s57 tabOk_nil)) Try.func25 rfl rfl rfl (by kernel_rfl) rfl (Nat.le_of_ble_eq_true rfl) (Nat.le_of_ble_eq_true rfl) ?_
      show eA _ _ _ _
      unfold ic25
      simp only [p_impl_SamePose, Bool.and_eq_true, Bool.or_eq_true, decide_eq_true_eq, Bool.not_eq_true', decide_eq_false_iff_not] at hp
      simp only [
          hp, grpS, grpD, grpF, grpL, eop, vop, bop, uop, fltop, convop, endOk, newE, new1, freshL, Md.isNew, outV, pureV, pureX, pure1, AV.cells, AV.one, storable, laid, refless,
                refless1, vload, loadC, storeC, vnil, vfaddr, vextract, flatT, flatE, flatC, vconv, vmm, vidxA, viaddrA, vfield, vlen, elemsOf, dF32, dF64, dI64, dU8, dBool, dStr,
                esOk, elemsS, vsliceX, bnd, ownV, ownC, own1, ownT, isSl, nSl, endL, Md.isOwn, purge, purgeH, purgeB, purgeE, hasName, name1, List.any_cons, List.any_nil, Md.isWr,
                pureV.pureP, Option.map, reduceIte, Nat.reduceEqDiff, Nat.reduceAdd, Nat.reduceMul, Nat.reduceLT, Nat.reduceLeDiff, List.mapM_cons, List.mapM_nil, Option.pure_def,
                Option.bind_eq_bind, Option.bind_some, implies_true, forall_const, beq_self_eq_true, decide_true, decide_false, eq_self, Int.reduceEq, Int.reduceLE, Int.reduceLT,
                if_true, if_false, fc25_0, fc25_1, fc25_2, Int.reduceAdd, Int.reduceSub, Int.reduceMul, Int.reduceNeg, Int.reducePow, Nat.reducePow, Int.reduceToNat, Nat.reduceSub,
                List.replicate, Nat.reduceBEq, wAs, wA, wC, zipW, noDupN, grpE, g_impl_SameVector, g_impl_Turn, grpC, en0, dc_en0, ↓b_pick, ePk_true, ePk_false]
      repeat' (first
        | ((first | (refine eGI_of (fun h => ?_) (fun h => ?_)) | (refine eCc_of (fun h => ?_) (fun h => ?_)) | (refine ePk_of (fun h => ?_) (fun h => ?_))) <;> (try simp only [Bool.not_eq_true', Bool.not_eq_false'] at h) <;> (try simp only [h, reduceCtorEq, Bool.not_eq_true', decide_eq_false_iff_not, Bool.not_true, Bool.not_false, Bool.false_or, Bool.true_or, Bool.true_and, Bool.false_and, Bool.and_eq_true, Bool.or_eq_true, if_true, if_false, reduceIte, Bool.false_eq_true, and_true, true_and, false_or, or_false, decide_eq_true_eq, not_false_eq_true, not_true_eq_false] at hp) <;> (try (have h2 := h; simp only [decide_eq_true_eq, decide_eq_false_iff_not] at h2; (first | (replace h2 := eq_false h2) | (replace h2 := eq_true h2)); simp only [h2, if_true, if_false, false_or, true_or, or_true, or_false, and_true, true_and, not_false_eq_true, not_true_eq_false] at hp)) <;> simp only [h,
          hp, grpS, grpD, grpF, grpL, eop, vop, bop, uop, fltop, convop, endOk, newE, new1, freshL, Md.isNew, outV, pureV, pureX, pure1, AV.cells, AV.one, storable, laid, refless,
                refless1, vload, loadC, storeC, vnil, vfaddr, vextract, flatT, flatE, flatC, vconv, vmm, vidxA, viaddrA, vfield, vlen, elemsOf, dF32, dF64, dI64, dU8, dBool, dStr,
                esOk, elemsS, vsliceX, bnd, ownV, ownC, own1, ownT, isSl, nSl, endL, Md.isOwn, purge, purgeH, purgeB, purgeE, hasName, name1, List.any_cons, List.any_nil, Md.isWr,
                pureV.pureP, Option.map, reduceIte, Nat.reduceEqDiff, Nat.reduceAdd, Nat.reduceMul, Nat.reduceLT, Nat.reduceLeDiff, List.mapM_cons, List.mapM_nil, Option.pure_def,
                Option.bind_eq_bind, Option.bind_some, implies_true, forall_const, beq_self_eq_true, decide_true, decide_false, eq_self, Int.reduceEq, Int.reduceLE, Int.reduceLT,
                if_true, if_false, fc25_0, fc25_1, fc25_2, Int.reduceAdd, Int.reduceSub, Int.reduceMul, Int.reduceNeg, Int.reducePow, Nat.reducePow, Int.reduceToNat, Nat.reduceSub,
                List.replicate, Nat.reduceBEq, wAs, wA, wC, zipW, noDupN, grpE, g_impl_SameVector, g_impl_Turn, grpC, en0, dc_en0, ↓b_pick, ePk_true, ePk_false]))
      all_goals (try simp only [*, m_impl_SamePose, Bool.and_true, Bool.true_and, Bool.and_false, Bool.false_and, Bool.or_true, Bool.true_or, Bool.or_false, Bool.false_or, Bool.not_true, Bool.not_false, Bool.false_eq_true, if_true, if_false, reduceIte, decide_true, decide_false])
      all_goals (try (simp_all; done))
    · cases h
  · cases h
def m_laws_sameFloat (x0 : Nat) (x1 : Nat) : Bool := (if (feq .f64 x0 x0) = true then (if (feq .f64 x1 x1) = true then (if (feq .f64 x0 0) = true then (if (feq .f64 x1 0) = true
      then ((flt .f64 0 (fdiv .f64 4607182418800017408 x0)) == (flt .f64 0 (fdiv .f64 4607182418800017408 x1))) else (feq .f64 x0 x1)) else (feq .f64 x0 x1)) else false) else (!(feq
      .f64 x1 x1)))
def g_laws_sameFloat : List AV → Option AV
  | [.flt .f64 y0, .flt .f64 y1] => some (.bool (m_laws_sameFloat y0 y1))
  | _ => none
def ic48 : ICode := (.seq (.reg [⟨(some 4), none, (.mov (.c (.bool false)))⟩] [0, 1]) (.seq (.seq (.reg [⟨(some 5), none, (.mov (.t 0))⟩, ⟨(some 6), none, (.mov (.t 0))⟩, ⟨(some 7),
      none, (.bin .neq false (.t 5) (.t 6))⟩, ⟨(some 8), none, (.mov (.t 7))⟩, ⟨(some 9), (some (8, false)), (.mov (.t 1))⟩, ⟨(some 10), (some (8, false)), (.mov (.t 1))⟩, ⟨(some
      11), (some (8, false)), (.bin .neq false (.t 9) (.t 10))⟩, ⟨(some 12), none, (.pick (.t 8) (.c (.bool true)) (.t 11))⟩] [0, 1, 12]) (.cond (.t 12) (.seq (.reg [⟨(some 13),
      none, (.mov (.t 0))⟩, ⟨(some 14), none, (.mov (.t 0))⟩, ⟨(some 15), none, (.bin .neq false (.t 13) (.t 14))⟩, ⟨(some 16), none, (.mov (.t 15))⟩, ⟨(some 17), (some (16, true)),
      (.mov (.t 1))⟩, ⟨(some 18), (some (16, true)), (.mov (.t 1))⟩, ⟨(some 19), (some (16, true)), (.bin .neq false (.t 17) (.t 18))⟩, ⟨(some 20), none, (.pick (.t 16) (.t 19) (.c
      (.bool false)))⟩, ⟨(some 4), none, (.mov (.t 20))⟩] [4]) .ret) .skip)) (.seq (.seq (.reg [⟨(some 21), none, (.mov (.t 0))⟩, ⟨(some 22), none, (.bin .eql false (.t 21) (.c
      (.flt .f64 0)))⟩, ⟨(some 23), none, (.mov (.t 22))⟩, ⟨(some 24), (some (23, true)), (.mov (.t 1))⟩, ⟨(some 25), (some (23, true)), (.bin .eql false (.t 24) (.c (.flt .f64
      0)))⟩, ⟨(some 26), none, (.pick (.t 23) (.t 25) (.c (.bool false)))⟩] [0, 1, 26]) (.cond (.t 26) (.seq (.reg [⟨(some 27), none, (.mov (.t 0))⟩, ⟨(some 28), none, (.bin .quo
      false (.c (.flt .f64 4607182418800017408)) (.t 27))⟩, ⟨(some 29), none, (.bin .gtr false (.t 28) (.c (.flt .f64 0)))⟩, ⟨(some 30), none, (.mov (.t 1))⟩, ⟨(some 31), none,
      (.bin .quo false (.c (.flt .f64 4607182418800017408)) (.t 30))⟩, ⟨(some 32), none, (.bin .gtr false (.t 31) (.c (.flt .f64 0)))⟩, ⟨(some 33), none, (.bin .eql true (.t 29) (.t
      32))⟩, ⟨(some 4), none, (.mov (.t 33))⟩] [4]) .ret) .skip)) (.seq (.reg [⟨(some 34), none, (.mov (.t 0))⟩, ⟨(some 35), none, (.mov (.t 1))⟩, ⟨(some 36), none, (.bin .eql false
      (.t 34) (.t 35))⟩, ⟨(some 4), none, (.mov (.t 36))⟩] [4]) .ret))))
def cp48 : CP := CP.mk [] [] [[0, 1], [0, 1, 12], [4], [0, 1, 26], [4], [4]] 37
theorem fc48_0 : IntKind.wrap .i64 1 = 1 := by decide
theorem fc48_1 : IntKind.wrap .i64 2 = 2 := by decide
theorem fc48_2 : IntKind.wrap .i64 3 = 3 := by decide
theorem s48 : ∀ vs r, g_laws_sameFloat vs = some r → SaysM Try.prog .any 48 vs r := by
  intro vs r h
  unfold g_laws_sameFloat at h
  split at h
  · rename_i y0 y1
    cases h
    refine spec_of (m := .any) (tab := tabOf []) (cp := cp48) (ic := ic48) (rvl := [(.t 4)]) hm tabOk_nil Try.func48 rfl rfl rfl (by kernel_rfl) rfl (Nat.le_of_ble_eq_true rfl) (Nat.le_of_ble_eq_true rfl) ?_
    show eA _ _ _ _
    unfold ic48
    simp only [
        grpS, grpD, grpF, grpL, eop, vop, bop, uop, fltop, convop, endOk, newE, new1, freshL, Md.isNew, outV, pureV, pureX, pure1, AV.cells, AV.one, storable, laid, refless,
              refless1, vload, loadC, storeC, vnil, vfaddr, vextract, flatT, flatE, flatC, vconv, vmm, vidxA, viaddrA, vfield, vlen, elemsOf, dF32, dF64, dI64, dU8, dBool, dStr,
              esOk, elemsS, vsliceX, bnd, ownV, ownC, own1, ownT, isSl, nSl, endL, Md.isOwn, purge, purgeH, purgeB, purgeE, hasName, name1, List.any_cons, List.any_nil, Md.isWr,
              pureV.pureP, Option.map, reduceIte, Nat.reduceEqDiff, Nat.reduceAdd, Nat.reduceMul, Nat.reduceLT, Nat.reduceLeDiff, List.mapM_cons, List.mapM_nil, Option.pure_def,
              Option.bind_eq_bind, Option.bind_some, implies_true, forall_const, beq_self_eq_true, decide_true, decide_false, eq_self, Int.reduceEq, Int.reduceLE, Int.reduceLT,
              if_true, if_false, fc48_0, fc48_1, fc48_2, Int.reduceAdd, Int.reduceSub, Int.reduceMul, Int.reduceNeg, Int.reducePow, Nat.reducePow, Int.reduceToNat, Nat.reduceSub,
              List.replicate, Nat.reduceBEq, wAs, wA, wC, zipW, noDupN, grpE, grpC, en0, dc_en0, ↓b_pick, ePk_true, ePk_false]
    repeat' (first
      | ((first | (refine eGI_of (fun h => ?_) (fun h => ?_)) | (refine eCc_of (fun h => ?_) (fun h => ?_)) | (refine ePk_of (fun h => ?_) (fun h => ?_))) <;> (try simp only [Bool.not_eq_true', Bool.not_eq_false'] at h) <;> simp only [h,
        grpS, grpD, grpF, grpL, eop, vop, bop, uop, fltop, convop, endOk, newE, new1, freshL, Md.isNew, outV, pureV, pureX, pure1, AV.cells, AV.one, storable, laid, refless,
              refless1, vload, loadC, storeC, vnil, vfaddr, vextract, flatT, flatE, flatC, vconv, vmm, vidxA, viaddrA, vfield, vlen, elemsOf, dF32, dF64, dI64, dU8, dBool, dStr,
              esOk, elemsS, vsliceX, bnd, ownV, ownC, own1, ownT, isSl, nSl, endL, Md.isOwn, purge, purgeH, purgeB, purgeE, hasName, name1, List.any_cons, List.any_nil, Md.isWr,
              pureV.pureP, Option.map, reduceIte, Nat.reduceEqDiff, Nat.reduceAdd, Nat.reduceMul, Nat.reduceLT, Nat.reduceLeDiff, List.mapM_cons, List.mapM_nil, Option.pure_def,
              Option.bind_eq_bind, Option.bind_some, implies_true, forall_const, beq_self_eq_true, decide_true, decide_false, eq_self, Int.reduceEq, Int.reduceLE, Int.reduceLT,
              if_true, if_false, fc48_0, fc48_1, fc48_2, Int.reduceAdd, Int.reduceSub, Int.reduceMul, Int.reduceNeg, Int.reducePow, Nat.reducePow, Int.reduceToNat, Nat.reduceSub,
              List.replicate, Nat.reduceBEq, wAs, wA, wC, zipW, noDupN, grpE, grpC, en0, dc_en0, ↓b_pick, ePk_true, ePk_false]))
    all_goals (try simp only [*, m_laws_sameFloat, Bool.and_true, Bool.true_and, Bool.and_false, Bool.false_and, Bool.or_true, Bool.true_or, Bool.or_false, Bool.false_or, Bool.not_true, Bool.not_false, Bool.false_eq_true, if_true, if_false, reduceIte, decide_true, decide_false])
    all_goals (try (simp_all; done))
  · cases h
def m_laws_eqVector (x0 : (Nat × Nat × Nat)) (x1 : (Nat × Nat × Nat)) : Bool := (if (m_laws_sameFloat (widen x0.1) (widen x1.1)) = true then (if (m_laws_sameFloat (widen x0.2.1)
      (widen x1.2.1)) = true then (if (m_laws_sameFloat (widen x0.2.2) (widen x1.2.2)) = true then true else false) else false) else false)
def g_laws_eqVector : List AV → Option AV
  | [.agg [.flt .f32 y0, .flt .f32 y1, .flt .f32 y2], .agg [.flt .f32 y3, .flt .f32 y4, .flt .f32 y5]] => some (.bool (m_laws_eqVector (y0,
      y1, y2) (y3, y4, y5)))
  | _ => none
def ic15 : ICode := (.seq (.reg [⟨(some 2), none, (.box 3 (.t 0))⟩, ⟨(some 3), none, (.box 3 (.t 1))⟩, ⟨(some 4), none, (.mov (.c (.bool false)))⟩] [2, 3]) (.seq (.seq (.reg [⟨(some
      5), none, (.faddr 0 (.t 2))⟩, ⟨(some 6), none, (.load none (.t 5))⟩, ⟨(some 7), none, (.conv (.flt .f64) (.t 6))⟩, ⟨(some 8), none, (.faddr 0 (.t 3))⟩, ⟨(some 9), none, (.load
      none (.t 8))⟩, ⟨(some 10), none, (.conv (.flt .f64) (.t 9))⟩, ⟨(some 11), none, (.call (.fn 48) [(.t 7), (.t 10)] [])⟩, ⟨(some 12), none, (.un .not (.t 11))⟩] [2, 3, 12])
      (.cond (.t 12) (.seq (.reg [⟨(some 4), none, (.mov (.c (.bool false)))⟩] [4]) .ret) .skip)) (.seq (.seq (.reg [⟨(some 13), none, (.faddr 1 (.t 2))⟩, ⟨(some 14), none, (.load
      none (.t 13))⟩, ⟨(some 15), none, (.conv (.flt .f64) (.t 14))⟩, ⟨(some 16), none, (.faddr 1 (.t 3))⟩, ⟨(some 17), none, (.load none (.t 16))⟩, ⟨(some 18), none, (.conv (.flt
      .f64) (.t 17))⟩, ⟨(some 19), none, (.call (.fn 48) [(.t 15), (.t 18)] [])⟩, ⟨(some 20), none, (.un .not (.t 19))⟩] [2, 3, 20]) (.cond (.t 20) (.seq (.reg [⟨(some 4), none,
      (.mov (.c (.bool false)))⟩] [4]) .ret) .skip)) (.seq (.seq (.reg [⟨(some 21), none, (.faddr 2 (.t 2))⟩, ⟨(some 22), none, (.load none (.t 21))⟩, ⟨(some 23), none, (.conv (.flt
      .f64) (.t 22))⟩, ⟨(some 24), none, (.faddr 2 (.t 3))⟩, ⟨(some 25), none, (.load none (.t 24))⟩, ⟨(some 26), none, (.conv (.flt .f64) (.t 25))⟩, ⟨(some 27), none, (.call (.fn
      48) [(.t 23), (.t 26)] [])⟩, ⟨(some 28), none, (.un .not (.t 27))⟩] [28]) (.cond (.t 28) (.seq (.reg [⟨(some 4), none, (.mov (.c (.bool false)))⟩] [4]) .ret) .skip)) (.seq
      (.reg [⟨(some 4), none, (.mov (.c (.bool true)))⟩] [4]) .ret)))))
def cp15 : CP := CP.mk [] [] [[2, 3], [2, 3, 12], [4], [2, 3, 20], [4], [28], [4], [4]] 29
theorem fc15_0 : IntKind.wrap .i64 1 = 1 := by decide
theorem fc15_1 : IntKind.wrap .i64 2 = 2 := by decide
theorem fc15_2 : IntKind.wrap .i64 3 = 3 := by decide
theorem s15 : ∀ vs r, g_laws_eqVector vs = some r → SaysM Try.prog .any 15 vs r := by
  intro vs r h
  unfold g_laws_eqVector at h
  split at h
  · rename_i y0 y1 y2 y3 y4 y5
    cases h
    refine spec_of (m := .any) (tab := tabOf [(48, wM .any g_laws_sameFloat)]) (cp := cp15) (ic := ic15) (rvl := [(.t 4)]) hm (tabOk_cons (m := .any) s48 tabOk_nil) Try.func15 rfl rfl rfl (by kernel_rfl) rfl (Nat.le_of_ble_eq_true rfl) (Nat.le_of_ble_eq_true rfl) ?_
    show eA _ _ _ _
    unfold ic15
    simp only [
        grpS, grpD, grpF, grpL, eop, vop, bop, uop, fltop, convop, endOk, newE, new1, freshL, Md.isNew, outV, pureV, pureX, pure1, AV.cells, AV.one, storable, laid, refless,
              refless1, vload, loadC, storeC, vnil, vfaddr, vextract, flatT, flatE, flatC, vconv, vmm, vidxA, viaddrA, vfield, vlen, elemsOf, dF32, dF64, dI64, dU8, dBool, dStr,
              esOk, elemsS, vsliceX, bnd, ownV, ownC, own1, ownT, isSl, nSl, endL, Md.isOwn, purge, purgeH, purgeB, purgeE, hasName, name1, List.any_cons, List.any_nil, Md.isWr,
              pureV.pureP, Option.map, reduceIte, Nat.reduceEqDiff, Nat.reduceAdd, Nat.reduceMul, Nat.reduceLT, Nat.reduceLeDiff, List.mapM_cons, List.mapM_nil, Option.pure_def,
              Option.bind_eq_bind, Option.bind_some, implies_true, forall_const, beq_self_eq_true, decide_true, decide_false, eq_self, Int.reduceEq, Int.reduceLE, Int.reduceLT,
              if_true, if_false, fc15_0, fc15_1, fc15_2, Int.reduceAdd, Int.reduceSub, Int.reduceMul, Int.reduceNeg, Int.reducePow, Nat.reducePow, Int.reduceToNat, Nat.reduceSub,
              List.replicate, Nat.reduceBEq, wAs, wA, wC, zipW, noDupN, grpE, g_laws_sameFloat, grpC, en0, dc_en0]
    repeat' (first
      | ((first | (refine eGI_of (fun h => ?_) (fun h => ?_)) | (refine eCc_of (fun h => ?_) (fun h => ?_))) <;> (try simp only [Bool.not_eq_true', Bool.not_eq_false'] at h) <;> simp only [h,
        grpS, grpD, grpF, grpL, eop, vop, bop, uop, fltop, convop, endOk, newE, new1, freshL, Md.isNew, outV, pureV, pureX, pure1, AV.cells, AV.one, storable, laid, refless,
              refless1, vload, loadC, storeC, vnil, vfaddr, vextract, flatT, flatE, flatC, vconv, vmm, vidxA, viaddrA, vfield, vlen, elemsOf, dF32, dF64, dI64, dU8, dBool, dStr,
              esOk, elemsS, vsliceX, bnd, ownV, ownC, own1, ownT, isSl, nSl, endL, Md.isOwn, purge, purgeH, purgeB, purgeE, hasName, name1, List.any_cons, List.any_nil, Md.isWr,
              pureV.pureP, Option.map, reduceIte, Nat.reduceEqDiff, Nat.reduceAdd, Nat.reduceMul, Nat.reduceLT, Nat.reduceLeDiff, List.mapM_cons, List.mapM_nil, Option.pure_def,
              Option.bind_eq_bind, Option.bind_some, implies_true, forall_const, beq_self_eq_true, decide_true, decide_false, eq_self, Int.reduceEq, Int.reduceLE, Int.reduceLT,
              if_true, if_false, fc15_0, fc15_1, fc15_2, Int.reduceAdd, Int.reduceSub, Int.reduceMul, Int.reduceNeg, Int.reducePow, Nat.reducePow, Int.reduceToNat, Nat.reduceSub,
              List.replicate, Nat.reduceBEq, wAs, wA, wC, zipW, noDupN, grpE, g_laws_sameFloat, grpC, en0, dc_en0]))
    all_goals (try simp only [*, m_laws_eqVector, Bool.and_true, Bool.true_and, Bool.and_false, Bool.false_and, Bool.or_true, Bool.true_or, Bool.or_false, Bool.false_or, Bool.not_true, Bool.not_false, Bool.false_eq_true, if_true, if_false, reduceIte, decide_true, decide_false])
    all_goals (try (simp_all; done))
  · cases h
def m_laws_eqTurn (x0 : (Nat × Nat × Nat × Nat)) (x1 : (Nat × Nat × Nat × Nat)) : Bool := (if (m_laws_sameFloat (widen x0.1) (widen x1.1)) = true then (if (m_laws_sameFloat (widen
      x0.2.1) (widen x1.2.1)) = true then (if (m_laws_sameFloat (widen x0.2.2.1) (widen x1.2.2.1)) = true then (if (m_laws_sameFloat (widen x0.2.2.2) (widen x1.2.2.2)) = true then
      true else false) else false) else false) else false)
def g_laws_eqTurn : List AV → Option AV
  | [.agg [.flt .f32 y0, .flt .f32 y1, .flt .f32 y2, .flt .f32 y3], .agg [.flt .f32 y4, .flt .f32 y5, .flt .f32 y6, .flt .f32 y7]] => some
      (.bool (m_laws_eqTurn (y0, y1, y2, y3) (y4, y5, y6, y7)))
  | _ => none
def ic81 : ICode := (.seq (.reg [⟨(some 2), none, (.box 4 (.t 0))⟩, ⟨(some 3), none, (.box 4 (.t 1))⟩, ⟨(some 4), none, (.mov (.c (.bool false)))⟩] [2, 3]) (.seq (.seq (.reg [⟨(some
      5), none, (.faddr 0 (.t 2))⟩, ⟨(some 6), none, (.load none (.t 5))⟩, ⟨(some 7), none, (.conv (.flt .f64) (.t 6))⟩, ⟨(some 8), none, (.faddr 0 (.t 3))⟩, ⟨(some 9), none, (.load
      none (.t 8))⟩, ⟨(some 10), none, (.conv (.flt .f64) (.t 9))⟩, ⟨(some 11), none, (.call (.fn 48) [(.t 7), (.t 10)] [])⟩, ⟨(some 12), none, (.un .not (.t 11))⟩] [2, 3, 12])
      (.cond (.t 12) (.seq (.reg [⟨(some 4), none, (.mov (.c (.bool false)))⟩] [4]) .ret) .skip)) (.seq (.seq (.reg [⟨(some 13), none, (.faddr 1 (.t 2))⟩, ⟨(some 14), none, (.load
      none (.t 13))⟩, ⟨(some 15), none, (.conv (.flt .f64) (.t 14))⟩, ⟨(some 16), none, (.faddr 1 (.t 3))⟩, ⟨(some 17), none, (.load none (.t 16))⟩, ⟨(some 18), none, (.conv (.flt
      .f64) (.t 17))⟩, ⟨(some 19), none, (.call (.fn 48) [(.t 15), (.t 18)] [])⟩, ⟨(some 20), none, (.un .not (.t 19))⟩] [2, 3, 20]) (.cond (.t 20) (.seq (.reg [⟨(some 4), none,
      (.mov (.c (.bool false)))⟩] [4]) .ret) .skip)) (.seq (.seq (.reg [⟨(some 21), none, (.faddr 2 (.t 2))⟩, ⟨(some 22), none, (.load none (.t 21))⟩, ⟨(some 23), none, (.conv (.flt
      .f64) (.t 22))⟩, ⟨(some 24), none, (.faddr 2 (.t 3))⟩, ⟨(some 25), none, (.load none (.t 24))⟩, ⟨(some 26), none, (.conv (.flt .f64) (.t 25))⟩, ⟨(some 27), none, (.call (.fn
      48) [(.t 23), (.t 26)] [])⟩, ⟨(some 28), none, (.un .not (.t 27))⟩] [2, 3, 28]) (.cond (.t 28) (.seq (.reg [⟨(some 4), none, (.mov (.c (.bool false)))⟩] [4]) .ret) .skip))
      (.seq (.seq (.reg [⟨(some 29), none, (.faddr 3 (.t 2))⟩, ⟨(some 30), none, (.load none (.t 29))⟩, ⟨(some 31), none, (.conv (.flt .f64) (.t 30))⟩, ⟨(some 32), none, (.faddr 3
      (.t 3))⟩, ⟨(some 33), none, (.load none (.t 32))⟩, ⟨(some 34), none, (.conv (.flt .f64) (.t 33))⟩, ⟨(some 35), none, (.call (.fn 48) [(.t 31), (.t 34)] [])⟩, ⟨(some 36), none,
      (.un .not (.t 35))⟩] [36]) (.cond (.t 36) (.seq (.reg [⟨(some 4), none, (.mov (.c (.bool false)))⟩] [4]) .ret) .skip)) (.seq (.reg [⟨(some 4), none, (.mov (.c (.bool true)))⟩]
      [4]) .ret))))))
def cp81 : CP := CP.mk [] [] [[2, 3], [2, 3, 12], [4], [2, 3, 20], [4], [2, 3, 28], [4], [36], [4], [4]] 37
theorem fc81_0 : IntKind.wrap .i64 1 = 1 := by decide
theorem fc81_1 : IntKind.wrap .i64 2 = 2 := by decide
theorem fc81_2 : IntKind.wrap .i64 3 = 3 := by decide
theorem s81 : ∀ vs r, g_laws_eqTurn vs = some r → SaysM Try.prog .any 81 vs r := by
  intro vs r h
  unfold g_laws_eqTurn at h
  split at h
  · rename_i y0 y1 y2 y3 y4 y5 y6 y7
    cases h
    refine spec_of (m := .any) (tab := tabOf [(48, wM .any g_laws_sameFloat)]) (cp := cp81) (ic := ic81) (rvl := [(.t 4)]) hm (tabOk_cons (m := .any) s48 tabOk_nil) Try.func81 rfl rfl rfl (by kernel_rfl) rfl (Nat.le_of_ble_eq_true rfl) (Nat.le_of_ble_eq_true rfl) ?_
    show eA _ _ _ _
    unfold ic81
    simp only [
        grpS, grpD, grpF, grpL, eop, vop, bop, uop, fltop, convop, endOk, newE, new1, freshL, Md.isNew, outV, pureV, pureX, pure1, AV.cells, AV.one, storable, laid, refless,
              refless1, vload, loadC, storeC, vnil, vfaddr, vextract, flatT, flatE, flatC, vconv, vmm, vidxA, viaddrA, vfield, vlen, elemsOf, dF32, dF64, dI64, dU8, dBool, dStr,
              esOk, elemsS, vsliceX, bnd, ownV, ownC, own1, ownT, isSl, nSl, endL, Md.isOwn, purge, purgeH, purgeB, purgeE, hasName, name1, List.any_cons, List.any_nil, Md.isWr,
              pureV.pureP, Option.map, reduceIte, Nat.reduceEqDiff, Nat.reduceAdd, Nat.reduceMul, Nat.reduceLT, Nat.reduceLeDiff, List.mapM_cons, List.mapM_nil, Option.pure_def,
              Option.bind_eq_bind, Option.bind_some, implies_true, forall_const, beq_self_eq_true, decide_true, decide_false, eq_self, Int.reduceEq, Int.reduceLE, Int.reduceLT,
              if_true, if_false, fc81_0, fc81_1, fc81_2, Int.reduceAdd, Int.reduceSub, Int.reduceMul, Int.reduceNeg, Int.reducePow, Nat.reducePow, Int.reduceToNat, Nat.reduceSub,
              List.replicate, Nat.reduceBEq, wAs, wA, wC, zipW, noDupN, grpE, g_laws_sameFloat, grpC, en0, dc_en0]
    repeat' (first
      | ((first | (refine eGI_of (fun h => ?_) (fun h => ?_)) | (refine eCc_of (fun h => ?_) (fun h => ?_))) <;> (try simp only [Bool.not_eq_true', Bool.not_eq_false'] at h) <;> simp only [h,
        grpS, grpD, grpF, grpL, eop, vop, bop, uop, fltop, convop, endOk, newE, new1, freshL, Md.isNew, outV, pureV, pureX, pure1, AV.cells, AV.one, storable, laid, refless,
              refless1, vload, loadC, storeC, vnil, vfaddr, vextract, flatT, flatE, flatC, vconv, vmm, vidxA, viaddrA, vfield, vlen, elemsOf, dF32, dF64, dI64, dU8, dBool, dStr,
              esOk, elemsS, vsliceX, bnd, ownV, ownC, own1, ownT, isSl, nSl, endL, Md.isOwn, purge, purgeH, purgeB, purgeE, hasName, name1, List.any_cons, List.any_nil, Md.isWr,
              pureV.pureP, Option.map, reduceIte, Nat.reduceEqDiff, Nat.reduceAdd, Nat.reduceMul, Nat.reduceLT, Nat.reduceLeDiff, List.mapM_cons, List.mapM_nil, Option.pure_def,
              Option.bind_eq_bind, Option.bind_some, implies_true, forall_const, beq_self_eq_true, decide_true, decide_false, eq_self, Int.reduceEq, Int.reduceLE, Int.reduceLT,
              if_true, if_false, fc81_0, fc81_1, fc81_2, Int.reduceAdd, Int.reduceSub, Int.reduceMul, Int.reduceNeg, Int.reducePow, Nat.reducePow, Int.reduceToNat, Nat.reduceSub,
              List.replicate, Nat.reduceBEq, wAs, wA, wC, zipW, noDupN, grpE, g_laws_sameFloat, grpC, en0, dc_en0]))
    all_goals (try simp only [*, m_laws_eqTurn, Bool.and_true, Bool.true_and, Bool.and_false, Bool.false_and, Bool.or_true, Bool.true_or, Bool.or_false, Bool.false_or, Bool.not_true, Bool.not_false, Bool.false_eq_true, if_true, if_false, reduceIte, decide_true, decide_false])
    all_goals (try (simp_all; done))
  · cases h
def l_laws_eqTurnS_0 (x0 : (List (Nat × Nat × Nat × Nat))) (x1 : (List (Nat × Nat × Nat × Nat))) : Nat → Int → Option (Bool × Bool × Unit)
  | 0, _ => none
  | n + 1, z0_0 => (if (decide (z0_0 < ((List.length x0 : Nat) : Int))) = true then (need (inB z0_0 (List.length x0)) (need (inB z0_0 (List.length x1)) (if (m_laws_eqTurn (atI x0
        z0_0) (atI x1 z0_0)) = true then (l_laws_eqTurnS_0 x0 x1 n (IntKind.wrap .i64 (z0_0 + 1))) else (some (true, false, default))))) else (some (false, default, ())))
def m_laws_eqTurnS (x0 : (List (Nat × Nat × Nat × Nat))) (x1 : (List (Nat × Nat × Nat × Nat))) : Bool := (if (decide (((List.length x0 : Nat) : Int) = ((List.length x1 : Nat) :
      Int))) = true then (if (Option.getD (l_laws_eqTurnS_0 x0 x1 (Int.toNat (((List.length x0 : Nat) : Int) - 0) + 2) 0) default).1 = true then (Option.getD (l_laws_eqTurnS_0 x0 x1
      (Int.toNat (((List.length x0 : Nat) : Int) - 0) + 2) 0) default).2.1 else true) else false)
def p_laws_eqTurnS (x0 : (List (Nat × Nat × Nat × Nat))) (x1 : (List (Nat × Nat × Nat × Nat))) : Bool := (!(decide (((List.length x0 : Nat) : Int) = ((List.length x1 : Nat) : Int)))
      || (Option.isSome (l_laws_eqTurnS_0 x0 x1 (Int.toNat (((List.length x0 : Nat) : Int) - 0) + 2) 0)))
def g_laws_eqTurnS : List AV → Option AV
  | [.sl w0, .sl w1] => (match decL dc_en0 w0 with | some y0 => ((match decL dc_en0 w1 with | some y1 => (if p_laws_eqTurnS y0 y1 = true then some (.bool (m_laws_eqTurnS y0 y1)) else none) | none => none)) | none => none)
  | _ => none
def lb59_0 : ICode := (.seq (.seq (.reg [⟨(some 11), none, (.mov (.t 5))⟩, ⟨(some 12), none, (.mov (.t 0))⟩, ⟨(some 13), none, (.len false (.t 12))⟩, ⟨(some 14), none, (.bin .lss
      false (.t 11) (.t 13))⟩] [0, 1, 5, 14]) (.cond (.t 14) .skip (.exit 0))) (.seq (.block 1 (.seq (.reg [⟨(some 17), none, (.mov (.t 0))⟩, ⟨(some 18), none, (.mov (.t 5))⟩,
      ⟨(some 19), none, (.iaddrS 4 (.t 17) (.t 18))⟩, ⟨(some 20), none, (.load (some 4) (.t 19))⟩, ⟨(some 21), none, (.mov (.t 1))⟩, ⟨(some 22), none, (.mov (.t 5))⟩, ⟨(some 23),
      none, (.iaddrS 4 (.t 21) (.t 22))⟩, ⟨(some 24), none, (.load (some 4) (.t 23))⟩, ⟨(some 25), none, (.call (.fn 81) [(.t 20), (.t 24)] [])⟩, ⟨(some 26), none, (.un .not (.t
      25))⟩] [0, 1, 5, 26]) (.cond (.t 26) (.seq (.reg [⟨(some 4), none, (.mov (.c (.bool false)))⟩] [4]) .ret) .skip))) (.reg [⟨(some 15), none, (.mov (.t 5))⟩, ⟨(some 16), none,
      (.bin .add false (.t 15) (.c (.int .i64 1)))⟩, ⟨(some 5), none, (.mov (.t 16))⟩] [0, 1, 5])))
def ic59 : ICode := (.seq (.reg [⟨(some 4), none, (.mov (.c (.bool false)))⟩] [0, 1]) (.seq (.seq (.reg [⟨(some 6), none, (.mov (.t 0))⟩, ⟨(some 7), none, (.len false (.t 6))⟩,
      ⟨(some 8), none, (.mov (.t 1))⟩, ⟨(some 9), none, (.len false (.t 8))⟩, ⟨(some 10), none, (.bin .neq false (.t 7) (.t 9))⟩] [0, 1, 10]) (.cond (.t 10) (.seq (.reg [⟨(some 4),
      none, (.mov (.c (.bool false)))⟩] [4]) .ret) .skip)) (.seq (.seq (.reg [⟨(some 5), none, (.mov (.c (.int .i64 0)))⟩] [0, 1, 5]) (.block 0 (.loop lb59_0))) (.seq (.reg [⟨(some
      4), none, (.mov (.c (.bool true)))⟩] [4]) .ret))))
def cp59 : CP := CP.mk [] [] [[0, 1], [0, 1, 10], [4], [0, 1, 5], [0, 1, 5, 14], [0, 1, 5], [0, 1, 5, 26], [4], [4]] 27
theorem fc59_0 : IntKind.wrap .i64 1 = 1 := by decide
theorem fc59_1 : IntKind.wrap .i64 2 = 2 := by decide
theorem fc59_2 : IntKind.wrap .i64 3 = 3 := by decide
theorem sl59_0 (x0 : (List (Nat × Nat × Nat × Nat))) (x1 : (List (Nat × Nat × Nat × Nat))) : ∀ (n : Nat) (z0_0 : Int) (o : (Bool × Bool × Unit)) (K : IExit → St → Prop),
      l_laws_eqTurnS_0 x0 x1 n z0_0 = some o → (∀ st, o.1 = true → outM .any st [(.t 4)] = some (.bool o.2.1) → K .ret st) → (∀ st, o.1 = false → Wk st (⟨[], []⟩ : St) → K (.exit 0)
      st) → eA (tabOf [(81, wM .any g_laws_eqTurn)]) (.loop lb59_0) (⟨[(0, (.sl (List.map en0 x0))), (1, (.sl (List.map en0 x1))), (5, (.int .i64 z0_0))], []⟩ : St) K := by
  intro n
  induction n with
  | zero =>
    intro z0_0 o K h h0 h1
    simp only [l_laws_eqTurnS_0, reduceCtorEq] at h
  | succ n ih =>
    intro z0_0 o K h h0 h1
    refine eA_loop ?_
    unfold lb59_0
    unfold l_laws_eqTurnS_0 at h
    (try simp only [need_iff] at h)
    simp only [
      need_iff, h, grpS, grpD, grpF, grpL, eop, vop, bop, uop, fltop, convop, endOk, newE, new1, freshL, Md.isNew, outV, pureV, pureX, pure1, AV.cells, AV.one, storable, laid,
            refless, refless1, vload, loadC, storeC, vnil, vfaddr, vextract, flatT, flatE, flatC, vconv, vmm, vidxA, viaddrA, vfield, vlen, elemsOf, dF32, dF64, dI64, dU8, dBool,
            dStr, esOk, elemsS, vsliceX, bnd, ownV, ownC, own1, ownT, isSl, nSl, endL, Md.isOwn, purge, purgeH, purgeB, purgeE, hasName, name1, List.any_cons, List.any_nil, Md.isWr,
            pureV.pureP, Option.map, reduceIte, Nat.reduceEqDiff, Nat.reduceAdd, Nat.reduceMul, Nat.reduceLT, Nat.reduceLeDiff, List.mapM_cons, List.mapM_nil, Option.pure_def,
            Option.bind_eq_bind, Option.bind_some, implies_true, forall_const, beq_self_eq_true, decide_true, decide_false, eq_self, Int.reduceEq, Int.reduceLE, Int.reduceLT,
            if_true, if_false, fc59_0, fc59_1, fc59_2, Int.reduceAdd, Int.reduceSub, Int.reduceMul, Int.reduceNeg, Int.reducePow, Nat.reducePow, Int.reduceToNat, Nat.reduceSub,
            List.replicate, Nat.reduceBEq, wAs, wA, wC, zipW, noDupN, grpE, g_laws_eqTurn, grpC, en0, dc_en0]
    repeat' (first
      | ((first | (refine eGI_of (fun hc => ?_) (fun hc => ?_)) | (refine eCc_of (fun hc => ?_) (fun hc => ?_)) | (have hc := True.intro; refine KW_refl ?_)) <;> (try simp only [Bool.not_eq_true', Bool.not_eq_false'] at hc) <;> (try simp only [hc, need_iff, reduceCtorEq, Bool.not_eq_true', decide_eq_false_iff_not, Bool.not_true, Bool.not_false, Bool.false_or, Bool.true_or, Bool.true_and, Bool.false_and, Bool.and_eq_true, Bool.or_eq_true, if_true, if_false, reduceIte, Bool.false_eq_true, and_true, true_and, false_or, or_false, decide_eq_true_eq, not_false_eq_true, not_true_eq_false] at h) <;> (try (have hc2 := hc; simp only [decide_eq_true_eq, decide_eq_false_iff_not] at hc2; simp only [hc2, if_true, if_false, reduceCtorEq, Bool.not_eq_true', decide_eq_false_iff_not, Bool.not_true, Bool.not_false, Bool.false_or, Bool.true_or, Bool.true_and, Bool.false_and, Bool.and_eq_true, Bool.or_eq_true, if_true, if_false, reduceIte, Bool.false_eq_true, and_true, true_and, false_or, or_false, decide_eq_true_eq, not_false_eq_true, not_true_eq_false] at h)) <;> simp only [hc,
      need_iff, h, grpS, grpD, grpF, grpL, eop, vop, bop, uop, fltop, convop, endOk, newE, new1, freshL, Md.isNew, outV, pureV, pureX, pure1, AV.cells, AV.one, storable, laid,
            refless, refless1, vload, loadC, storeC, vnil, vfaddr, vextract, flatT, flatE, flatC, vconv, vmm, vidxA, viaddrA, vfield, vlen, elemsOf, dF32, dF64, dI64, dU8, dBool,
            dStr, esOk, elemsS, vsliceX, bnd, ownV, ownC, own1, ownT, isSl, nSl, endL, Md.isOwn, purge, purgeH, purgeB, purgeE, hasName, name1, List.any_cons, List.any_nil, Md.isWr,
            pureV.pureP, Option.map, reduceIte, Nat.reduceEqDiff, Nat.reduceAdd, Nat.reduceMul, Nat.reduceLT, Nat.reduceLeDiff, List.mapM_cons, List.mapM_nil, Option.pure_def,
            Option.bind_eq_bind, Option.bind_some, implies_true, forall_const, beq_self_eq_true, decide_true, decide_false, eq_self, Int.reduceEq, Int.reduceLE, Int.reduceLT,
            if_true, if_false, fc59_0, fc59_1, fc59_2, Int.reduceAdd, Int.reduceSub, Int.reduceMul, Int.reduceNeg, Int.reducePow, Nat.reducePow, Int.reduceToNat, Nat.reduceSub,
            List.replicate, Nat.reduceBEq, wAs, wA, wC, zipW, noDupN, grpE, g_laws_eqTurn, grpC, en0, dc_en0]))
    all_goals (repeat (replace h := And.right h))
    all_goals first
      | (refine eA_wk (wk_norm (ks := [0, 1, 5]) (ls := []) ?_) (eA_cast ?_ (ih _ _ _ h h0 h1)); (simp only [normOk, optIn, blkIn, nameIn,
      need_iff, h, grpS, grpD, grpF, grpL, eop, vop, bop, uop, fltop, convop, endOk, newE, new1, freshL, Md.isNew, outV, pureV, pureX, pure1, AV.cells, AV.one, storable, laid,
            refless, refless1, vload, loadC, storeC, vnil, vfaddr, vextract, flatT, flatE, flatC, vconv, vmm, vidxA, viaddrA, vfield, vlen, elemsOf, dF32, dF64, dI64, dU8, dBool,
            dStr, esOk, elemsS, vsliceX, bnd, ownV, ownC, own1, ownT, isSl, nSl, endL, Md.isOwn, purge, purgeH, purgeB, purgeE, hasName, name1, List.any_cons, List.any_nil, Md.isWr,
            pureV.pureP, Option.map, reduceIte, Nat.reduceEqDiff, Nat.reduceAdd, Nat.reduceMul, Nat.reduceLT, Nat.reduceLeDiff, List.mapM_cons, List.mapM_nil, Option.pure_def,
            Option.bind_eq_bind, Option.bind_some, implies_true, forall_const, beq_self_eq_true, decide_true, decide_false, eq_self, Int.reduceEq, Int.reduceLE, Int.reduceLT,
            if_true, if_false, fc59_0, fc59_1, fc59_2, Int.reduceAdd, Int.reduceSub, Int.reduceMul, Int.reduceNeg, Int.reducePow, Nat.reducePow, Int.reduceToNat, Nat.reduceSub,
            List.replicate, Nat.reduceBEq, wAs, wA, wC, zipW, noDupN, grpE, g_laws_eqTurn, grpC, en0, dc_en0] <;> rfl); (simp only [normS, List.map_append, List.length_append, List.map_set, List.length_set, List.map_replicate, List.length_replicate, List.map_nil, List.map_cons,
      need_iff, h, grpS, grpD, grpF, grpL, eop, vop, bop, uop, fltop, convop, endOk, newE, new1, freshL, Md.isNew, outV, pureV, pureX, pure1, AV.cells, AV.one, storable, laid,
            refless, refless1, vload, loadC, storeC, vnil, vfaddr, vextract, flatT, flatE, flatC, vconv, vmm, vidxA, viaddrA, vfield, vlen, elemsOf, dF32, dF64, dI64, dU8, dBool,
            dStr, esOk, elemsS, vsliceX, bnd, ownV, ownC, own1, ownT, isSl, nSl, endL, Md.isOwn, purge, purgeH, purgeB, purgeE, hasName, name1, List.any_cons, List.any_nil, Md.isWr,
            pureV.pureP, Option.map, reduceIte, Nat.reduceEqDiff, Nat.reduceAdd, Nat.reduceMul, Nat.reduceLT, Nat.reduceLeDiff, List.mapM_cons, List.mapM_nil, Option.pure_def,
            Option.bind_eq_bind, Option.bind_some, implies_true, forall_const, beq_self_eq_true, decide_true, decide_false, eq_self, Int.reduceEq, Int.reduceLE, Int.reduceLT,
            if_true, if_false, fc59_0, fc59_1, fc59_2, Int.reduceAdd, Int.reduceSub, Int.reduceMul, Int.reduceNeg, Int.reducePow, Nat.reducePow, Int.reduceToNat, Nat.reduceSub,
            List.replicate, Nat.reduceBEq, wAs, wA, wC, zipW, noDupN, grpE, g_laws_eqTurn, grpC, en0, dc_en0] <;> rfl))
      | (cases h; refine h0 _ rfl ?_; simp only [
      grpS, grpD, grpF, grpL, eop, vop, bop, uop, fltop, convop, endOk, newE, new1, freshL, Md.isNew, outV, pureV, pureX, pure1, AV.cells, AV.one, storable, laid, refless, refless1,
            vload, loadC, storeC, vnil, vfaddr, vextract, flatT, flatE, flatC, vconv, vmm, vidxA, viaddrA, vfield, vlen, elemsOf, dF32, dF64, dI64, dU8, dBool, dStr, esOk, elemsS,
            vsliceX, bnd, ownV, ownC, own1, ownT, isSl, nSl, endL, Md.isOwn, purge, purgeH, purgeB, purgeE, hasName, name1, List.any_cons, List.any_nil, Md.isWr, pureV.pureP,
            Option.map, reduceIte, Nat.reduceEqDiff, Nat.reduceAdd, Nat.reduceMul, Nat.reduceLT, Nat.reduceLeDiff, List.mapM_cons, List.mapM_nil, Option.pure_def,
            Option.bind_eq_bind, Option.bind_some, implies_true, forall_const, beq_self_eq_true, decide_true, decide_false, eq_self, Int.reduceEq, Int.reduceLE, Int.reduceLT,
            if_true, if_false, fc59_0, fc59_1, fc59_2, Int.reduceAdd, Int.reduceSub, Int.reduceMul, Int.reduceNeg, Int.reducePow, Nat.reducePow, Int.reduceToNat, Nat.reduceSub,
            List.replicate, Nat.reduceBEq, wAs, wA, wC, zipW, noDupN, grpE, g_laws_eqTurn, grpC, en0, dc_en0])
      | (cases h; refine h1 _ rfl (Wk.cast (wk_norm (ks := []) (ls := []) ?_) ?_); (simp only [normOk, optIn, blkIn, nameIn,
      grpS, grpD, grpF, grpL, eop, vop, bop, uop, fltop, convop, endOk, newE, new1, freshL, Md.isNew, outV, pureV, pureX, pure1, AV.cells, AV.one, storable, laid, refless, refless1,
            vload, loadC, storeC, vnil, vfaddr, vextract, flatT, flatE, flatC, vconv, vmm, vidxA, viaddrA, vfield, vlen, elemsOf, dF32, dF64, dI64, dU8, dBool, dStr, esOk, elemsS,
            vsliceX, bnd, ownV, ownC, own1, ownT, isSl, nSl, endL, Md.isOwn, purge, purgeH, purgeB, purgeE, hasName, name1, List.any_cons, List.any_nil, Md.isWr, pureV.pureP,
            Option.map, reduceIte, Nat.reduceEqDiff, Nat.reduceAdd, Nat.reduceMul, Nat.reduceLT, Nat.reduceLeDiff, List.mapM_cons, List.mapM_nil, Option.pure_def,
            Option.bind_eq_bind, Option.bind_some, implies_true, forall_const, beq_self_eq_true, decide_true, decide_false, eq_self, Int.reduceEq, Int.reduceLE, Int.reduceLT,
            if_true, if_false, fc59_0, fc59_1, fc59_2, Int.reduceAdd, Int.reduceSub, Int.reduceMul, Int.reduceNeg, Int.reducePow, Nat.reducePow, Int.reduceToNat, Nat.reduceSub,
            List.replicate, Nat.reduceBEq, wAs, wA, wC, zipW, noDupN, grpE, g_laws_eqTurn, grpC, en0, dc_en0] <;> rfl); (simp only [normS, List.map_append, List.length_append, List.map_set, List.length_set, List.map_replicate, List.length_replicate,
      grpS, grpD, grpF, grpL, eop, vop, bop, uop, fltop, convop, endOk, newE, new1, freshL, Md.isNew, outV, pureV, pureX, pure1, AV.cells, AV.one, storable, laid, refless, refless1,
            vload, loadC, storeC, vnil, vfaddr, vextract, flatT, flatE, flatC, vconv, vmm, vidxA, viaddrA, vfield, vlen, elemsOf, dF32, dF64, dI64, dU8, dBool, dStr, esOk, elemsS,
            vsliceX, bnd, ownV, ownC, own1, ownT, isSl, nSl, endL, Md.isOwn, purge, purgeH, purgeB, purgeE, hasName, name1, List.any_cons, List.any_nil, Md.isWr, pureV.pureP,
            Option.map, reduceIte, Nat.reduceEqDiff, Nat.reduceAdd, Nat.reduceMul, Nat.reduceLT, Nat.reduceLeDiff, List.mapM_cons, List.mapM_nil, Option.pure_def,
            Option.bind_eq_bind, Option.bind_some, implies_true, forall_const, beq_self_eq_true, decide_true, decide_false, eq_self, Int.reduceEq, Int.reduceLE, Int.reduceLT,
            if_true, if_false, fc59_0, fc59_1, fc59_2, Int.reduceAdd, Int.reduceSub, Int.reduceMul, Int.reduceNeg, Int.reducePow, Nat.reducePow, Int.reduceToNat, Nat.reduceSub,
            List.replicate, Nat.reduceBEq, wAs, wA, wC, zipW, noDupN, grpE, g_laws_eqTurn, grpC, en0, dc_en0] <;> rfl))
theorem s59 : ∀ vs r, g_laws_eqTurnS vs = some r → SaysM Try.prog .any 59 vs r := by
  intro vs r h
  unfold g_laws_eqTurnS at h
  split at h
  · rename_i w0 w1
    cases hd_y0 : decL dc_en0 w0 with
    | none => rw [hd_y0] at h; cases h
    | some y0 =>
    rw [hd_y0] at h
    obtain rfl := decL_inv dc_en0_inv hd_y0
    clear hd_y0
    dsimp only at h
    cases hd_y1 : decL dc_en0 w1 with
    | none => rw [hd_y1] at h; cases h
    | some y1 =>
    rw [hd_y1] at h
    obtain rfl := decL_inv dc_en0_inv hd_y1
    clear hd_y1
    dsimp only at h
    split at h
    · rename_i hp
      cases h
      refine spec_of (m := .any) (tab := tabOf [(81, wM .any g_laws_eqTurn)]) (cp := cp59) (ic := ic59) (rvl := [(.t 4)]) hm (tabOk_cons (m := .any) s81 tabOk_nil) Try.func59 rfl rfl rfl (by kernel_rfl) rfl (Nat.le_of_ble_eq_true rfl) (Nat.le_of_ble_eq_true rfl) ?_
      show eA _ _ _ _
      unfold ic59
      simp only [p_laws_eqTurnS, Bool.and_eq_true, Bool.or_eq_true, decide_eq_true_eq, Bool.not_eq_true', decide_eq_false_iff_not] at hp
      simp only [
          hp, grpS, grpD, grpF, grpL, eop, vop, bop, uop, fltop, convop, endOk, newE, new1, freshL, Md.isNew, outV, pureV, pureX, pure1, AV.cells, AV.one, storable, laid, refless,
                refless1, vload, loadC, storeC, vnil, vfaddr, vextract, flatT, flatE, flatC, vconv, vmm, vidxA, viaddrA, vfield, vlen, elemsOf, dF32, dF64, dI64, dU8, dBool, dStr,
                esOk, elemsS, vsliceX, bnd, ownV, ownC, own1, ownT, isSl, nSl, endL, Md.isOwn, purge, purgeH, purgeB, purgeE, hasName, name1, List.any_cons, List.any_nil, Md.isWr,
                pureV.pureP, Option.map, reduceIte, Nat.reduceEqDiff, Nat.reduceAdd, Nat.reduceMul, Nat.reduceLT, Nat.reduceLeDiff, List.mapM_cons, List.mapM_nil, Option.pure_def,
                Option.bind_eq_bind, Option.bind_some, implies_true, forall_const, beq_self_eq_true, decide_true, decide_false, eq_self, Int.reduceEq, Int.reduceLE, Int.reduceLT,
                if_true, if_false, fc59_0, fc59_1, fc59_2, Int.reduceAdd, Int.reduceSub, Int.reduceMul, Int.reduceNeg, Int.reducePow, Nat.reducePow, Int.reduceToNat, Nat.reduceSub,
                List.replicate, Nat.reduceBEq, wAs, wA, wC, zipW, noDupN, grpE, g_laws_eqTurn, grpC, en0, dc_en0]
      repeat' (first
        | ((first | (refine eGI_of (fun h => ?_) (fun h => ?_)) | (refine eCc_of (fun h => ?_) (fun h => ?_)) | (have h := True.intro; refine KW_refl ?_)) <;> (try simp only [Bool.not_eq_true', Bool.not_eq_false'] at h) <;> (try simp only [h, reduceCtorEq, Bool.not_eq_true', decide_eq_false_iff_not, Bool.not_true, Bool.not_false, Bool.false_or, Bool.true_or, Bool.true_and, Bool.false_and, Bool.and_eq_true, Bool.or_eq_true, if_true, if_false, reduceIte, Bool.false_eq_true, and_true, true_and, false_or, or_false, decide_eq_true_eq, not_false_eq_true, not_true_eq_false] at hp) <;> (try (have h2 := h; simp only [decide_eq_true_eq, decide_eq_false_iff_not] at h2; (first | (replace h2 := eq_false h2) | (replace h2 := eq_true h2)); simp only [h2, if_true, if_false, false_or, true_or, or_true, or_false, and_true, true_and, not_false_eq_true, not_true_eq_false] at hp)) <;> simp only [h,
          hp, grpS, grpD, grpF, grpL, eop, vop, bop, uop, fltop, convop, endOk, newE, new1, freshL, Md.isNew, outV, pureV, pureX, pure1, AV.cells, AV.one, storable, laid, refless,
                refless1, vload, loadC, storeC, vnil, vfaddr, vextract, flatT, flatE, flatC, vconv, vmm, vidxA, viaddrA, vfield, vlen, elemsOf, dF32, dF64, dI64, dU8, dBool, dStr,
                esOk, elemsS, vsliceX, bnd, ownV, ownC, own1, ownT, isSl, nSl, endL, Md.isOwn, purge, purgeH, purgeB, purgeE, hasName, name1, List.any_cons, List.any_nil, Md.isWr,
                pureV.pureP, Option.map, reduceIte, Nat.reduceEqDiff, Nat.reduceAdd, Nat.reduceMul, Nat.reduceLT, Nat.reduceLeDiff, List.mapM_cons, List.mapM_nil, Option.pure_def,
                Option.bind_eq_bind, Option.bind_some, implies_true, forall_const, beq_self_eq_true, decide_true, decide_false, eq_self, Int.reduceEq, Int.reduceLE, Int.reduceLT,
                if_true, if_false, fc59_0, fc59_1, fc59_2, Int.reduceAdd, Int.reduceSub, Int.reduceMul, Int.reduceNeg, Int.reducePow, Nat.reducePow, Int.reduceToNat, Nat.reduceSub,
                List.replicate, Nat.reduceBEq, wAs, wA, wC, zipW, noDupN, grpE, g_laws_eqTurn, grpC, en0, dc_en0])
        | (refine eA_wk (wk_norm (ks := [0, 1, 5]) (ls := []) ?_) (eA_cast ?_ (sl59_0 y0 y1 _ _ _ _ (getD_some (d := default) (x := (l_laws_eqTurnS_0 y0 y1 (Int.toNat (((List.length y0 : Nat) : Int) - 0) + 2) 0)) ?_) ?_ ?_)); (simp only [nilS, nilV, normOk, optIn, blkIn, nameIn, 
          hp, grpS, grpD, grpF, grpL, eop, vop, bop, uop, fltop, convop, endOk, newE, new1, freshL, Md.isNew, outV, pureV, pureX, pure1, AV.cells, AV.one, storable, laid, refless,
                refless1, vload, loadC, storeC, vnil, vfaddr, vextract, flatT, flatE, flatC, vconv, vmm, vidxA, viaddrA, vfield, vlen, elemsOf, dF32, dF64, dI64, dU8, dBool, dStr,
                esOk, elemsS, vsliceX, bnd, ownV, ownC, own1, ownT, isSl, nSl, endL, Md.isOwn, purge, purgeH, purgeB, purgeE, hasName, name1, List.any_cons, List.any_nil, Md.isWr,
                pureV.pureP, Option.map, reduceIte, Nat.reduceEqDiff, Nat.reduceAdd, Nat.reduceMul, Nat.reduceLT, Nat.reduceLeDiff, List.mapM_cons, List.mapM_nil, Option.pure_def,
                Option.bind_eq_bind, Option.bind_some, implies_true, forall_const, beq_self_eq_true, decide_true, decide_false, eq_self, Int.reduceEq, Int.reduceLE, Int.reduceLT,
                if_true, if_false, fc59_0, fc59_1, fc59_2, Int.reduceAdd, Int.reduceSub, Int.reduceMul, Int.reduceNeg, Int.reducePow, Nat.reducePow, Int.reduceToNat, Nat.reduceSub,
                List.replicate, Nat.reduceBEq, wAs, wA, wC, zipW, noDupN, grpE, g_laws_eqTurn, grpC, en0, dc_en0] <;> rfl); (simp only [nilS, nilV, normS,  List.map_append, List.length_append, List.map_set, List.length_set, List.map_replicate, List.length_replicate, List.map_nil, List.map_cons,
          hp, grpS, grpD, grpF, grpL, eop, vop, bop, uop, fltop, convop, endOk, newE, new1, freshL, Md.isNew, outV, pureV, pureX, pure1, AV.cells, AV.one, storable, laid, refless,
                refless1, vload, loadC, storeC, vnil, vfaddr, vextract, flatT, flatE, flatC, vconv, vmm, vidxA, viaddrA, vfield, vlen, elemsOf, dF32, dF64, dI64, dU8, dBool, dStr,
                esOk, elemsS, vsliceX, bnd, ownV, ownC, own1, ownT, isSl, nSl, endL, Md.isOwn, purge, purgeH, purgeB, purgeE, hasName, name1, List.any_cons, List.any_nil, Md.isWr,
                pureV.pureP, Option.map, reduceIte, Nat.reduceEqDiff, Nat.reduceAdd, Nat.reduceMul, Nat.reduceLT, Nat.reduceLeDiff, List.mapM_cons, List.mapM_nil, Option.pure_def,
                Option.bind_eq_bind, Option.bind_some, implies_true, forall_const, beq_self_eq_true, decide_true, decide_false, eq_self, Int.reduceEq, Int.reduceLE, Int.reduceLT,
                if_true, if_false, fc59_0, fc59_1, fc59_2, Int.reduceAdd, Int.reduceSub, Int.reduceMul, Int.reduceNeg, Int.reducePow, Nat.reducePow, Int.reduceToNat, Nat.reduceSub,
                List.replicate, Nat.reduceBEq, wAs, wA, wC, zipW, noDupN, grpE, g_laws_eqTurn, grpC, en0, dc_en0] <;> rfl); (simp only [hp]); (
        intro st2 ht hw; simp only [Kq_ret, Kb_ret, Kl_ret, ret_ok]; first | exact h0 _ hw | exact h0 _ rfl hw | exact h1 _ rfl hw | exact h0 _ ht hw | exact h1 _ ht hw | refine ⟨_, hw, ?_⟩); rotate_left; (
        intro st2 ht hw; (try simp only [ht, reduceCtorEq, Bool.not_eq_true', decide_eq_false_iff_not, Bool.not_true, Bool.not_false, Bool.false_or, Bool.true_or, Bool.true_and, Bool.false_and, Bool.and_eq_true, Bool.or_eq_true, if_true, if_false, reduceIte, Bool.false_eq_true, and_true, true_and, false_or, or_false, decide_eq_true_eq, not_false_eq_true, not_true_eq_false] at hp); simp only [
          hp, grpS, grpD, grpF, grpL, eop, vop, bop, uop, fltop, convop, endOk, newE, new1, freshL, Md.isNew, outV, pureV, pureX, pure1, AV.cells, AV.one, storable, laid, refless,
                refless1, vload, loadC, storeC, vnil, vfaddr, vextract, flatT, flatE, flatC, vconv, vmm, vidxA, viaddrA, vfield, vlen, elemsOf, dF32, dF64, dI64, dU8, dBool, dStr,
                esOk, elemsS, vsliceX, bnd, ownV, ownC, own1, ownT, isSl, nSl, endL, Md.isOwn, purge, purgeH, purgeB, purgeE, hasName, name1, List.any_cons, List.any_nil, Md.isWr,
                pureV.pureP, Option.map, reduceIte, Nat.reduceEqDiff, Nat.reduceAdd, Nat.reduceMul, Nat.reduceLT, Nat.reduceLeDiff, List.mapM_cons, List.mapM_nil, Option.pure_def,
                Option.bind_eq_bind, Option.bind_some, implies_true, forall_const, beq_self_eq_true, decide_true, decide_false, eq_self, Int.reduceEq, Int.reduceLE, Int.reduceLT,
                if_true, if_false, fc59_0, fc59_1, fc59_2, Int.reduceAdd, Int.reduceSub, Int.reduceMul, Int.reduceNeg, Int.reducePow, Nat.reducePow, Int.reduceToNat, Nat.reduceSub,
                List.replicate, Nat.reduceBEq, wAs, wA, wC, zipW, noDupN, grpE, g_laws_eqTurn, grpC, en0, dc_en0]; refine KW_of hw ?_; simp only [ht, 
          hp, grpS, grpD, grpF, grpL, eop, vop, bop, uop, fltop, convop, endOk, newE, new1, freshL, Md.isNew, outV, pureV, pureX, pure1, AV.cells, AV.one, storable, laid, refless,
                refless1, vload, loadC, storeC, vnil, vfaddr, vextract, flatT, flatE, flatC, vconv, vmm, vidxA, viaddrA, vfield, vlen, elemsOf, dF32, dF64, dI64, dU8, dBool, dStr,
                esOk, elemsS, vsliceX, bnd, ownV, ownC, own1, ownT, isSl, nSl, endL, Md.isOwn, purge, purgeH, purgeB, purgeE, hasName, name1, List.any_cons, List.any_nil, Md.isWr,
                pureV.pureP, Option.map, reduceIte, Nat.reduceEqDiff, Nat.reduceAdd, Nat.reduceMul, Nat.reduceLT, Nat.reduceLeDiff, List.mapM_cons, List.mapM_nil, Option.pure_def,
                Option.bind_eq_bind, Option.bind_some, implies_true, forall_const, beq_self_eq_true, decide_true, decide_false, eq_self, Int.reduceEq, Int.reduceLE, Int.reduceLT,
                if_true, if_false, fc59_0, fc59_1, fc59_2, Int.reduceAdd, Int.reduceSub, Int.reduceMul, Int.reduceNeg, Int.reducePow, Nat.reducePow, Int.reduceToNat, Nat.reduceSub,
                List.replicate, Nat.reduceBEq, wAs, wA, wC, zipW, noDupN, grpE, g_laws_eqTurn, grpC, en0, dc_en0])))
      all_goals (try simp only [*, m_laws_eqTurnS, Bool.and_true, Bool.true_and, Bool.and_false, Bool.false_and, Bool.or_true, Bool.true_or, Bool.or_false, Bool.false_or, Bool.not_true, Bool.not_false, Bool.false_eq_true, if_true, if_false, reduceIte, decide_true, decide_false])
      all_goals (try (simp_all; done))
    · cases h
  · cases h
def m_laws_eqPose (x0 : (Nat × Nat × Nat × (List (Nat × Nat × Nat × Nat)))) (x1 : (Nat × Nat × Nat × (List (Nat × Nat × Nat × Nat)))) : Bool := (if (m_laws_eqVector (x0.1, x0.2.1,
      x0.2.2.1) (x1.1, x1.2.1, x1.2.2.1)) = true then (if (m_laws_eqTurnS x0.2.2.2 x1.2.2.2) = true then true else false) else false)
def p_laws_eqPose (x0 : (Nat × Nat × Nat × (List (Nat × Nat × Nat × Nat)))) (x1 : (Nat × Nat × Nat × (List (Nat × Nat × Nat × Nat)))) : Bool := (!(m_laws_eqVector (x0.1, x0.2.1,
      x0.2.2.1) (x1.1, x1.2.1, x1.2.2.1)) || (p_laws_eqTurnS x0.2.2.2 x1.2.2.2))
def g_laws_eqPose : List AV → Option AV
  | [.agg [.flt .f32 y0, .flt .f32 y1, .flt .f32 y2, .sl w3], .agg [.flt .f32 y4, .flt .f32 y5, .flt .f32 y6, .sl w7]] => (match decL dc_en0 w3 with | some y3 => ((match decL dc_en0 w7 with | some y7 => (if p_laws_eqPose (y0, y1, y2, y3) (y4, y5, y6, y7) = true then some (.bool (m_laws_eqPose (y0, y1, y2, y3) (y4, y5, y6, y7))) else none) | none => none)) | none => none)
  | _ => none
def ic26 : ICode := (.seq (.reg [⟨(some 2), none, (.box 4 (.t 0))⟩, ⟨(some 3), none, (.box 4 (.t 1))⟩, ⟨(some 4), none, (.mov (.c (.bool false)))⟩] [2, 3]) (.seq (.seq (.reg [⟨(some
      5), none, (.faddr 0 (.t 2))⟩, ⟨(some 6), none, (.load (some 3) (.t 5))⟩, ⟨(some 7), none, (.faddr 0 (.t 3))⟩, ⟨(some 8), none, (.load (some 3) (.t 7))⟩, ⟨(some 9), none,
      (.call (.fn 15) [(.t 6), (.t 8)] [])⟩, ⟨(some 10), none, (.un .not (.t 9))⟩] [2, 3, 10]) (.cond (.t 10) (.seq (.reg [⟨(some 4), none, (.mov (.c (.bool false)))⟩] [4]) .ret)
      .skip)) (.seq (.seq (.reg [⟨(some 11), none, (.faddr 3 (.t 2))⟩, ⟨(some 12), none, (.load none (.t 11))⟩, ⟨(some 13), none, (.faddr 3 (.t 3))⟩, ⟨(some 14), none, (.load none
      (.t 13))⟩, ⟨(some 15), none, (.call (.fn 59) [(.t 12), (.t 14)] [])⟩, ⟨(some 16), none, (.un .not (.t 15))⟩] [16]) (.cond (.t 16) (.seq (.reg [⟨(some 4), none, (.mov (.c
      (.bool false)))⟩] [4]) .ret) .skip)) (.seq (.reg [⟨(some 4), none, (.mov (.c (.bool true)))⟩] [4]) .ret))))
def cp26 : CP := CP.mk [] [] [[2, 3], [2, 3, 10], [4], [16], [4], [4]] 17
theorem fc26_0 : IntKind.wrap .i64 1 = 1 := by decide
theorem fc26_1 : IntKind.wrap .i64 2 = 2 := by decide
theorem fc26_2 : IntKind.wrap .i64 3 = 3 := by decide
theorem s26 : ∀ vs r, g_laws_eqPose vs = some r → SaysM Try.prog .any 26 vs r := by
  intro vs r h
  unfold g_laws_eqPose at h
  split at h
  · rename_i y0 y1 y2 w3 y4 y5 y6 w7
    cases hd_y3 : decL dc_en0 w3 with
    | none => rw [hd_y3] at h; cases h
    | some y3 =>
    rw [hd_y3] at h
    obtain rfl := decL_inv dc_en0_inv hd_y3
    clear hd_y3
    dsimp only at h
    cases hd_y7 : decL dc_en0 w7 with
    | none => rw [hd_y7] at h; cases h
    | some y7 =>
    rw [hd_y7] at h
    obtain rfl := decL_inv dc_en0_inv hd_y7
    clear hd_y7
    dsimp only at h
    split at h
    · rename_i hp
      cases h
      refine spec_of (m := .any) (tab := tabOf [(15, wM .any g_laws_eqVector), (59, wM .any g_laws_eqTurnS)]) (cp := cp26) (ic := ic26) (rvl := [(.t 4)]) hm (tabOk_cons (m := .any) s15 (tabOk_cons (m := .any) s59 tabOk_nil)) Try.func26 rfl rfl rfl (by kernel_rfl) rfl (Nat.le_of_ble_eq_true rfl) (Nat.le_of_ble_eq_true rfl) ?_
      show eA _ _ _ _
      unfold ic26
      simp only [p_laws_eqPose, Bool.and_eq_true, Bool.or_eq_true, decide_eq_true_eq, Bool.not_eq_true', decide_eq_false_iff_not] at hp
      simp only [
          hp, grpS, grpD, grpF, grpL, eop, vop, bop, uop, fltop, convop, endOk, newE, new1, freshL, Md.isNew, outV, pureV, pureX, pure1, AV.cells, AV.one, storable, laid, refless,
                refless1, vload, loadC, storeC, vnil, vfaddr, vextract, flatT, flatE, flatC, vconv, vmm, vidxA, viaddrA, vfield, vlen, elemsOf, dF32, dF64, dI64, dU8, dBool, dStr,
                esOk, elemsS, vsliceX, bnd, ownV, ownC, own1, ownT, isSl, nSl, endL, Md.isOwn, purge, purgeH, purgeB, purgeE, hasName, name1, List.any_cons, List.any_nil, Md.isWr,
                pureV.pureP, Option.map, reduceIte, Nat.reduceEqDiff, Nat.reduceAdd, Nat.reduceMul, Nat.reduceLT, Nat.reduceLeDiff, List.mapM_cons, List.mapM_nil, Option.pure_def,
                Option.bind_eq_bind, Option.bind_some, implies_true, forall_const, beq_self_eq_true, decide_true, decide_false, eq_self, Int.reduceEq, Int.reduceLE, Int.reduceLT,
                if_true, if_false, fc26_0, fc26_1, fc26_2, Int.reduceAdd, Int.reduceSub, Int.reduceMul, Int.reduceNeg, Int.reducePow, Nat.reducePow, Int.reduceToNat, Nat.reduceSub,
                List.replicate, Nat.reduceBEq, wAs, wA, wC, zipW, noDupN, grpE, g_laws_eqVector, g_laws_eqTurnS, grpC, en0, dc_en0]
      repeat' (first
        | ((first | (refine eGI_of (fun h => ?_) (fun h => ?_)) | (refine eCc_of (fun h => ?_) (fun h => ?_))) <;> (try simp only [Bool.not_eq_true', Bool.not_eq_false'] at h) <;> (try simp only [h, reduceCtorEq, Bool.not_eq_true', decide_eq_false_iff_not, Bool.not_true, Bool.not_false, Bool.false_or, Bool.true_or, Bool.true_and, Bool.false_and, Bool.and_eq_true, Bool.or_eq_true, if_true, if_false, reduceIte, Bool.false_eq_true, and_true, true_and, false_or, or_false, decide_eq_true_eq, not_false_eq_true, not_true_eq_false] at hp) <;> (try (have h2 := h; simp only [decide_eq_true_eq, decide_eq_false_iff_not] at h2; (first | (replace h2 := eq_false h2) | (replace h2 := eq_true h2)); simp only [h2, if_true, if_false, false_or, true_or, or_true, or_false, and_true, true_and, not_false_eq_true, not_true_eq_false] at hp)) <;> simp only [h,
          hp, grpS, grpD, grpF, grpL, eop, vop, bop, uop, fltop, convop, endOk, newE, new1, freshL, Md.isNew, outV, pureV, pureX, pure1, AV.cells, AV.one, storable, laid, refless,
                refless1, vload, loadC, storeC, vnil, vfaddr, vextract, flatT, flatE, flatC, vconv, vmm, vidxA, viaddrA, vfield, vlen, elemsOf, dF32, dF64, dI64, dU8, dBool, dStr,
                esOk, elemsS, vsliceX, bnd, ownV, ownC, own1, ownT, isSl, nSl, endL, Md.isOwn, purge, purgeH, purgeB, purgeE, hasName, name1, List.any_cons, List.any_nil, Md.isWr,
                pureV.pureP, Option.map, reduceIte, Nat.reduceEqDiff, Nat.reduceAdd, Nat.reduceMul, Nat.reduceLT, Nat.reduceLeDiff, List.mapM_cons, List.mapM_nil, Option.pure_def,
                Option.bind_eq_bind, Option.bind_some, implies_true, forall_const, beq_self_eq_true, decide_true, decide_false, eq_self, Int.reduceEq, Int.reduceLE, Int.reduceLT,
                if_true, if_false, fc26_0, fc26_1, fc26_2, Int.reduceAdd, Int.reduceSub, Int.reduceMul, Int.reduceNeg, Int.reducePow, Nat.reducePow, Int.reduceToNat, Nat.reduceSub,
                List.replicate, Nat.reduceBEq, wAs, wA, wC, zipW, noDupN, grpE, g_laws_eqVector, g_laws_eqTurnS, grpC, en0, dc_en0]))
      all_goals (try simp only [*, m_laws_eqPose, Bool.and_true, Bool.true_and, Bool.and_false, Bool.false_and, Bool.or_true, Bool.true_or, Bool.or_false, Bool.false_or, Bool.not_true, Bool.not_false, Bool.false_eq_true, if_true, if_false, reduceIte, decide_true, decide_false])
      all_goals (try (simp_all; done))
    · cases h
  · cases h
def m_laws_FnExactSamePose (x0 : (Nat × Nat × Nat × (List (Nat × Nat × Nat × Nat)))) (x1 : (Nat × Nat × Nat × (List (Nat × Nat × Nat × Nat)))) : Bool := (if (decide ((m_laws_szPose
      x0 1048576) < 0)) = true then true else (if (decide ((m_laws_szPose x1 (m_laws_szPose x0 1048576)) < 0)) = true then true else (if ((m_impl_SamePose (m_laws_toPose x0)
      (m_laws_toPose x1)) == (m_spec_SamePose (m_laws_toPose x0) (m_laws_toPose x1))) = true then (if (m_laws_eqPose (m_laws_toPose x0) (m_laws_toPose x0)) = true then (if
      (m_laws_eqPose (m_laws_toPose x1) (m_laws_toPose x1)) = true then true else false) else false) else false)))
def p_laws_FnExactSamePose (x0 : (Nat × Nat × Nat × (List (Nat × Nat × Nat × Nat)))) (x1 : (Nat × Nat × Nat × (List (Nat × Nat × Nat × Nat)))) : Bool := ((decide ((m_laws_szPose x0
      1048576) < 0)) || ((decide ((m_laws_szPose x1 (m_laws_szPose x0 1048576)) < 0)) || ((p_laws_toPose x0) && ((p_laws_toPose x1) && ((p_spec_SamePose (m_laws_toPose x0)
      (m_laws_toPose x1)) && ((p_impl_SamePose (m_laws_toPose x0) (m_laws_toPose x1)) && (!((m_impl_SamePose (m_laws_toPose x0) (m_laws_toPose x1)) == (m_spec_SamePose
      (m_laws_toPose x0) (m_laws_toPose x1))) || ((p_laws_eqPose (m_laws_toPose x0) (m_laws_toPose x0)) && (!(m_laws_eqPose (m_laws_toPose x0) (m_laws_toPose x0)) || (p_laws_eqPose
      (m_laws_toPose x1) (m_laws_toPose x1)))))))))))
def g_laws_FnExactSamePose : List AV → Option AV
  | [.agg [.flt .f32 y0, .flt .f32 y1, .flt .f32 y2, .sl w3], .agg [.flt .f32 y4, .flt .f32 y5, .flt .f32 y6, .sl w7]] => (match decL dc_en0 w3 with | some y3 => ((match decL dc_en0 w7 with | some y7 => (if p_laws_FnExactSamePose (y0, y1, y2, y3) (y4, y5, y6, y7) = true then some (.bool (m_laws_FnExactSamePose (y0, y1, y2, y3) (y4, y5, y6, y7))) else none) | none => none)) | none => none)
  | _ => none
def ic5 : ICode := (.seq (.reg [⟨(some 2), none, (.box 4 (.t 0))⟩, ⟨(some 3), none, (.box 4 (.t 1))⟩, ⟨(some 4), none, (.mov (.c (.bool false)))⟩] [2, 3]) (.seq (.reg [⟨(some 5),
      none, (.mov (.c (.int .i64 1048576)))⟩] [2, 3, 5]) (.seq (.reg [⟨(some 10), none, (.load (some 4) (.t 2))⟩, ⟨(some 11), none, (.mov (.t 5))⟩, ⟨(some 12), none, (.call (.fn 22)
      [(.t 10), (.t 11)] [])⟩, ⟨(some 5), none, (.mov (.t 12))⟩] [2, 3, 5]) (.seq (.seq (.reg [⟨(some 13), none, (.mov (.t 5))⟩, ⟨(some 14), none, (.bin .lss false (.t 13) (.c (.int
      .i64 0)))⟩] [2, 3, 5, 14]) (.cond (.t 14) (.seq (.reg [⟨(some 4), none, (.mov (.c (.bool true)))⟩] [4]) .ret) .skip)) (.seq (.reg [⟨(some 15), none, (.load (some 4) (.t 3))⟩,
      ⟨(some 16), none, (.mov (.t 5))⟩, ⟨(some 17), none, (.call (.fn 22) [(.t 15), (.t 16)] [])⟩, ⟨(some 5), none, (.mov (.t 17))⟩] [2, 3, 5]) (.seq (.seq (.reg [⟨(some 18), none,
      (.mov (.t 5))⟩, ⟨(some 19), none, (.bin .lss false (.t 18) (.c (.int .i64 0)))⟩] [2, 3, 19]) (.cond (.t 19) (.seq (.reg [⟨(some 4), none, (.mov (.c (.bool true)))⟩] [4]) .ret)
      .skip)) (.seq (.reg [⟨(some 20), none, (.load (some 4) (.t 2))⟩, ⟨(some 21), none, (.call (.fn 24) [(.t 20)] [])⟩, ⟨(some 22), none, (.load (some 4) (.t 3))⟩, ⟨(some 23),
      none, (.call (.fn 24) [(.t 22)] [])⟩, ⟨(some 24), none, (.call (.fn 23) [(.t 21), (.t 23)] [])⟩, ⟨(some 6), none, (.mov (.t 24))⟩] [2, 3, 6]) (.seq (.reg [⟨(some 25), none,
      (.load (some 4) (.t 2))⟩, ⟨(some 26), none, (.call (.fn 24) [(.t 25)] [])⟩, ⟨(some 7), none, (.alloc (.agg [(.flt .f32 0), (.flt .f32 0), (.flt .f32 0), .snil]))⟩, ⟨none,
      none, (.store 4 (.t 7) (.t 26))⟩] [2, 3, 6, 7]) (.seq (.reg [⟨(some 27), none, (.load (some 4) (.t 3))⟩, ⟨(some 28), none, (.call (.fn 24) [(.t 27)] [])⟩, ⟨(some 8), none,
      (.alloc (.agg [(.flt .f32 0), (.flt .f32 0), (.flt .f32 0), .snil]))⟩, ⟨none, none, (.store 4 (.t 8) (.t 28))⟩] [2, 3, 6, 7, 8]) (.seq (.reg [⟨(some 29), none, (.load (some 4)
      (.t 7))⟩, ⟨(some 30), none, (.load (some 4) (.t 8))⟩, ⟨(some 31), none, (.call (.fn 25) [(.t 29), (.t 30)] [])⟩, ⟨(some 9), none, (.mov (.t 31))⟩] [2, 3, 6, 7, 8, 9]) (.seq
      (.seq (.reg [⟨(some 32), none, (.mov (.t 9))⟩, ⟨(some 33), none, (.mov (.t 6))⟩, ⟨(some 34), none, (.bin .neq true (.t 32) (.t 33))⟩] [2, 3, 7, 8, 34]) (.cond (.t 34) (.seq
      (.reg [⟨(some 4), none, (.mov (.c (.bool false)))⟩] [4]) .ret) .skip)) (.seq (.seq (.reg [⟨(some 35), none, (.load (some 4) (.t 7))⟩, ⟨(some 36), none, (.load (some 4) (.t
      2))⟩, ⟨(some 37), none, (.call (.fn 24) [(.t 36)] [])⟩, ⟨(some 38), none, (.call (.fn 26) [(.t 35), (.t 37)] [])⟩, ⟨(some 39), none, (.un .not (.t 38))⟩] [3, 8, 39]) (.cond
      (.t 39) (.seq (.reg [⟨(some 4), none, (.mov (.c (.bool false)))⟩] [4]) .ret) .skip)) (.seq (.seq (.reg [⟨(some 40), none, (.load (some 4) (.t 8))⟩, ⟨(some 41), none, (.load
      (some 4) (.t 3))⟩, ⟨(some 42), none, (.call (.fn 24) [(.t 41)] [])⟩, ⟨(some 43), none, (.call (.fn 26) [(.t 40), (.t 42)] [])⟩, ⟨(some 44), none, (.un .not (.t 43))⟩] [44])
      (.cond (.t 44) (.seq (.reg [⟨(some 4), none, (.mov (.c (.bool false)))⟩] [4]) .ret) .skip)) (.seq (.reg [⟨(some 4), none, (.mov (.c (.bool true)))⟩] [4]) .ret))))))))))))))
def cp5 : CP := CP.mk [] [] [[2, 3], [2, 3, 5], [2, 3, 5], [2, 3, 5, 14], [4], [2, 3, 5], [2, 3, 19], [4], [2, 3, 6], [2, 3, 6, 7], [2, 3, 6, 7, 8], [2, 3, 6, 7, 8, 9], [2, 3, 7, 8,
      34], [4], [3, 8, 39], [4], [44], [4], [4]] 45
theorem fc5_0 : IntKind.wrap .i64 1 = 1 := by decide
theorem fc5_1 : IntKind.wrap .i64 2 = 2 := by decide
theorem fc5_2 : IntKind.wrap .i64 3 = 3 := by decide
theorem s5 : ∀ vs r, g_laws_FnExactSamePose vs = some r → SaysM Try.prog .any 5 vs r := by
  intro vs r h
  unfold g_laws_FnExactSamePose at h
  split at h
  · rename_i y0 y1 y2 w3 y4 y5 y6 w7
    cases hd_y3 : decL dc_en0 w3 with
    | none => rw [hd_y3] at h; cases h
    | some y3 =>
    rw [hd_y3] at h
    obtain rfl := decL_inv dc_en0_inv hd_y3
    clear hd_y3
    dsimp only at h
    cases hd_y7 : decL dc_en0 w7 with
    | none => rw [hd_y7] at h; cases h
    | some y7 =>
    rw [hd_y7] at h
    obtain rfl := decL_inv dc_en0_inv hd_y7
    clear hd_y7
    dsimp only at h
    split at h
    · rename_i hp
      cases h
      refine spec_of (m := .any) (tab := tabOf [(22, wM .any g_laws_szPose), (23, wM .any g_spec_SamePose), (24, wM (.own [4]) g_laws_toPose), (25, wM .any g_impl_SamePose), (26, wM .any g_laws_eqPose)]) (cp := cp5) (ic := ic5) (rvl := [(.t 4)]) hm (tabOk_cons (m := .any) s22 (tabOk_cons (m := .any) s23 (tabOk_cons (m := (.own [4])) s24 (tabOk_cons (m := .any) s25 (tabOk_cons (m := .any) s26 tabOk_nil))))) Try.func5 rfl rfl rfl (by kernel_rfl) rfl (Nat.le_of_ble_eq_true rfl) (Nat.le_of_ble_eq_true rfl) ?_
      show eA _ _ _ _
      unfold ic5
      simp only [p_laws_FnExactSamePose, Bool.and_eq_true, Bool.or_eq_true, decide_eq_true_eq, Bool.not_eq_true', decide_eq_false_iff_not] at hp
      simp only [
          hp, grpS, grpD, grpF, grpL, eop, vop, bop, uop, fltop, convop, endOk, newE, new1, freshL, Md.isNew, outV, pureV, pureX, pure1, AV.cells, AV.one, storable, laid, refless,
                refless1, vload, loadC, storeC, vnil, vfaddr, vextract, flatT, flatE, flatC, vconv, vmm, vidxA, viaddrA, vfield, vlen, elemsOf, dF32, dF64, dI64, dU8, dBool, dStr,
                esOk, elemsS, vsliceX, bnd, ownV, ownC, own1, ownT, isSl, nSl, endL, Md.isOwn, purge, purgeH, purgeB, purgeE, hasName, name1, List.any_cons, List.any_nil, Md.isWr,
                pureV.pureP, Option.map, reduceIte, Nat.reduceEqDiff, Nat.reduceAdd, Nat.reduceMul, Nat.reduceLT, Nat.reduceLeDiff, List.mapM_cons, List.mapM_nil, Option.pure_def,
                Option.bind_eq_bind, Option.bind_some, implies_true, forall_const, beq_self_eq_true, decide_true, decide_false, eq_self, Int.reduceEq, Int.reduceLE, Int.reduceLT,
                if_true, if_false, fc5_0, fc5_1, fc5_2, Int.reduceAdd, Int.reduceSub, Int.reduceMul, Int.reduceNeg, Int.reducePow, Nat.reducePow, Int.reduceToNat, Nat.reduceSub,
                List.replicate, Nat.reduceBEq, wAs, wA, wC, zipW, noDupN, grpE, g_laws_szPose, g_spec_SamePose, g_laws_toPose, g_impl_SamePose, g_laws_eqPose, grpC, en0, dc_en0]
      repeat' (first
        | ((first | (refine eGI_of (fun h => ?_) (fun h => ?_)) | (refine eCc_of (fun h => ?_) (fun h => ?_))) <;> (try simp only [Bool.not_eq_true', Bool.not_eq_false'] at h) <;> (try simp only [h, reduceCtorEq, Bool.not_eq_true', decide_eq_false_iff_not, Bool.not_true, Bool.not_false, Bool.false_or, Bool.true_or, Bool.true_and, Bool.false_and, Bool.and_eq_true, Bool.or_eq_true, if_true, if_false, reduceIte, Bool.false_eq_true, and_true, true_and, false_or, or_false, decide_eq_true_eq, not_false_eq_true, not_true_eq_false] at hp) <;> (try (have h2 := h; simp only [decide_eq_true_eq, decide_eq_false_iff_not] at h2; (first | (replace h2 := eq_false h2) | (replace h2 := eq_true h2)); simp only [h2, if_true, if_false, false_or, true_or, or_true, or_false, and_true, true_and, not_false_eq_true, not_true_eq_false] at hp)) <;> simp only [h,
          hp, grpS, grpD, grpF, grpL, eop, vop, bop, uop, fltop, convop, endOk, newE, new1, freshL, Md.isNew, outV, pureV, pureX, pure1, AV.cells, AV.one, storable, laid, refless,
                refless1, vload, loadC, storeC, vnil, vfaddr, vextract, flatT, flatE, flatC, vconv, vmm, vidxA, viaddrA, vfield, vlen, elemsOf, dF32, dF64, dI64, dU8, dBool, dStr,
                esOk, elemsS, vsliceX, bnd, ownV, ownC, own1, ownT, isSl, nSl, endL, Md.isOwn, purge, purgeH, purgeB, purgeE, hasName, name1, List.any_cons, List.any_nil, Md.isWr,
                pureV.pureP, Option.map, reduceIte, Nat.reduceEqDiff, Nat.reduceAdd, Nat.reduceMul, Nat.reduceLT, Nat.reduceLeDiff, List.mapM_cons, List.mapM_nil, Option.pure_def,
                Option.bind_eq_bind, Option.bind_some, implies_true, forall_const, beq_self_eq_true, decide_true, decide_false, eq_self, Int.reduceEq, Int.reduceLE, Int.reduceLT,
                if_true, if_false, fc5_0, fc5_1, fc5_2, Int.reduceAdd, Int.reduceSub, Int.reduceMul, Int.reduceNeg, Int.reducePow, Nat.reducePow, Int.reduceToNat, Nat.reduceSub,
                List.replicate, Nat.reduceBEq, wAs, wA, wC, zipW, noDupN, grpE, g_laws_szPose, g_spec_SamePose, g_laws_toPose, g_impl_SamePose, g_laws_eqPose, grpC, en0, dc_en0]))
      all_goals (try simp only [*, m_laws_FnExactSamePose, Bool.and_true, Bool.true_and, Bool.and_false, Bool.false_and, Bool.or_true, Bool.true_or, Bool.or_false, Bool.false_or, Bool.not_true, Bool.not_false, Bool.false_eq_true, if_true, if_false, reduceIte, decide_true, decide_false])
      all_goals (try (simp_all; done))
    · cases h
  · cases h
end Go.Proofs
/- Two float32 numbers are the same: by bits, and by value and sign. Plain facts. -/
namespace Go.Ab
open Ieee

theorem widen_lt (x : Nat) : widen x < 2 ^ 64 := by
  unfold widen; split
  · decide
  · exact FloatKind.f64.format.write_lt _
theorem wrap64_sign {z : Nat} (hz : z < 2 ^ 64) : decide (IntKind.wrap .i64 (z : Int) < 0) = (z / 2 ^ 63 % 2 == 1) := by
  unfold IntKind.wrap
  simp only [IntKind.bits, IntKind.signed, if_true]
  have hb : z / 2 ^ 63 % 2 = z / 2 ^ 63 := Nat.mod_eq_of_lt (by omega)
  rw [hb]
  by_cases h : z < 2 ^ 63
  · have : z / 2 ^ 63 = 0 := by omega
    rw [this]; simp; omega
  · have : z / 2 ^ 63 = 1 := by omega
    rw [this]; simp; omega
theorem read_sign64 {z : Nat} (hz : z < 2 ^ 64) {s : Bool} (h : (∃ m e, FloatKind.f64.format.read z = .number s m e) ∨ FloatKind.f64.format.read z = .infinity s) : decide (IntKind.wrap .i64 (z : Int) < 0) = s := by
  rw [wrap64_sign hz]
  have sw : FloatKind.f64.format.signWeight = 2 ^ 63 := by decide
  unfold Format.read at h
  rw [sw] at h
  dsimp only at h
  generalize (z / 2 ^ 63 % 2 == 1) = b at *
  rcases h with ⟨m, e, h⟩ | h
  · split at h
    · cases h; rfl
    · split at h
      · cases h; rfl
      · split at h <;> cases h
  · split at h
    · cases h
    · split at h
      · cases h
      · split at h <;> cases h
        rfl
theorem sign_number {x : Nat} {s : Bool} {m : Nat} {e : Int} (h : FloatKind.f32.decode x = .number s m e) : decide (IntKind.wrap .i64 ((widen x : Nat) : Int) < 0) = s := by
  obtain ⟨m', e', h1, _⟩ := widen_ex h
  exact read_sign64 (widen_lt x) (.inl ⟨_, _, h1⟩)
theorem sign_inf {x : Nat} {s : Bool} (h : FloatKind.f32.decode x = .infinity s) : decide (IntKind.wrap .i64 ((widen x : Nat) : Int) < 0) = s :=
  read_sign64 (widen_lt x) (.inr (read_inf32 h))
theorem inf_unique32 {x : Nat} {s : Bool} (hx : x < 2 ^ 32) (h : FloatKind.f32.decode x = .infinity s) : x = (if s then 2 ^ 31 else 0) + 2139095040 := by
  have h1 : FloatKind.f32.format.read x = .infinity s := h
  have sw : FloatKind.f32.format.signWeight = 2 ^ 31 := by decide
  have e1 : FloatKind.f32.format.infRung = 2139095040 := by decide
  unfold Format.read at h1
  rw [sw, e1] at h1
  dsimp only at h1
  split at h1
  · cases h1
  · split at h1
    · cases h1
    · split at h1
      · rename_i hr
        cases h1
        have := Nat.div_add_mod x (2 ^ 31)
        by_cases hb : x / 2 ^ 31 % 2 = 1
        · simp [hb]; omega
        · simp [hb]; omega
      · cases h1
/-- the same bits, or equal and of one sign -/
theorem same_bits {x y : Nat} (hx : x < 2 ^ 32) (hy : y < 2 ^ 32) (nx : feq .f32 x x = true) (ny : feq .f32 y y = true) :
    decide (x = y) = (if feq .f32 x y = true then (decide (IntKind.wrap .i64 ((widen x : Nat) : Int) < 0) == decide (IntKind.wrap .i64 ((widen y : Nat) : Int) < 0)) else false) := by
  have key : x = y ↔ (feq .f32 x y = true ∧ decide (IntKind.wrap .i64 ((widen x : Nat) : Int) < 0) = decide (IntKind.wrap .i64 ((widen y : Nat) : Int) < 0)) := by
    constructor
    · rintro rfl; exact ⟨nx, rfl⟩
    · rintro ⟨h1, h2⟩
      rw [feq_self_iff] at nx ny
      cases hd : FloatKind.f32.decode x with
      | nan s t => unfold isNaN at nx; rw [show FloatKind.f32.format.read x = .nan s t from hd] at nx; cases nx
      | number s m e =>
        cases he : FloatKind.f32.decode y with
        | nan s t => unfold isNaN at ny; rw [show FloatKind.f32.format.read y = .nan s t from he] at ny; cases ny
        | infinity t =>
          unfold feq ford Format.order at h1
          rw [show FloatKind.f32.format.read x = .number s m e from hd, show FloatKind.f32.format.read y = .infinity t from he] at h1
          cases t <;> cases h1
        | number t n f =>
          rw [sign_number hd, sign_number he] at h2
          subst h2
          have o := order_ex (ex32 hd) (ex32 he)
          unfold feq ford Format.order at h1
          rw [o] at h1
          have h3 : sg s (m * 2 ^ (e + 149).toNat) = sg s (n * 2 ^ (f + 149).toNat) := by
            have : compare (sg s (m * 2 ^ (e + 149).toNat)) (sg s (n * 2 ^ (f + 149).toNat)) = .eq := by simpa using h1
            exact Int.compare_eq_eq.1 this
          have h4 : m * 2 ^ (e + 149).toNat = n * 2 ^ (f + 149).toNat := by
            generalize m * 2 ^ (e + 149).toNat = p at *
            generalize n * 2 ^ (f + 149).toNat = q at *
            unfold sg at h3; cases s <;> simp at h3 <;> omega
          have e1 := ex32 hd
          have e2 := ex32 he
          rw [h4] at e1
          exact ex_unique32 e1 e2 hx hy
      | infinity s =>
        cases he : FloatKind.f32.decode y with
        | nan s t => unfold isNaN at ny; rw [show FloatKind.f32.format.read y = .nan s t from he] at ny; cases ny
        | number t n f =>
          unfold feq ford Format.order at h1
          rw [show FloatKind.f32.format.read x = .infinity s from hd, show FloatKind.f32.format.read y = .number t n f from he] at h1
          cases s <;> cases h1
        | infinity t =>
          rw [sign_inf hd, sign_inf he] at h2
          subst h2
          rw [inf_unique32 hx hd, inf_unique32 hy he]
  rw [Bool.eq_iff_iff]
  rw [decide_eq_true_iff, key]
  by_cases h : feq .f32 x y = true
  · simp [h]
  · simp [h]
/-- bits that are not of the kind's NaN -/
theorem nan_of {x : Nat} (hx : Canon .f32 x) (h : feq .f32 x x = false) : x = 2143289344 := by
  rw [feq_self_iff] at h
  have := hx.eq
  unfold cn at this
  rw [if_pos (by simpa using h)] at this
  exact this.symm
end Go.Ab
namespace Go.Proofs
open Go.Ab
theorem sameFloat_refl (x : Nat) : m_laws_sameFloat x x = true := by
  unfold m_laws_sameFloat
  by_cases h : feq .f64 x x = true
  · simp [h]
  · simp [h]
theorem eq_Vector (a : Nat × Nat × Nat) : m_laws_eqVector a a = true := by unfold m_laws_eqVector; simp [sameFloat_refl]
theorem eq_Turn (a : Nat × Nat × Nat × Nat) : m_laws_eqTurn a a = true := by unfold m_laws_eqTurn; simp [sameFloat_refl]
theorem eq_TurnS (x : List (Nat × Nat × Nat × Nat)) (h : x.length ≤ 1048576) : m_laws_eqTurnS x x = true ∧ p_laws_eqTurnS x x = true := by
  unfold m_laws_eqTurnS p_laws_eqTurnS
  rw [show l_laws_eqTurnS_0 x x (Int.toNat (((List.length x : Nat) : Int) - 0) + 2) 0 = some (false, default, ()) from eq_loop _ x m_laws_eqTurn eq_Turn (by omega) fun _ _ => rfl]; simp
theorem to_TurnS (x : List (Nat × Nat × Nat × Nat)) (h : x.length ≤ 1048576) : m_laws_toTurnS x = x ∧ p_laws_toTurnS x = true := by
  unfold m_laws_toTurnS p_laws_toTurnS
  rw [show l_laws_toTurnS_0 x (Int.toNat (((List.length x : Nat) : Int) - 0) + 2) (List.replicate (Int.toNat ((List.length x : Nat) : Int)) (0, 0, 0, 0)) 0 = some x by
    rw [copy_all (l_laws_toTurnS_0 x) x m_laws_toTurn _ (by omega) fun _ _ _ => rfl]
    congr 1
    exact List.map_id x]
  refine ⟨rfl, ?_⟩
  simp; omega
theorem sz_TurnS (x : List (Nat × Nat × Nat × Nat)) (n : Int) (hx : x.length ≤ maxLen) (h0 : 0 ≤ n) (hn : n ≤ 1048576) (hs : ¬ (m_laws_szTurnS x n < 0)) : x.length ≤ 1048576 ∧ 0 ≤ m_laws_szTurnS x n ∧ m_laws_szTurnS x n ≤ 1048576 := by
  unfold m_laws_szTurnS at hs ⊢
  have hx' : x.length ≤ 9223372036854775807 := by unfold maxLen at hx; omega
  rw [wrapI (by omega) (by omega)] at hs ⊢
  by_cases h : n - ((List.length x : Nat) : Int) < 0
  · simp [h] at hs
  · rw [if_neg (by simpa using h)]; omega
end Go.Proofs
namespace Go.Proofs
open Go.Ab
theorem eq_Pose (x : Nat × Nat × Nat × List (Nat × Nat × Nat × Nat)) (h : x.2.2.2.length ≤ 1048576) : m_laws_eqPose x x = true ∧ p_laws_eqPose x x = true := by
  unfold m_laws_eqPose p_laws_eqPose
  simp [eq_Vector, eq_TurnS _ h]
theorem to_Pose (x : Nat × Nat × Nat × List (Nat × Nat × Nat × Nat)) (h : x.2.2.2.length ≤ 1048576) : m_laws_toPose x = x ∧ p_laws_toPose x = true := by
  unfold m_laws_toPose p_laws_toPose
  exact ⟨by simp [to_TurnS _ h, m_laws_toVector], (to_TurnS _ h).2⟩
theorem sz_Pose (x : Nat × Nat × Nat × List (Nat × Nat × Nat × Nat)) (n : Int) (hx : x.2.2.2.length ≤ maxLen) (h0 : 0 ≤ n) (hn : n ≤ 1048576) (hs : ¬ (m_laws_szPose x n < 0)) : x.2.2.2.length ≤ 1048576 ∧ 0 ≤ m_laws_szPose x n ∧ m_laws_szPose x n ≤ 1048576 := by
  unfold m_laws_szPose at hs ⊢
  by_cases h : m_laws_szTurnS x.2.2.2 n < 0
  · simp [h] at hs
  · have := sz_TurnS x.2.2.2 n hx h0 hn h
    simpa [h] using this
end Go.Proofs
namespace Go.Proofs
open Go.Ab
theorem p_bits (x : Nat) : p_spec_l01Bits x = true := by unfold p_spec_l01Bits; cases feq .f32 x x <;> rfl
theorem p_same (x y : Nat) : p_spec_l01Same x y = true := by unfold p_spec_l01Same; rw [p_bits, p_bits]; rfl
theorem same_num {x y : Nat} (hx : Canon .f32 x) (hy : Canon .f32 y) : m_impl_SameNumber x y = m_spec_l01Same x y ∧ p_impl_SameNumber x y = true := by
  have lx : x < 2 ^ 32 := hx.lt
  have ly : y < 2 ^ 32 := hy.lt
  have wx : IntKind.wrap .i64 ((x : Nat) : Int) = x := wrapI (by omega) (by omega)
  have wy : IntKind.wrap .i64 ((y : Nat) : Int) = y := wrapI (by omega) (by omega)
  have sw : ∀ z, feq .f32 z z = true → feq .f64 (widen z) (widen z) = true := by
    intro z h
    rcases nn_widen h with ⟨s, m, e, h⟩ | ⟨s, h⟩
    · unfold feq ford Ieee.Format.order
      rw [h]
      obtain ⟨v, hv⟩ := read_ex h
      have o := order_ex hv hv
      unfold Ieee.Format.order at *
      rw [← h, o, Int.compare_eq_eq.2 rfl]; rfl
    · unfold feq ford Ieee.Format.order
      rw [h]; cases s <;> rfl
  unfold m_impl_SameNumber m_spec_l01Same m_spec_l01Bits p_impl_SameNumber p_math_Signbit m_math_Signbit
  rw [wx, wy]
  by_cases nx : feq .f32 x x = true <;> by_cases ny : feq .f32 y y = true
  · have := same_bits lx ly nx ny
    rw [if_pos nx, if_pos ny, if_pos nx, if_pos ny, sw x nx, sw y ny]
    refine ⟨?_, by simp⟩
    rw [← this, Bool.eq_iff_iff]; simp; omega
  · rw [if_pos nx, if_neg ny, if_pos nx, if_neg ny]
    have h1 := nan_of hy (by simpa using ny)
    refine ⟨?_, by simp [ny]⟩
    have : x ≠ 2143289344 := by rintro rfl; exact absurd nx (by decide)
    have h2 : ¬ ((x : Int) = 2143289344) := by omega
    simp [h2]
  · rw [if_neg nx, if_neg nx, if_pos ny]
    have : y ≠ 2143289344 := by rintro rfl; exact absurd ny (by decide)
    have h2 : ¬ ((2143289344 : Int) = y) := by omega
    simp [h2, ny, nx]
  · rw [if_neg nx, if_neg nx, if_neg ny]
    simp [nx, ny]
theorem same_vec {a b : Nat × Nat × Nat} (h1 : Canon .f32 a.1 ∧ Canon .f32 a.2.1 ∧ Canon .f32 a.2.2) (h2 : Canon .f32 b.1 ∧ Canon .f32 b.2.1 ∧ Canon .f32 b.2.2) :
    m_impl_SameVector a b = m_spec_l01VSame a b ∧ p_impl_SameVector a b = true ∧ p_spec_l01VSame a b = true := by
  unfold m_impl_SameVector m_spec_l01VSame p_impl_SameVector p_spec_l01VSame
  simp [same_num h1.1 h2.1, same_num h1.2.1 h2.2.1, same_num h1.2.2 h2.2.2, p_same]
abbrev CanonT (q : Nat × Nat × Nat × Nat) : Prop := Canon .f32 q.1 ∧ Canon .f32 q.2.1 ∧ Canon .f32 q.2.2.1 ∧ Canon .f32 q.2.2.2
theorem same_turn {a b : Nat × Nat × Nat × Nat} (h1 : CanonT a) (h2 : CanonT b) :
    m_impl_SameTurn a b = m_spec_l02Same a b ∧ p_impl_SameTurn a b = true ∧ p_spec_l02Same a b = true := by
  unfold m_impl_SameTurn m_spec_l02Same p_impl_SameTurn p_spec_l02Same
  simp [same_num h1.1 h2.1, same_num h1.2.1 h2.2.1, same_num h1.2.2.1 h2.2.2.1, same_num h1.2.2.2 h2.2.2.2, p_same]
end Go.Proofs
namespace Go.Proofs
open Go.Ab
theorem getD_mem {α : Type} [Inhabited α] (xs : List α) {k : Nat} (h : k < xs.length) : xs.getD k default ∈ xs := by
  rw [← atI_nat, atI_lt xs h]; exact List.getElem_mem _
/-- two lists of one length, an element at a time -/
theorem all2_loop {α : Type} [Inhabited α] (l : Nat → Int → Option (Bool × Bool × Unit)) (x y : List α) (e : α → α → Bool) (p : α → α → Bool) (hx : x.length < 2 ^ 62) (hl : x.length = y.length)
    (hp : ∀ a ∈ x, ∀ b ∈ y, p a b = true)
    (H : ∀ n k, l (n + 1) k = if (decide (k < ((x.length : Nat) : Int))) = true then need (inB k x.length) (need (inB k y.length) (need (p (atI x k) (atI y k)) (if e (atI x k) (atI y k) = true then l n (IntKind.wrap .i64 (k + 1)) else some (true, false, default)))) else some (false, default, ())) :
    l (Int.toNat (((x.length : Nat) : Int) - 0) + 2) 0 = some (if (List.range' 0 x.length).all (fun k => e (x.getD k default) (y.getD k default)) = true then (false, default, ()) else (true, false, default)) := by
  have := all_loop l x.length (fun k => e (x.getD k default) (y.getD k default)) hx (fun n k hk => by
    rw [H, if_pos (by simp; omega), inB_nat, inB_nat]
    have hk2 : k < y.length := by omega
    unfold need
    rw [if_pos (by simpa using hk), if_pos (by simpa using hk2), if_pos (by rw [atI_lt x hk, atI_lt y hk2]; exact hp _ (List.getElem_mem _) _ (List.getElem_mem _)), atI_nat, atI_nat]) (fun n k hk => by
    rw [H, if_neg (by simp; omega)]) (Int.toNat (((x.length : Nat) : Int) - 0) + 2) 0 (Nat.zero_le _) (by omega)
  exact this
end Go.Proofs
namespace Go.Proofs
open Go.Ab
abbrev CanonP (x : Nat × Nat × Nat × List (Nat × Nat × Nat × Nat)) : Prop := Canon .f32 x.1 ∧ Canon .f32 x.2.1 ∧ Canon .f32 x.2.2.1 ∧ ∀ q ∈ x.2.2.2, CanonT q
theorem core_SamePose (x y : Nat × Nat × Nat × List (Nat × Nat × Nat × Nat)) (hx : CanonP x) (hy : CanonP y) (lx : x.2.2.2.length ≤ 1048576) (ly : y.2.2.2.length ≤ 1048576) :
    p_impl_SamePose x y = true ∧ p_spec_SamePose x y = true ∧ m_impl_SamePose x y = m_spec_SamePose x y := by
  obtain ⟨v1, v2, v3⟩ := same_vec (a := (x.1, x.2.1, x.2.2.1)) (b := (y.1, y.2.1, y.2.2.1)) ⟨hx.1, hx.2.1, hx.2.2.1⟩ ⟨hy.1, hy.2.1, hy.2.2.1⟩
  unfold p_impl_SamePose p_spec_SamePose p_spec_l03Same m_impl_SamePose m_spec_SamePose m_spec_l03Same p_impl_Turn m_impl_Turn
  by_cases hl : x.2.2.2.length = y.2.2.2.length
  · have e1 := all2_loop (l_impl_Turn_0 x.2.2.2 y.2.2.2) x.2.2.2 y.2.2.2 m_impl_SameTurn p_impl_SameTurn (by omega) hl (fun a ha b hb => (same_turn (hx.2.2.2 a ha) (hy.2.2.2 b hb)).2.1) (fun _ _ => rfl)
    have e2 := all2_loop (l_spec_l03Same_0 x y) x.2.2.2 y.2.2.2 m_spec_l02Same p_spec_l02Same (by omega) hl (fun a ha b hb => (same_turn (hx.2.2.2 a ha) (hy.2.2.2 b hb)).2.2) (fun _ _ => rfl)
    have e3 : (List.range' 0 x.2.2.2.length).all (fun k => m_impl_SameTurn (x.2.2.2.getD k default) (y.2.2.2.getD k default)) = (List.range' 0 x.2.2.2.length).all (fun k => m_spec_l02Same (x.2.2.2.getD k default) (y.2.2.2.getD k default)) :=
      all_range_congr fun i _ hi => (same_turn (hx.2.2.2 _ (getD_mem _ (by omega))) (hy.2.2.2 _ (getD_mem _ (by omega)))).1
    rw [e3] at e1
    rw [e1, e2, v1, v2, v3]
    simp
  · have h1 : ¬ (((List.length x.2.2.2 : Nat) : Int) = ((List.length y.2.2.2 : Nat) : Int)) := by omega
    rw [v1, v2, v3]
    simp [h1]
theorem law_SamePose (a b c : Nat) (l : List (Nat × Nat × Nat × Nat)) (ha : Canon .f32 a) (hb : Canon .f32 b) (hc : Canon .f32 c) (hl : l.length ≤ maxLen) (hq : ∀ q ∈ l, CanonT q)
    (a' b' c' : Nat) (l' : List (Nat × Nat × Nat × Nat)) (ha' : Canon .f32 a') (hb' : Canon .f32 b') (hc' : Canon .f32 c') (hl' : l'.length ≤ maxLen) (hq' : ∀ q ∈ l', CanonT q) :
    g_laws_FnExactSamePose [.agg [.flt .f32 a, .flt .f32 b, .flt .f32 c, .sl (List.map en0 l)], .agg [.flt .f32 a', .flt .f32 b', .flt .f32 c', .sl (List.map en0 l')]] = some (.bool true) := by
  have key : p_laws_FnExactSamePose (a, b, c, l) (a', b', c', l') = true ∧ m_laws_FnExactSamePose (a, b, c, l) (a', b', c', l') = true := by
    unfold p_laws_FnExactSamePose m_laws_FnExactSamePose
    by_cases hs : m_laws_szPose (a, b, c, l) 1048576 < 0
    · simp [hs]
    · obtain ⟨k1, k2, k3⟩ := sz_Pose (a, b, c, l) 1048576 hl (by omega) (by omega) hs
      by_cases hs' : m_laws_szPose (a', b', c', l') (m_laws_szPose (a, b, c, l) 1048576) < 0
      · simp [hs, hs']
      · obtain ⟨j1, j2, j3⟩ := sz_Pose (a', b', c', l') _ hl' k2 k3 hs'
        simp [hs, hs', to_Pose _ k1, to_Pose _ j1, core_SamePose (a, b, c, l) (a', b', c', l') ⟨ha, hb, hc, hq⟩ ⟨ha', hb', hc', hq'⟩ k1 j1, eq_Pose _ k1, eq_Pose _ j1]
  unfold g_laws_FnExactSamePose
  simp only [dc_en0_map, key.1, key.2, if_true]
end Go.Proofs
