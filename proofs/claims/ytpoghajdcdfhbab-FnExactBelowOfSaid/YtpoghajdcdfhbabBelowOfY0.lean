/- What functions that FnExactBelowOf reaches compute. No conditions. -/
import Derived.Test.YtpoghajdcdfhbabFwF
import Derived.Test.YtpoghajdcdfhbabProg
import Derived.KernelRfl
set_option maxRecDepth 100000
set_option maxHeartbeats 4000000
set_option linter.all false
namespace Go.Proofs
open Go.Ab
theorem hm : Try.prog.follows .mixedOrders = true := by kernel_rfl
def en0 (p : (Int × Nat × Nat × Nat)) : AV := (AV.agg [(.int .i64 p.1), (.flt .f32 p.2.1), (.flt .f32 p.2.2.1), (.flt .f32 p.2.2.2)])
def dc_en0 : AV → Option (Int × Nat × Nat × Nat)
  | .agg [.int .i64 y0, .flt .f32 y1, .flt .f32 y2, .flt .f32 y3] => some (y0, y1, y2, y3)
  | _ => none
theorem dc_en0_map (ys : List (Int × Nat × Nat × Nat)) : decL dc_en0 (List.map en0 ys) = some ys := decL_map (d := dc_en0) (e := en0) (fun p => by rfl) ys
theorem dc_en0_inv : ∀ x p, dc_en0 x = some p → x = en0 p := by
  intro x p h; unfold dc_en0 at h; split at h
  · cases h; rfl
  · cases h
theorem dc_en0_es (l : List (Int × Nat × Nat × Nat)) : List.all (List.map en0 l) (esIs 4) = true := all_enc (fun _ => rfl) l
theorem dc_en0_st (l : List (Int × Nat × Nat × Nat)) : List.all (List.map en0 l) (esSt 4) = true := all_enc (fun _ => rfl) l
theorem dc_en0_fl (l : List (Int × Nat × Nat × Nat)) : List.all (List.map en0 l) flatE = true := all_enc (fun _ => rfl) l
def grpC := And.intro @dc_en0_map <| And.intro @dc_en0_es <| And.intro @dc_en0_st @dc_en0_fl
def m_laws_szBoneS (x0 : (List (Int × Nat × Nat × Nat))) (x1 : Int) : Int := (if (decide ((IntKind.wrap .i64 (x1 - ((List.length x0 : Nat) : Int))) < 0)) = true then (-1) else
      (IntKind.wrap .i64 (x1 - ((List.length x0 : Nat) : Int))))
def g_laws_szBoneS : List AV → Option AV
  | [.sl w0, .int .i64 y1] => (match decL dc_en0 w0 with | some y0 => (some (.int .i64 (m_laws_szBoneS y0 y1))) | none => none)
  | _ => none
def ic49 : ICode := (.seq (.reg [⟨(some 4), none, (.mov (.c (.int .i64 0)))⟩] [0, 1]) (.seq (.reg [⟨(some 5), none, (.mov (.t 1))⟩, ⟨(some 6), none, (.mov (.t 0))⟩, ⟨(some 7), none,
      (.len false (.t 6))⟩, ⟨(some 8), none, (.bin .sub false (.t 5) (.t 7))⟩, ⟨(some 1), none, (.mov (.t 8))⟩] [1]) (.seq (.seq (.reg [⟨(some 9), none, (.mov (.t 1))⟩, ⟨(some 10),
      none, (.bin .lss false (.t 9) (.c (.int .i64 0)))⟩] [1, 10]) (.cond (.t 10) (.seq (.reg [⟨(some 4), none, (.mov (.c (.int .i64 (-1))))⟩] [4]) .ret) .skip)) (.seq (.reg [⟨(some
      11), none, (.mov (.t 1))⟩, ⟨(some 4), none, (.mov (.t 11))⟩] [4]) .ret))))
def cp49 : CP := CP.mk [] [] [[0, 1], [1], [1, 10], [4], [4]] 12 [] []
theorem fc49_0 : IntKind.wrap .i64 0 = 0 := by decide
theorem fc49_1 : IntKind.wrap .i64 1 = 1 := by decide
theorem fc49_2 : IntKind.wrap .i64 2 = 2 := by decide
theorem fc49_3 : IntKind.wrap .i64 3 = 3 := by decide
theorem fc49_4 : IntKind.wrap .i64 4 = 4 := by decide
theorem s49 : ∀ vs r, g_laws_szBoneS vs = some r → SaysM Try.prog .any 49 vs r := by
  intro vs r h
  unfold g_laws_szBoneS at h
  split at h
  · rename_i w0 y1
    cases hd_y0 : decL dc_en0 w0 with
    | none => rw [hd_y0] at h; cases h
    | some y0 =>
    rw [hd_y0] at h
    obtain rfl := decL_inv dc_en0_inv hd_y0
    clear hd_y0
    dsimp only at h
    cases h
    refine spec_of (m := .any) (tab := tabOf []) (cp := cp49) (ic := ic49) (rvl := [(.t 4)]) hm tabOk_nil Try.func49 rfl rfl rfl (by kernel_rfl) rfl (Nat.le_of_ble_eq_true rfl) (Nat.le_of_ble_eq_true rfl) ?_
    show eA _ _ _ _
    unfold ic49
    simp only [
        grpS, grpD, grpF, grpL, eop, vop, bop, uop, fltop, convop, endOk, newE, new1, freshL, Md.isNew, outV, pureV, pureX, pure1, AV.cells, AV.one, storable, laid, refless,
              refless1, vload, loadC, storeC, vnil, vfaddr, vextract, flatT, flatE, flatC, vconv, vmm, vidxA, viaddrA, vfield, vlen, elemsOf, dF32, dF64, dI64, dU8, dBool, dStr,
              esOk, elemsS, vsliceX, bnd, ownV, ownC, own1, ownT, isSl, nSl, endL, Md.isOwn, purge, purgeH, purgeB, purgeE, hasName, name1, List.any_cons, List.any_nil, Md.isWr,
              pureV.pureP, Option.map, reduceIte, Nat.reduceEqDiff, Nat.reduceAdd, Nat.reduceMul, Nat.reduceLT, Nat.reduceLeDiff, List.mapM_cons, List.mapM_nil, Option.pure_def,
              Option.bind_eq_bind, Option.bind_some, implies_true, forall_const, beq_self_eq_true, decide_true, decide_false, eq_self, Int.reduceEq, Int.reduceLE, Int.reduceLT,
              if_true, if_false, fc49_0, fc49_1, fc49_2, fc49_3, fc49_4, Int.reduceAdd, Int.reduceSub, Int.reduceMul, Int.reduceNeg, Int.reducePow, Nat.reducePow, Int.reduceToNat,
              Nat.reduceSub, List.replicate, Nat.reduceBEq, wAs, wA, wC, zipW, noDupN, grpE, grpC, en0, dc_en0]
    repeat' (first
      | ((first | (refine eGI_of (fun h => ?_) (fun h => ?_)) | (refine eCc_of (fun h => ?_) (fun h => ?_))) <;> (try simp only [Bool.not_eq_true', Bool.not_eq_false'] at h) <;> simp only [h,
        grpS, grpD, grpF, grpL, eop, vop, bop, uop, fltop, convop, endOk, newE, new1, freshL, Md.isNew, outV, pureV, pureX, pure1, AV.cells, AV.one, storable, laid, refless,
              refless1, vload, loadC, storeC, vnil, vfaddr, vextract, flatT, flatE, flatC, vconv, vmm, vidxA, viaddrA, vfield, vlen, elemsOf, dF32, dF64, dI64, dU8, dBool, dStr,
              esOk, elemsS, vsliceX, bnd, ownV, ownC, own1, ownT, isSl, nSl, endL, Md.isOwn, purge, purgeH, purgeB, purgeE, hasName, name1, List.any_cons, List.any_nil, Md.isWr,
              pureV.pureP, Option.map, reduceIte, Nat.reduceEqDiff, Nat.reduceAdd, Nat.reduceMul, Nat.reduceLT, Nat.reduceLeDiff, List.mapM_cons, List.mapM_nil, Option.pure_def,
              Option.bind_eq_bind, Option.bind_some, implies_true, forall_const, beq_self_eq_true, decide_true, decide_false, eq_self, Int.reduceEq, Int.reduceLE, Int.reduceLT,
              if_true, if_false, fc49_0, fc49_1, fc49_2, fc49_3, fc49_4, Int.reduceAdd, Int.reduceSub, Int.reduceMul, Int.reduceNeg, Int.reducePow, Nat.reducePow, Int.reduceToNat,
              Nat.reduceSub, List.replicate, Nat.reduceBEq, wAs, wA, wC, zipW, noDupN, grpE, grpC, en0, dc_en0]))
    all_goals (try simp only [*, m_laws_szBoneS, Bool.and_true, Bool.true_and, Bool.and_false, Bool.false_and, Bool.or_true, Bool.true_or, Bool.or_false, Bool.false_or, Bool.not_true, Bool.not_false, Bool.false_eq_true, if_true, if_false, reduceIte, decide_true, decide_false])
    all_goals (try (simp_all; done))
  · cases h
def m_laws_szSkeleton (x0 : (List (Int × Nat × Nat × Nat))) (x1 : Int) : Int := (if (decide ((m_laws_szBoneS x0 x1) < 0)) = true then (-1) else (m_laws_szBoneS x0 x1))
def g_laws_szSkeleton : List AV → Option AV
  | [.agg [.sl w0], .int .i64 y1] => (match decL dc_en0 w0 with | some y0 => (some (.int .i64 (m_laws_szSkeleton y0 y1))) | none => none)
  | _ => none
def ic17 : ICode := (.seq (.reg [⟨(some 2), none, (.box 1 (.t 0))⟩, ⟨(some 4), none, (.mov (.c (.int .i64 0)))⟩] [1, 2]) (.seq (.reg [⟨(some 5), none, (.faddr 0 (.t 2))⟩, ⟨(some 6),
      none, (.load none (.t 5))⟩, ⟨(some 7), none, (.mov (.t 1))⟩, ⟨(some 8), none, (.call (.fn 49) [(.t 6), (.t 7)] [])⟩, ⟨(some 1), none, (.mov (.t 8))⟩] [1]) (.seq (.seq (.reg
      [⟨(some 9), none, (.mov (.t 1))⟩, ⟨(some 10), none, (.bin .lss false (.t 9) (.c (.int .i64 0)))⟩] [1, 10]) (.cond (.t 10) (.seq (.reg [⟨(some 4), none, (.mov (.c (.int .i64
      (-1))))⟩] [4]) .ret) .skip)) (.seq (.reg [⟨(some 11), none, (.mov (.t 1))⟩, ⟨(some 4), none, (.mov (.t 11))⟩] [4]) .ret))))
def cp17 : CP := CP.mk [] [] [[1, 2], [1], [1, 10], [4], [4]] 12 [] []
theorem fc17_0 : IntKind.wrap .i64 0 = 0 := by decide
theorem fc17_1 : IntKind.wrap .i64 1 = 1 := by decide
theorem fc17_2 : IntKind.wrap .i64 2 = 2 := by decide
theorem fc17_3 : IntKind.wrap .i64 3 = 3 := by decide
theorem fc17_4 : IntKind.wrap .i64 4 = 4 := by decide
theorem s17 : ∀ vs r, g_laws_szSkeleton vs = some r → SaysM Try.prog .any 17 vs r := by
  intro vs r h
  unfold g_laws_szSkeleton at h
  split at h
  · rename_i w0 y1
    cases hd_y0 : decL dc_en0 w0 with
    | none => rw [hd_y0] at h; cases h
    | some y0 =>
    rw [hd_y0] at h
    obtain rfl := decL_inv dc_en0_inv hd_y0
    clear hd_y0
    dsimp only at h
    cases h
    refine spec_of (m := .any) (tab := tabOf [(49, wM .any g_laws_szBoneS)]) (cp := cp17) (ic := ic17) (rvl := [(.t 4)]) hm (tabOk_cons (m := .any) s49 tabOk_nil) Try.func17 rfl rfl rfl (by kernel_rfl) rfl (Nat.le_of_ble_eq_true rfl) (Nat.le_of_ble_eq_true rfl) ?_
    show eA _ _ _ _
    unfold ic17
    simp only [
        grpS, grpD, grpF, grpL, eop, vop, bop, uop, fltop, convop, endOk, newE, new1, freshL, Md.isNew, outV, pureV, pureX, pure1, AV.cells, AV.one, storable, laid, refless,
              refless1, vload, loadC, storeC, vnil, vfaddr, vextract, flatT, flatE, flatC, vconv, vmm, vidxA, viaddrA, vfield, vlen, elemsOf, dF32, dF64, dI64, dU8, dBool, dStr,
              esOk, elemsS, vsliceX, bnd, ownV, ownC, own1, ownT, isSl, nSl, endL, Md.isOwn, purge, purgeH, purgeB, purgeE, hasName, name1, List.any_cons, List.any_nil, Md.isWr,
              pureV.pureP, Option.map, reduceIte, Nat.reduceEqDiff, Nat.reduceAdd, Nat.reduceMul, Nat.reduceLT, Nat.reduceLeDiff, List.mapM_cons, List.mapM_nil, Option.pure_def,
              Option.bind_eq_bind, Option.bind_some, implies_true, forall_const, beq_self_eq_true, decide_true, decide_false, eq_self, Int.reduceEq, Int.reduceLE, Int.reduceLT,
              if_true, if_false, fc17_0, fc17_1, fc17_2, fc17_3, fc17_4, Int.reduceAdd, Int.reduceSub, Int.reduceMul, Int.reduceNeg, Int.reducePow, Nat.reducePow, Int.reduceToNat,
              Nat.reduceSub, List.replicate, Nat.reduceBEq, wAs, wA, wC, zipW, noDupN, grpE, g_laws_szBoneS, grpC, en0, dc_en0]
    repeat' (first
      | ((first | (refine eGI_of (fun h => ?_) (fun h => ?_)) | (refine eCc_of (fun h => ?_) (fun h => ?_))) <;> (try simp only [Bool.not_eq_true', Bool.not_eq_false'] at h) <;> simp only [h,
        grpS, grpD, grpF, grpL, eop, vop, bop, uop, fltop, convop, endOk, newE, new1, freshL, Md.isNew, outV, pureV, pureX, pure1, AV.cells, AV.one, storable, laid, refless,
              refless1, vload, loadC, storeC, vnil, vfaddr, vextract, flatT, flatE, flatC, vconv, vmm, vidxA, viaddrA, vfield, vlen, elemsOf, dF32, dF64, dI64, dU8, dBool, dStr,
              esOk, elemsS, vsliceX, bnd, ownV, ownC, own1, ownT, isSl, nSl, endL, Md.isOwn, purge, purgeH, purgeB, purgeE, hasName, name1, List.any_cons, List.any_nil, Md.isWr,
              pureV.pureP, Option.map, reduceIte, Nat.reduceEqDiff, Nat.reduceAdd, Nat.reduceMul, Nat.reduceLT, Nat.reduceLeDiff, List.mapM_cons, List.mapM_nil, Option.pure_def,
              Option.bind_eq_bind, Option.bind_some, implies_true, forall_const, beq_self_eq_true, decide_true, decide_false, eq_self, Int.reduceEq, Int.reduceLE, Int.reduceLT,
              if_true, if_false, fc17_0, fc17_1, fc17_2, fc17_3, fc17_4, Int.reduceAdd, Int.reduceSub, Int.reduceMul, Int.reduceNeg, Int.reducePow, Nat.reducePow, Int.reduceToNat,
              Nat.reduceSub, List.replicate, Nat.reduceBEq, wAs, wA, wC, zipW, noDupN, grpE, g_laws_szBoneS, grpC, en0, dc_en0]))
    all_goals (try simp only [*, m_laws_szSkeleton, Bool.and_true, Bool.true_and, Bool.and_false, Bool.false_and, Bool.or_true, Bool.true_or, Bool.or_false, Bool.false_or, Bool.not_true, Bool.not_false, Bool.false_eq_true, if_true, if_false, reduceIte, decide_true, decide_false])
    all_goals (try (simp_all; done))
  · cases h
def m_laws_toVector (x0 : (Nat × Nat × Nat)) : (Nat × Nat × Nat) := x0
def g_laws_toVector : List AV → Option AV
  | [.agg [.flt .f32 y0, .flt .f32 y1, .flt .f32 y2]] => some (AV.agg [(.flt .f32 (m_laws_toVector (y0, y1, y2)).1), (.flt .f32
      (m_laws_toVector (y0, y1, y2)).2.1), (.flt .f32 (m_laws_toVector (y0, y1, y2)).2.2)])
  | _ => none
def ic45 : ICode := (.seq (.reg [⟨(some 1), none, (.box 3 (.t 0))⟩, ⟨(some 2), none, (.alloc (.agg [(.flt .f32 0), (.flt .f32 0), (.flt .f32 0)]))⟩] [1, 2]) (.seq (.reg [⟨(some 3),
      none, (.alloc (.agg [(.flt .f32 0), (.flt .f32 0), (.flt .f32 0)]))⟩] [1, 2, 3]) (.seq (.reg [⟨(some 4), none, (.faddr 0 (.t 1))⟩, ⟨(some 5), none, (.load none (.t 4))⟩,
      ⟨(some 6), none, (.faddr 0 (.t 3))⟩, ⟨none, none, (.store 1 (.t 6) (.t 5))⟩] [1, 2, 3]) (.seq (.reg [⟨(some 7), none, (.faddr 1 (.t 1))⟩, ⟨(some 8), none, (.load none (.t
      7))⟩, ⟨(some 9), none, (.faddr 1 (.t 3))⟩, ⟨none, none, (.store 1 (.t 9) (.t 8))⟩] [1, 2, 3]) (.seq (.reg [⟨(some 10), none, (.faddr 2 (.t 1))⟩, ⟨(some 11), none, (.load none
      (.t 10))⟩, ⟨(some 12), none, (.faddr 2 (.t 3))⟩, ⟨none, none, (.store 1 (.t 12) (.t 11))⟩] [2, 3]) (.seq (.reg [⟨(some 13), none, (.load (some 3) (.t 3))⟩, ⟨none, none,
      (.store 3 (.t 2) (.t 13))⟩] [2]) .ret))))))
def cp45 : CP := CP.mk [] [] [[1, 2], [1, 2, 3], [1, 2, 3], [1, 2, 3], [2, 3], [2]] 14 [] []
theorem fc45_0 : IntKind.wrap .i64 0 = 0 := by decide
theorem fc45_1 : IntKind.wrap .i64 1 = 1 := by decide
theorem fc45_2 : IntKind.wrap .i64 2 = 2 := by decide
theorem fc45_3 : IntKind.wrap .i64 3 = 3 := by decide
theorem fc45_4 : IntKind.wrap .i64 4 = 4 := by decide
theorem s45 : ∀ vs r, g_laws_toVector vs = some r → SaysM Try.prog .any 45 vs r := by
  intro vs r h
  unfold g_laws_toVector at h
  split at h
  · rename_i y0 y1 y2
    cases h
    refine spec_of (m := .any) (tab := tabOf []) (cp := cp45) (ic := ic45) (rvl := [(.c 2 (some 3))]) hm tabOk_nil Try.func45 rfl rfl rfl (by kernel_rfl) rfl (Nat.le_of_ble_eq_true rfl) (Nat.le_of_ble_eq_true rfl) ?_
    show eA _ _ _ _
    unfold ic45
    simp only [
        grpS, grpD, grpF, grpL, eop, vop, bop, uop, fltop, convop, endOk, newE, new1, freshL, Md.isNew, outV, pureV, pureX, pure1, AV.cells, AV.one, storable, laid, refless,
              refless1, vload, loadC, storeC, vnil, vfaddr, vextract, flatT, flatE, flatC, vconv, vmm, vidxA, viaddrA, vfield, vlen, elemsOf, dF32, dF64, dI64, dU8, dBool, dStr,
              esOk, elemsS, vsliceX, bnd, ownV, ownC, own1, ownT, isSl, nSl, endL, Md.isOwn, purge, purgeH, purgeB, purgeE, hasName, name1, List.any_cons, List.any_nil, Md.isWr,
              pureV.pureP, Option.map, reduceIte, Nat.reduceEqDiff, Nat.reduceAdd, Nat.reduceMul, Nat.reduceLT, Nat.reduceLeDiff, List.mapM_cons, List.mapM_nil, Option.pure_def,
              Option.bind_eq_bind, Option.bind_some, implies_true, forall_const, beq_self_eq_true, decide_true, decide_false, eq_self, Int.reduceEq, Int.reduceLE, Int.reduceLT,
              if_true, if_false, fc45_0, fc45_1, fc45_2, fc45_3, fc45_4, Int.reduceAdd, Int.reduceSub, Int.reduceMul, Int.reduceNeg, Int.reducePow, Nat.reducePow, Int.reduceToNat,
              Nat.reduceSub, List.replicate, Nat.reduceBEq, wAs, wA, wC, zipW, noDupN, grpE, grpC, en0, dc_en0]
    repeat' (first
      | ((first | (refine eGI_of (fun h => ?_) (fun h => ?_)) | (refine eCc_of (fun h => ?_) (fun h => ?_))) <;> (try simp only [Bool.not_eq_true', Bool.not_eq_false'] at h) <;> simp only [h,
        grpS, grpD, grpF, grpL, eop, vop, bop, uop, fltop, convop, endOk, newE, new1, freshL, Md.isNew, outV, pureV, pureX, pure1, AV.cells, AV.one, storable, laid, refless,
              refless1, vload, loadC, storeC, vnil, vfaddr, vextract, flatT, flatE, flatC, vconv, vmm, vidxA, viaddrA, vfield, vlen, elemsOf, dF32, dF64, dI64, dU8, dBool, dStr,
              esOk, elemsS, vsliceX, bnd, ownV, ownC, own1, ownT, isSl, nSl, endL, Md.isOwn, purge, purgeH, purgeB, purgeE, hasName, name1, List.any_cons, List.any_nil, Md.isWr,
              pureV.pureP, Option.map, reduceIte, Nat.reduceEqDiff, Nat.reduceAdd, Nat.reduceMul, Nat.reduceLT, Nat.reduceLeDiff, List.mapM_cons, List.mapM_nil, Option.pure_def,
              Option.bind_eq_bind, Option.bind_some, implies_true, forall_const, beq_self_eq_true, decide_true, decide_false, eq_self, Int.reduceEq, Int.reduceLE, Int.reduceLT,
              if_true, if_false, fc45_0, fc45_1, fc45_2, fc45_3, fc45_4, Int.reduceAdd, Int.reduceSub, Int.reduceMul, Int.reduceNeg, Int.reducePow, Nat.reducePow, Int.reduceToNat,
              Nat.reduceSub, List.replicate, Nat.reduceBEq, wAs, wA, wC, zipW, noDupN, grpE, grpC, en0, dc_en0]))
    all_goals (try simp only [*, m_laws_toVector, Bool.and_true, Bool.true_and, Bool.and_false, Bool.false_and, Bool.or_true, Bool.true_or, Bool.or_false, Bool.false_or, Bool.not_true, Bool.not_false, Bool.false_eq_true, if_true, if_false, reduceIte, decide_true, decide_false])
    all_goals (try (simp_all; done))
  · cases h
def m_laws_toBone (x0 : (Int × Nat × Nat × Nat)) : (Int × Nat × Nat × Nat) := (x0.1, (m_laws_toVector x0.2).1, (m_laws_toVector x0.2).2.1, (m_laws_toVector x0.2).2.2)
def g_laws_toBone : List AV → Option AV
  | [.agg [.int .i64 y0, .flt .f32 y1, .flt .f32 y2, .flt .f32 y3]] => some (AV.agg [(.int .i64 (m_laws_toBone (y0, y1, y2, y3)).1), (.flt
      .f32 (m_laws_toBone (y0, y1, y2, y3)).2.1), (.flt .f32 (m_laws_toBone (y0, y1, y2, y3)).2.2.1), (.flt .f32 (m_laws_toBone (y0, y1, y2, y3)).2.2.2)])
  | _ => none
def ic75 : ICode := (.seq (.reg [⟨(some 1), none, (.box 4 (.t 0))⟩, ⟨(some 2), none, (.alloc (.agg [(.int .i64 0), (.flt .f32 0), (.flt .f32 0), (.flt .f32 0)]))⟩] [1, 2]) (.seq
      (.reg [⟨(some 3), none, (.alloc (.agg [(.int .i64 0), (.flt .f32 0), (.flt .f32 0), (.flt .f32 0)]))⟩] [1, 2, 3]) (.seq (.reg [⟨(some 4), none, (.faddr 0 (.t 1))⟩, ⟨(some 5),
      none, (.load none (.t 4))⟩, ⟨(some 6), none, (.faddr 0 (.t 3))⟩, ⟨none, none, (.store 1 (.t 6) (.t 5))⟩] [1, 2, 3]) (.seq (.reg [⟨(some 7), none, (.faddr 1 (.t 1))⟩, ⟨(some
      8), none, (.load (some 3) (.t 7))⟩, ⟨(some 9), none, (.call (.fn 45) [(.t 8)] [])⟩, ⟨(some 10), none, (.faddr 1 (.t 3))⟩, ⟨none, none, (.store 3 (.t 10) (.t 9))⟩] [2, 3])
      (.seq (.reg [⟨(some 11), none, (.load (some 4) (.t 3))⟩, ⟨none, none, (.store 4 (.t 2) (.t 11))⟩] [2]) .ret)))))
def cp75 : CP := CP.mk [] [] [[1, 2], [1, 2, 3], [1, 2, 3], [2, 3], [2]] 12 [] []
theorem fc75_0 : IntKind.wrap .i64 0 = 0 := by decide
theorem fc75_1 : IntKind.wrap .i64 1 = 1 := by decide
theorem fc75_2 : IntKind.wrap .i64 2 = 2 := by decide
theorem fc75_3 : IntKind.wrap .i64 3 = 3 := by decide
theorem fc75_4 : IntKind.wrap .i64 4 = 4 := by decide
theorem s75 : ∀ vs r, g_laws_toBone vs = some r → SaysM Try.prog .any 75 vs r := by
  intro vs r h
  unfold g_laws_toBone at h
  split at h
  · rename_i y0 y1 y2 y3
    cases h
    refine spec_of (m := .any) (tab := tabOf [(45, wM .any g_laws_toVector)]) (cp := cp75) (ic := ic75) (rvl := [(.c 2 (some 4))]) hm (tabOk_cons (m := .any) s45 tabOk_nil) Try.func75 rfl rfl rfl (by kernel_rfl) rfl (Nat.le_of_ble_eq_true rfl) (Nat.le_of_ble_eq_true rfl) ?_
    show eA _ _ _ _
    unfold ic75
    simp only [
        grpS, grpD, grpF, grpL, eop, vop, bop, uop, fltop, convop, endOk, newE, new1, freshL, Md.isNew, outV, pureV, pureX, pure1, AV.cells, AV.one, storable, laid, refless,
              refless1, vload, loadC, storeC, vnil, vfaddr, vextract, flatT, flatE, flatC, vconv, vmm, vidxA, viaddrA, vfield, vlen, elemsOf, dF32, dF64, dI64, dU8, dBool, dStr,
              esOk, elemsS, vsliceX, bnd, ownV, ownC, own1, ownT, isSl, nSl, endL, Md.isOwn, purge, purgeH, purgeB, purgeE, hasName, name1, List.any_cons, List.any_nil, Md.isWr,
              pureV.pureP, Option.map, reduceIte, Nat.reduceEqDiff, Nat.reduceAdd, Nat.reduceMul, Nat.reduceLT, Nat.reduceLeDiff, List.mapM_cons, List.mapM_nil, Option.pure_def,
              Option.bind_eq_bind, Option.bind_some, implies_true, forall_const, beq_self_eq_true, decide_true, decide_false, eq_self, Int.reduceEq, Int.reduceLE, Int.reduceLT,
              if_true, if_false, fc75_0, fc75_1, fc75_2, fc75_3, fc75_4, Int.reduceAdd, Int.reduceSub, Int.reduceMul, Int.reduceNeg, Int.reducePow, Nat.reducePow, Int.reduceToNat,
              Nat.reduceSub, List.replicate, Nat.reduceBEq, wAs, wA, wC, zipW, noDupN, grpE, g_laws_toVector, grpC, en0, dc_en0]
    repeat' (first
      | ((first | (refine eGI_of (fun h => ?_) (fun h => ?_)) | (refine eCc_of (fun h => ?_) (fun h => ?_))) <;> (try simp only [Bool.not_eq_true', Bool.not_eq_false'] at h) <;> simp only [h,
        grpS, grpD, grpF, grpL, eop, vop, bop, uop, fltop, convop, endOk, newE, new1, freshL, Md.isNew, outV, pureV, pureX, pure1, AV.cells, AV.one, storable, laid, refless,
              refless1, vload, loadC, storeC, vnil, vfaddr, vextract, flatT, flatE, flatC, vconv, vmm, vidxA, viaddrA, vfield, vlen, elemsOf, dF32, dF64, dI64, dU8, dBool, dStr,
              esOk, elemsS, vsliceX, bnd, ownV, ownC, own1, ownT, isSl, nSl, endL, Md.isOwn, purge, purgeH, purgeB, purgeE, hasName, name1, List.any_cons, List.any_nil, Md.isWr,
              pureV.pureP, Option.map, reduceIte, Nat.reduceEqDiff, Nat.reduceAdd, Nat.reduceMul, Nat.reduceLT, Nat.reduceLeDiff, List.mapM_cons, List.mapM_nil, Option.pure_def,
              Option.bind_eq_bind, Option.bind_some, implies_true, forall_const, beq_self_eq_true, decide_true, decide_false, eq_self, Int.reduceEq, Int.reduceLE, Int.reduceLT,
              if_true, if_false, fc75_0, fc75_1, fc75_2, fc75_3, fc75_4, Int.reduceAdd, Int.reduceSub, Int.reduceMul, Int.reduceNeg, Int.reducePow, Nat.reducePow, Int.reduceToNat,
              Nat.reduceSub, List.replicate, Nat.reduceBEq, wAs, wA, wC, zipW, noDupN, grpE, g_laws_toVector, grpC, en0, dc_en0]))
    all_goals (try simp only [*, m_laws_toBone, Bool.and_true, Bool.true_and, Bool.and_false, Bool.false_and, Bool.or_true, Bool.true_or, Bool.or_false, Bool.false_or, Bool.not_true, Bool.not_false, Bool.false_eq_true, if_true, if_false, reduceIte, decide_true, decide_false])
    all_goals (try (simp_all; done))
  · cases h
def l_laws_toBoneS_0 (x0 : (List (Int × Nat × Nat × Nat))) : Nat → (List (Int × Nat × Nat × Nat)) → Int → Option (List (Int × Nat × Nat × Nat))
  | 0, _, _ => none
  | n + 1, z0_0, z0_1 => (if (decide (z0_1 < ((List.length x0 : Nat) : Int))) = true then (need (inB z0_1 (List.length x0)) (need (inB z0_1 (List.length z0_0)) (l_laws_toBoneS_0 x0
        n (List.set z0_0 (Int.toNat z0_1) (m_laws_toBone (atI x0 z0_1))) (IntKind.wrap .i64 (z0_1 + 1))))) else (some z0_0))
def m_laws_toBoneS (x0 : (List (Int × Nat × Nat × Nat))) : (List (Int × Nat × Nat × Nat)) := (Option.getD (l_laws_toBoneS_0 x0 (Int.toNat (((List.length x0 : Nat) : Int) - 0) + 2)
      (List.replicate (Int.toNat ((List.length x0 : Nat) : Int)) (0, 0, 0, 0)) 0) default)
def p_laws_toBoneS (x0 : (List (Int × Nat × Nat × Nat))) : Bool := ((decide (0 ≤ ((List.length x0 : Nat) : Int))) && ((decide (((List.length x0 : Nat) : Int) * 24 ≤ 70368744177664))
      && ((decide (((List.length x0 : Nat) : Int) ≤ 70368744177664)) && (Option.isSome (l_laws_toBoneS_0 x0 (Int.toNat (((List.length x0 : Nat) : Int) - 0) + 2) (List.replicate
      (Int.toNat ((List.length x0 : Nat) : Int)) (0, 0, 0, 0)) 0)))))
def g_laws_toBoneS : List AV → Option AV
  | [.sl w0] => (match decL dc_en0 w0 with | some y0 => (if p_laws_toBoneS y0 = true then some (.sl (List.map en0 (m_laws_toBoneS y0))) else none) | none => none)
  | _ => none
def lb51_0 : ICode := (.seq (.seq (.reg [⟨(some 8), none, (.mov (.t 4))⟩, ⟨(some 9), none, (.mov (.t 0))⟩, ⟨(some 10), none, (.len false (.t 9))⟩, ⟨(some 11), none, (.bin .lss false
      (.t 8) (.t 10))⟩] [0, 3, 4, 11]) (.cond (.t 11) .skip (.exit 0))) (.seq (.block 1 (.reg [⟨(some 14), none, (.mov (.t 3))⟩, ⟨(some 15), none, (.mov (.t 4))⟩, ⟨(some 16), none,
      (.mov (.t 0))⟩, ⟨(some 17), none, (.mov (.t 4))⟩, ⟨(some 18), none, (.iaddrS 4 (.t 16) (.t 17))⟩, ⟨(some 19), none, (.load (some 4) (.t 18))⟩, ⟨(some 20), none, (.call (.fn
      75) [(.t 19)] [])⟩, ⟨(some 21), none, (.iaddrS 4 (.t 14) (.t 15))⟩, ⟨none, none, (.store 4 (.t 21) (.t 20))⟩] [0, 3, 4])) (.reg [⟨(some 12), none, (.mov (.t 4))⟩, ⟨(some 13),
      none, (.bin .add false (.t 12) (.c (.int .i64 1)))⟩, ⟨(some 4), none, (.mov (.t 13))⟩] [0, 3, 4])))
def ic51 : ICode := (.seq (.reg [⟨(some 2), none, (.mov (.c .snil))⟩] [0]) (.seq (.reg [⟨(some 5), none, (.mov (.t 0))⟩, ⟨(some 6), none, (.len false (.t 5))⟩, ⟨(some 7), none,
      (.mkslice 4 24 (.agg [(.int .i64 0), (.flt .f32 0), (.flt .f32 0), (.flt .f32 0)]) (.t 6) (.t 6))⟩, ⟨(some 3), none, (.mov (.t 7))⟩] [0, 3]) (.seq (.seq (.reg [⟨(some 4),
      none, (.mov (.c (.int .i64 0)))⟩] [0, 3, 4]) (.block 0 (.loop lb51_0))) (.seq (.reg [⟨(some 22), none, (.mov (.t 3))⟩, ⟨(some 2), none, (.mov (.t 22))⟩] [2]) .ret))))
def cp51 : CP := CP.mk [] [] [[0], [0, 3], [0, 3, 4], [0, 3, 4, 11], [0, 3, 4], [0, 3, 4], [2]] 23 [] []
theorem fc51_0 : IntKind.wrap .i64 0 = 0 := by decide
theorem fc51_1 : IntKind.wrap .i64 1 = 1 := by decide
theorem fc51_2 : IntKind.wrap .i64 2 = 2 := by decide
theorem fc51_3 : IntKind.wrap .i64 3 = 3 := by decide
theorem fc51_4 : IntKind.wrap .i64 4 = 4 := by decide
theorem sl51_0 (x0 : (List (Int × Nat × Nat × Nat))) : ∀ (n : Nat) (z0_0 : (List (Int × Nat × Nat × Nat))) (z0_1 : Int) (o : (List (Int × Nat × Nat × Nat))) (K : IExit → St → Prop),
      l_laws_toBoneS_0 x0 n z0_0 z0_1 = some o → (∀ st, Wk st (⟨[(3, (.lsl 7 0 (List.length o)))], [(7, (some ⟨4, true, (List.map en0 o)⟩))]⟩ : St) → K (.exit 0) st) → eA (tabOf
      [(75, wM .any g_laws_toBone)]) (.loop lb51_0) (⟨[(0, (.sl (List.map en0 x0))), (3, (.lsl 7 0 (List.length z0_0))), (4, (.int .i64 z0_1))], [(7, (some ⟨4, true, (List.map en0
      z0_0)⟩))]⟩ : St) K := by
  intro n
  induction n with
  | zero =>
    intro z0_0 z0_1 o K h h0
    simp only [l_laws_toBoneS_0, reduceCtorEq] at h
  | succ n ih =>
    intro z0_0 z0_1 o K h h0
    refine eA_loop ?_
    unfold lb51_0
    unfold l_laws_toBoneS_0 at h
    (try simp only [need_iff] at h)
    simp only [
      need_iff, h, grpS, grpD, grpF, grpL, eop, vop, bop, uop, fltop, convop, endOk, newE, new1, freshL, Md.isNew, outV, pureV, pureX, pure1, AV.cells, AV.one, storable, laid,
            refless, refless1, vload, loadC, storeC, vnil, vfaddr, vextract, flatT, flatE, flatC, vconv, vmm, vidxA, viaddrA, vfield, vlen, elemsOf, dF32, dF64, dI64, dU8, dBool,
            dStr, esOk, elemsS, vsliceX, bnd, ownV, ownC, own1, ownT, isSl, nSl, endL, Md.isOwn, purge, purgeH, purgeB, purgeE, hasName, name1, List.any_cons, List.any_nil, Md.isWr,
            pureV.pureP, Option.map, reduceIte, Nat.reduceEqDiff, Nat.reduceAdd, Nat.reduceMul, Nat.reduceLT, Nat.reduceLeDiff, List.mapM_cons, List.mapM_nil, Option.pure_def,
            Option.bind_eq_bind, Option.bind_some, implies_true, forall_const, beq_self_eq_true, decide_true, decide_false, eq_self, Int.reduceEq, Int.reduceLE, Int.reduceLT,
            if_true, if_false, fc51_0, fc51_1, fc51_2, fc51_3, fc51_4, Int.reduceAdd, Int.reduceSub, Int.reduceMul, Int.reduceNeg, Int.reducePow, Nat.reducePow, Int.reduceToNat,
            Nat.reduceSub, List.replicate, Nat.reduceBEq, wAs, wA, wC, zipW, noDupN, grpE, g_laws_toBone, grpC, en0, dc_en0]
    repeat' (first
      | ((first | (refine eGI_of (fun hc => ?_) (fun hc => ?_)) | (refine eCc_of (fun hc => ?_) (fun hc => ?_)) | (have hc := True.intro; refine KW_refl ?_)) <;> (try simp only [Bool.not_eq_true', Bool.not_eq_false'] at hc) <;> (try simp only [hc, need_iff, reduceCtorEq, Bool.not_eq_true', decide_eq_false_iff_not, Bool.not_true, Bool.not_false, Bool.false_or, Bool.true_or, Bool.true_and, Bool.false_and, Bool.and_eq_true, Bool.or_eq_true, if_true, if_false, reduceIte, Bool.false_eq_true, and_true, true_and, false_or, or_false, decide_eq_true_eq, not_false_eq_true, not_true_eq_false] at h) <;> (try (have hc2 := hc; simp only [decide_eq_true_eq, decide_eq_false_iff_not] at hc2; (first | (replace hc2 := eq_false hc2) | (replace hc2 := eq_true hc2)); simp only [hc2, if_true, if_false, need_iff, reduceCtorEq, Bool.not_eq_true', decide_eq_false_iff_not, Bool.not_true, Bool.not_false, Bool.false_or, Bool.true_or, Bool.true_and, Bool.false_and, Bool.and_eq_true, Bool.or_eq_true, if_true, if_false, reduceIte, Bool.false_eq_true, and_true, true_and, false_or, or_false, decide_eq_true_eq, not_false_eq_true, not_true_eq_false] at h)) <;> simp only [hc,
      need_iff, h, grpS, grpD, grpF, grpL, eop, vop, bop, uop, fltop, convop, endOk, newE, new1, freshL, Md.isNew, outV, pureV, pureX, pure1, AV.cells, AV.one, storable, laid,
            refless, refless1, vload, loadC, storeC, vnil, vfaddr, vextract, flatT, flatE, flatC, vconv, vmm, vidxA, viaddrA, vfield, vlen, elemsOf, dF32, dF64, dI64, dU8, dBool,
            dStr, esOk, elemsS, vsliceX, bnd, ownV, ownC, own1, ownT, isSl, nSl, endL, Md.isOwn, purge, purgeH, purgeB, purgeE, hasName, name1, List.any_cons, List.any_nil, Md.isWr,
            pureV.pureP, Option.map, reduceIte, Nat.reduceEqDiff, Nat.reduceAdd, Nat.reduceMul, Nat.reduceLT, Nat.reduceLeDiff, List.mapM_cons, List.mapM_nil, Option.pure_def,
            Option.bind_eq_bind, Option.bind_some, implies_true, forall_const, beq_self_eq_true, decide_true, decide_false, eq_self, Int.reduceEq, Int.reduceLE, Int.reduceLT,
            if_true, if_false, fc51_0, fc51_1, fc51_2, fc51_3, fc51_4, Int.reduceAdd, Int.reduceSub, Int.reduceMul, Int.reduceNeg, Int.reducePow, Nat.reducePow, Int.reduceToNat,
            Nat.reduceSub, List.replicate, Nat.reduceBEq, wAs, wA, wC, zipW, noDupN, grpE, g_laws_toBone, grpC, en0, dc_en0]))
    all_goals (repeat (replace h := And.right h))
    all_goals first
      | (refine eA_wk (wk_norm (ks := [0, 3, 4]) (ls := [7]) ?_) (eA_cast ?_ (ih _ _ _ _ h h0)); (simp only [normOk, optIn, blkIn, nameIn,
      need_iff, h, grpS, grpD, grpF, grpL, eop, vop, bop, uop, fltop, convop, endOk, newE, new1, freshL, Md.isNew, outV, pureV, pureX, pure1, AV.cells, AV.one, storable, laid,
            refless, refless1, vload, loadC, storeC, vnil, vfaddr, vextract, flatT, flatE, flatC, vconv, vmm, vidxA, viaddrA, vfield, vlen, elemsOf, dF32, dF64, dI64, dU8, dBool,
            dStr, esOk, elemsS, vsliceX, bnd, ownV, ownC, own1, ownT, isSl, nSl, endL, Md.isOwn, purge, purgeH, purgeB, purgeE, hasName, name1, List.any_cons, List.any_nil, Md.isWr,
            pureV.pureP, Option.map, reduceIte, Nat.reduceEqDiff, Nat.reduceAdd, Nat.reduceMul, Nat.reduceLT, Nat.reduceLeDiff, List.mapM_cons, List.mapM_nil, Option.pure_def,
            Option.bind_eq_bind, Option.bind_some, implies_true, forall_const, beq_self_eq_true, decide_true, decide_false, eq_self, Int.reduceEq, Int.reduceLE, Int.reduceLT,
            if_true, if_false, fc51_0, fc51_1, fc51_2, fc51_3, fc51_4, Int.reduceAdd, Int.reduceSub, Int.reduceMul, Int.reduceNeg, Int.reducePow, Nat.reducePow, Int.reduceToNat,
            Nat.reduceSub, List.replicate, Nat.reduceBEq, wAs, wA, wC, zipW, noDupN, grpE, g_laws_toBone, grpC, en0, dc_en0] <;> rfl); (simp only [normS, List.map_append, List.length_append, List.map_set, List.length_set, List.map_replicate, List.length_replicate, List.map_nil, List.map_cons,
      need_iff, h, grpS, grpD, grpF, grpL, eop, vop, bop, uop, fltop, convop, endOk, newE, new1, freshL, Md.isNew, outV, pureV, pureX, pure1, AV.cells, AV.one, storable, laid,
            refless, refless1, vload, loadC, storeC, vnil, vfaddr, vextract, flatT, flatE, flatC, vconv, vmm, vidxA, viaddrA, vfield, vlen, elemsOf, dF32, dF64, dI64, dU8, dBool,
            dStr, esOk, elemsS, vsliceX, bnd, ownV, ownC, own1, ownT, isSl, nSl, endL, Md.isOwn, purge, purgeH, purgeB, purgeE, hasName, name1, List.any_cons, List.any_nil, Md.isWr,
            pureV.pureP, Option.map, reduceIte, Nat.reduceEqDiff, Nat.reduceAdd, Nat.reduceMul, Nat.reduceLT, Nat.reduceLeDiff, List.mapM_cons, List.mapM_nil, Option.pure_def,
            Option.bind_eq_bind, Option.bind_some, implies_true, forall_const, beq_self_eq_true, decide_true, decide_false, eq_self, Int.reduceEq, Int.reduceLE, Int.reduceLT,
            if_true, if_false, fc51_0, fc51_1, fc51_2, fc51_3, fc51_4, Int.reduceAdd, Int.reduceSub, Int.reduceMul, Int.reduceNeg, Int.reducePow, Nat.reducePow, Int.reduceToNat,
            Nat.reduceSub, List.replicate, Nat.reduceBEq, wAs, wA, wC, zipW, noDupN, grpE, g_laws_toBone, grpC, en0, dc_en0] <;> first | rfl | (simp only [Nat.add_comm]; done)))
      | (cases h; refine h0 _ (Wk.cast (wk_norm (ks := [3]) (ls := [7]) ?_) ?_); (simp only [normOk, optIn, blkIn, nameIn,
      grpS, grpD, grpF, grpL, eop, vop, bop, uop, fltop, convop, endOk, newE, new1, freshL, Md.isNew, outV, pureV, pureX, pure1, AV.cells, AV.one, storable, laid, refless, refless1,
            vload, loadC, storeC, vnil, vfaddr, vextract, flatT, flatE, flatC, vconv, vmm, vidxA, viaddrA, vfield, vlen, elemsOf, dF32, dF64, dI64, dU8, dBool, dStr, esOk, elemsS,
            vsliceX, bnd, ownV, ownC, own1, ownT, isSl, nSl, endL, Md.isOwn, purge, purgeH, purgeB, purgeE, hasName, name1, List.any_cons, List.any_nil, Md.isWr, pureV.pureP,
            Option.map, reduceIte, Nat.reduceEqDiff, Nat.reduceAdd, Nat.reduceMul, Nat.reduceLT, Nat.reduceLeDiff, List.mapM_cons, List.mapM_nil, Option.pure_def,
            Option.bind_eq_bind, Option.bind_some, implies_true, forall_const, beq_self_eq_true, decide_true, decide_false, eq_self, Int.reduceEq, Int.reduceLE, Int.reduceLT,
            if_true, if_false, fc51_0, fc51_1, fc51_2, fc51_3, fc51_4, Int.reduceAdd, Int.reduceSub, Int.reduceMul, Int.reduceNeg, Int.reducePow, Nat.reducePow, Int.reduceToNat,
            Nat.reduceSub, List.replicate, Nat.reduceBEq, wAs, wA, wC, zipW, noDupN, grpE, g_laws_toBone, grpC, en0, dc_en0] <;> rfl); (simp only [normS, List.map_append, List.length_append, List.map_set, List.length_set, List.map_replicate, List.length_replicate,
      grpS, grpD, grpF, grpL, eop, vop, bop, uop, fltop, convop, endOk, newE, new1, freshL, Md.isNew, outV, pureV, pureX, pure1, AV.cells, AV.one, storable, laid, refless, refless1,
            vload, loadC, storeC, vnil, vfaddr, vextract, flatT, flatE, flatC, vconv, vmm, vidxA, viaddrA, vfield, vlen, elemsOf, dF32, dF64, dI64, dU8, dBool, dStr, esOk, elemsS,
            vsliceX, bnd, ownV, ownC, own1, ownT, isSl, nSl, endL, Md.isOwn, purge, purgeH, purgeB, purgeE, hasName, name1, List.any_cons, List.any_nil, Md.isWr, pureV.pureP,
            Option.map, reduceIte, Nat.reduceEqDiff, Nat.reduceAdd, Nat.reduceMul, Nat.reduceLT, Nat.reduceLeDiff, List.mapM_cons, List.mapM_nil, Option.pure_def,
            Option.bind_eq_bind, Option.bind_some, implies_true, forall_const, beq_self_eq_true, decide_true, decide_false, eq_self, Int.reduceEq, Int.reduceLE, Int.reduceLT,
            if_true, if_false, fc51_0, fc51_1, fc51_2, fc51_3, fc51_4, Int.reduceAdd, Int.reduceSub, Int.reduceMul, Int.reduceNeg, Int.reducePow, Nat.reducePow, Int.reduceToNat,
            Nat.reduceSub, List.replicate, Nat.reduceBEq, wAs, wA, wC, zipW, noDupN, grpE, g_laws_toBone, grpC, en0, dc_en0] <;> first | rfl | (simp only [Nat.add_comm]; done)))
theorem s51 : ∀ vs r, g_laws_toBoneS vs = some r → SaysM Try.prog (.own [4]) 51 vs r := by
  intro vs r h
  unfold g_laws_toBoneS at h
  split at h
  · rename_i w0
    cases hd_y0 : decL dc_en0 w0 with
    | none => rw [hd_y0] at h; cases h
    | some y0 =>
    rw [hd_y0] at h
    obtain rfl := decL_inv dc_en0_inv hd_y0
    clear hd_y0
    dsimp only at h
    split at h
    · rename_i hp
      cases h
      refine spec_of (m := (.own [4])) (tab := tabOf [(75, wM .any g_laws_toBone)]) (cp := cp51) (ic := ic51) (rvl := [(.t 2)]) hm (tabOk_cons (m := .any) s75 tabOk_nil) Try.func51 rfl rfl rfl (by kernel_rfl) rfl (Nat.le_of_ble_eq_true rfl) (Nat.le_of_ble_eq_true rfl) ?_
      show eA _ _ _ _
      unfold ic51
      simp only [p_laws_toBoneS, Bool.and_eq_true, Bool.or_eq_true, decide_eq_true_eq, Bool.not_eq_true', decide_eq_false_iff_not] at hp
      simp only [
          hp, grpS, grpD, grpF, grpL, eop, vop, bop, uop, fltop, convop, endOk, newE, new1, freshL, Md.isNew, outV, pureV, pureX, pure1, AV.cells, AV.one, storable, laid, refless,
                refless1, vload, loadC, storeC, vnil, vfaddr, vextract, flatT, flatE, flatC, vconv, vmm, vidxA, viaddrA, vfield, vlen, elemsOf, dF32, dF64, dI64, dU8, dBool, dStr,
                esOk, elemsS, vsliceX, bnd, ownV, ownC, own1, ownT, isSl, nSl, endL, Md.isOwn, purge, purgeH, purgeB, purgeE, hasName, name1, List.any_cons, List.any_nil, Md.isWr,
                pureV.pureP, Option.map, reduceIte, Nat.reduceEqDiff, Nat.reduceAdd, Nat.reduceMul, Nat.reduceLT, Nat.reduceLeDiff, List.mapM_cons, List.mapM_nil, Option.pure_def,
                Option.bind_eq_bind, Option.bind_some, implies_true, forall_const, beq_self_eq_true, decide_true, decide_false, eq_self, Int.reduceEq, Int.reduceLE, Int.reduceLT,
                if_true, if_false, fc51_0, fc51_1, fc51_2, fc51_3, fc51_4, Int.reduceAdd, Int.reduceSub, Int.reduceMul, Int.reduceNeg, Int.reducePow, Nat.reducePow, Int.reduceToNat,
                Nat.reduceSub, List.replicate, Nat.reduceBEq, wAs, wA, wC, zipW, noDupN, grpE, g_laws_toBone, grpC, en0, dc_en0]
      repeat' (first
        | ((first | (refine eGI_of (fun h => ?_) (fun h => ?_)) | (refine eCc_of (fun h => ?_) (fun h => ?_)) | (have h := True.intro; refine KW_refl ?_)) <;> (try simp only [Bool.not_eq_true', Bool.not_eq_false'] at h) <;> (try simp only [h, reduceCtorEq, Bool.not_eq_true', decide_eq_false_iff_not, Bool.not_true, Bool.not_false, Bool.false_or, Bool.true_or, Bool.true_and, Bool.false_and, Bool.and_eq_true, Bool.or_eq_true, if_true, if_false, reduceIte, Bool.false_eq_true, and_true, true_and, false_or, or_false, decide_eq_true_eq, not_false_eq_true, not_true_eq_false] at hp) <;> (try (have h2 := h; simp only [decide_eq_true_eq, decide_eq_false_iff_not] at h2; (first | (replace h2 := eq_false h2) | (replace h2 := eq_true h2)); simp only [h2, if_true, if_false, false_or, true_or, or_true, or_false, and_true, true_and, not_false_eq_true, not_true_eq_false] at hp)) <;> simp only [h,
          hp, grpS, grpD, grpF, grpL, eop, vop, bop, uop, fltop, convop, endOk, newE, new1, freshL, Md.isNew, outV, pureV, pureX, pure1, AV.cells, AV.one, storable, laid, refless,
                refless1, vload, loadC, storeC, vnil, vfaddr, vextract, flatT, flatE, flatC, vconv, vmm, vidxA, viaddrA, vfield, vlen, elemsOf, dF32, dF64, dI64, dU8, dBool, dStr,
                esOk, elemsS, vsliceX, bnd, ownV, ownC, own1, ownT, isSl, nSl, endL, Md.isOwn, purge, purgeH, purgeB, purgeE, hasName, name1, List.any_cons, List.any_nil, Md.isWr,
                pureV.pureP, Option.map, reduceIte, Nat.reduceEqDiff, Nat.reduceAdd, Nat.reduceMul, Nat.reduceLT, Nat.reduceLeDiff, List.mapM_cons, List.mapM_nil, Option.pure_def,
                Option.bind_eq_bind, Option.bind_some, implies_true, forall_const, beq_self_eq_true, decide_true, decide_false, eq_self, Int.reduceEq, Int.reduceLE, Int.reduceLT,
                if_true, if_false, fc51_0, fc51_1, fc51_2, fc51_3, fc51_4, Int.reduceAdd, Int.reduceSub, Int.reduceMul, Int.reduceNeg, Int.reducePow, Nat.reducePow, Int.reduceToNat,
                Nat.reduceSub, List.replicate, Nat.reduceBEq, wAs, wA, wC, zipW, noDupN, grpE, g_laws_toBone, grpC, en0, dc_en0])
        | (refine eA_wk (wk_norm (ks := [0, 3, 4]) (ls := [7]) ?_) (eA_cast ?_ (sl51_0 y0 _ _ _ _ _ (getD_some (d := default) (x := (l_laws_toBoneS_0 y0 (Int.toNat (((List.length y0 : Nat) : Int) - 0) + 2) (List.replicate (Int.toNat ((List.length y0 : Nat) : Int)) (0, 0, 0, 0)) 0)) ?_) ?_)); (simp only [nilS, nilV, normOk, optIn, blkIn, nameIn, 
          hp, grpS, grpD, grpF, grpL, eop, vop, bop, uop, fltop, convop, endOk, newE, new1, freshL, Md.isNew, outV, pureV, pureX, pure1, AV.cells, AV.one, storable, laid, refless,
                refless1, vload, loadC, storeC, vnil, vfaddr, vextract, flatT, flatE, flatC, vconv, vmm, vidxA, viaddrA, vfield, vlen, elemsOf, dF32, dF64, dI64, dU8, dBool, dStr,
                esOk, elemsS, vsliceX, bnd, ownV, ownC, own1, ownT, isSl, nSl, endL, Md.isOwn, purge, purgeH, purgeB, purgeE, hasName, name1, List.any_cons, List.any_nil, Md.isWr,
                pureV.pureP, Option.map, reduceIte, Nat.reduceEqDiff, Nat.reduceAdd, Nat.reduceMul, Nat.reduceLT, Nat.reduceLeDiff, List.mapM_cons, List.mapM_nil, Option.pure_def,
                Option.bind_eq_bind, Option.bind_some, implies_true, forall_const, beq_self_eq_true, decide_true, decide_false, eq_self, Int.reduceEq, Int.reduceLE, Int.reduceLT,
                if_true, if_false, fc51_0, fc51_1, fc51_2, fc51_3, fc51_4, Int.reduceAdd, Int.reduceSub, Int.reduceMul, Int.reduceNeg, Int.reducePow, Nat.reducePow, Int.reduceToNat,
                Nat.reduceSub, List.replicate, Nat.reduceBEq, wAs, wA, wC, zipW, noDupN, grpE, g_laws_toBone, grpC, en0, dc_en0] <;> rfl); (simp only [nilS, nilV, normS,  List.map_append, List.length_append, List.map_set, List.length_set, List.map_replicate, List.length_replicate, List.map_nil, List.map_cons,
          hp, grpS, grpD, grpF, grpL, eop, vop, bop, uop, fltop, convop, endOk, newE, new1, freshL, Md.isNew, outV, pureV, pureX, pure1, AV.cells, AV.one, storable, laid, refless,
                refless1, vload, loadC, storeC, vnil, vfaddr, vextract, flatT, flatE, flatC, vconv, vmm, vidxA, viaddrA, vfield, vlen, elemsOf, dF32, dF64, dI64, dU8, dBool, dStr,
                esOk, elemsS, vsliceX, bnd, ownV, ownC, own1, ownT, isSl, nSl, endL, Md.isOwn, purge, purgeH, purgeB, purgeE, hasName, name1, List.any_cons, List.any_nil, Md.isWr,
                pureV.pureP, Option.map, reduceIte, Nat.reduceEqDiff, Nat.reduceAdd, Nat.reduceMul, Nat.reduceLT, Nat.reduceLeDiff, List.mapM_cons, List.mapM_nil, Option.pure_def,
                Option.bind_eq_bind, Option.bind_some, implies_true, forall_const, beq_self_eq_true, decide_true, decide_false, eq_self, Int.reduceEq, Int.reduceLE, Int.reduceLT,
                if_true, if_false, fc51_0, fc51_1, fc51_2, fc51_3, fc51_4, Int.reduceAdd, Int.reduceSub, Int.reduceMul, Int.reduceNeg, Int.reducePow, Nat.reducePow, Int.reduceToNat,
                Nat.reduceSub, List.replicate, Nat.reduceBEq, wAs, wA, wC, zipW, noDupN, grpE, g_laws_toBone, grpC, en0, dc_en0] <;> first | rfl | (simp only [Nat.add_comm]; done)); (simp only [hp]); (
        intro st2 hw; (try simp only [reduceCtorEq, Bool.not_eq_true', decide_eq_false_iff_not, Bool.not_true, Bool.not_false, Bool.false_or, Bool.true_or, Bool.true_and, Bool.false_and, Bool.and_eq_true, Bool.or_eq_true, if_true, if_false, reduceIte, Bool.false_eq_true, and_true, true_and, false_or, or_false, decide_eq_true_eq, not_false_eq_true, not_true_eq_false] at hp); simp only [
          hp, grpS, grpD, grpF, grpL, eop, vop, bop, uop, fltop, convop, endOk, newE, new1, freshL, Md.isNew, outV, pureV, pureX, pure1, AV.cells, AV.one, storable, laid, refless,
                refless1, vload, loadC, storeC, vnil, vfaddr, vextract, flatT, flatE, flatC, vconv, vmm, vidxA, viaddrA, vfield, vlen, elemsOf, dF32, dF64, dI64, dU8, dBool, dStr,
                esOk, elemsS, vsliceX, bnd, ownV, ownC, own1, ownT, isSl, nSl, endL, Md.isOwn, purge, purgeH, purgeB, purgeE, hasName, name1, List.any_cons, List.any_nil, Md.isWr,
                pureV.pureP, Option.map, reduceIte, Nat.reduceEqDiff, Nat.reduceAdd, Nat.reduceMul, Nat.reduceLT, Nat.reduceLeDiff, List.mapM_cons, List.mapM_nil, Option.pure_def,
                Option.bind_eq_bind, Option.bind_some, implies_true, forall_const, beq_self_eq_true, decide_true, decide_false, eq_self, Int.reduceEq, Int.reduceLE, Int.reduceLT,
                if_true, if_false, fc51_0, fc51_1, fc51_2, fc51_3, fc51_4, Int.reduceAdd, Int.reduceSub, Int.reduceMul, Int.reduceNeg, Int.reducePow, Nat.reducePow, Int.reduceToNat,
                Nat.reduceSub, List.replicate, Nat.reduceBEq, wAs, wA, wC, zipW, noDupN, grpE, g_laws_toBone, grpC, en0, dc_en0]; refine KW_of hw ?_; simp only [
          hp, grpS, grpD, grpF, grpL, eop, vop, bop, uop, fltop, convop, endOk, newE, new1, freshL, Md.isNew, outV, pureV, pureX, pure1, AV.cells, AV.one, storable, laid, refless,
                refless1, vload, loadC, storeC, vnil, vfaddr, vextract, flatT, flatE, flatC, vconv, vmm, vidxA, viaddrA, vfield, vlen, elemsOf, dF32, dF64, dI64, dU8, dBool, dStr,
                esOk, elemsS, vsliceX, bnd, ownV, ownC, own1, ownT, isSl, nSl, endL, Md.isOwn, purge, purgeH, purgeB, purgeE, hasName, name1, List.any_cons, List.any_nil, Md.isWr,
                pureV.pureP, Option.map, reduceIte, Nat.reduceEqDiff, Nat.reduceAdd, Nat.reduceMul, Nat.reduceLT, Nat.reduceLeDiff, List.mapM_cons, List.mapM_nil, Option.pure_def,
                Option.bind_eq_bind, Option.bind_some, implies_true, forall_const, beq_self_eq_true, decide_true, decide_false, eq_self, Int.reduceEq, Int.reduceLE, Int.reduceLT,
                if_true, if_false, fc51_0, fc51_1, fc51_2, fc51_3, fc51_4, Int.reduceAdd, Int.reduceSub, Int.reduceMul, Int.reduceNeg, Int.reducePow, Nat.reducePow, Int.reduceToNat,
                Nat.reduceSub, List.replicate, Nat.reduceBEq, wAs, wA, wC, zipW, noDupN, grpE, g_laws_toBone, grpC, en0, dc_en0])))
      all_goals (try simp only [*, m_laws_toBoneS, Bool.and_true, Bool.true_and, Bool.and_false, Bool.false_and, Bool.or_true, Bool.true_or, Bool.or_false, Bool.false_or, Bool.not_true, Bool.not_false, Bool.false_eq_true, if_true, if_false, reduceIte, decide_true, decide_false])
      all_goals (try (simp_all; done))
    · cases h
  · cases h
def m_laws_toSkeleton (x0 : (List (Int × Nat × Nat × Nat))) : (List (Int × Nat × Nat × Nat)) := (m_laws_toBoneS x0)
def p_laws_toSkeleton (x0 : (List (Int × Nat × Nat × Nat))) : Bool := (p_laws_toBoneS x0)
def g_laws_toSkeleton : List AV → Option AV
  | [.agg [.sl w0]] => (match decL dc_en0 w0 with | some y0 => (if p_laws_toSkeleton y0 = true then some (AV.agg [(.sl (List.map en0 (m_laws_toSkeleton y0)))]) else none) | none => none)
  | _ => none
def ic19 : ICode := (.seq (.reg [⟨(some 1), none, (.box 1 (.t 0))⟩, ⟨(some 2), none, (.alloc (.agg [.snil]))⟩] [1, 2]) (.seq (.reg [⟨(some 3), none, (.alloc (.agg [.snil]))⟩] [1, 2,
      3]) (.seq (.reg [⟨(some 4), none, (.faddr 0 (.t 1))⟩, ⟨(some 5), none, (.load none (.t 4))⟩, ⟨(some 6), none, (.call (.fn 51) [(.t 5)] [4])⟩, ⟨(some 7), none, (.faddr 0 (.t
      3))⟩, ⟨none, none, (.store 1 (.t 7) (.t 6))⟩] [2, 3]) (.seq (.reg [⟨(some 8), none, (.load (some 1) (.t 3))⟩, ⟨none, none, (.store 1 (.t 2) (.t 8))⟩] [2]) .ret))))
def cp19 : CP := CP.mk [(6, [4])] [] [[1, 2], [1, 2, 3], [2, 3], [2]] 9 [] []
theorem fc19_0 : IntKind.wrap .i64 0 = 0 := by decide
theorem fc19_1 : IntKind.wrap .i64 1 = 1 := by decide
theorem fc19_2 : IntKind.wrap .i64 2 = 2 := by decide
theorem fc19_3 : IntKind.wrap .i64 3 = 3 := by decide
theorem fc19_4 : IntKind.wrap .i64 4 = 4 := by decide
theorem s19 : ∀ vs r, g_laws_toSkeleton vs = some r → SaysM Try.prog (.own [4]) 19 vs r := by
  intro vs r h
  unfold g_laws_toSkeleton at h
  split at h
  · rename_i w0
    cases hd_y0 : decL dc_en0 w0 with
    | none => rw [hd_y0] at h; cases h
    | some y0 =>
    rw [hd_y0] at h
    obtain rfl := decL_inv dc_en0_inv hd_y0
    clear hd_y0
    dsimp only at h
    split at h
    · rename_i hp
      cases h
      refine spec_of (m := (.own [4])) (tab := tabOf [(51, wM (.own [4]) g_laws_toBoneS)]) (cp := cp19) (ic := ic19) (rvl := [(.c 2 (some 1))]) hm (tabOk_cons (m := (.own [4])) s51 tabOk_nil) Try.func19 rfl rfl rfl (by kernel_rfl) rfl (Nat.le_of_ble_eq_true rfl) (Nat.le_of_ble_eq_true rfl) ?_
      show eA _ _ _ _
      unfold ic19
      simp only [p_laws_toSkeleton, Bool.and_eq_true, Bool.or_eq_true, decide_eq_true_eq, Bool.not_eq_true', decide_eq_false_iff_not] at hp
      simp only [
          hp, grpS, grpD, grpF, grpL, eop, vop, bop, uop, fltop, convop, endOk, newE, new1, freshL, Md.isNew, outV, pureV, pureX, pure1, AV.cells, AV.one, storable, laid, refless,
                refless1, vload, loadC, storeC, vnil, vfaddr, vextract, flatT, flatE, flatC, vconv, vmm, vidxA, viaddrA, vfield, vlen, elemsOf, dF32, dF64, dI64, dU8, dBool, dStr,
                esOk, elemsS, vsliceX, bnd, ownV, ownC, own1, ownT, isSl, nSl, endL, Md.isOwn, purge, purgeH, purgeB, purgeE, hasName, name1, List.any_cons, List.any_nil, Md.isWr,
                pureV.pureP, Option.map, reduceIte, Nat.reduceEqDiff, Nat.reduceAdd, Nat.reduceMul, Nat.reduceLT, Nat.reduceLeDiff, List.mapM_cons, List.mapM_nil, Option.pure_def,
                Option.bind_eq_bind, Option.bind_some, implies_true, forall_const, beq_self_eq_true, decide_true, decide_false, eq_self, Int.reduceEq, Int.reduceLE, Int.reduceLT,
                if_true, if_false, fc19_0, fc19_1, fc19_2, fc19_3, fc19_4, Int.reduceAdd, Int.reduceSub, Int.reduceMul, Int.reduceNeg, Int.reducePow, Nat.reducePow, Int.reduceToNat,
                Nat.reduceSub, List.replicate, Nat.reduceBEq, wAs, wA, wC, zipW, noDupN, grpE, g_laws_toBoneS, grpC, en0, dc_en0]
      repeat' (first
        | ((first | (refine eGI_of (fun h => ?_) (fun h => ?_)) | (refine eCc_of (fun h => ?_) (fun h => ?_))) <;> (try simp only [Bool.not_eq_true', Bool.not_eq_false'] at h) <;> (try simp only [h, reduceCtorEq, Bool.not_eq_true', decide_eq_false_iff_not, Bool.not_true, Bool.not_false, Bool.false_or, Bool.true_or, Bool.true_and, Bool.false_and, Bool.and_eq_true, Bool.or_eq_true, if_true, if_false, reduceIte, Bool.false_eq_true, and_true, true_and, false_or, or_false, decide_eq_true_eq, not_false_eq_true, not_true_eq_false] at hp) <;> (try (have h2 := h; simp only [decide_eq_true_eq, decide_eq_false_iff_not] at h2; (first | (replace h2 := eq_false h2) | (replace h2 := eq_true h2)); simp only [h2, if_true, if_false, false_or, true_or, or_true, or_false, and_true, true_and, not_false_eq_true, not_true_eq_false] at hp)) <;> simp only [h,
          hp, grpS, grpD, grpF, grpL, eop, vop, bop, uop, fltop, convop, endOk, newE, new1, freshL, Md.isNew, outV, pureV, pureX, pure1, AV.cells, AV.one, storable, laid, refless,
                refless1, vload, loadC, storeC, vnil, vfaddr, vextract, flatT, flatE, flatC, vconv, vmm, vidxA, viaddrA, vfield, vlen, elemsOf, dF32, dF64, dI64, dU8, dBool, dStr,
                esOk, elemsS, vsliceX, bnd, ownV, ownC, own1, ownT, isSl, nSl, endL, Md.isOwn, purge, purgeH, purgeB, purgeE, hasName, name1, List.any_cons, List.any_nil, Md.isWr,
                pureV.pureP, Option.map, reduceIte, Nat.reduceEqDiff, Nat.reduceAdd, Nat.reduceMul, Nat.reduceLT, Nat.reduceLeDiff, List.mapM_cons, List.mapM_nil, Option.pure_def,
                Option.bind_eq_bind, Option.bind_some, implies_true, forall_const, beq_self_eq_true, decide_true, decide_false, eq_self, Int.reduceEq, Int.reduceLE, Int.reduceLT,
                if_true, if_false, fc19_0, fc19_1, fc19_2, fc19_3, fc19_4, Int.reduceAdd, Int.reduceSub, Int.reduceMul, Int.reduceNeg, Int.reducePow, Nat.reducePow, Int.reduceToNat,
                Nat.reduceSub, List.replicate, Nat.reduceBEq, wAs, wA, wC, zipW, noDupN, grpE, g_laws_toBoneS, grpC, en0, dc_en0]))
      all_goals (try simp only [*, m_laws_toSkeleton, Bool.and_true, Bool.true_and, Bool.and_false, Bool.false_and, Bool.or_true, Bool.true_or, Bool.or_false, Bool.false_or, Bool.not_true, Bool.not_false, Bool.false_eq_true, if_true, if_false, reduceIte, decide_true, decide_false])
      all_goals (try (simp_all; done))
    · cases h
  · cases h
def m_spec_l00In (x0 : Int) (x1 : Int) (x2 : Int) : Bool := (if (decide (x1 ≤ x0)) = true then (decide (x0 ≤ x2)) else false)
def g_spec_l00In : List AV → Option AV
  | [.int .i64 y0, .int .i64 y1, .int .i64 y2] => some (.bool (m_spec_l00In y0 y1 y2))
  | _ => none
def ic64 : ICode := (.seq (.reg [⟨(some 6), none, (.mov (.c (.bool false)))⟩] [0, 1, 2]) (.seq (.reg [⟨(some 7), none, (.mov (.t 0))⟩, ⟨(some 8), none, (.mov (.t 1))⟩, ⟨(some 9),
      none, (.bin .geq false (.t 7) (.t 8))⟩, ⟨(some 10), none, (.mov (.t 9))⟩, ⟨(some 11), (some (10, true)), (.mov (.t 0))⟩, ⟨(some 12), (some (10, true)), (.mov (.t 2))⟩, ⟨(some
      13), (some (10, true)), (.bin .leq false (.t 11) (.t 12))⟩, ⟨(some 14), none, (.pick (.t 10) (.t 13) (.c (.bool false)))⟩, ⟨(some 6), none, (.mov (.t 14))⟩] [6]) .ret))
def cp64 : CP := CP.mk [] [] [[0, 1, 2], [6]] 15 [] []
theorem fc64_0 : IntKind.wrap .i64 0 = 0 := by decide
theorem fc64_1 : IntKind.wrap .i64 1 = 1 := by decide
theorem fc64_2 : IntKind.wrap .i64 2 = 2 := by decide
theorem fc64_3 : IntKind.wrap .i64 3 = 3 := by decide
theorem fc64_4 : IntKind.wrap .i64 4 = 4 := by decide
theorem s64 : ∀ vs r, g_spec_l00In vs = some r → SaysM Try.prog .any 64 vs r := by
  intro vs r h
  unfold g_spec_l00In at h
  split at h
  · rename_i y0 y1 y2
    cases h
    refine spec_of (m := .any) (tab := tabOf []) (cp := cp64) (ic := ic64) (rvl := [(.t 6)]) hm tabOk_nil Try.func64 rfl rfl rfl (by kernel_rfl) rfl (Nat.le_of_ble_eq_true rfl) (Nat.le_of_ble_eq_true rfl) ?_
    show eA _ _ _ _
    unfold ic64
    simp only [
        grpS, grpD, grpF, grpL, eop, vop, bop, uop, fltop, convop, endOk, newE, new1, freshL, Md.isNew, outV, pureV, pureX, pure1, AV.cells, AV.one, storable, laid, refless,
              refless1, vload, loadC, storeC, vnil, vfaddr, vextract, flatT, flatE, flatC, vconv, vmm, vidxA, viaddrA, vfield, vlen, elemsOf, dF32, dF64, dI64, dU8, dBool, dStr,
              esOk, elemsS, vsliceX, bnd, ownV, ownC, own1, ownT, isSl, nSl, endL, Md.isOwn, purge, purgeH, purgeB, purgeE, hasName, name1, List.any_cons, List.any_nil, Md.isWr,
              pureV.pureP, Option.map, reduceIte, Nat.reduceEqDiff, Nat.reduceAdd, Nat.reduceMul, Nat.reduceLT, Nat.reduceLeDiff, List.mapM_cons, List.mapM_nil, Option.pure_def,
              Option.bind_eq_bind, Option.bind_some, implies_true, forall_const, beq_self_eq_true, decide_true, decide_false, eq_self, Int.reduceEq, Int.reduceLE, Int.reduceLT,
              if_true, if_false, fc64_0, fc64_1, fc64_2, fc64_3, fc64_4, Int.reduceAdd, Int.reduceSub, Int.reduceMul, Int.reduceNeg, Int.reducePow, Nat.reducePow, Int.reduceToNat,
              Nat.reduceSub, List.replicate, Nat.reduceBEq, wAs, wA, wC, zipW, noDupN, grpE, grpC, en0, dc_en0, ↓b_pick, ePk_true, ePk_false]
    repeat' (first
      | ((first | (refine eGI_of (fun h => ?_) (fun h => ?_)) | (refine eCc_of (fun h => ?_) (fun h => ?_)) | (refine ePk_of (fun h => ?_) (fun h => ?_))) <;> (try simp only [Bool.not_eq_true', Bool.not_eq_false'] at h) <;> simp only [h,
        grpS, grpD, grpF, grpL, eop, vop, bop, uop, fltop, convop, endOk, newE, new1, freshL, Md.isNew, outV, pureV, pureX, pure1, AV.cells, AV.one, storable, laid, refless,
              refless1, vload, loadC, storeC, vnil, vfaddr, vextract, flatT, flatE, flatC, vconv, vmm, vidxA, viaddrA, vfield, vlen, elemsOf, dF32, dF64, dI64, dU8, dBool, dStr,
              esOk, elemsS, vsliceX, bnd, ownV, ownC, own1, ownT, isSl, nSl, endL, Md.isOwn, purge, purgeH, purgeB, purgeE, hasName, name1, List.any_cons, List.any_nil, Md.isWr,
              pureV.pureP, Option.map, reduceIte, Nat.reduceEqDiff, Nat.reduceAdd, Nat.reduceMul, Nat.reduceLT, Nat.reduceLeDiff, List.mapM_cons, List.mapM_nil, Option.pure_def,
              Option.bind_eq_bind, Option.bind_some, implies_true, forall_const, beq_self_eq_true, decide_true, decide_false, eq_self, Int.reduceEq, Int.reduceLE, Int.reduceLT,
              if_true, if_false, fc64_0, fc64_1, fc64_2, fc64_3, fc64_4, Int.reduceAdd, Int.reduceSub, Int.reduceMul, Int.reduceNeg, Int.reducePow, Nat.reducePow, Int.reduceToNat,
              Nat.reduceSub, List.replicate, Nat.reduceBEq, wAs, wA, wC, zipW, noDupN, grpE, grpC, en0, dc_en0, ↓b_pick, ePk_true, ePk_false]))
    all_goals (try simp only [*, m_spec_l00In, Bool.and_true, Bool.true_and, Bool.and_false, Bool.false_and, Bool.or_true, Bool.true_or, Bool.or_false, Bool.false_or, Bool.not_true, Bool.not_false, Bool.false_eq_true, if_true, if_false, reduceIte, decide_true, decide_false])
    all_goals (try (simp_all; done))
  · cases h
def l_spec_l03Is_0 (x0 : (List (Int × Nat × Nat × Nat))) : Nat → Int → Option (Bool × Bool × Unit)
  | 0, _ => none
  | n + 1, z0_0 => (if (decide (z0_0 < ((List.length x0 : Nat) : Int))) = true then (need (inB z0_0 (List.length x0)) (if (m_spec_l00In (atI x0 z0_0).1 0 (IntKind.wrap .i64 (z0_0 -
        1))) = true then (l_spec_l03Is_0 x0 n (IntKind.wrap .i64 (z0_0 + 1))) else (some (true, false, default)))) else (some (false, default, ())))
def m_spec_l03Is (x0 : (List (Int × Nat × Nat × Nat))) : Bool := (if (m_spec_l00In ((List.length x0 : Nat) : Int) 1 12) = true then (if (decide ((atI x0 0).1 = (-1))) = true then
      (if (Option.getD (l_spec_l03Is_0 x0 (Int.toNat (((List.length x0 : Nat) : Int) - 1) + 2) 1) default).1 = true then (Option.getD (l_spec_l03Is_0 x0 (Int.toNat (((List.length x0
      : Nat) : Int) - 1) + 2) 1) default).2.1 else true) else false) else false)
def p_spec_l03Is (x0 : (List (Int × Nat × Nat × Nat))) : Bool := (!(m_spec_l00In ((List.length x0 : Nat) : Int) 1 12) || ((inB 0 (List.length x0)) && (!(decide ((atI x0 0).1 =
      (-1))) || (Option.isSome (l_spec_l03Is_0 x0 (Int.toNat (((List.length x0 : Nat) : Int) - 1) + 2) 1)))))
def g_spec_l03Is : List AV → Option AV
  | [.ptr (.agg [.sl w0]) 0] => (match decL dc_en0 w0 with | some y0 => (if p_spec_l03Is y0 = true then some (.bool (m_spec_l03Is y0)) else none) | none => none)
  | _ => none
def lb50_0 : ICode := (.seq (.seq (.reg [⟨(some 23), none, (.mov (.t 4))⟩, ⟨(some 24), none, (.mov (.t 3))⟩, ⟨(some 25), none, (.bin .lss false (.t 23) (.t 24))⟩] [0, 3, 4, 25])
      (.cond (.t 25) .skip (.exit 0))) (.seq (.block 1 (.seq (.reg [⟨(some 28), none, (.mov (.t 0))⟩, ⟨(some 29), none, (.nilchk (.t 28))⟩, ⟨(some 30), none, (.faddr 0 (.t 29))⟩,
      ⟨(some 31), none, (.load none (.t 30))⟩, ⟨(some 32), none, (.mov (.t 4))⟩, ⟨(some 33), none, (.iaddrS 4 (.t 31) (.t 32))⟩, ⟨(some 34), none, (.faddr 0 (.t 33))⟩, ⟨(some 35),
      none, (.load none (.t 34))⟩, ⟨(some 36), none, (.mov (.t 4))⟩, ⟨(some 37), none, (.bin .sub false (.t 36) (.c (.int .i64 1)))⟩, ⟨(some 38), none, (.call (.fn 64) [(.t 35), (.c
      (.int .i64 0)), (.t 37)] [])⟩, ⟨(some 39), none, (.un .not (.t 38))⟩] [0, 3, 4, 39]) (.cond (.t 39) (.seq (.reg [⟨(some 2), none, (.mov (.c (.bool false)))⟩] [2]) .ret)
      .skip))) (.reg [⟨(some 26), none, (.mov (.t 4))⟩, ⟨(some 27), none, (.bin .add false (.t 26) (.c (.int .i64 1)))⟩, ⟨(some 4), none, (.mov (.t 27))⟩] [0, 3, 4])))
def ic50 : ICode := (.seq (.reg [⟨(some 2), none, (.mov (.c (.bool false)))⟩] [0]) (.seq (.reg [⟨(some 5), none, (.mov (.t 0))⟩, ⟨(some 6), none, (.nilchk (.t 5))⟩, ⟨(some 7), none,
      (.faddr 0 (.t 6))⟩, ⟨(some 8), none, (.load none (.t 7))⟩, ⟨(some 9), none, (.len false (.t 8))⟩, ⟨(some 3), none, (.mov (.t 9))⟩] [0, 3]) (.seq (.seq (.reg [⟨(some 10), none,
      (.mov (.t 3))⟩, ⟨(some 11), none, (.call (.fn 64) [(.t 10), (.c (.int .i64 1)), (.c (.int .i64 12))] [])⟩, ⟨(some 12), none, (.un .not (.t 11))⟩, ⟨(some 13), none, (.mov (.t
      12))⟩, ⟨(some 14), (some (13, false)), (.mov (.t 0))⟩, ⟨(some 15), (some (13, false)), (.nilchk (.t 14))⟩, ⟨(some 16), (some (13, false)), (.faddr 0 (.t 15))⟩, ⟨(some 17),
      (some (13, false)), (.load none (.t 16))⟩, ⟨(some 18), (some (13, false)), (.iaddrS 4 (.t 17) (.c (.int .i64 0)))⟩, ⟨(some 19), (some (13, false)), (.faddr 0 (.t 18))⟩, ⟨(some
      20), (some (13, false)), (.load none (.t 19))⟩, ⟨(some 21), (some (13, false)), (.bin .neq false (.t 20) (.c (.int .i64 (-1))))⟩, ⟨(some 22), none, (.pick (.t 13) (.c (.bool
      true)) (.t 21))⟩] [0, 3, 22]) (.cond (.t 22) (.seq (.reg [⟨(some 2), none, (.mov (.c (.bool false)))⟩] [2]) .ret) .skip)) (.seq (.seq (.reg [⟨(some 4), none, (.mov (.c (.int
      .i64 1)))⟩] [0, 3, 4]) (.block 0 (.loop lb50_0))) (.seq (.reg [⟨(some 2), none, (.mov (.c (.bool true)))⟩] [2]) .ret)))))
def cp50 : CP := CP.mk [] [] [[0], [0, 3], [0, 3, 22], [2], [0, 3, 4], [0, 3, 4, 25], [0, 3, 4], [0, 3, 4, 39], [2], [2]] 40 [] []
theorem fc50_0 : IntKind.wrap .i64 0 = 0 := by decide
theorem fc50_1 : IntKind.wrap .i64 1 = 1 := by decide
theorem fc50_2 : IntKind.wrap .i64 2 = 2 := by decide
theorem fc50_3 : IntKind.wrap .i64 3 = 3 := by decide
theorem fc50_4 : IntKind.wrap .i64 4 = 4 := by decide
theorem sl50_0 (x0 : (List (Int × Nat × Nat × Nat))) : ∀ (n : Nat) (z0_0 : Int) (o : (Bool × Bool × Unit)) (K : IExit → St → Prop), l_spec_l03Is_0 x0 n z0_0 = some o → (∀ st, o.1 =
      true → outM .any st [(.t 2)] = some (.bool o.2.1) → K .ret st) → (∀ st, o.1 = false → Wk st (⟨[], []⟩ : St) → K (.exit 0) st) → eA (tabOf [(64, wM .any g_spec_l00In)]) (.loop
      lb50_0) (⟨[(0, (.ptr (AV.agg [(.sl (List.map en0 x0))]) 0)), (3, (.int .i64 ((List.length x0 : Nat) : Int))), (4, (.int .i64 z0_0))], []⟩ : St) K := by
  intro n
  induction n with
  | zero =>
    intro z0_0 o K h h0 h1
    simp only [l_spec_l03Is_0, reduceCtorEq] at h
  | succ n ih =>
    intro z0_0 o K h h0 h1
    refine eA_loop ?_
    unfold lb50_0
    unfold l_spec_l03Is_0 at h
    (try simp only [need_iff] at h)
    simp only [
      need_iff, h, grpS, grpD, grpF, grpL, eop, vop, bop, uop, fltop, convop, endOk, newE, new1, freshL, Md.isNew, outV, pureV, pureX, pure1, AV.cells, AV.one, storable, laid,
            refless, refless1, vload, loadC, storeC, vnil, vfaddr, vextract, flatT, flatE, flatC, vconv, vmm, vidxA, viaddrA, vfield, vlen, elemsOf, dF32, dF64, dI64, dU8, dBool,
            dStr, esOk, elemsS, vsliceX, bnd, ownV, ownC, own1, ownT, isSl, nSl, endL, Md.isOwn, purge, purgeH, purgeB, purgeE, hasName, name1, List.any_cons, List.any_nil, Md.isWr,
            pureV.pureP, Option.map, reduceIte, Nat.reduceEqDiff, Nat.reduceAdd, Nat.reduceMul, Nat.reduceLT, Nat.reduceLeDiff, List.mapM_cons, List.mapM_nil, Option.pure_def,
            Option.bind_eq_bind, Option.bind_some, implies_true, forall_const, beq_self_eq_true, decide_true, decide_false, eq_self, Int.reduceEq, Int.reduceLE, Int.reduceLT,
            if_true, if_false, fc50_0, fc50_1, fc50_2, fc50_3, fc50_4, Int.reduceAdd, Int.reduceSub, Int.reduceMul, Int.reduceNeg, Int.reducePow, Nat.reducePow, Int.reduceToNat,
            Nat.reduceSub, List.replicate, Nat.reduceBEq, wAs, wA, wC, zipW, noDupN, grpE, g_spec_l00In, grpC, en0, dc_en0, ↓b_pick, ePk_true, ePk_false]
    repeat' (first
      | ((first | (refine eGI_of (fun hc => ?_) (fun hc => ?_)) | (refine eCc_of (fun hc => ?_) (fun hc => ?_)) | (refine ePk_of (fun hc => ?_) (fun hc => ?_)) | (have hc := True.intro; refine KW_refl ?_)) <;> (try simp only [Bool.not_eq_true', Bool.not_eq_false'] at hc) <;> (try simp only [hc, need_iff, reduceCtorEq, Bool.not_eq_true', decide_eq_false_iff_not, Bool.not_true, Bool.not_false, Bool.false_or, Bool.true_or, Bool.true_and, Bool.false_and, Bool.and_eq_true, Bool.or_eq_true, if_true, if_false, reduceIte, Bool.false_eq_true, and_true, true_and, false_or, or_false, decide_eq_true_eq, not_false_eq_true, not_true_eq_false] at h) <;> (try (have hc2 := hc; simp only [decide_eq_true_eq, decide_eq_false_iff_not] at hc2; (first | (replace hc2 := eq_false hc2) | (replace hc2 := eq_true hc2)); simp only [hc2, if_true, if_false, need_iff, reduceCtorEq, Bool.not_eq_true', decide_eq_false_iff_not, Bool.not_true, Bool.not_false, Bool.false_or, Bool.true_or, Bool.true_and, Bool.false_and, Bool.and_eq_true, Bool.or_eq_true, if_true, if_false, reduceIte, Bool.false_eq_true, and_true, true_and, false_or, or_false, decide_eq_true_eq, not_false_eq_true, not_true_eq_false] at h)) <;> simp only [hc,
      need_iff, h, grpS, grpD, grpF, grpL, eop, vop, bop, uop, fltop, convop, endOk, newE, new1, freshL, Md.isNew, outV, pureV, pureX, pure1, AV.cells, AV.one, storable, laid,
            refless, refless1, vload, loadC, storeC, vnil, vfaddr, vextract, flatT, flatE, flatC, vconv, vmm, vidxA, viaddrA, vfield, vlen, elemsOf, dF32, dF64, dI64, dU8, dBool,
            dStr, esOk, elemsS, vsliceX, bnd, ownV, ownC, own1, ownT, isSl, nSl, endL, Md.isOwn, purge, purgeH, purgeB, purgeE, hasName, name1, List.any_cons, List.any_nil, Md.isWr,
            pureV.pureP, Option.map, reduceIte, Nat.reduceEqDiff, Nat.reduceAdd, Nat.reduceMul, Nat.reduceLT, Nat.reduceLeDiff, List.mapM_cons, List.mapM_nil, Option.pure_def,
            Option.bind_eq_bind, Option.bind_some, implies_true, forall_const, beq_self_eq_true, decide_true, decide_false, eq_self, Int.reduceEq, Int.reduceLE, Int.reduceLT,
            if_true, if_false, fc50_0, fc50_1, fc50_2, fc50_3, fc50_4, Int.reduceAdd, Int.reduceSub, Int.reduceMul, Int.reduceNeg, Int.reducePow, Nat.reducePow, Int.reduceToNat,
            Nat.reduceSub, List.replicate, Nat.reduceBEq, wAs, wA, wC, zipW, noDupN, grpE, g_spec_l00In, grpC, en0, dc_en0, ↓b_pick, ePk_true, ePk_false]))
    all_goals (repeat (replace h := And.right h))
    all_goals first
      | (refine eA_wk (wk_norm (ks := [0, 3, 4]) (ls := []) ?_) (eA_cast ?_ (ih _ _ _ h h0 h1)); (simp only [normOk, optIn, blkIn, nameIn,
      need_iff, h, grpS, grpD, grpF, grpL, eop, vop, bop, uop, fltop, convop, endOk, newE, new1, freshL, Md.isNew, outV, pureV, pureX, pure1, AV.cells, AV.one, storable, laid,
            refless, refless1, vload, loadC, storeC, vnil, vfaddr, vextract, flatT, flatE, flatC, vconv, vmm, vidxA, viaddrA, vfield, vlen, elemsOf, dF32, dF64, dI64, dU8, dBool,
            dStr, esOk, elemsS, vsliceX, bnd, ownV, ownC, own1, ownT, isSl, nSl, endL, Md.isOwn, purge, purgeH, purgeB, purgeE, hasName, name1, List.any_cons, List.any_nil, Md.isWr,
            pureV.pureP, Option.map, reduceIte, Nat.reduceEqDiff, Nat.reduceAdd, Nat.reduceMul, Nat.reduceLT, Nat.reduceLeDiff, List.mapM_cons, List.mapM_nil, Option.pure_def,
            Option.bind_eq_bind, Option.bind_some, implies_true, forall_const, beq_self_eq_true, decide_true, decide_false, eq_self, Int.reduceEq, Int.reduceLE, Int.reduceLT,
            if_true, if_false, fc50_0, fc50_1, fc50_2, fc50_3, fc50_4, Int.reduceAdd, Int.reduceSub, Int.reduceMul, Int.reduceNeg, Int.reducePow, Nat.reducePow, Int.reduceToNat,
            Nat.reduceSub, List.replicate, Nat.reduceBEq, wAs, wA, wC, zipW, noDupN, grpE, g_spec_l00In, grpC, en0, dc_en0, ↓b_pick, ePk_true, ePk_false] <;> rfl); (simp only [normS, List.map_append, List.length_append, List.map_set, List.length_set, List.map_replicate, List.length_replicate, List.map_nil, List.map_cons,
      need_iff, h, grpS, grpD, grpF, grpL, eop, vop, bop, uop, fltop, convop, endOk, newE, new1, freshL, Md.isNew, outV, pureV, pureX, pure1, AV.cells, AV.one, storable, laid,
            refless, refless1, vload, loadC, storeC, vnil, vfaddr, vextract, flatT, flatE, flatC, vconv, vmm, vidxA, viaddrA, vfield, vlen, elemsOf, dF32, dF64, dI64, dU8, dBool,
            dStr, esOk, elemsS, vsliceX, bnd, ownV, ownC, own1, ownT, isSl, nSl, endL, Md.isOwn, purge, purgeH, purgeB, purgeE, hasName, name1, List.any_cons, List.any_nil, Md.isWr,
            pureV.pureP, Option.map, reduceIte, Nat.reduceEqDiff, Nat.reduceAdd, Nat.reduceMul, Nat.reduceLT, Nat.reduceLeDiff, List.mapM_cons, List.mapM_nil, Option.pure_def,
            Option.bind_eq_bind, Option.bind_some, implies_true, forall_const, beq_self_eq_true, decide_true, decide_false, eq_self, Int.reduceEq, Int.reduceLE, Int.reduceLT,
            if_true, if_false, fc50_0, fc50_1, fc50_2, fc50_3, fc50_4, Int.reduceAdd, Int.reduceSub, Int.reduceMul, Int.reduceNeg, Int.reducePow, Nat.reducePow, Int.reduceToNat,
            Nat.reduceSub, List.replicate, Nat.reduceBEq, wAs, wA, wC, zipW, noDupN, grpE, g_spec_l00In, grpC, en0, dc_en0, ↓b_pick, ePk_true, ePk_false] <;> first | rfl | (simp only [Nat.add_comm]; done)))
      | (cases h; refine h0 _ rfl ?_; simp only [
      grpS, grpD, grpF, grpL, eop, vop, bop, uop, fltop, convop, endOk, newE, new1, freshL, Md.isNew, outV, pureV, pureX, pure1, AV.cells, AV.one, storable, laid, refless, refless1,
            vload, loadC, storeC, vnil, vfaddr, vextract, flatT, flatE, flatC, vconv, vmm, vidxA, viaddrA, vfield, vlen, elemsOf, dF32, dF64, dI64, dU8, dBool, dStr, esOk, elemsS,
            vsliceX, bnd, ownV, ownC, own1, ownT, isSl, nSl, endL, Md.isOwn, purge, purgeH, purgeB, purgeE, hasName, name1, List.any_cons, List.any_nil, Md.isWr, pureV.pureP,
            Option.map, reduceIte, Nat.reduceEqDiff, Nat.reduceAdd, Nat.reduceMul, Nat.reduceLT, Nat.reduceLeDiff, List.mapM_cons, List.mapM_nil, Option.pure_def,
            Option.bind_eq_bind, Option.bind_some, implies_true, forall_const, beq_self_eq_true, decide_true, decide_false, eq_self, Int.reduceEq, Int.reduceLE, Int.reduceLT,
            if_true, if_false, fc50_0, fc50_1, fc50_2, fc50_3, fc50_4, Int.reduceAdd, Int.reduceSub, Int.reduceMul, Int.reduceNeg, Int.reducePow, Nat.reducePow, Int.reduceToNat,
            Nat.reduceSub, List.replicate, Nat.reduceBEq, wAs, wA, wC, zipW, noDupN, grpE, g_spec_l00In, grpC, en0, dc_en0, ↓b_pick, ePk_true, ePk_false])
      | (cases h; refine h1 _ rfl (Wk.cast (wk_norm (ks := []) (ls := []) ?_) ?_); (simp only [normOk, optIn, blkIn, nameIn,
      grpS, grpD, grpF, grpL, eop, vop, bop, uop, fltop, convop, endOk, newE, new1, freshL, Md.isNew, outV, pureV, pureX, pure1, AV.cells, AV.one, storable, laid, refless, refless1,
            vload, loadC, storeC, vnil, vfaddr, vextract, flatT, flatE, flatC, vconv, vmm, vidxA, viaddrA, vfield, vlen, elemsOf, dF32, dF64, dI64, dU8, dBool, dStr, esOk, elemsS,
            vsliceX, bnd, ownV, ownC, own1, ownT, isSl, nSl, endL, Md.isOwn, purge, purgeH, purgeB, purgeE, hasName, name1, List.any_cons, List.any_nil, Md.isWr, pureV.pureP,
            Option.map, reduceIte, Nat.reduceEqDiff, Nat.reduceAdd, Nat.reduceMul, Nat.reduceLT, Nat.reduceLeDiff, List.mapM_cons, List.mapM_nil, Option.pure_def,
            Option.bind_eq_bind, Option.bind_some, implies_true, forall_const, beq_self_eq_true, decide_true, decide_false, eq_self, Int.reduceEq, Int.reduceLE, Int.reduceLT,
            if_true, if_false, fc50_0, fc50_1, fc50_2, fc50_3, fc50_4, Int.reduceAdd, Int.reduceSub, Int.reduceMul, Int.reduceNeg, Int.reducePow, Nat.reducePow, Int.reduceToNat,
            Nat.reduceSub, List.replicate, Nat.reduceBEq, wAs, wA, wC, zipW, noDupN, grpE, g_spec_l00In, grpC, en0, dc_en0, ↓b_pick, ePk_true, ePk_false] <;> rfl); (simp only [normS, List.map_append, List.length_append, List.map_set, List.length_set, List.map_replicate, List.length_replicate,
      grpS, grpD, grpF, grpL, eop, vop, bop, uop, fltop, convop, endOk, newE, new1, freshL, Md.isNew, outV, pureV, pureX, pure1, AV.cells, AV.one, storable, laid, refless, refless1,
            vload, loadC, storeC, vnil, vfaddr, vextract, flatT, flatE, flatC, vconv, vmm, vidxA, viaddrA, vfield, vlen, elemsOf, dF32, dF64, dI64, dU8, dBool, dStr, esOk, elemsS,
            vsliceX, bnd, ownV, ownC, own1, ownT, isSl, nSl, endL, Md.isOwn, purge, purgeH, purgeB, purgeE, hasName, name1, List.any_cons, List.any_nil, Md.isWr, pureV.pureP,
            Option.map, reduceIte, Nat.reduceEqDiff, Nat.reduceAdd, Nat.reduceMul, Nat.reduceLT, Nat.reduceLeDiff, List.mapM_cons, List.mapM_nil, Option.pure_def,
            Option.bind_eq_bind, Option.bind_some, implies_true, forall_const, beq_self_eq_true, decide_true, decide_false, eq_self, Int.reduceEq, Int.reduceLE, Int.reduceLT,
            if_true, if_false, fc50_0, fc50_1, fc50_2, fc50_3, fc50_4, Int.reduceAdd, Int.reduceSub, Int.reduceMul, Int.reduceNeg, Int.reducePow, Nat.reducePow, Int.reduceToNat,
            Nat.reduceSub, List.replicate, Nat.reduceBEq, wAs, wA, wC, zipW, noDupN, grpE, g_spec_l00In, grpC, en0, dc_en0, ↓b_pick, ePk_true, ePk_false] <;> first | rfl | (simp only [Nat.add_comm]; done)))
theorem s50 : ∀ vs r, g_spec_l03Is vs = some r → SaysM Try.prog .any 50 vs r := by
  intro vs r h
  unfold g_spec_l03Is at h
  split at h
  · rename_i w0
    cases hd_y0 : decL dc_en0 w0 with
    | none => rw [hd_y0] at h; cases h
    | some y0 =>
    rw [hd_y0] at h
    obtain rfl := decL_inv dc_en0_inv hd_y0
    clear hd_y0
    dsimp only at h
    split at h
    · rename_i hp
      cases h
      refine spec_of (m := .any) (tab := tabOf [(64, wM .any g_spec_l00In)]) (cp := cp50) (ic := ic50) (rvl := [(.t 2)]) hm (tabOk_cons (m := .any) s64 tabOk_nil) Try.func50 rfl rfl rfl (by kernel_rfl) rfl (Nat.le_of_ble_eq_true rfl) (Nat.le_of_ble_eq_true rfl) ?_
      show eA _ _ _ _
      unfold ic50
      simp only [p_spec_l03Is, Bool.and_eq_true, Bool.or_eq_true, decide_eq_true_eq, Bool.not_eq_true', decide_eq_false_iff_not] at hp
      simp only [
          hp, grpS, grpD, grpF, grpL, eop, vop, bop, uop, fltop, convop, endOk, newE, new1, freshL, Md.isNew, outV, pureV, pureX, pure1, AV.cells, AV.one, storable, laid, refless,
                refless1, vload, loadC, storeC, vnil, vfaddr, vextract, flatT, flatE, flatC, vconv, vmm, vidxA, viaddrA, vfield, vlen, elemsOf, dF32, dF64, dI64, dU8, dBool, dStr,
                esOk, elemsS, vsliceX, bnd, ownV, ownC, own1, ownT, isSl, nSl, endL, Md.isOwn, purge, purgeH, purgeB, purgeE, hasName, name1, List.any_cons, List.any_nil, Md.isWr,
                pureV.pureP, Option.map, reduceIte, Nat.reduceEqDiff, Nat.reduceAdd, Nat.reduceMul, Nat.reduceLT, Nat.reduceLeDiff, List.mapM_cons, List.mapM_nil, Option.pure_def,
                Option.bind_eq_bind, Option.bind_some, implies_true, forall_const, beq_self_eq_true, decide_true, decide_false, eq_self, Int.reduceEq, Int.reduceLE, Int.reduceLT,
                if_true, if_false, fc50_0, fc50_1, fc50_2, fc50_3, fc50_4, Int.reduceAdd, Int.reduceSub, Int.reduceMul, Int.reduceNeg, Int.reducePow, Nat.reducePow, Int.reduceToNat,
                Nat.reduceSub, List.replicate, Nat.reduceBEq, wAs, wA, wC, zipW, noDupN, grpE, g_spec_l00In, grpC, en0, dc_en0, ↓b_pick, ePk_true, ePk_false]
      repeat' (first
        | ((first | (refine eGI_of (fun h => ?_) (fun h => ?_)) | (refine eCc_of (fun h => ?_) (fun h => ?_)) | (refine ePk_of (fun h => ?_) (fun h => ?_)) | (have h := True.intro; refine KW_refl ?_)) <;> (try simp only [Bool.not_eq_true', Bool.not_eq_false'] at h) <;> (try simp only [h, reduceCtorEq, Bool.not_eq_true', decide_eq_false_iff_not, Bool.not_true, Bool.not_false, Bool.false_or, Bool.true_or, Bool.true_and, Bool.false_and, Bool.and_eq_true, Bool.or_eq_true, if_true, if_false, reduceIte, Bool.false_eq_true, and_true, true_and, false_or, or_false, decide_eq_true_eq, not_false_eq_true, not_true_eq_false] at hp) <;> (try (have h2 := h; simp only [decide_eq_true_eq, decide_eq_false_iff_not] at h2; (first | (replace h2 := eq_false h2) | (replace h2 := eq_true h2)); simp only [h2, if_true, if_false, false_or, true_or, or_true, or_false, and_true, true_and, not_false_eq_true, not_true_eq_false] at hp)) <;> simp only [h,
          hp, grpS, grpD, grpF, grpL, eop, vop, bop, uop, fltop, convop, endOk, newE, new1, freshL, Md.isNew, outV, pureV, pureX, pure1, AV.cells, AV.one, storable, laid, refless,
                refless1, vload, loadC, storeC, vnil, vfaddr, vextract, flatT, flatE, flatC, vconv, vmm, vidxA, viaddrA, vfield, vlen, elemsOf, dF32, dF64, dI64, dU8, dBool, dStr,
                esOk, elemsS, vsliceX, bnd, ownV, ownC, own1, ownT, isSl, nSl, endL, Md.isOwn, purge, purgeH, purgeB, purgeE, hasName, name1, List.any_cons, List.any_nil, Md.isWr,
                pureV.pureP, Option.map, reduceIte, Nat.reduceEqDiff, Nat.reduceAdd, Nat.reduceMul, Nat.reduceLT, Nat.reduceLeDiff, List.mapM_cons, List.mapM_nil, Option.pure_def,
                Option.bind_eq_bind, Option.bind_some, implies_true, forall_const, beq_self_eq_true, decide_true, decide_false, eq_self, Int.reduceEq, Int.reduceLE, Int.reduceLT,
                if_true, if_false, fc50_0, fc50_1, fc50_2, fc50_3, fc50_4, Int.reduceAdd, Int.reduceSub, Int.reduceMul, Int.reduceNeg, Int.reducePow, Nat.reducePow, Int.reduceToNat,
                Nat.reduceSub, List.replicate, Nat.reduceBEq, wAs, wA, wC, zipW, noDupN, grpE, g_spec_l00In, grpC, en0, dc_en0, ↓b_pick, ePk_true, ePk_false])
        | (refine eA_wk (wk_norm (ks := [0, 3, 4]) (ls := []) ?_) (eA_cast ?_ (sl50_0 y0 _ _ _ _ (getD_some (d := default) (x := (l_spec_l03Is_0 y0 (Int.toNat (((List.length y0 : Nat) : Int) - 1) + 2) 1)) ?_) ?_ ?_)); (simp only [nilS, nilV, normOk, optIn, blkIn, nameIn, 
          hp, grpS, grpD, grpF, grpL, eop, vop, bop, uop, fltop, convop, endOk, newE, new1, freshL, Md.isNew, outV, pureV, pureX, pure1, AV.cells, AV.one, storable, laid, refless,
                refless1, vload, loadC, storeC, vnil, vfaddr, vextract, flatT, flatE, flatC, vconv, vmm, vidxA, viaddrA, vfield, vlen, elemsOf, dF32, dF64, dI64, dU8, dBool, dStr,
                esOk, elemsS, vsliceX, bnd, ownV, ownC, own1, ownT, isSl, nSl, endL, Md.isOwn, purge, purgeH, purgeB, purgeE, hasName, name1, List.any_cons, List.any_nil, Md.isWr,
                pureV.pureP, Option.map, reduceIte, Nat.reduceEqDiff, Nat.reduceAdd, Nat.reduceMul, Nat.reduceLT, Nat.reduceLeDiff, List.mapM_cons, List.mapM_nil, Option.pure_def,
                Option.bind_eq_bind, Option.bind_some, implies_true, forall_const, beq_self_eq_true, decide_true, decide_false, eq_self, Int.reduceEq, Int.reduceLE, Int.reduceLT,
                if_true, if_false, fc50_0, fc50_1, fc50_2, fc50_3, fc50_4, Int.reduceAdd, Int.reduceSub, Int.reduceMul, Int.reduceNeg, Int.reducePow, Nat.reducePow, Int.reduceToNat,
                Nat.reduceSub, List.replicate, Nat.reduceBEq, wAs, wA, wC, zipW, noDupN, grpE, g_spec_l00In, grpC, en0, dc_en0, ↓b_pick, ePk_true, ePk_false] <;> rfl); (simp only [nilS, nilV, normS,  List.map_append, List.length_append, List.map_set, List.length_set, List.map_replicate, List.length_replicate, List.map_nil, List.map_cons,
          hp, grpS, grpD, grpF, grpL, eop, vop, bop, uop, fltop, convop, endOk, newE, new1, freshL, Md.isNew, outV, pureV, pureX, pure1, AV.cells, AV.one, storable, laid, refless,
                refless1, vload, loadC, storeC, vnil, vfaddr, vextract, flatT, flatE, flatC, vconv, vmm, vidxA, viaddrA, vfield, vlen, elemsOf, dF32, dF64, dI64, dU8, dBool, dStr,
                esOk, elemsS, vsliceX, bnd, ownV, ownC, own1, ownT, isSl, nSl, endL, Md.isOwn, purge, purgeH, purgeB, purgeE, hasName, name1, List.any_cons, List.any_nil, Md.isWr,
                pureV.pureP, Option.map, reduceIte, Nat.reduceEqDiff, Nat.reduceAdd, Nat.reduceMul, Nat.reduceLT, Nat.reduceLeDiff, List.mapM_cons, List.mapM_nil, Option.pure_def,
                Option.bind_eq_bind, Option.bind_some, implies_true, forall_const, beq_self_eq_true, decide_true, decide_false, eq_self, Int.reduceEq, Int.reduceLE, Int.reduceLT,
                if_true, if_false, fc50_0, fc50_1, fc50_2, fc50_3, fc50_4, Int.reduceAdd, Int.reduceSub, Int.reduceMul, Int.reduceNeg, Int.reducePow, Nat.reducePow, Int.reduceToNat,
                Nat.reduceSub, List.replicate, Nat.reduceBEq, wAs, wA, wC, zipW, noDupN, grpE, g_spec_l00In, grpC, en0, dc_en0, ↓b_pick, ePk_true, ePk_false] <;> first | rfl | (simp only [Nat.add_comm]; done)); (simp only [hp]); (
        intro st2 ht hw; simp only [Kq_ret, Kb_ret, Kl_ret, ret_ok]; first | exact h0 _ hw | exact h0 _ rfl hw | exact h1 _ rfl hw | exact h0 _ ht hw | exact h1 _ ht hw | refine ⟨_, hw, ?_⟩); rotate_left; (
        intro st2 ht hw; (try simp only [ht, reduceCtorEq, Bool.not_eq_true', decide_eq_false_iff_not, Bool.not_true, Bool.not_false, Bool.false_or, Bool.true_or, Bool.true_and, Bool.false_and, Bool.and_eq_true, Bool.or_eq_true, if_true, if_false, reduceIte, Bool.false_eq_true, and_true, true_and, false_or, or_false, decide_eq_true_eq, not_false_eq_true, not_true_eq_false] at hp); simp only [
          hp, grpS, grpD, grpF, grpL, eop, vop, bop, uop, fltop, convop, endOk, newE, new1, freshL, Md.isNew, outV, pureV, pureX, pure1, AV.cells, AV.one, storable, laid, refless,
                refless1, vload, loadC, storeC, vnil, vfaddr, vextract, flatT, flatE, flatC, vconv, vmm, vidxA, viaddrA, vfield, vlen, elemsOf, dF32, dF64, dI64, dU8, dBool, dStr,
                esOk, elemsS, vsliceX, bnd, ownV, ownC, own1, ownT, isSl, nSl, endL, Md.isOwn, purge, purgeH, purgeB, purgeE, hasName, name1, List.any_cons, List.any_nil, Md.isWr,
                pureV.pureP, Option.map, reduceIte, Nat.reduceEqDiff, Nat.reduceAdd, Nat.reduceMul, Nat.reduceLT, Nat.reduceLeDiff, List.mapM_cons, List.mapM_nil, Option.pure_def,
                Option.bind_eq_bind, Option.bind_some, implies_true, forall_const, beq_self_eq_true, decide_true, decide_false, eq_self, Int.reduceEq, Int.reduceLE, Int.reduceLT,
                if_true, if_false, fc50_0, fc50_1, fc50_2, fc50_3, fc50_4, Int.reduceAdd, Int.reduceSub, Int.reduceMul, Int.reduceNeg, Int.reducePow, Nat.reducePow, Int.reduceToNat,
                Nat.reduceSub, List.replicate, Nat.reduceBEq, wAs, wA, wC, zipW, noDupN, grpE, g_spec_l00In, grpC, en0, dc_en0, ↓b_pick, ePk_true, ePk_false]; refine KW_of hw ?_; simp only [ht, 
          hp, grpS, grpD, grpF, grpL, eop, vop, bop, uop, fltop, convop, endOk, newE, new1, freshL, Md.isNew, outV, pureV, pureX, pure1, AV.cells, AV.one, storable, laid, refless,
                refless1, vload, loadC, storeC, vnil, vfaddr, vextract, flatT, flatE, flatC, vconv, vmm, vidxA, viaddrA, vfield, vlen, elemsOf, dF32, dF64, dI64, dU8, dBool, dStr,
                esOk, elemsS, vsliceX, bnd, ownV, ownC, own1, ownT, isSl, nSl, endL, Md.isOwn, purge, purgeH, purgeB, purgeE, hasName, name1, List.any_cons, List.any_nil, Md.isWr,
                pureV.pureP, Option.map, reduceIte, Nat.reduceEqDiff, Nat.reduceAdd, Nat.reduceMul, Nat.reduceLT, Nat.reduceLeDiff, List.mapM_cons, List.mapM_nil, Option.pure_def,
                Option.bind_eq_bind, Option.bind_some, implies_true, forall_const, beq_self_eq_true, decide_true, decide_false, eq_self, Int.reduceEq, Int.reduceLE, Int.reduceLT,
                if_true, if_false, fc50_0, fc50_1, fc50_2, fc50_3, fc50_4, Int.reduceAdd, Int.reduceSub, Int.reduceMul, Int.reduceNeg, Int.reducePow, Nat.reducePow, Int.reduceToNat,
                Nat.reduceSub, List.replicate, Nat.reduceBEq, wAs, wA, wC, zipW, noDupN, grpE, g_spec_l00In, grpC, en0, dc_en0, ↓b_pick, ePk_true, ePk_false])))
      all_goals (try simp only [*, m_spec_l03Is, Bool.and_true, Bool.true_and, Bool.and_false, Bool.false_and, Bool.or_true, Bool.true_or, Bool.or_false, Bool.false_or, Bool.not_true, Bool.not_false, Bool.false_eq_true, if_true, if_false, reduceIte, decide_true, decide_false])
      all_goals (try (simp_all; done))
    · cases h
  · cases h
def l_spec_l00Has_0 (x0 : (List Int)) (x1 : Int) : Nat → Int → Option (Bool × Bool × Unit)
  | 0, _ => none
  | n + 1, z0_0 => (if (decide (z0_0 < ((List.length x0 : Nat) : Int))) = true then (need (inB z0_0 (List.length x0)) (if (decide ((atI x0 z0_0) = x1)) = true then (some (true,
        true, default)) else (l_spec_l00Has_0 x0 x1 n (IntKind.wrap .i64 (z0_0 + 1))))) else (some (false, default, ())))
def m_spec_l00Has (x0 : (List Int)) (x1 : Int) : Bool := (if (Option.getD (l_spec_l00Has_0 x0 x1 (Int.toNat (((List.length x0 : Nat) : Int) - 0) + 2) 0) default).1 = true then
      (Option.getD (l_spec_l00Has_0 x0 x1 (Int.toNat (((List.length x0 : Nat) : Int) - 0) + 2) 0) default).2.1 else false)
def p_spec_l00Has (x0 : (List Int)) (x1 : Int) : Bool := (Option.isSome (l_spec_l00Has_0 x0 x1 (Int.toNat (((List.length x0 : Nat) : Int) - 0) + 2) 0))
def g_spec_l00Has : List AV → Option AV
  | [.sl w0, .int .i64 y1] => (match decL dI64 w0 with | some y0 => (if p_spec_l00Has y0 y1 = true then some (.bool (m_spec_l00Has y0 y1)) else none) | none => none)
  | _ => none
def lb69_0 : ICode := (.seq (.seq (.reg [⟨(some 6), none, (.mov (.t 5))⟩, ⟨(some 7), none, (.mov (.t 0))⟩, ⟨(some 8), none, (.len false (.t 7))⟩, ⟨(some 9), none, (.bin .lss false
      (.t 6) (.t 8))⟩] [0, 1, 5, 9]) (.cond (.t 9) .skip (.exit 0))) (.seq (.block 1 (.seq (.reg [⟨(some 12), none, (.mov (.t 0))⟩, ⟨(some 13), none, (.mov (.t 5))⟩, ⟨(some 14),
      none, (.iaddrS 1 (.t 12) (.t 13))⟩, ⟨(some 15), none, (.load none (.t 14))⟩, ⟨(some 16), none, (.mov (.t 1))⟩, ⟨(some 17), none, (.bin .eql false (.t 15) (.t 16))⟩] [0, 1, 5,
      17]) (.cond (.t 17) (.seq (.reg [⟨(some 4), none, (.mov (.c (.bool true)))⟩] [4]) .ret) .skip))) (.reg [⟨(some 10), none, (.mov (.t 5))⟩, ⟨(some 11), none, (.bin .add false
      (.t 10) (.c (.int .i64 1)))⟩, ⟨(some 5), none, (.mov (.t 11))⟩] [0, 1, 5])))
def ic69 : ICode := (.seq (.reg [⟨(some 4), none, (.mov (.c (.bool false)))⟩] [0, 1]) (.seq (.seq (.reg [⟨(some 5), none, (.mov (.c (.int .i64 0)))⟩] [0, 1, 5]) (.block 0 (.loop
      lb69_0))) (.seq (.reg [⟨(some 4), none, (.mov (.c (.bool false)))⟩] [4]) .ret)))
def cp69 : CP := CP.mk [] [] [[0, 1], [0, 1, 5], [0, 1, 5, 9], [0, 1, 5], [0, 1, 5, 17], [4], [4]] 18 [] []
theorem fc69_0 : IntKind.wrap .i64 0 = 0 := by decide
theorem fc69_1 : IntKind.wrap .i64 1 = 1 := by decide
theorem fc69_2 : IntKind.wrap .i64 2 = 2 := by decide
theorem fc69_3 : IntKind.wrap .i64 3 = 3 := by decide
theorem fc69_4 : IntKind.wrap .i64 4 = 4 := by decide
theorem sl69_0 (x0 : (List Int)) (x1 : Int) : ∀ (n : Nat) (z0_0 : Int) (o : (Bool × Bool × Unit)) (K : IExit → St → Prop), l_spec_l00Has_0 x0 x1 n z0_0 = some o → (∀ st, o.1 = true
      → outM .any st [(.t 4)] = some (.bool o.2.1) → K .ret st) → (∀ st, o.1 = false → Wk st (⟨[], []⟩ : St) → K (.exit 0) st) → eA (tabOf []) (.loop lb69_0) (⟨[(0, (.sl (List.map
      (AV.int .i64) x0))), (1, (.int .i64 x1)), (5, (.int .i64 z0_0))], []⟩ : St) K := by
  intro n
  induction n with
  | zero =>
    intro z0_0 o K h h0 h1
    simp only [l_spec_l00Has_0, reduceCtorEq] at h
  | succ n ih =>
    intro z0_0 o K h h0 h1
    refine eA_loop ?_
    unfold lb69_0
    unfold l_spec_l00Has_0 at h
    (try simp only [need_iff] at h)
    simp only [
      need_iff, h, grpS, grpD, grpF, grpL, eop, vop, bop, uop, fltop, convop, endOk, newE, new1, freshL, Md.isNew, outV, pureV, pureX, pure1, AV.cells, AV.one, storable, laid,
            refless, refless1, vload, loadC, storeC, vnil, vfaddr, vextract, flatT, flatE, flatC, vconv, vmm, vidxA, viaddrA, vfield, vlen, elemsOf, dF32, dF64, dI64, dU8, dBool,
            dStr, esOk, elemsS, vsliceX, bnd, ownV, ownC, own1, ownT, isSl, nSl, endL, Md.isOwn, purge, purgeH, purgeB, purgeE, hasName, name1, List.any_cons, List.any_nil, Md.isWr,
            pureV.pureP, Option.map, reduceIte, Nat.reduceEqDiff, Nat.reduceAdd, Nat.reduceMul, Nat.reduceLT, Nat.reduceLeDiff, List.mapM_cons, List.mapM_nil, Option.pure_def,
            Option.bind_eq_bind, Option.bind_some, implies_true, forall_const, beq_self_eq_true, decide_true, decide_false, eq_self, Int.reduceEq, Int.reduceLE, Int.reduceLT,
            if_true, if_false, fc69_0, fc69_1, fc69_2, fc69_3, fc69_4, Int.reduceAdd, Int.reduceSub, Int.reduceMul, Int.reduceNeg, Int.reducePow, Nat.reducePow, Int.reduceToNat,
            Nat.reduceSub, List.replicate, Nat.reduceBEq, wAs, wA, wC, zipW, noDupN, grpE, grpC, en0, dc_en0]
    repeat' (first
      | ((first | (refine eGI_of (fun hc => ?_) (fun hc => ?_)) | (refine eCc_of (fun hc => ?_) (fun hc => ?_)) | (have hc := True.intro; refine KW_refl ?_)) <;> (try simp only [Bool.not_eq_true', Bool.not_eq_false'] at hc) <;> (try simp only [hc, need_iff, reduceCtorEq, Bool.not_eq_true', decide_eq_false_iff_not, Bool.not_true, Bool.not_false, Bool.false_or, Bool.true_or, Bool.true_and, Bool.false_and, Bool.and_eq_true, Bool.or_eq_true, if_true, if_false, reduceIte, Bool.false_eq_true, and_true, true_and, false_or, or_false, decide_eq_true_eq, not_false_eq_true, not_true_eq_false] at h) <;> (try (have hc2 := hc; simp only [decide_eq_true_eq, decide_eq_false_iff_not] at hc2; (first | (replace hc2 := eq_false hc2) | (replace hc2 := eq_true hc2)); simp only [hc2, if_true, if_false, need_iff, reduceCtorEq, Bool.not_eq_true', decide_eq_false_iff_not, Bool.not_true, Bool.not_false, Bool.false_or, Bool.true_or, Bool.true_and, Bool.false_and, Bool.and_eq_true, Bool.or_eq_true, if_true, if_false, reduceIte, Bool.false_eq_true, and_true, true_and, false_or, or_false, decide_eq_true_eq, not_false_eq_true, not_true_eq_false] at h)) <;> simp only [hc,
      need_iff, h, grpS, grpD, grpF, grpL, eop, vop, bop, uop, fltop, convop, endOk, newE, new1, freshL, Md.isNew, outV, pureV, pureX, pure1, AV.cells, AV.one, storable, laid,
            refless, refless1, vload, loadC, storeC, vnil, vfaddr, vextract, flatT, flatE, flatC, vconv, vmm, vidxA, viaddrA, vfield, vlen, elemsOf, dF32, dF64, dI64, dU8, dBool,
            dStr, esOk, elemsS, vsliceX, bnd, ownV, ownC, own1, ownT, isSl, nSl, endL, Md.isOwn, purge, purgeH, purgeB, purgeE, hasName, name1, List.any_cons, List.any_nil, Md.isWr,
            pureV.pureP, Option.map, reduceIte, Nat.reduceEqDiff, Nat.reduceAdd, Nat.reduceMul, Nat.reduceLT, Nat.reduceLeDiff, List.mapM_cons, List.mapM_nil, Option.pure_def,
            Option.bind_eq_bind, Option.bind_some, implies_true, forall_const, beq_self_eq_true, decide_true, decide_false, eq_self, Int.reduceEq, Int.reduceLE, Int.reduceLT,
            if_true, if_false, fc69_0, fc69_1, fc69_2, fc69_3, fc69_4, Int.reduceAdd, Int.reduceSub, Int.reduceMul, Int.reduceNeg, Int.reducePow, Nat.reducePow, Int.reduceToNat,
            Nat.reduceSub, List.replicate, Nat.reduceBEq, wAs, wA, wC, zipW, noDupN, grpE, grpC, en0, dc_en0]))
    all_goals (repeat (replace h := And.right h))
    all_goals first
      | (refine eA_wk (wk_norm (ks := [0, 1, 5]) (ls := []) ?_) (eA_cast ?_ (ih _ _ _ h h0 h1)); (simp only [normOk, optIn, blkIn, nameIn,
      need_iff, h, grpS, grpD, grpF, grpL, eop, vop, bop, uop, fltop, convop, endOk, newE, new1, freshL, Md.isNew, outV, pureV, pureX, pure1, AV.cells, AV.one, storable, laid,
            refless, refless1, vload, loadC, storeC, vnil, vfaddr, vextract, flatT, flatE, flatC, vconv, vmm, vidxA, viaddrA, vfield, vlen, elemsOf, dF32, dF64, dI64, dU8, dBool,
            dStr, esOk, elemsS, vsliceX, bnd, ownV, ownC, own1, ownT, isSl, nSl, endL, Md.isOwn, purge, purgeH, purgeB, purgeE, hasName, name1, List.any_cons, List.any_nil, Md.isWr,
            pureV.pureP, Option.map, reduceIte, Nat.reduceEqDiff, Nat.reduceAdd, Nat.reduceMul, Nat.reduceLT, Nat.reduceLeDiff, List.mapM_cons, List.mapM_nil, Option.pure_def,
            Option.bind_eq_bind, Option.bind_some, implies_true, forall_const, beq_self_eq_true, decide_true, decide_false, eq_self, Int.reduceEq, Int.reduceLE, Int.reduceLT,
            if_true, if_false, fc69_0, fc69_1, fc69_2, fc69_3, fc69_4, Int.reduceAdd, Int.reduceSub, Int.reduceMul, Int.reduceNeg, Int.reducePow, Nat.reducePow, Int.reduceToNat,
            Nat.reduceSub, List.replicate, Nat.reduceBEq, wAs, wA, wC, zipW, noDupN, grpE, grpC, en0, dc_en0] <;> rfl); (simp only [normS, List.map_append, List.length_append, List.map_set, List.length_set, List.map_replicate, List.length_replicate, List.map_nil, List.map_cons,
      need_iff, h, grpS, grpD, grpF, grpL, eop, vop, bop, uop, fltop, convop, endOk, newE, new1, freshL, Md.isNew, outV, pureV, pureX, pure1, AV.cells, AV.one, storable, laid,
            refless, refless1, vload, loadC, storeC, vnil, vfaddr, vextract, flatT, flatE, flatC, vconv, vmm, vidxA, viaddrA, vfield, vlen, elemsOf, dF32, dF64, dI64, dU8, dBool,
            dStr, esOk, elemsS, vsliceX, bnd, ownV, ownC, own1, ownT, isSl, nSl, endL, Md.isOwn, purge, purgeH, purgeB, purgeE, hasName, name1, List.any_cons, List.any_nil, Md.isWr,
            pureV.pureP, Option.map, reduceIte, Nat.reduceEqDiff, Nat.reduceAdd, Nat.reduceMul, Nat.reduceLT, Nat.reduceLeDiff, List.mapM_cons, List.mapM_nil, Option.pure_def,
            Option.bind_eq_bind, Option.bind_some, implies_true, forall_const, beq_self_eq_true, decide_true, decide_false, eq_self, Int.reduceEq, Int.reduceLE, Int.reduceLT,
            if_true, if_false, fc69_0, fc69_1, fc69_2, fc69_3, fc69_4, Int.reduceAdd, Int.reduceSub, Int.reduceMul, Int.reduceNeg, Int.reducePow, Nat.reducePow, Int.reduceToNat,
            Nat.reduceSub, List.replicate, Nat.reduceBEq, wAs, wA, wC, zipW, noDupN, grpE, grpC, en0, dc_en0] <;> first | rfl | (simp only [Nat.add_comm]; done)))
      | (cases h; refine h0 _ rfl ?_; simp only [
      grpS, grpD, grpF, grpL, eop, vop, bop, uop, fltop, convop, endOk, newE, new1, freshL, Md.isNew, outV, pureV, pureX, pure1, AV.cells, AV.one, storable, laid, refless, refless1,
            vload, loadC, storeC, vnil, vfaddr, vextract, flatT, flatE, flatC, vconv, vmm, vidxA, viaddrA, vfield, vlen, elemsOf, dF32, dF64, dI64, dU8, dBool, dStr, esOk, elemsS,
            vsliceX, bnd, ownV, ownC, own1, ownT, isSl, nSl, endL, Md.isOwn, purge, purgeH, purgeB, purgeE, hasName, name1, List.any_cons, List.any_nil, Md.isWr, pureV.pureP,
            Option.map, reduceIte, Nat.reduceEqDiff, Nat.reduceAdd, Nat.reduceMul, Nat.reduceLT, Nat.reduceLeDiff, List.mapM_cons, List.mapM_nil, Option.pure_def,
            Option.bind_eq_bind, Option.bind_some, implies_true, forall_const, beq_self_eq_true, decide_true, decide_false, eq_self, Int.reduceEq, Int.reduceLE, Int.reduceLT,
            if_true, if_false, fc69_0, fc69_1, fc69_2, fc69_3, fc69_4, Int.reduceAdd, Int.reduceSub, Int.reduceMul, Int.reduceNeg, Int.reducePow, Nat.reducePow, Int.reduceToNat,
            Nat.reduceSub, List.replicate, Nat.reduceBEq, wAs, wA, wC, zipW, noDupN, grpE, grpC, en0, dc_en0])
      | (cases h; refine h1 _ rfl (Wk.cast (wk_norm (ks := []) (ls := []) ?_) ?_); (simp only [normOk, optIn, blkIn, nameIn,
      grpS, grpD, grpF, grpL, eop, vop, bop, uop, fltop, convop, endOk, newE, new1, freshL, Md.isNew, outV, pureV, pureX, pure1, AV.cells, AV.one, storable, laid, refless, refless1,
            vload, loadC, storeC, vnil, vfaddr, vextract, flatT, flatE, flatC, vconv, vmm, vidxA, viaddrA, vfield, vlen, elemsOf, dF32, dF64, dI64, dU8, dBool, dStr, esOk, elemsS,
            vsliceX, bnd, ownV, ownC, own1, ownT, isSl, nSl, endL, Md.isOwn, purge, purgeH, purgeB, purgeE, hasName, name1, List.any_cons, List.any_nil, Md.isWr, pureV.pureP,
            Option.map, reduceIte, Nat.reduceEqDiff, Nat.reduceAdd, Nat.reduceMul, Nat.reduceLT, Nat.reduceLeDiff, List.mapM_cons, List.mapM_nil, Option.pure_def,
            Option.bind_eq_bind, Option.bind_some, implies_true, forall_const, beq_self_eq_true, decide_true, decide_false, eq_self, Int.reduceEq, Int.reduceLE, Int.reduceLT,
            if_true, if_false, fc69_0, fc69_1, fc69_2, fc69_3, fc69_4, Int.reduceAdd, Int.reduceSub, Int.reduceMul, Int.reduceNeg, Int.reducePow, Nat.reducePow, Int.reduceToNat,
            Nat.reduceSub, List.replicate, Nat.reduceBEq, wAs, wA, wC, zipW, noDupN, grpE, grpC, en0, dc_en0] <;> rfl); (simp only [normS, List.map_append, List.length_append, List.map_set, List.length_set, List.map_replicate, List.length_replicate,
      grpS, grpD, grpF, grpL, eop, vop, bop, uop, fltop, convop, endOk, newE, new1, freshL, Md.isNew, outV, pureV, pureX, pure1, AV.cells, AV.one, storable, laid, refless, refless1,
            vload, loadC, storeC, vnil, vfaddr, vextract, flatT, flatE, flatC, vconv, vmm, vidxA, viaddrA, vfield, vlen, elemsOf, dF32, dF64, dI64, dU8, dBool, dStr, esOk, elemsS,
            vsliceX, bnd, ownV, ownC, own1, ownT, isSl, nSl, endL, Md.isOwn, purge, purgeH, purgeB, purgeE, hasName, name1, List.any_cons, List.any_nil, Md.isWr, pureV.pureP,
            Option.map, reduceIte, Nat.reduceEqDiff, Nat.reduceAdd, Nat.reduceMul, Nat.reduceLT, Nat.reduceLeDiff, List.mapM_cons, List.mapM_nil, Option.pure_def,
            Option.bind_eq_bind, Option.bind_some, implies_true, forall_const, beq_self_eq_true, decide_true, decide_false, eq_self, Int.reduceEq, Int.reduceLE, Int.reduceLT,
            if_true, if_false, fc69_0, fc69_1, fc69_2, fc69_3, fc69_4, Int.reduceAdd, Int.reduceSub, Int.reduceMul, Int.reduceNeg, Int.reducePow, Nat.reducePow, Int.reduceToNat,
            Nat.reduceSub, List.replicate, Nat.reduceBEq, wAs, wA, wC, zipW, noDupN, grpE, grpC, en0, dc_en0] <;> first | rfl | (simp only [Nat.add_comm]; done)))
theorem s69 : ∀ vs r, g_spec_l00Has vs = some r → SaysM Try.prog .any 69 vs r := by
  intro vs r h
  unfold g_spec_l00Has at h
  split at h
  · rename_i w0 y1
    cases hd_y0 : decL dI64 w0 with
    | none => rw [hd_y0] at h; cases h
    | some y0 =>
    rw [hd_y0] at h
    obtain rfl := decL_inv dI64_inv hd_y0
    clear hd_y0
    dsimp only at h
    split at h
    · rename_i hp
      cases h
      refine spec_of (m := .any) (tab := tabOf []) (cp := cp69) (ic := ic69) (rvl := [(.t 4)]) hm tabOk_nil Try.func69 rfl rfl rfl (by kernel_rfl) rfl (Nat.le_of_ble_eq_true rfl) (Nat.le_of_ble_eq_true rfl) ?_
      show eA _ _ _ _
      unfold ic69
      simp only [p_spec_l00Has, Bool.and_eq_true, Bool.or_eq_true, decide_eq_true_eq, Bool.not_eq_true', decide_eq_false_iff_not] at hp
      simp only [
          hp, grpS, grpD, grpF, grpL, eop, vop, bop, uop, fltop, convop, endOk, newE, new1, freshL, Md.isNew, outV, pureV, pureX, pure1, AV.cells, AV.one, storable, laid, refless,
                refless1, vload, loadC, storeC, vnil, vfaddr, vextract, flatT, flatE, flatC, vconv, vmm, vidxA, viaddrA, vfield, vlen, elemsOf, dF32, dF64, dI64, dU8, dBool, dStr,
                esOk, elemsS, vsliceX, bnd, ownV, ownC, own1, ownT, isSl, nSl, endL, Md.isOwn, purge, purgeH, purgeB, purgeE, hasName, name1, List.any_cons, List.any_nil, Md.isWr,
                pureV.pureP, Option.map, reduceIte, Nat.reduceEqDiff, Nat.reduceAdd, Nat.reduceMul, Nat.reduceLT, Nat.reduceLeDiff, List.mapM_cons, List.mapM_nil, Option.pure_def,
                Option.bind_eq_bind, Option.bind_some, implies_true, forall_const, beq_self_eq_true, decide_true, decide_false, eq_self, Int.reduceEq, Int.reduceLE, Int.reduceLT,
                if_true, if_false, fc69_0, fc69_1, fc69_2, fc69_3, fc69_4, Int.reduceAdd, Int.reduceSub, Int.reduceMul, Int.reduceNeg, Int.reducePow, Nat.reducePow, Int.reduceToNat,
                Nat.reduceSub, List.replicate, Nat.reduceBEq, wAs, wA, wC, zipW, noDupN, grpE, grpC, en0, dc_en0]
      repeat' (first
        | ((first | (refine eGI_of (fun h => ?_) (fun h => ?_)) | (refine eCc_of (fun h => ?_) (fun h => ?_)) | (have h := True.intro; refine KW_refl ?_)) <;> (try simp only [Bool.not_eq_true', Bool.not_eq_false'] at h) <;> (try simp only [h, reduceCtorEq, Bool.not_eq_true', decide_eq_false_iff_not, Bool.not_true, Bool.not_false, Bool.false_or, Bool.true_or, Bool.true_and, Bool.false_and, Bool.and_eq_true, Bool.or_eq_true, if_true, if_false, reduceIte, Bool.false_eq_true, and_true, true_and, false_or, or_false, decide_eq_true_eq, not_false_eq_true, not_true_eq_false] at hp) <;> (try (have h2 := h; simp only [decide_eq_true_eq, decide_eq_false_iff_not] at h2; (first | (replace h2 := eq_false h2) | (replace h2 := eq_true h2)); simp only [h2, if_true, if_false, false_or, true_or, or_true, or_false, and_true, true_and, not_false_eq_true, not_true_eq_false] at hp)) <;> simp only [h,
          hp, grpS, grpD, grpF, grpL, eop, vop, bop, uop, fltop, convop, endOk, newE, new1, freshL, Md.isNew, outV, pureV, pureX, pure1, AV.cells, AV.one, storable, laid, refless,
                refless1, vload, loadC, storeC, vnil, vfaddr, vextract, flatT, flatE, flatC, vconv, vmm, vidxA, viaddrA, vfield, vlen, elemsOf, dF32, dF64, dI64, dU8, dBool, dStr,
                esOk, elemsS, vsliceX, bnd, ownV, ownC, own1, ownT, isSl, nSl, endL, Md.isOwn, purge, purgeH, purgeB, purgeE, hasName, name1, List.any_cons, List.any_nil, Md.isWr,
                pureV.pureP, Option.map, reduceIte, Nat.reduceEqDiff, Nat.reduceAdd, Nat.reduceMul, Nat.reduceLT, Nat.reduceLeDiff, List.mapM_cons, List.mapM_nil, Option.pure_def,
                Option.bind_eq_bind, Option.bind_some, implies_true, forall_const, beq_self_eq_true, decide_true, decide_false, eq_self, Int.reduceEq, Int.reduceLE, Int.reduceLT,
                if_true, if_false, fc69_0, fc69_1, fc69_2, fc69_3, fc69_4, Int.reduceAdd, Int.reduceSub, Int.reduceMul, Int.reduceNeg, Int.reducePow, Nat.reducePow, Int.reduceToNat,
                Nat.reduceSub, List.replicate, Nat.reduceBEq, wAs, wA, wC, zipW, noDupN, grpE, grpC, en0, dc_en0])
        | (refine eA_wk (wk_norm (ks := [0, 1, 5]) (ls := []) ?_) (eA_cast ?_ (sl69_0 y0 y1 _ _ _ _ (getD_some (d := default) (x := (l_spec_l00Has_0 y0 y1 (Int.toNat (((List.length y0 : Nat) : Int) - 0) + 2) 0)) ?_) ?_ ?_)); (simp only [nilS, nilV, normOk, optIn, blkIn, nameIn, 
          hp, grpS, grpD, grpF, grpL, eop, vop, bop, uop, fltop, convop, endOk, newE, new1, freshL, Md.isNew, outV, pureV, pureX, pure1, AV.cells, AV.one, storable, laid, refless,
                refless1, vload, loadC, storeC, vnil, vfaddr, vextract, flatT, flatE, flatC, vconv, vmm, vidxA, viaddrA, vfield, vlen, elemsOf, dF32, dF64, dI64, dU8, dBool, dStr,
                esOk, elemsS, vsliceX, bnd, ownV, ownC, own1, ownT, isSl, nSl, endL, Md.isOwn, purge, purgeH, purgeB, purgeE, hasName, name1, List.any_cons, List.any_nil, Md.isWr,
                pureV.pureP, Option.map, reduceIte, Nat.reduceEqDiff, Nat.reduceAdd, Nat.reduceMul, Nat.reduceLT, Nat.reduceLeDiff, List.mapM_cons, List.mapM_nil, Option.pure_def,
                Option.bind_eq_bind, Option.bind_some, implies_true, forall_const, beq_self_eq_true, decide_true, decide_false, eq_self, Int.reduceEq, Int.reduceLE, Int.reduceLT,
                if_true, if_false, fc69_0, fc69_1, fc69_2, fc69_3, fc69_4, Int.reduceAdd, Int.reduceSub, Int.reduceMul, Int.reduceNeg, Int.reducePow, Nat.reducePow, Int.reduceToNat,
                Nat.reduceSub, List.replicate, Nat.reduceBEq, wAs, wA, wC, zipW, noDupN, grpE, grpC, en0, dc_en0] <;> rfl); (simp only [nilS, nilV, normS,  List.map_append, List.length_append, List.map_set, List.length_set, List.map_replicate, List.length_replicate, List.map_nil, List.map_cons,
          hp, grpS, grpD, grpF, grpL, eop, vop, bop, uop, fltop, convop, endOk, newE, new1, freshL, Md.isNew, outV, pureV, pureX, pure1, AV.cells, AV.one, storable, laid, refless,
                refless1, vload, loadC, storeC, vnil, vfaddr, vextract, flatT, flatE, flatC, vconv, vmm, vidxA, viaddrA, vfield, vlen, elemsOf, dF32, dF64, dI64, dU8, dBool, dStr,
                esOk, elemsS, vsliceX, bnd, ownV, ownC, own1, ownT, isSl, nSl, endL, Md.isOwn, purge, purgeH, purgeB, purgeE, hasName, name1, List.any_cons, List.any_nil, Md.isWr,
                pureV.pureP, Option.map, reduceIte, Nat.reduceEqDiff, Nat.reduceAdd, Nat.reduceMul, Nat.reduceLT, Nat.reduceLeDiff, List.mapM_cons, List.mapM_nil, Option.pure_def,
                Option.bind_eq_bind, Option.bind_some, implies_true, forall_const, beq_self_eq_true, decide_true, decide_false, eq_self, Int.reduceEq, Int.reduceLE, Int.reduceLT,
                if_true, if_false, fc69_0, fc69_1, fc69_2, fc69_3, fc69_4, Int.reduceAdd, Int.reduceSub, Int.reduceMul, Int.reduceNeg, Int.reducePow, Nat.reducePow, Int.reduceToNat,
                Nat.reduceSub, List.replicate, Nat.reduceBEq, wAs, wA, wC, zipW, noDupN, grpE, grpC, en0, dc_en0] <;> first | rfl | (simp only [Nat.add_comm]; done)); (simp only [hp]); (
        intro st2 ht hw; simp only [Kq_ret, Kb_ret, Kl_ret, ret_ok]; first | exact h0 _ hw | exact h0 _ rfl hw | exact h1 _ rfl hw | exact h0 _ ht hw | exact h1 _ ht hw | refine ⟨_, hw, ?_⟩); rotate_left; (
        intro st2 ht hw; (try simp only [ht, reduceCtorEq, Bool.not_eq_true', decide_eq_false_iff_not, Bool.not_true, Bool.not_false, Bool.false_or, Bool.true_or, Bool.true_and, Bool.false_and, Bool.and_eq_true, Bool.or_eq_true, if_true, if_false, reduceIte, Bool.false_eq_true, and_true, true_and, false_or, or_false, decide_eq_true_eq, not_false_eq_true, not_true_eq_false] at hp); simp only [
          hp, grpS, grpD, grpF, grpL, eop, vop, bop, uop, fltop, convop, endOk, newE, new1, freshL, Md.isNew, outV, pureV, pureX, pure1, AV.cells, AV.one, storable, laid, refless,
                refless1, vload, loadC, storeC, vnil, vfaddr, vextract, flatT, flatE, flatC, vconv, vmm, vidxA, viaddrA, vfield, vlen, elemsOf, dF32, dF64, dI64, dU8, dBool, dStr,
                esOk, elemsS, vsliceX, bnd, ownV, ownC, own1, ownT, isSl, nSl, endL, Md.isOwn, purge, purgeH, purgeB, purgeE, hasName, name1, List.any_cons, List.any_nil, Md.isWr,
                pureV.pureP, Option.map, reduceIte, Nat.reduceEqDiff, Nat.reduceAdd, Nat.reduceMul, Nat.reduceLT, Nat.reduceLeDiff, List.mapM_cons, List.mapM_nil, Option.pure_def,
                Option.bind_eq_bind, Option.bind_some, implies_true, forall_const, beq_self_eq_true, decide_true, decide_false, eq_self, Int.reduceEq, Int.reduceLE, Int.reduceLT,
                if_true, if_false, fc69_0, fc69_1, fc69_2, fc69_3, fc69_4, Int.reduceAdd, Int.reduceSub, Int.reduceMul, Int.reduceNeg, Int.reducePow, Nat.reducePow, Int.reduceToNat,
                Nat.reduceSub, List.replicate, Nat.reduceBEq, wAs, wA, wC, zipW, noDupN, grpE, grpC, en0, dc_en0]; refine KW_of hw ?_; simp only [ht, 
          hp, grpS, grpD, grpF, grpL, eop, vop, bop, uop, fltop, convop, endOk, newE, new1, freshL, Md.isNew, outV, pureV, pureX, pure1, AV.cells, AV.one, storable, laid, refless,
                refless1, vload, loadC, storeC, vnil, vfaddr, vextract, flatT, flatE, flatC, vconv, vmm, vidxA, viaddrA, vfield, vlen, elemsOf, dF32, dF64, dI64, dU8, dBool, dStr,
                esOk, elemsS, vsliceX, bnd, ownV, ownC, own1, ownT, isSl, nSl, endL, Md.isOwn, purge, purgeH, purgeB, purgeE, hasName, name1, List.any_cons, List.any_nil, Md.isWr,
                pureV.pureP, Option.map, reduceIte, Nat.reduceEqDiff, Nat.reduceAdd, Nat.reduceMul, Nat.reduceLT, Nat.reduceLeDiff, List.mapM_cons, List.mapM_nil, Option.pure_def,
                Option.bind_eq_bind, Option.bind_some, implies_true, forall_const, beq_self_eq_true, decide_true, decide_false, eq_self, Int.reduceEq, Int.reduceLE, Int.reduceLT,
                if_true, if_false, fc69_0, fc69_1, fc69_2, fc69_3, fc69_4, Int.reduceAdd, Int.reduceSub, Int.reduceMul, Int.reduceNeg, Int.reducePow, Nat.reducePow, Int.reduceToNat,
                Nat.reduceSub, List.replicate, Nat.reduceBEq, wAs, wA, wC, zipW, noDupN, grpE, grpC, en0, dc_en0])))
      all_goals (try simp only [*, m_spec_l00Has, Bool.and_true, Bool.true_and, Bool.and_false, Bool.false_and, Bool.or_true, Bool.true_or, Bool.or_false, Bool.false_or, Bool.not_true, Bool.not_false, Bool.false_eq_true, if_true, if_false, reduceIte, decide_true, decide_false])
      all_goals (try (simp_all; done))
    · cases h
  · cases h
def l_spec_BelowOf_0 (x0 : (List (Int × Nat × Nat × Nat))) (x1 : Int) : Nat → (List Int) → Int → Option (List Int)
  | 0, _, _ => none
  | n + 1, z0_0, z0_1 => (if (decide (z0_1 < ((List.length x0 : Nat) : Int))) = true then (if (decide (z0_1 = x1)) = true then (need (decide (((List.length z0_0) + 1) * 8 ≤
        17592186044416)) (need (decide ((List.length z0_0) + 1 ≤ 17592186044416)) (l_spec_BelowOf_0 x0 x1 n (z0_0 ++ [z0_1]) (IntKind.wrap .i64 (z0_1 + 1))))) else (need (inB z0_1
        (List.length x0)) (need (p_spec_l00Has z0_0 (atI x0 z0_1).1) (if (m_spec_l00Has z0_0 (atI x0 z0_1).1) = true then (need (decide (((List.length z0_0) + 1) * 8 ≤
        17592186044416)) (need (decide ((List.length z0_0) + 1 ≤ 17592186044416)) (l_spec_BelowOf_0 x0 x1 n (z0_0 ++ [z0_1]) (IntKind.wrap .i64 (z0_1 + 1))))) else (l_spec_BelowOf_0
        x0 x1 n z0_0 (IntKind.wrap .i64 (z0_1 + 1))))))) else (some z0_0))
def m_spec_BelowOf (x0 : (List (Int × Nat × Nat × Nat))) (x1 : Int) : ((List Int) × Bool) := (if (m_spec_l03Is x0) = true then (if (m_spec_l00In x1 0 (IntKind.wrap .i64
      (((List.length x0 : Nat) : Int) - 1))) = true then ((Option.getD (l_spec_BelowOf_0 x0 x1 (Int.toNat (((List.length x0 : Nat) : Int) - x1) + 2) [] x1) default), true) else ([],
      false)) else ([], false))
def p_spec_BelowOf (x0 : (List (Int × Nat × Nat × Nat))) (x1 : Int) : Bool := ((p_spec_l03Is x0) && (!(m_spec_l03Is x0) || (!(m_spec_l00In x1 0 (IntKind.wrap .i64 (((List.length x0
      : Nat) : Int) - 1))) || (Option.isSome (l_spec_BelowOf_0 x0 x1 (Int.toNat (((List.length x0 : Nat) : Int) - x1) + 2) [] x1)))))
def g_spec_BelowOf : List AV → Option AV
  | [.agg [.sl w0], .int .i64 y1] => (match decL dc_en0 w0 with | some y0 => (if p_spec_BelowOf y0 y1 = true then some (AV.tup [(.sl (List.map (AV.int .i64) (m_spec_BelowOf y0 y1).1)), (.bool (m_spec_BelowOf y0 y1).2)]) else none) | none => none)
  | _ => none
def lb38_0 : ICode := (.seq (.seq (.reg [⟨(some 21), none, (.mov (.t 7))⟩, ⟨(some 22), none, (.faddr 0 (.t 2))⟩, ⟨(some 23), none, (.load none (.t 22))⟩, ⟨(some 24), none, (.len
      false (.t 23))⟩, ⟨(some 25), none, (.bin .lss false (.t 21) (.t 24))⟩] [1, 2, 6, 7, 25]) (.cond (.t 25) .skip (.exit 0))) (.seq (.block 1 (.seq (.reg [⟨(some 28), none, (.mov
      (.t 7))⟩, ⟨(some 29), none, (.mov (.t 1))⟩, ⟨(some 30), none, (.bin .eql false (.t 28) (.t 29))⟩, ⟨(some 31), none, (.mov (.t 30))⟩, ⟨(some 32), (some (31, false)), (.mov (.t
      6))⟩, ⟨(some 33), (some (31, false)), (.faddr 0 (.t 2))⟩, ⟨(some 34), (some (31, false)), (.load none (.t 33))⟩, ⟨(some 35), (some (31, false)), (.mov (.t 7))⟩, ⟨(some 36),
      (some (31, false)), (.iaddrS 4 (.t 34) (.t 35))⟩, ⟨(some 37), (some (31, false)), (.faddr 0 (.t 36))⟩, ⟨(some 38), (some (31, false)), (.load none (.t 37))⟩, ⟨(some 39), (some
      (31, false)), (.call (.fn 69) [(.t 32), (.t 38)] [])⟩, ⟨(some 40), none, (.pick (.t 31) (.c (.bool true)) (.t 39))⟩] [1, 2, 6, 7, 40]) (.cond (.t 40) (.reg [⟨(some 41), none,
      (.mov (.t 6))⟩, ⟨(some 42), none, (.mov (.t 7))⟩, ⟨(some 43), none, (.bslice 1 1 (.int .i64 0) [(0, (.t 42))])⟩, ⟨(some 44), none, (.append 1 8 (.t 41) (.t 43))⟩, ⟨(some 6),
      none, (.mov (.t 44))⟩] [1, 2, 6, 7]) .skip))) (.reg [⟨(some 26), none, (.mov (.t 7))⟩, ⟨(some 27), none, (.bin .add false (.t 26) (.c (.int .i64 1)))⟩, ⟨(some 7), none, (.mov
      (.t 27))⟩] [1, 2, 6, 7])))
def ic38 : ICode := (.seq (.reg [⟨(some 2), none, (.box 1 (.t 0))⟩, ⟨(some 4), none, (.mov (.c .snil))⟩, ⟨(some 5), none, (.mov (.c (.bool false)))⟩] [1, 2]) (.seq (.seq (.reg
      [⟨(some 8), none, (.call (.fn 50) [(.t 2)] [])⟩, ⟨(some 9), none, (.un .not (.t 8))⟩, ⟨(some 10), none, (.mov (.t 9))⟩, ⟨(some 11), (some (10, false)), (.mov (.t 1))⟩, ⟨(some
      12), (some (10, false)), (.faddr 0 (.t 2))⟩, ⟨(some 13), (some (10, false)), (.load none (.t 12))⟩, ⟨(some 14), (some (10, false)), (.len false (.t 13))⟩, ⟨(some 15), (some
      (10, false)), (.bin .sub false (.t 14) (.c (.int .i64 1)))⟩, ⟨(some 16), (some (10, false)), (.call (.fn 64) [(.t 11), (.c (.int .i64 0)), (.t 15)] [])⟩, ⟨(some 17), (some
      (10, false)), (.un .not (.t 16))⟩, ⟨(some 18), none, (.pick (.t 10) (.c (.bool true)) (.t 17))⟩] [1, 2, 18]) (.cond (.t 18) (.seq (.reg [⟨(some 4), none, (.mov (.c .snil))⟩,
      ⟨(some 5), none, (.mov (.c (.bool false)))⟩] [4, 5]) .ret) .skip)) (.seq (.reg [⟨(some 19), none, (.bslice 1 0 (.int .i64 0) [])⟩, ⟨(some 6), none, (.mov (.t 19))⟩] [1, 2, 6])
      (.seq (.seq (.reg [⟨(some 20), none, (.mov (.t 1))⟩, ⟨(some 7), none, (.mov (.t 20))⟩] [1, 2, 6, 7]) (.block 0 (.loop lb38_0))) (.seq (.reg [⟨(some 45), none, (.mov (.t 6))⟩,
      ⟨(some 4), none, (.mov (.t 45))⟩, ⟨(some 5), none, (.mov (.c (.bool true)))⟩] [4, 5]) .ret)))))
def cp38 : CP := CP.mk [] [] [[1, 2], [1, 2, 18], [4, 5], [1, 2, 6], [1, 2, 6, 7], [1, 2, 6, 7, 25], [1, 2, 6, 7], [1, 2, 6, 7, 40], [1, 2, 6, 7], [4, 5]] 46 [] []
theorem fc38_0 : IntKind.wrap .i64 0 = 0 := by decide
theorem fc38_1 : IntKind.wrap .i64 1 = 1 := by decide
theorem fc38_2 : IntKind.wrap .i64 2 = 2 := by decide
theorem fc38_3 : IntKind.wrap .i64 3 = 3 := by decide
theorem fc38_4 : IntKind.wrap .i64 4 = 4 := by decide
theorem sl38_0 (x0 : (List (Int × Nat × Nat × Nat))) (x1 : Int) : ∀ (n : Nat) (z0_0 : (List Int)) (z0_1 : Int) (o : (List Int)) (K : IExit → St → Prop), l_spec_BelowOf_0 x0 x1 n
      z0_0 z0_1 = some o → (∀ st, Wk st (⟨[(6, (.lsl 19 0 (List.length o)))], [(19, (some ⟨1, true, (List.map (AV.int .i64) o)⟩))]⟩ : St) → K (.exit 0) st) → eA (tabOf [(50, wM .any
      g_spec_l03Is), (64, wM .any g_spec_l00In), (69, wM .any g_spec_l00Has)]) (.loop lb38_0) (⟨[(1, (.int .i64 x1)), (2, (.lptr 2 0 0)), (6, (.lsl 19 0 (List.length z0_0))), (7,
      (.int .i64 z0_1))], [(2, (some ⟨1, false, [(AV.agg [(.sl (List.map en0 x0))])]⟩)), (19, (some ⟨1, true, (List.map (AV.int .i64) z0_0)⟩))]⟩ : St) K := by
  intro n
  induction n with
  | zero =>
    intro z0_0 z0_1 o K h h0
    simp only [l_spec_BelowOf_0, reduceCtorEq] at h
  | succ n ih =>
    intro z0_0 z0_1 o K h h0
    refine eA_loop ?_
    unfold lb38_0
    unfold l_spec_BelowOf_0 at h
    (try simp only [need_iff] at h)
    simp only [
      need_iff, h, grpS, grpD, grpF, grpL, eop, vop, bop, uop, fltop, convop, endOk, newE, new1, freshL, Md.isNew, outV, pureV, pureX, pure1, AV.cells, AV.one, storable, laid,
            refless, refless1, vload, loadC, storeC, vnil, vfaddr, vextract, flatT, flatE, flatC, vconv, vmm, vidxA, viaddrA, vfield, vlen, elemsOf, dF32, dF64, dI64, dU8, dBool,
            dStr, esOk, elemsS, vsliceX, bnd, ownV, ownC, own1, ownT, isSl, nSl, endL, Md.isOwn, purge, purgeH, purgeB, purgeE, hasName, name1, List.any_cons, List.any_nil, Md.isWr,
            pureV.pureP, Option.map, reduceIte, Nat.reduceEqDiff, Nat.reduceAdd, Nat.reduceMul, Nat.reduceLT, Nat.reduceLeDiff, List.mapM_cons, List.mapM_nil, Option.pure_def,
            Option.bind_eq_bind, Option.bind_some, implies_true, forall_const, beq_self_eq_true, decide_true, decide_false, eq_self, Int.reduceEq, Int.reduceLE, Int.reduceLT,
            if_true, if_false, fc38_0, fc38_1, fc38_2, fc38_3, fc38_4, Int.reduceAdd, Int.reduceSub, Int.reduceMul, Int.reduceNeg, Int.reducePow, Nat.reducePow, Int.reduceToNat,
            Nat.reduceSub, List.replicate, Nat.reduceBEq, wAs, wA, wC, zipW, noDupN, grpE, g_spec_l03Is, g_spec_l00In, g_spec_l00Has, grpC, en0, dc_en0, ↓b_pick, ePk_true, ePk_false]
    repeat' (first
      | ((first | (refine eGI_of (fun hc => ?_) (fun hc => ?_)) | (refine eCc_of (fun hc => ?_) (fun hc => ?_)) | (refine ePk_of (fun hc => ?_) (fun hc => ?_)) | (have hc := True.intro; refine KW_refl ?_)) <;> (try simp only [Bool.not_eq_true', Bool.not_eq_false'] at hc) <;> (try simp only [hc, need_iff, reduceCtorEq, Bool.not_eq_true', decide_eq_false_iff_not, Bool.not_true, Bool.not_false, Bool.false_or, Bool.true_or, Bool.true_and, Bool.false_and, Bool.and_eq_true, Bool.or_eq_true, if_true, if_false, reduceIte, Bool.false_eq_true, and_true, true_and, false_or, or_false, decide_eq_true_eq, not_false_eq_true, not_true_eq_false] at h) <;> (try (have hc2 := hc; simp only [decide_eq_true_eq, decide_eq_false_iff_not] at hc2; (first | (replace hc2 := eq_false hc2) | (replace hc2 := eq_true hc2)); simp only [hc2, if_true, if_false, need_iff, reduceCtorEq, Bool.not_eq_true', decide_eq_false_iff_not, Bool.not_true, Bool.not_false, Bool.false_or, Bool.true_or, Bool.true_and, Bool.false_and, Bool.and_eq_true, Bool.or_eq_true, if_true, if_false, reduceIte, Bool.false_eq_true, and_true, true_and, false_or, or_false, decide_eq_true_eq, not_false_eq_true, not_true_eq_false] at h)) <;> simp only [hc,
      need_iff, h, grpS, grpD, grpF, grpL, eop, vop, bop, uop, fltop, convop, endOk, newE, new1, freshL, Md.isNew, outV, pureV, pureX, pure1, AV.cells, AV.one, storable, laid,
            refless, refless1, vload, loadC, storeC, vnil, vfaddr, vextract, flatT, flatE, flatC, vconv, vmm, vidxA, viaddrA, vfield, vlen, elemsOf, dF32, dF64, dI64, dU8, dBool,
            dStr, esOk, elemsS, vsliceX, bnd, ownV, ownC, own1, ownT, isSl, nSl, endL, Md.isOwn, purge, purgeH, purgeB, purgeE, hasName, name1, List.any_cons, List.any_nil, Md.isWr,
            pureV.pureP, Option.map, reduceIte, Nat.reduceEqDiff, Nat.reduceAdd, Nat.reduceMul, Nat.reduceLT, Nat.reduceLeDiff, List.mapM_cons, List.mapM_nil, Option.pure_def,
            Option.bind_eq_bind, Option.bind_some, implies_true, forall_const, beq_self_eq_true, decide_true, decide_false, eq_self, Int.reduceEq, Int.reduceLE, Int.reduceLT,
            if_true, if_false, fc38_0, fc38_1, fc38_2, fc38_3, fc38_4, Int.reduceAdd, Int.reduceSub, Int.reduceMul, Int.reduceNeg, Int.reducePow, Nat.reducePow, Int.reduceToNat,
            Nat.reduceSub, List.replicate, Nat.reduceBEq, wAs, wA, wC, zipW, noDupN, grpE, g_spec_l03Is, g_spec_l00In, g_spec_l00Has, grpC, en0, dc_en0, ↓b_pick, ePk_true, ePk_false]))
    all_goals (repeat (replace h := And.right h))
    all_goals first
      | (refine eA_wk (wk_norm (ks := [1, 2, 6, 7]) (ls := [2, 19]) ?_) (eA_cast ?_ (ih _ _ _ _ h h0)); (simp only [normOk, optIn, blkIn, nameIn,
      need_iff, h, grpS, grpD, grpF, grpL, eop, vop, bop, uop, fltop, convop, endOk, newE, new1, freshL, Md.isNew, outV, pureV, pureX, pure1, AV.cells, AV.one, storable, laid,
            refless, refless1, vload, loadC, storeC, vnil, vfaddr, vextract, flatT, flatE, flatC, vconv, vmm, vidxA, viaddrA, vfield, vlen, elemsOf, dF32, dF64, dI64, dU8, dBool,
            dStr, esOk, elemsS, vsliceX, bnd, ownV, ownC, own1, ownT, isSl, nSl, endL, Md.isOwn, purge, purgeH, purgeB, purgeE, hasName, name1, List.any_cons, List.any_nil, Md.isWr,
            pureV.pureP, Option.map, reduceIte, Nat.reduceEqDiff, Nat.reduceAdd, Nat.reduceMul, Nat.reduceLT, Nat.reduceLeDiff, List.mapM_cons, List.mapM_nil, Option.pure_def,
            Option.bind_eq_bind, Option.bind_some, implies_true, forall_const, beq_self_eq_true, decide_true, decide_false, eq_self, Int.reduceEq, Int.reduceLE, Int.reduceLT,
            if_true, if_false, fc38_0, fc38_1, fc38_2, fc38_3, fc38_4, Int.reduceAdd, Int.reduceSub, Int.reduceMul, Int.reduceNeg, Int.reducePow, Nat.reducePow, Int.reduceToNat,
            Nat.reduceSub, List.replicate, Nat.reduceBEq, wAs, wA, wC, zipW, noDupN, grpE, g_spec_l03Is, g_spec_l00In, g_spec_l00Has, grpC, en0, dc_en0, ↓b_pick, ePk_true, ePk_false] <;> rfl); (simp only [normS, List.map_append, List.length_append, List.map_set, List.length_set, List.map_replicate, List.length_replicate, List.map_nil, List.map_cons,
      need_iff, h, grpS, grpD, grpF, grpL, eop, vop, bop, uop, fltop, convop, endOk, newE, new1, freshL, Md.isNew, outV, pureV, pureX, pure1, AV.cells, AV.one, storable, laid,
            refless, refless1, vload, loadC, storeC, vnil, vfaddr, vextract, flatT, flatE, flatC, vconv, vmm, vidxA, viaddrA, vfield, vlen, elemsOf, dF32, dF64, dI64, dU8, dBool,
            dStr, esOk, elemsS, vsliceX, bnd, ownV, ownC, own1, ownT, isSl, nSl, endL, Md.isOwn, purge, purgeH, purgeB, purgeE, hasName, name1, List.any_cons, List.any_nil, Md.isWr,
            pureV.pureP, Option.map, reduceIte, Nat.reduceEqDiff, Nat.reduceAdd, Nat.reduceMul, Nat.reduceLT, Nat.reduceLeDiff, List.mapM_cons, List.mapM_nil, Option.pure_def,
            Option.bind_eq_bind, Option.bind_some, implies_true, forall_const, beq_self_eq_true, decide_true, decide_false, eq_self, Int.reduceEq, Int.reduceLE, Int.reduceLT,
            if_true, if_false, fc38_0, fc38_1, fc38_2, fc38_3, fc38_4, Int.reduceAdd, Int.reduceSub, Int.reduceMul, Int.reduceNeg, Int.reducePow, Nat.reducePow, Int.reduceToNat,
            Nat.reduceSub, List.replicate, Nat.reduceBEq, wAs, wA, wC, zipW, noDupN, grpE, g_spec_l03Is, g_spec_l00In, g_spec_l00Has, grpC, en0, dc_en0, ↓b_pick, ePk_true, ePk_false] <;> first | rfl | (simp only [Nat.add_comm]; done)))
      | (cases h; refine h0 _ (Wk.cast (wk_norm (ks := [6]) (ls := [19]) ?_) ?_); (simp only [normOk, optIn, blkIn, nameIn,
      grpS, grpD, grpF, grpL, eop, vop, bop, uop, fltop, convop, endOk, newE, new1, freshL, Md.isNew, outV, pureV, pureX, pure1, AV.cells, AV.one, storable, laid, refless, refless1,
            vload, loadC, storeC, vnil, vfaddr, vextract, flatT, flatE, flatC, vconv, vmm, vidxA, viaddrA, vfield, vlen, elemsOf, dF32, dF64, dI64, dU8, dBool, dStr, esOk, elemsS,
            vsliceX, bnd, ownV, ownC, own1, ownT, isSl, nSl, endL, Md.isOwn, purge, purgeH, purgeB, purgeE, hasName, name1, List.any_cons, List.any_nil, Md.isWr, pureV.pureP,
            Option.map, reduceIte, Nat.reduceEqDiff, Nat.reduceAdd, Nat.reduceMul, Nat.reduceLT, Nat.reduceLeDiff, List.mapM_cons, List.mapM_nil, Option.pure_def,
            Option.bind_eq_bind, Option.bind_some, implies_true, forall_const, beq_self_eq_true, decide_true, decide_false, eq_self, Int.reduceEq, Int.reduceLE, Int.reduceLT,
            if_true, if_false, fc38_0, fc38_1, fc38_2, fc38_3, fc38_4, Int.reduceAdd, Int.reduceSub, Int.reduceMul, Int.reduceNeg, Int.reducePow, Nat.reducePow, Int.reduceToNat,
            Nat.reduceSub, List.replicate, Nat.reduceBEq, wAs, wA, wC, zipW, noDupN, grpE, g_spec_l03Is, g_spec_l00In, g_spec_l00Has, grpC, en0, dc_en0, ↓b_pick, ePk_true, ePk_false] <;> rfl); (simp only [normS, List.map_append, List.length_append, List.map_set, List.length_set, List.map_replicate, List.length_replicate,
      grpS, grpD, grpF, grpL, eop, vop, bop, uop, fltop, convop, endOk, newE, new1, freshL, Md.isNew, outV, pureV, pureX, pure1, AV.cells, AV.one, storable, laid, refless, refless1,
            vload, loadC, storeC, vnil, vfaddr, vextract, flatT, flatE, flatC, vconv, vmm, vidxA, viaddrA, vfield, vlen, elemsOf, dF32, dF64, dI64, dU8, dBool, dStr, esOk, elemsS,
            vsliceX, bnd, ownV, ownC, own1, ownT, isSl, nSl, endL, Md.isOwn, purge, purgeH, purgeB, purgeE, hasName, name1, List.any_cons, List.any_nil, Md.isWr, pureV.pureP,
            Option.map, reduceIte, Nat.reduceEqDiff, Nat.reduceAdd, Nat.reduceMul, Nat.reduceLT, Nat.reduceLeDiff, List.mapM_cons, List.mapM_nil, Option.pure_def,
            Option.bind_eq_bind, Option.bind_some, implies_true, forall_const, beq_self_eq_true, decide_true, decide_false, eq_self, Int.reduceEq, Int.reduceLE, Int.reduceLT,
            if_true, if_false, fc38_0, fc38_1, fc38_2, fc38_3, fc38_4, Int.reduceAdd, Int.reduceSub, Int.reduceMul, Int.reduceNeg, Int.reducePow, Nat.reducePow, Int.reduceToNat,
            Nat.reduceSub, List.replicate, Nat.reduceBEq, wAs, wA, wC, zipW, noDupN, grpE, g_spec_l03Is, g_spec_l00In, g_spec_l00Has, grpC, en0, dc_en0, ↓b_pick, ePk_true, ePk_false] <;> first | rfl | (simp only [Nat.add_comm]; done)))
theorem s38 : ∀ vs r, g_spec_BelowOf vs = some r → SaysM Try.prog (.own [1]) 38 vs r := by
  intro vs r h
  unfold g_spec_BelowOf at h
  split at h
  · rename_i w0 y1
    cases hd_y0 : decL dc_en0 w0 with
    | none => rw [hd_y0] at h; cases h
    | some y0 =>
    rw [hd_y0] at h
    obtain rfl := decL_inv dc_en0_inv hd_y0
    clear hd_y0
    dsimp only at h
    split at h
    · rename_i hp
      cases h
      refine spec_of (m := (.own [1])) (tab := tabOf [(50, wM .any g_spec_l03Is), (64, wM .any g_spec_l00In), (69, wM .any g_spec_l00Has)]) (cp := cp38) (ic := ic38) (rvl := [(.t 4), (.t 5)]) hm (tabOk_cons (m := .any) s50 (tabOk_cons (m := .any) s64 (tabOk_cons (m := .any) s69 tabOk_nil))) Try.func38 rfl rfl rfl (by kernel_rfl) rfl (Nat.le_of_ble_eq_true rfl) (Nat.le_of_ble_eq_true rfl) ?_
      show eA _ _ _ _
      unfold ic38
      simp only [p_spec_BelowOf, Bool.and_eq_true, Bool.or_eq_true, decide_eq_true_eq, Bool.not_eq_true', decide_eq_false_iff_not] at hp
      simp only [
          hp, grpS, grpD, grpF, grpL, eop, vop, bop, uop, fltop, convop, endOk, newE, new1, freshL, Md.isNew, outV, pureV, pureX, pure1, AV.cells, AV.one, storable, laid, refless,
                refless1, vload, loadC, storeC, vnil, vfaddr, vextract, flatT, flatE, flatC, vconv, vmm, vidxA, viaddrA, vfield, vlen, elemsOf, dF32, dF64, dI64, dU8, dBool, dStr,
                esOk, elemsS, vsliceX, bnd, ownV, ownC, own1, ownT, isSl, nSl, endL, Md.isOwn, purge, purgeH, purgeB, purgeE, hasName, name1, List.any_cons, List.any_nil, Md.isWr,
                pureV.pureP, Option.map, reduceIte, Nat.reduceEqDiff, Nat.reduceAdd, Nat.reduceMul, Nat.reduceLT, Nat.reduceLeDiff, List.mapM_cons, List.mapM_nil, Option.pure_def,
                Option.bind_eq_bind, Option.bind_some, implies_true, forall_const, beq_self_eq_true, decide_true, decide_false, eq_self, Int.reduceEq, Int.reduceLE, Int.reduceLT,
                if_true, if_false, fc38_0, fc38_1, fc38_2, fc38_3, fc38_4, Int.reduceAdd, Int.reduceSub, Int.reduceMul, Int.reduceNeg, Int.reducePow, Nat.reducePow, Int.reduceToNat,
                Nat.reduceSub, List.replicate, Nat.reduceBEq, wAs, wA, wC, zipW, noDupN, grpE, g_spec_l03Is, g_spec_l00In, g_spec_l00Has, grpC, en0, dc_en0, ↓b_pick, ePk_true,
                ePk_false]
      repeat' (first
        | ((first | (refine eGI_of (fun h => ?_) (fun h => ?_)) | (refine eCc_of (fun h => ?_) (fun h => ?_)) | (refine ePk_of (fun h => ?_) (fun h => ?_)) | (have h := True.intro; refine KW_refl ?_)) <;> (try simp only [Bool.not_eq_true', Bool.not_eq_false'] at h) <;> (try simp only [h, reduceCtorEq, Bool.not_eq_true', decide_eq_false_iff_not, Bool.not_true, Bool.not_false, Bool.false_or, Bool.true_or, Bool.true_and, Bool.false_and, Bool.and_eq_true, Bool.or_eq_true, if_true, if_false, reduceIte, Bool.false_eq_true, and_true, true_and, false_or, or_false, decide_eq_true_eq, not_false_eq_true, not_true_eq_false] at hp) <;> (try (have h2 := h; simp only [decide_eq_true_eq, decide_eq_false_iff_not] at h2; (first | (replace h2 := eq_false h2) | (replace h2 := eq_true h2)); simp only [h2, if_true, if_false, false_or, true_or, or_true, or_false, and_true, true_and, not_false_eq_true, not_true_eq_false] at hp)) <;> simp only [h,
          hp, grpS, grpD, grpF, grpL, eop, vop, bop, uop, fltop, convop, endOk, newE, new1, freshL, Md.isNew, outV, pureV, pureX, pure1, AV.cells, AV.one, storable, laid, refless,
                refless1, vload, loadC, storeC, vnil, vfaddr, vextract, flatT, flatE, flatC, vconv, vmm, vidxA, viaddrA, vfield, vlen, elemsOf, dF32, dF64, dI64, dU8, dBool, dStr,
                esOk, elemsS, vsliceX, bnd, ownV, ownC, own1, ownT, isSl, nSl, endL, Md.isOwn, purge, purgeH, purgeB, purgeE, hasName, name1, List.any_cons, List.any_nil, Md.isWr,
                pureV.pureP, Option.map, reduceIte, Nat.reduceEqDiff, Nat.reduceAdd, Nat.reduceMul, Nat.reduceLT, Nat.reduceLeDiff, List.mapM_cons, List.mapM_nil, Option.pure_def,
                Option.bind_eq_bind, Option.bind_some, implies_true, forall_const, beq_self_eq_true, decide_true, decide_false, eq_self, Int.reduceEq, Int.reduceLE, Int.reduceLT,
                if_true, if_false, fc38_0, fc38_1, fc38_2, fc38_3, fc38_4, Int.reduceAdd, Int.reduceSub, Int.reduceMul, Int.reduceNeg, Int.reducePow, Nat.reducePow, Int.reduceToNat,
                Nat.reduceSub, List.replicate, Nat.reduceBEq, wAs, wA, wC, zipW, noDupN, grpE, g_spec_l03Is, g_spec_l00In, g_spec_l00Has, grpC, en0, dc_en0, ↓b_pick, ePk_true,
                ePk_false])
        | (refine eA_wk (wk_norm (ks := [1, 2, 6, 7]) (ls := [2, 19]) ?_) (eA_cast ?_ (sl38_0 y0 y1 _ _ _ _ _ (getD_some (d := default) (x := (l_spec_BelowOf_0 y0 y1 (Int.toNat (((List.length y0 : Nat) : Int) - y1) + 2) [] y1)) ?_) ?_)); (simp only [nilS, nilV, normOk, optIn, blkIn, nameIn, 
          hp, grpS, grpD, grpF, grpL, eop, vop, bop, uop, fltop, convop, endOk, newE, new1, freshL, Md.isNew, outV, pureV, pureX, pure1, AV.cells, AV.one, storable, laid, refless,
                refless1, vload, loadC, storeC, vnil, vfaddr, vextract, flatT, flatE, flatC, vconv, vmm, vidxA, viaddrA, vfield, vlen, elemsOf, dF32, dF64, dI64, dU8, dBool, dStr,
                esOk, elemsS, vsliceX, bnd, ownV, ownC, own1, ownT, isSl, nSl, endL, Md.isOwn, purge, purgeH, purgeB, purgeE, hasName, name1, List.any_cons, List.any_nil, Md.isWr,
                pureV.pureP, Option.map, reduceIte, Nat.reduceEqDiff, Nat.reduceAdd, Nat.reduceMul, Nat.reduceLT, Nat.reduceLeDiff, List.mapM_cons, List.mapM_nil, Option.pure_def,
                Option.bind_eq_bind, Option.bind_some, implies_true, forall_const, beq_self_eq_true, decide_true, decide_false, eq_self, Int.reduceEq, Int.reduceLE, Int.reduceLT,
                if_true, if_false, fc38_0, fc38_1, fc38_2, fc38_3, fc38_4, Int.reduceAdd, Int.reduceSub, Int.reduceMul, Int.reduceNeg, Int.reducePow, Nat.reducePow, Int.reduceToNat,
                Nat.reduceSub, List.replicate, Nat.reduceBEq, wAs, wA, wC, zipW, noDupN, grpE, g_spec_l03Is, g_spec_l00In, g_spec_l00Has, grpC, en0, dc_en0, ↓b_pick, ePk_true,
                ePk_false] <;> rfl); (simp only [nilS, nilV, normS,  List.map_append, List.length_append, List.map_set, List.length_set, List.map_replicate, List.length_replicate, List.map_nil, List.map_cons,
          hp, grpS, grpD, grpF, grpL, eop, vop, bop, uop, fltop, convop, endOk, newE, new1, freshL, Md.isNew, outV, pureV, pureX, pure1, AV.cells, AV.one, storable, laid, refless,
                refless1, vload, loadC, storeC, vnil, vfaddr, vextract, flatT, flatE, flatC, vconv, vmm, vidxA, viaddrA, vfield, vlen, elemsOf, dF32, dF64, dI64, dU8, dBool, dStr,
                esOk, elemsS, vsliceX, bnd, ownV, ownC, own1, ownT, isSl, nSl, endL, Md.isOwn, purge, purgeH, purgeB, purgeE, hasName, name1, List.any_cons, List.any_nil, Md.isWr,
                pureV.pureP, Option.map, reduceIte, Nat.reduceEqDiff, Nat.reduceAdd, Nat.reduceMul, Nat.reduceLT, Nat.reduceLeDiff, List.mapM_cons, List.mapM_nil, Option.pure_def,
                Option.bind_eq_bind, Option.bind_some, implies_true, forall_const, beq_self_eq_true, decide_true, decide_false, eq_self, Int.reduceEq, Int.reduceLE, Int.reduceLT,
                if_true, if_false, fc38_0, fc38_1, fc38_2, fc38_3, fc38_4, Int.reduceAdd, Int.reduceSub, Int.reduceMul, Int.reduceNeg, Int.reducePow, Nat.reducePow, Int.reduceToNat,
                Nat.reduceSub, List.replicate, Nat.reduceBEq, wAs, wA, wC, zipW, noDupN, grpE, g_spec_l03Is, g_spec_l00In, g_spec_l00Has, grpC, en0, dc_en0, ↓b_pick, ePk_true,
                ePk_false] <;> first | rfl | (simp only [Nat.add_comm]; done)); (simp only [hp]); (
        intro st2 hw; (try simp only [reduceCtorEq, Bool.not_eq_true', decide_eq_false_iff_not, Bool.not_true, Bool.not_false, Bool.false_or, Bool.true_or, Bool.true_and, Bool.false_and, Bool.and_eq_true, Bool.or_eq_true, if_true, if_false, reduceIte, Bool.false_eq_true, and_true, true_and, false_or, or_false, decide_eq_true_eq, not_false_eq_true, not_true_eq_false] at hp); simp only [
          hp, grpS, grpD, grpF, grpL, eop, vop, bop, uop, fltop, convop, endOk, newE, new1, freshL, Md.isNew, outV, pureV, pureX, pure1, AV.cells, AV.one, storable, laid, refless,
                refless1, vload, loadC, storeC, vnil, vfaddr, vextract, flatT, flatE, flatC, vconv, vmm, vidxA, viaddrA, vfield, vlen, elemsOf, dF32, dF64, dI64, dU8, dBool, dStr,
                esOk, elemsS, vsliceX, bnd, ownV, ownC, own1, ownT, isSl, nSl, endL, Md.isOwn, purge, purgeH, purgeB, purgeE, hasName, name1, List.any_cons, List.any_nil, Md.isWr,
                pureV.pureP, Option.map, reduceIte, Nat.reduceEqDiff, Nat.reduceAdd, Nat.reduceMul, Nat.reduceLT, Nat.reduceLeDiff, List.mapM_cons, List.mapM_nil, Option.pure_def,
                Option.bind_eq_bind, Option.bind_some, implies_true, forall_const, beq_self_eq_true, decide_true, decide_false, eq_self, Int.reduceEq, Int.reduceLE, Int.reduceLT,
                if_true, if_false, fc38_0, fc38_1, fc38_2, fc38_3, fc38_4, Int.reduceAdd, Int.reduceSub, Int.reduceMul, Int.reduceNeg, Int.reducePow, Nat.reducePow, Int.reduceToNat,
                Nat.reduceSub, List.replicate, Nat.reduceBEq, wAs, wA, wC, zipW, noDupN, grpE, g_spec_l03Is, g_spec_l00In, g_spec_l00Has, grpC, en0, dc_en0, ↓b_pick, ePk_true,
                ePk_false]; refine KW_of hw ?_; simp only [
          hp, grpS, grpD, grpF, grpL, eop, vop, bop, uop, fltop, convop, endOk, newE, new1, freshL, Md.isNew, outV, pureV, pureX, pure1, AV.cells, AV.one, storable, laid, refless,
                refless1, vload, loadC, storeC, vnil, vfaddr, vextract, flatT, flatE, flatC, vconv, vmm, vidxA, viaddrA, vfield, vlen, elemsOf, dF32, dF64, dI64, dU8, dBool, dStr,
                esOk, elemsS, vsliceX, bnd, ownV, ownC, own1, ownT, isSl, nSl, endL, Md.isOwn, purge, purgeH, purgeB, purgeE, hasName, name1, List.any_cons, List.any_nil, Md.isWr,
                pureV.pureP, Option.map, reduceIte, Nat.reduceEqDiff, Nat.reduceAdd, Nat.reduceMul, Nat.reduceLT, Nat.reduceLeDiff, List.mapM_cons, List.mapM_nil, Option.pure_def,
                Option.bind_eq_bind, Option.bind_some, implies_true, forall_const, beq_self_eq_true, decide_true, decide_false, eq_self, Int.reduceEq, Int.reduceLE, Int.reduceLT,
                if_true, if_false, fc38_0, fc38_1, fc38_2, fc38_3, fc38_4, Int.reduceAdd, Int.reduceSub, Int.reduceMul, Int.reduceNeg, Int.reducePow, Nat.reducePow, Int.reduceToNat,
                Nat.reduceSub, List.replicate, Nat.reduceBEq, wAs, wA, wC, zipW, noDupN, grpE, g_spec_l03Is, g_spec_l00In, g_spec_l00Has, grpC, en0, dc_en0, ↓b_pick, ePk_true,
                ePk_false])))
      all_goals (try simp only [*, m_spec_BelowOf, Bool.and_true, Bool.true_and, Bool.and_false, Bool.false_and, Bool.or_true, Bool.true_or, Bool.or_false, Bool.false_or, Bool.not_true, Bool.not_false, Bool.false_eq_true, if_true, if_false, reduceIte, decide_true, decide_false])
      all_goals (try (simp_all; done))
    · cases h
  · cases h
def l_impl_ValidSkeleton_0 (x0 : (List (Int × Nat × Nat × Nat))) : Nat → Int → Option (Bool × Bool × Unit)
  | 0, _ => none
  | n + 1, z0_0 => (if (decide (z0_0 < ((List.length (List.drop 1 x0) : Nat) : Int))) = true then (need (inB z0_0 (List.length (List.drop 1 x0))) (if (decide ((atI (List.drop 1 x0)
        z0_0).1 < 0)) = true then (some (true, false, default)) else (if (decide (z0_0 < (atI (List.drop 1 x0) z0_0).1)) = true then (some (true, false, default)) else
        (l_impl_ValidSkeleton_0 x0 n (IntKind.wrap .i64 (z0_0 + 1)))))) else (some (false, default, ())))
def m_impl_ValidSkeleton (x0 : (List (Int × Nat × Nat × Nat))) : Bool := (if (decide (((List.length x0 : Nat) : Int) < 1)) = true then false else (if (decide (12 < ((List.length x0
      : Nat) : Int))) = true then false else (if (decide ((atI x0 0).1 = (-1))) = true then (if (Option.getD (l_impl_ValidSkeleton_0 x0 (Int.toNat (((List.length (List.drop 1 x0) :
      Nat) : Int) - 0) + 2) 0) default).1 = true then (Option.getD (l_impl_ValidSkeleton_0 x0 (Int.toNat (((List.length (List.drop 1 x0) : Nat) : Int) - 0) + 2) 0) default).2.1 else
      true) else false)))
def p_impl_ValidSkeleton (x0 : (List (Int × Nat × Nat × Nat))) : Bool := ((decide (((List.length x0 : Nat) : Int) < 1)) || ((decide (12 < ((List.length x0 : Nat) : Int))) || ((inB 0
      (List.length x0)) && (!(decide ((atI x0 0).1 = (-1))) || ((decide ((1 : Nat) ≤ (List.length x0))) && (Option.isSome (l_impl_ValidSkeleton_0 x0 (Int.toNat (((List.length
      (List.drop 1 x0) : Nat) : Int) - 0) + 2) 0)))))))
def g_impl_ValidSkeleton : List AV → Option AV
  | [.agg [.sl w0]] => (match decL dc_en0 w0 with | some y0 => (if p_impl_ValidSkeleton y0 = true then some (.bool (m_impl_ValidSkeleton y0)) else none) | none => none)
  | _ => none
def lb20_0 : ICode := (.seq (.reg [⟨(some 28), none, (.bin .lss false (.t 27) (.t 26))⟩] [25, 26, 27, 28]) (.seq (.cond (.t 28) .skip (.exit 0)) (.seq (.block 1 (.seq (.reg [⟨(some
      29), none, (.mov (.t 27))⟩, ⟨(some 30), none, (.iaddrS 4 (.t 25) (.t 27))⟩, ⟨(some 31), none, (.load (some 4) (.t 30))⟩, ⟨(some 4), none, (.alloc (.agg [(.int .i64 0), (.flt
      .f32 0), (.flt .f32 0), (.flt .f32 0)]))⟩, ⟨(some 3), none, (.mov (.t 29))⟩, ⟨none, none, (.store 4 (.t 4) (.t 31))⟩] [3, 4, 25, 26, 27]) (.seq (.reg [⟨(some 32), none,
      (.faddr 0 (.t 4))⟩, ⟨(some 33), none, (.load none (.t 32))⟩, ⟨(some 34), none, (.bin .lss false (.t 33) (.c (.int .i64 0)))⟩, ⟨(some 35), none, (.mov (.t 34))⟩, ⟨(some 36),
      (some (35, false)), (.faddr 0 (.t 4))⟩, ⟨(some 37), (some (35, false)), (.load none (.t 36))⟩, ⟨(some 38), (some (35, false)), (.mov (.t 3))⟩, ⟨(some 39), (some (35, false)),
      (.bin .gtr false (.t 37) (.t 38))⟩, ⟨(some 40), none, (.pick (.t 35) (.c (.bool true)) (.t 39))⟩] [25, 26, 27, 40]) (.cond (.t 40) (.seq (.reg [⟨(some 2), none, (.mov (.c
      (.bool false)))⟩] [2]) .ret) .skip)))) (.reg [⟨(some 41), none, (.bin .add false (.t 27) (.c (.int .i64 1)))⟩, ⟨(some 27), none, (.mov (.t 41))⟩] [25, 26, 27]))))
def ic20 : ICode := (.seq (.reg [⟨(some 1), none, (.box 1 (.t 0))⟩, ⟨(some 2), none, (.mov (.c (.bool false)))⟩] [1]) (.seq (.seq (.reg [⟨(some 5), none, (.faddr 0 (.t 1))⟩, ⟨(some
      6), none, (.load none (.t 5))⟩, ⟨(some 7), none, (.len false (.t 6))⟩, ⟨(some 8), none, (.bin .lss false (.t 7) (.c (.int .i64 1)))⟩, ⟨(some 9), none, (.mov (.t 8))⟩, ⟨(some
      10), (some (9, false)), (.faddr 0 (.t 1))⟩, ⟨(some 11), (some (9, false)), (.load none (.t 10))⟩, ⟨(some 12), (some (9, false)), (.len false (.t 11))⟩, ⟨(some 13), (some (9,
      false)), (.bin .gtr false (.t 12) (.c (.int .i64 12)))⟩, ⟨(some 14), none, (.pick (.t 9) (.c (.bool true)) (.t 13))⟩, ⟨(some 15), none, (.mov (.t 14))⟩, ⟨(some 16), (some (15,
      false)), (.faddr 0 (.t 1))⟩, ⟨(some 17), (some (15, false)), (.load none (.t 16))⟩, ⟨(some 18), (some (15, false)), (.iaddrS 4 (.t 17) (.c (.int .i64 0)))⟩, ⟨(some 19), (some
      (15, false)), (.faddr 0 (.t 18))⟩, ⟨(some 20), (some (15, false)), (.load none (.t 19))⟩, ⟨(some 21), (some (15, false)), (.bin .neq false (.t 20) (.c (.int .i64 (-1))))⟩,
      ⟨(some 22), none, (.pick (.t 15) (.c (.bool true)) (.t 21))⟩] [1, 22]) (.cond (.t 22) (.seq (.reg [⟨(some 2), none, (.mov (.c (.bool false)))⟩] [2]) .ret) .skip)) (.seq (.seq
      (.reg [⟨(some 23), none, (.faddr 0 (.t 1))⟩, ⟨(some 24), none, (.load none (.t 23))⟩, ⟨(some 25), none, (.sliceX 4 (.t 24) (some (.c (.int .i64 1))) none)⟩, ⟨(some 26), none,
      (.len false (.t 25))⟩, ⟨(some 27), none, (.mov (.c (.int .i64 0)))⟩] [25, 26, 27]) (.block 0 (.loop lb20_0))) (.seq (.reg [⟨(some 2), none, (.mov (.c (.bool true)))⟩] [2])
      .ret))))
def cp20 : CP := CP.mk [] [] [[1], [1, 22], [2], [25, 26, 27], [25, 26, 27, 28], [3, 4, 25, 26, 27], [25, 26, 27, 40], [2], [25, 26, 27], [2]] 42 [] []
theorem fc20_0 : IntKind.wrap .i64 0 = 0 := by decide
theorem fc20_1 : IntKind.wrap .i64 1 = 1 := by decide
theorem fc20_2 : IntKind.wrap .i64 2 = 2 := by decide
theorem fc20_3 : IntKind.wrap .i64 3 = 3 := by decide
theorem fc20_4 : IntKind.wrap .i64 4 = 4 := by decide
theorem sl20_0 (x0 : (List (Int × Nat × Nat × Nat))) : ∀ (n : Nat) (z0_0 : Int) (o : (Bool × Bool × Unit)) (K : IExit → St → Prop), l_impl_ValidSkeleton_0 x0 n z0_0 = some o → (∀
      st, o.1 = true → outM .any st [(.t 2)] = some (.bool o.2.1) → K .ret st) → (∀ st, o.1 = false → Wk st (⟨[], []⟩ : St) → K (.exit 0) st) → eA (tabOf []) (.loop lb20_0) (⟨[(25,
      (.sl (List.map en0 (List.drop 1 x0)))), (26, (.int .i64 ((List.length (List.drop 1 x0) : Nat) : Int))), (27, (.int .i64 z0_0))], []⟩ : St) K := by
  intro n
  induction n with
  | zero =>
    intro z0_0 o K h h0 h1
    simp only [l_impl_ValidSkeleton_0, reduceCtorEq] at h
  | succ n ih =>
    intro z0_0 o K h h0 h1
    refine eA_loop ?_
    unfold lb20_0
    unfold l_impl_ValidSkeleton_0 at h
    (try simp only [need_iff] at h)
    simp only [
      need_iff, h, grpS, grpD, grpF, grpL, eop, vop, bop, uop, fltop, convop, endOk, newE, new1, freshL, Md.isNew, outV, pureV, pureX, pure1, AV.cells, AV.one, storable, laid,
            refless, refless1, vload, loadC, storeC, vnil, vfaddr, vextract, flatT, flatE, flatC, vconv, vmm, vidxA, viaddrA, vfield, vlen, elemsOf, dF32, dF64, dI64, dU8, dBool,
            dStr, esOk, elemsS, vsliceX, bnd, ownV, ownC, own1, ownT, isSl, nSl, endL, Md.isOwn, purge, purgeH, purgeB, purgeE, hasName, name1, List.any_cons, List.any_nil, Md.isWr,
            pureV.pureP, Option.map, reduceIte, Nat.reduceEqDiff, Nat.reduceAdd, Nat.reduceMul, Nat.reduceLT, Nat.reduceLeDiff, List.mapM_cons, List.mapM_nil, Option.pure_def,
            Option.bind_eq_bind, Option.bind_some, implies_true, forall_const, beq_self_eq_true, decide_true, decide_false, eq_self, Int.reduceEq, Int.reduceLE, Int.reduceLT,
            if_true, if_false, fc20_0, fc20_1, fc20_2, fc20_3, fc20_4, Int.reduceAdd, Int.reduceSub, Int.reduceMul, Int.reduceNeg, Int.reducePow, Nat.reducePow, Int.reduceToNat,
            Nat.reduceSub, List.replicate, Nat.reduceBEq, wAs, wA, wC, zipW, noDupN, grpE, grpC, en0, dc_en0, ↓b_pick, ePk_true, ePk_false]
    repeat' (first
      | ((first | (refine eGI_of (fun hc => ?_) (fun hc => ?_)) | (refine eCc_of (fun hc => ?_) (fun hc => ?_)) | (refine ePk_of (fun hc => ?_) (fun hc => ?_)) | (have hc := True.intro; refine KW_refl ?_)) <;> (try simp only [Bool.not_eq_true', Bool.not_eq_false'] at hc) <;> (try simp only [hc, need_iff, reduceCtorEq, Bool.not_eq_true', decide_eq_false_iff_not, Bool.not_true, Bool.not_false, Bool.false_or, Bool.true_or, Bool.true_and, Bool.false_and, Bool.and_eq_true, Bool.or_eq_true, if_true, if_false, reduceIte, Bool.false_eq_true, and_true, true_and, false_or, or_false, decide_eq_true_eq, not_false_eq_true, not_true_eq_false] at h) <;> (try (have hc2 := hc; simp only [decide_eq_true_eq, decide_eq_false_iff_not] at hc2; (first | (replace hc2 := eq_false hc2) | (replace hc2 := eq_true hc2)); simp only [hc2, if_true, if_false, need_iff, reduceCtorEq, Bool.not_eq_true', decide_eq_false_iff_not, Bool.not_true, Bool.not_false, Bool.false_or, Bool.true_or, Bool.true_and, Bool.false_and, Bool.and_eq_true, Bool.or_eq_true, if_true, if_false, reduceIte, Bool.false_eq_true, and_true, true_and, false_or, or_false, decide_eq_true_eq, not_false_eq_true, not_true_eq_false] at h)) <;> simp only [hc,
      need_iff, h, grpS, grpD, grpF, grpL, eop, vop, bop, uop, fltop, convop, endOk, newE, new1, freshL, Md.isNew, outV, pureV, pureX, pure1, AV.cells, AV.one, storable, laid,
            refless, refless1, vload, loadC, storeC, vnil, vfaddr, vextract, flatT, flatE, flatC, vconv, vmm, vidxA, viaddrA, vfield, vlen, elemsOf, dF32, dF64, dI64, dU8, dBool,
            dStr, esOk, elemsS, vsliceX, bnd, ownV, ownC, own1, ownT, isSl, nSl, endL, Md.isOwn, purge, purgeH, purgeB, purgeE, hasName, name1, List.any_cons, List.any_nil, Md.isWr,
            pureV.pureP, Option.map, reduceIte, Nat.reduceEqDiff, Nat.reduceAdd, Nat.reduceMul, Nat.reduceLT, Nat.reduceLeDiff, List.mapM_cons, List.mapM_nil, Option.pure_def,
            Option.bind_eq_bind, Option.bind_some, implies_true, forall_const, beq_self_eq_true, decide_true, decide_false, eq_self, Int.reduceEq, Int.reduceLE, Int.reduceLT,
            if_true, if_false, fc20_0, fc20_1, fc20_2, fc20_3, fc20_4, Int.reduceAdd, Int.reduceSub, Int.reduceMul, Int.reduceNeg, Int.reducePow, Nat.reducePow, Int.reduceToNat,
            Nat.reduceSub, List.replicate, Nat.reduceBEq, wAs, wA, wC, zipW, noDupN, grpE, grpC, en0, dc_en0, ↓b_pick, ePk_true, ePk_false]))
    all_goals (repeat (replace h := And.right h))
    all_goals first
      | (refine eA_wk (wk_norm (ks := [25, 26, 27]) (ls := []) ?_) (eA_cast ?_ (ih _ _ _ h h0 h1)); (simp only [normOk, optIn, blkIn, nameIn,
      need_iff, h, grpS, grpD, grpF, grpL, eop, vop, bop, uop, fltop, convop, endOk, newE, new1, freshL, Md.isNew, outV, pureV, pureX, pure1, AV.cells, AV.one, storable, laid,
            refless, refless1, vload, loadC, storeC, vnil, vfaddr, vextract, flatT, flatE, flatC, vconv, vmm, vidxA, viaddrA, vfield, vlen, elemsOf, dF32, dF64, dI64, dU8, dBool,
            dStr, esOk, elemsS, vsliceX, bnd, ownV, ownC, own1, ownT, isSl, nSl, endL, Md.isOwn, purge, purgeH, purgeB, purgeE, hasName, name1, List.any_cons, List.any_nil, Md.isWr,
            pureV.pureP, Option.map, reduceIte, Nat.reduceEqDiff, Nat.reduceAdd, Nat.reduceMul, Nat.reduceLT, Nat.reduceLeDiff, List.mapM_cons, List.mapM_nil, Option.pure_def,
            Option.bind_eq_bind, Option.bind_some, implies_true, forall_const, beq_self_eq_true, decide_true, decide_false, eq_self, Int.reduceEq, Int.reduceLE, Int.reduceLT,
            if_true, if_false, fc20_0, fc20_1, fc20_2, fc20_3, fc20_4, Int.reduceAdd, Int.reduceSub, Int.reduceMul, Int.reduceNeg, Int.reducePow, Nat.reducePow, Int.reduceToNat,
            Nat.reduceSub, List.replicate, Nat.reduceBEq, wAs, wA, wC, zipW, noDupN, grpE, grpC, en0, dc_en0, ↓b_pick, ePk_true, ePk_false] <;> rfl); (simp only [normS, List.map_append, List.length_append, List.map_set, List.length_set, List.map_replicate, List.length_replicate, List.map_nil, List.map_cons,
      need_iff, h, grpS, grpD, grpF, grpL, eop, vop, bop, uop, fltop, convop, endOk, newE, new1, freshL, Md.isNew, outV, pureV, pureX, pure1, AV.cells, AV.one, storable, laid,
            refless, refless1, vload, loadC, storeC, vnil, vfaddr, vextract, flatT, flatE, flatC, vconv, vmm, vidxA, viaddrA, vfield, vlen, elemsOf, dF32, dF64, dI64, dU8, dBool,
            dStr, esOk, elemsS, vsliceX, bnd, ownV, ownC, own1, ownT, isSl, nSl, endL, Md.isOwn, purge, purgeH, purgeB, purgeE, hasName, name1, List.any_cons, List.any_nil, Md.isWr,
            pureV.pureP, Option.map, reduceIte, Nat.reduceEqDiff, Nat.reduceAdd, Nat.reduceMul, Nat.reduceLT, Nat.reduceLeDiff, List.mapM_cons, List.mapM_nil, Option.pure_def,
            Option.bind_eq_bind, Option.bind_some, implies_true, forall_const, beq_self_eq_true, decide_true, decide_false, eq_self, Int.reduceEq, Int.reduceLE, Int.reduceLT,
            if_true, if_false, fc20_0, fc20_1, fc20_2, fc20_3, fc20_4, Int.reduceAdd, Int.reduceSub, Int.reduceMul, Int.reduceNeg, Int.reducePow, Nat.reducePow, Int.reduceToNat,
            Nat.reduceSub, List.replicate, Nat.reduceBEq, wAs, wA, wC, zipW, noDupN, grpE, grpC, en0, dc_en0, ↓b_pick, ePk_true, ePk_false] <;> first | rfl | (simp only [Nat.add_comm]; done)))
      | (cases h; refine h0 _ rfl ?_; simp only [
      grpS, grpD, grpF, grpL, eop, vop, bop, uop, fltop, convop, endOk, newE, new1, freshL, Md.isNew, outV, pureV, pureX, pure1, AV.cells, AV.one, storable, laid, refless, refless1,
            vload, loadC, storeC, vnil, vfaddr, vextract, flatT, flatE, flatC, vconv, vmm, vidxA, viaddrA, vfield, vlen, elemsOf, dF32, dF64, dI64, dU8, dBool, dStr, esOk, elemsS,
            vsliceX, bnd, ownV, ownC, own1, ownT, isSl, nSl, endL, Md.isOwn, purge, purgeH, purgeB, purgeE, hasName, name1, List.any_cons, List.any_nil, Md.isWr, pureV.pureP,
            Option.map, reduceIte, Nat.reduceEqDiff, Nat.reduceAdd, Nat.reduceMul, Nat.reduceLT, Nat.reduceLeDiff, List.mapM_cons, List.mapM_nil, Option.pure_def,
            Option.bind_eq_bind, Option.bind_some, implies_true, forall_const, beq_self_eq_true, decide_true, decide_false, eq_self, Int.reduceEq, Int.reduceLE, Int.reduceLT,
            if_true, if_false, fc20_0, fc20_1, fc20_2, fc20_3, fc20_4, Int.reduceAdd, Int.reduceSub, Int.reduceMul, Int.reduceNeg, Int.reducePow, Nat.reducePow, Int.reduceToNat,
            Nat.reduceSub, List.replicate, Nat.reduceBEq, wAs, wA, wC, zipW, noDupN, grpE, grpC, en0, dc_en0, ↓b_pick, ePk_true, ePk_false])
      | (cases h; refine h1 _ rfl (Wk.cast (wk_norm (ks := []) (ls := []) ?_) ?_); (simp only [normOk, optIn, blkIn, nameIn,
      grpS, grpD, grpF, grpL, eop, vop, bop, uop, fltop, convop, endOk, newE, new1, freshL, Md.isNew, outV, pureV, pureX, pure1, AV.cells, AV.one, storable, laid, refless, refless1,
            vload, loadC, storeC, vnil, vfaddr, vextract, flatT, flatE, flatC, vconv, vmm, vidxA, viaddrA, vfield, vlen, elemsOf, dF32, dF64, dI64, dU8, dBool, dStr, esOk, elemsS,
            vsliceX, bnd, ownV, ownC, own1, ownT, isSl, nSl, endL, Md.isOwn, purge, purgeH, purgeB, purgeE, hasName, name1, List.any_cons, List.any_nil, Md.isWr, pureV.pureP,
            Option.map, reduceIte, Nat.reduceEqDiff, Nat.reduceAdd, Nat.reduceMul, Nat.reduceLT, Nat.reduceLeDiff, List.mapM_cons, List.mapM_nil, Option.pure_def,
            Option.bind_eq_bind, Option.bind_some, implies_true, forall_const, beq_self_eq_true, decide_true, decide_false, eq_self, Int.reduceEq, Int.reduceLE, Int.reduceLT,
            if_true, if_false, fc20_0, fc20_1, fc20_2, fc20_3, fc20_4, Int.reduceAdd, Int.reduceSub, Int.reduceMul, Int.reduceNeg, Int.reducePow, Nat.reducePow, Int.reduceToNat,
            Nat.reduceSub, List.replicate, Nat.reduceBEq, wAs, wA, wC, zipW, noDupN, grpE, grpC, en0, dc_en0, ↓b_pick, ePk_true, ePk_false] <;> rfl); (simp only [normS, List.map_append, List.length_append, List.map_set, List.length_set, List.map_replicate, List.length_replicate,
      grpS, grpD, grpF, grpL, eop, vop, bop, uop, fltop, convop, endOk, newE, new1, freshL, Md.isNew, outV, pureV, pureX, pure1, AV.cells, AV.one, storable, laid, refless, refless1,
            vload, loadC, storeC, vnil, vfaddr, vextract, flatT, flatE, flatC, vconv, vmm, vidxA, viaddrA, vfield, vlen, elemsOf, dF32, dF64, dI64, dU8, dBool, dStr, esOk, elemsS,
            vsliceX, bnd, ownV, ownC, own1, ownT, isSl, nSl, endL, Md.isOwn, purge, purgeH, purgeB, purgeE, hasName, name1, List.any_cons, List.any_nil, Md.isWr, pureV.pureP,
            Option.map, reduceIte, Nat.reduceEqDiff, Nat.reduceAdd, Nat.reduceMul, Nat.reduceLT, Nat.reduceLeDiff, List.mapM_cons, List.mapM_nil, Option.pure_def,
            Option.bind_eq_bind, Option.bind_some, implies_true, forall_const, beq_self_eq_true, decide_true, decide_false, eq_self, Int.reduceEq, Int.reduceLE, Int.reduceLT,
            if_true, if_false, fc20_0, fc20_1, fc20_2, fc20_3, fc20_4, Int.reduceAdd, Int.reduceSub, Int.reduceMul, Int.reduceNeg, Int.reducePow, Nat.reducePow, Int.reduceToNat,
            Nat.reduceSub, List.replicate, Nat.reduceBEq, wAs, wA, wC, zipW, noDupN, grpE, grpC, en0, dc_en0, ↓b_pick, ePk_true, ePk_false] <;> first | rfl | (simp only [Nat.add_comm]; done)))
theorem s20 : ∀ vs r, g_impl_ValidSkeleton vs = some r → SaysM Try.prog .any 20 vs r := by
  intro vs r h
  unfold g_impl_ValidSkeleton at h
  split at h
  · rename_i w0
    cases hd_y0 : decL dc_en0 w0 with
    | none => rw [hd_y0] at h; cases h
    | some y0 =>
    rw [hd_y0] at h
    obtain rfl := decL_inv dc_en0_inv hd_y0
    clear hd_y0
    dsimp only at h
    split at h
    · rename_i hp
      cases h
      refine spec_of (m := .any) (tab := tabOf []) (cp := cp20) (ic := ic20) (rvl := [(.t 2)]) hm tabOk_nil Try.func20 rfl rfl rfl (by kernel_rfl) rfl (Nat.le_of_ble_eq_true rfl) (Nat.le_of_ble_eq_true rfl) ?_
      show eA _ _ _ _
      unfold ic20
      simp only [p_impl_ValidSkeleton, Bool.and_eq_true, Bool.or_eq_true, decide_eq_true_eq, Bool.not_eq_true', decide_eq_false_iff_not] at hp
      simp only [
          hp, grpS, grpD, grpF, grpL, eop, vop, bop, uop, fltop, convop, endOk, newE, new1, freshL, Md.isNew, outV, pureV, pureX, pure1, AV.cells, AV.one, storable, laid, refless,
                refless1, vload, loadC, storeC, vnil, vfaddr, vextract, flatT, flatE, flatC, vconv, vmm, vidxA, viaddrA, vfield, vlen, elemsOf, dF32, dF64, dI64, dU8, dBool, dStr,
                esOk, elemsS, vsliceX, bnd, ownV, ownC, own1, ownT, isSl, nSl, endL, Md.isOwn, purge, purgeH, purgeB, purgeE, hasName, name1, List.any_cons, List.any_nil, Md.isWr,
                pureV.pureP, Option.map, reduceIte, Nat.reduceEqDiff, Nat.reduceAdd, Nat.reduceMul, Nat.reduceLT, Nat.reduceLeDiff, List.mapM_cons, List.mapM_nil, Option.pure_def,
                Option.bind_eq_bind, Option.bind_some, implies_true, forall_const, beq_self_eq_true, decide_true, decide_false, eq_self, Int.reduceEq, Int.reduceLE, Int.reduceLT,
                if_true, if_false, fc20_0, fc20_1, fc20_2, fc20_3, fc20_4, Int.reduceAdd, Int.reduceSub, Int.reduceMul, Int.reduceNeg, Int.reducePow, Nat.reducePow, Int.reduceToNat,
                Nat.reduceSub, List.replicate, Nat.reduceBEq, wAs, wA, wC, zipW, noDupN, grpE, grpC, en0, dc_en0, ↓b_pick, ePk_true, ePk_false]
      repeat' (first
        | ((first | (refine eGI_of (fun h => ?_) (fun h => ?_)) | (refine eCc_of (fun h => ?_) (fun h => ?_)) | (refine ePk_of (fun h => ?_) (fun h => ?_)) | (have h := True.intro; refine KW_refl ?_)) <;> (try simp only [Bool.not_eq_true', Bool.not_eq_false'] at h) <;> (try simp only [h, reduceCtorEq, Bool.not_eq_true', decide_eq_false_iff_not, Bool.not_true, Bool.not_false, Bool.false_or, Bool.true_or, Bool.true_and, Bool.false_and, Bool.and_eq_true, Bool.or_eq_true, if_true, if_false, reduceIte, Bool.false_eq_true, and_true, true_and, false_or, or_false, decide_eq_true_eq, not_false_eq_true, not_true_eq_false] at hp) <;> (try (have h2 := h; simp only [decide_eq_true_eq, decide_eq_false_iff_not] at h2; (first | (replace h2 := eq_false h2) | (replace h2 := eq_true h2)); simp only [h2, if_true, if_false, false_or, true_or, or_true, or_false, and_true, true_and, not_false_eq_true, not_true_eq_false] at hp)) <;> simp only [h,
          hp, grpS, grpD, grpF, grpL, eop, vop, bop, uop, fltop, convop, endOk, newE, new1, freshL, Md.isNew, outV, pureV, pureX, pure1, AV.cells, AV.one, storable, laid, refless,
                refless1, vload, loadC, storeC, vnil, vfaddr, vextract, flatT, flatE, flatC, vconv, vmm, vidxA, viaddrA, vfield, vlen, elemsOf, dF32, dF64, dI64, dU8, dBool, dStr,
                esOk, elemsS, vsliceX, bnd, ownV, ownC, own1, ownT, isSl, nSl, endL, Md.isOwn, purge, purgeH, purgeB, purgeE, hasName, name1, List.any_cons, List.any_nil, Md.isWr,
                pureV.pureP, Option.map, reduceIte, Nat.reduceEqDiff, Nat.reduceAdd, Nat.reduceMul, Nat.reduceLT, Nat.reduceLeDiff, List.mapM_cons, List.mapM_nil, Option.pure_def,
                Option.bind_eq_bind, Option.bind_some, implies_true, forall_const, beq_self_eq_true, decide_true, decide_false, eq_self, Int.reduceEq, Int.reduceLE, Int.reduceLT,
                if_true, if_false, fc20_0, fc20_1, fc20_2, fc20_3, fc20_4, Int.reduceAdd, Int.reduceSub, Int.reduceMul, Int.reduceNeg, Int.reducePow, Nat.reducePow, Int.reduceToNat,
                Nat.reduceSub, List.replicate, Nat.reduceBEq, wAs, wA, wC, zipW, noDupN, grpE, grpC, en0, dc_en0, ↓b_pick, ePk_true, ePk_false])
        | (refine eA_wk (wk_norm (ks := [25, 26, 27]) (ls := []) ?_) (eA_cast ?_ (sl20_0 y0 _ _ _ _ (getD_some (d := default) (x := (l_impl_ValidSkeleton_0 y0 (Int.toNat (((List.length (List.drop 1 y0) : Nat) : Int) - 0) + 2) 0)) ?_) ?_ ?_)); (simp only [nilS, nilV, normOk, optIn, blkIn, nameIn, 
          hp, grpS, grpD, grpF, grpL, eop, vop, bop, uop, fltop, convop, endOk, newE, new1, freshL, Md.isNew, outV, pureV, pureX, pure1, AV.cells, AV.one, storable, laid, refless,
                refless1, vload, loadC, storeC, vnil, vfaddr, vextract, flatT, flatE, flatC, vconv, vmm, vidxA, viaddrA, vfield, vlen, elemsOf, dF32, dF64, dI64, dU8, dBool, dStr,
                esOk, elemsS, vsliceX, bnd, ownV, ownC, own1, ownT, isSl, nSl, endL, Md.isOwn, purge, purgeH, purgeB, purgeE, hasName, name1, List.any_cons, List.any_nil, Md.isWr,
                pureV.pureP, Option.map, reduceIte, Nat.reduceEqDiff, Nat.reduceAdd, Nat.reduceMul, Nat.reduceLT, Nat.reduceLeDiff, List.mapM_cons, List.mapM_nil, Option.pure_def,
                Option.bind_eq_bind, Option.bind_some, implies_true, forall_const, beq_self_eq_true, decide_true, decide_false, eq_self, Int.reduceEq, Int.reduceLE, Int.reduceLT,
                if_true, if_false, fc20_0, fc20_1, fc20_2, fc20_3, fc20_4, Int.reduceAdd, Int.reduceSub, Int.reduceMul, Int.reduceNeg, Int.reducePow, Nat.reducePow, Int.reduceToNat,
                Nat.reduceSub, List.replicate, Nat.reduceBEq, wAs, wA, wC, zipW, noDupN, grpE, grpC, en0, dc_en0, ↓b_pick, ePk_true, ePk_false] <;> rfl); (simp only [nilS, nilV, normS,  List.map_append, List.length_append, List.map_set, List.length_set, List.map_replicate, List.length_replicate, List.map_nil, List.map_cons,
          hp, grpS, grpD, grpF, grpL, eop, vop, bop, uop, fltop, convop, endOk, newE, new1, freshL, Md.isNew, outV, pureV, pureX, pure1, AV.cells, AV.one, storable, laid, refless,
                refless1, vload, loadC, storeC, vnil, vfaddr, vextract, flatT, flatE, flatC, vconv, vmm, vidxA, viaddrA, vfield, vlen, elemsOf, dF32, dF64, dI64, dU8, dBool, dStr,
                esOk, elemsS, vsliceX, bnd, ownV, ownC, own1, ownT, isSl, nSl, endL, Md.isOwn, purge, purgeH, purgeB, purgeE, hasName, name1, List.any_cons, List.any_nil, Md.isWr,
                pureV.pureP, Option.map, reduceIte, Nat.reduceEqDiff, Nat.reduceAdd, Nat.reduceMul, Nat.reduceLT, Nat.reduceLeDiff, List.mapM_cons, List.mapM_nil, Option.pure_def,
                Option.bind_eq_bind, Option.bind_some, implies_true, forall_const, beq_self_eq_true, decide_true, decide_false, eq_self, Int.reduceEq, Int.reduceLE, Int.reduceLT,
                if_true, if_false, fc20_0, fc20_1, fc20_2, fc20_3, fc20_4, Int.reduceAdd, Int.reduceSub, Int.reduceMul, Int.reduceNeg, Int.reducePow, Nat.reducePow, Int.reduceToNat,
                Nat.reduceSub, List.replicate, Nat.reduceBEq, wAs, wA, wC, zipW, noDupN, grpE, grpC, en0, dc_en0, ↓b_pick, ePk_true, ePk_false] <;> first | rfl | (simp only [Nat.add_comm]; done)); (simp only [hp]); (
        intro st2 ht hw; simp only [Kq_ret, Kb_ret, Kl_ret, ret_ok]; first | exact h0 _ hw | exact h0 _ rfl hw | exact h1 _ rfl hw | exact h0 _ ht hw | exact h1 _ ht hw | refine ⟨_, hw, ?_⟩); rotate_left; (
        intro st2 ht hw; (try simp only [ht, reduceCtorEq, Bool.not_eq_true', decide_eq_false_iff_not, Bool.not_true, Bool.not_false, Bool.false_or, Bool.true_or, Bool.true_and, Bool.false_and, Bool.and_eq_true, Bool.or_eq_true, if_true, if_false, reduceIte, Bool.false_eq_true, and_true, true_and, false_or, or_false, decide_eq_true_eq, not_false_eq_true, not_true_eq_false] at hp); simp only [
          hp, grpS, grpD, grpF, grpL, eop, vop, bop, uop, fltop, convop, endOk, newE, new1, freshL, Md.isNew, outV, pureV, pureX, pure1, AV.cells, AV.one, storable, laid, refless,
                refless1, vload, loadC, storeC, vnil, vfaddr, vextract, flatT, flatE, flatC, vconv, vmm, vidxA, viaddrA, vfield, vlen, elemsOf, dF32, dF64, dI64, dU8, dBool, dStr,
                esOk, elemsS, vsliceX, bnd, ownV, ownC, own1, ownT, isSl, nSl, endL, Md.isOwn, purge, purgeH, purgeB, purgeE, hasName, name1, List.any_cons, List.any_nil, Md.isWr,
                pureV.pureP, Option.map, reduceIte, Nat.reduceEqDiff, Nat.reduceAdd, Nat.reduceMul, Nat.reduceLT, Nat.reduceLeDiff, List.mapM_cons, List.mapM_nil, Option.pure_def,
                Option.bind_eq_bind, Option.bind_some, implies_true, forall_const, beq_self_eq_true, decide_true, decide_false, eq_self, Int.reduceEq, Int.reduceLE, Int.reduceLT,
                if_true, if_false, fc20_0, fc20_1, fc20_2, fc20_3, fc20_4, Int.reduceAdd, Int.reduceSub, Int.reduceMul, Int.reduceNeg, Int.reducePow, Nat.reducePow, Int.reduceToNat,
                Nat.reduceSub, List.replicate, Nat.reduceBEq, wAs, wA, wC, zipW, noDupN, grpE, grpC, en0, dc_en0, ↓b_pick, ePk_true, ePk_false]; refine KW_of hw ?_; simp only [ht, 
          hp, grpS, grpD, grpF, grpL, eop, vop, bop, uop, fltop, convop, endOk, newE, new1, freshL, Md.isNew, outV, pureV, pureX, pure1, AV.cells, AV.one, storable, laid, refless,
                refless1, vload, loadC, storeC, vnil, vfaddr, vextract, flatT, flatE, flatC, vconv, vmm, vidxA, viaddrA, vfield, vlen, elemsOf, dF32, dF64, dI64, dU8, dBool, dStr,
                esOk, elemsS, vsliceX, bnd, ownV, ownC, own1, ownT, isSl, nSl, endL, Md.isOwn, purge, purgeH, purgeB, purgeE, hasName, name1, List.any_cons, List.any_nil, Md.isWr,
                pureV.pureP, Option.map, reduceIte, Nat.reduceEqDiff, Nat.reduceAdd, Nat.reduceMul, Nat.reduceLT, Nat.reduceLeDiff, List.mapM_cons, List.mapM_nil, Option.pure_def,
                Option.bind_eq_bind, Option.bind_some, implies_true, forall_const, beq_self_eq_true, decide_true, decide_false, eq_self, Int.reduceEq, Int.reduceLE, Int.reduceLT,
                if_true, if_false, fc20_0, fc20_1, fc20_2, fc20_3, fc20_4, Int.reduceAdd, Int.reduceSub, Int.reduceMul, Int.reduceNeg, Int.reducePow, Nat.reducePow, Int.reduceToNat,
                Nat.reduceSub, List.replicate, Nat.reduceBEq, wAs, wA, wC, zipW, noDupN, grpE, grpC, en0, dc_en0, ↓b_pick, ePk_true, ePk_false])))
      all_goals (try simp only [*, m_impl_ValidSkeleton, Bool.and_true, Bool.true_and, Bool.and_false, Bool.false_and, Bool.or_true, Bool.true_or, Bool.or_false, Bool.false_or, Bool.not_true, Bool.not_false, Bool.false_eq_true, if_true, if_false, reduceIte, decide_true, decide_false])
      all_goals (try (simp_all; done))
    · cases h
  · cases h
def m_impl_hasBone (x0 : (List (Int × Nat × Nat × Nat))) (x1 : Int) : Bool := (if (m_impl_ValidSkeleton x0) = true then (if (decide (0 ≤ x1)) = true then (decide (x1 < ((List.length
      x0 : Nat) : Int))) else false) else false)
def p_impl_hasBone (x0 : (List (Int × Nat × Nat × Nat))) (x1 : Int) : Bool := (p_impl_ValidSkeleton x0)
def g_impl_hasBone : List AV → Option AV
  | [.agg [.sl w0], .int .i64 y1] => (match decL dc_en0 w0 with | some y0 => (if p_impl_hasBone y0 y1 = true then some (.bool (m_impl_hasBone y0 y1)) else none) | none => none)
  | _ => none
def ic66 : ICode := (.seq (.reg [⟨(some 2), none, (.box 1 (.t 0))⟩, ⟨(some 4), none, (.mov (.c (.bool false)))⟩] [1, 2]) (.seq (.reg [⟨(some 5), none, (.load (some 1) (.t 2))⟩,
      ⟨(some 6), none, (.call (.fn 20) [(.t 5)] [])⟩, ⟨(some 7), none, (.mov (.t 6))⟩, ⟨(some 8), (some (7, true)), (.mov (.t 1))⟩, ⟨(some 9), (some (7, true)), (.bin .geq false (.t
      8) (.c (.int .i64 0)))⟩, ⟨(some 10), none, (.pick (.t 7) (.t 9) (.c (.bool false)))⟩, ⟨(some 11), none, (.mov (.t 10))⟩, ⟨(some 12), (some (11, true)), (.mov (.t 1))⟩, ⟨(some
      13), (some (11, true)), (.faddr 0 (.t 2))⟩, ⟨(some 14), (some (11, true)), (.load none (.t 13))⟩, ⟨(some 15), (some (11, true)), (.len false (.t 14))⟩, ⟨(some 16), (some (11,
      true)), (.bin .lss false (.t 12) (.t 15))⟩, ⟨(some 17), none, (.pick (.t 11) (.t 16) (.c (.bool false)))⟩, ⟨(some 4), none, (.mov (.t 17))⟩] [4]) .ret))
def cp66 : CP := CP.mk [] [] [[1, 2], [4]] 18 [] []
theorem fc66_0 : IntKind.wrap .i64 0 = 0 := by decide
theorem fc66_1 : IntKind.wrap .i64 1 = 1 := by decide
theorem fc66_2 : IntKind.wrap .i64 2 = 2 := by decide
theorem fc66_3 : IntKind.wrap .i64 3 = 3 := by decide
theorem fc66_4 : IntKind.wrap .i64 4 = 4 := by decide
theorem s66 : ∀ vs r, g_impl_hasBone vs = some r → SaysM Try.prog .any 66 vs r := by
  intro vs r h
  unfold g_impl_hasBone at h
  split at h
  · rename_i w0 y1
    cases hd_y0 : decL dc_en0 w0 with
    | none => rw [hd_y0] at h; cases h
    | some y0 =>
    rw [hd_y0] at h
    obtain rfl := decL_inv dc_en0_inv hd_y0
    clear hd_y0
    dsimp only at h
    split at h
    · rename_i hp
      cases h
      refine spec_of (m := .any) (tab := tabOf [(20, wM .any g_impl_ValidSkeleton)]) (cp := cp66) (ic := ic66) (rvl := [(.t 4)]) hm (tabOk_cons (m := .any) s20 tabOk_nil) Try.func66 rfl rfl rfl (by kernel_rfl) rfl (Nat.le_of_ble_eq_true rfl) (Nat.le_of_ble_eq_true rfl) ?_
      show eA _ _ _ _
      unfold ic66
      simp only [p_impl_hasBone, Bool.and_eq_true, Bool.or_eq_true, decide_eq_true_eq, Bool.not_eq_true', decide_eq_false_iff_not] at hp
      simp only [
          hp, grpS, grpD, grpF, grpL, eop, vop, bop, uop, fltop, convop, endOk, newE, new1, freshL, Md.isNew, outV, pureV, pureX, pure1, AV.cells, AV.one, storable, laid, refless,
                refless1, vload, loadC, storeC, vnil, vfaddr, vextract, flatT, flatE, flatC, vconv, vmm, vidxA, viaddrA, vfield, vlen, elemsOf, dF32, dF64, dI64, dU8, dBool, dStr,
                esOk, elemsS, vsliceX, bnd, ownV, ownC, own1, ownT, isSl, nSl, endL, Md.isOwn, purge, purgeH, purgeB, purgeE, hasName, name1, List.any_cons, List.any_nil, Md.isWr,
                pureV.pureP, Option.map, reduceIte, Nat.reduceEqDiff, Nat.reduceAdd, Nat.reduceMul, Nat.reduceLT, Nat.reduceLeDiff, List.mapM_cons, List.mapM_nil, Option.pure_def,
                Option.bind_eq_bind, Option.bind_some, implies_true, forall_const, beq_self_eq_true, decide_true, decide_false, eq_self, Int.reduceEq, Int.reduceLE, Int.reduceLT,
                if_true, if_false, fc66_0, fc66_1, fc66_2, fc66_3, fc66_4, Int.reduceAdd, Int.reduceSub, Int.reduceMul, Int.reduceNeg, Int.reducePow, Nat.reducePow, Int.reduceToNat,
                Nat.reduceSub, List.replicate, Nat.reduceBEq, wAs, wA, wC, zipW, noDupN, grpE, g_impl_ValidSkeleton, grpC, en0, dc_en0, ↓b_pick, ePk_true, ePk_false]
      repeat' (first
        | ((first | (refine eGI_of (fun h => ?_) (fun h => ?_)) | (refine eCc_of (fun h => ?_) (fun h => ?_)) | (refine ePk_of (fun h => ?_) (fun h => ?_))) <;> (try simp only [Bool.not_eq_true', Bool.not_eq_false'] at h) <;> (try simp only [h, reduceCtorEq, Bool.not_eq_true', decide_eq_false_iff_not, Bool.not_true, Bool.not_false, Bool.false_or, Bool.true_or, Bool.true_and, Bool.false_and, Bool.and_eq_true, Bool.or_eq_true, if_true, if_false, reduceIte, Bool.false_eq_true, and_true, true_and, false_or, or_false, decide_eq_true_eq, not_false_eq_true, not_true_eq_false] at hp) <;> (try (have h2 := h; simp only [decide_eq_true_eq, decide_eq_false_iff_not] at h2; (first | (replace h2 := eq_false h2) | (replace h2 := eq_true h2)); simp only [h2, if_true, if_false, false_or, true_or, or_true, or_false, and_true, true_and, not_false_eq_true, not_true_eq_false] at hp)) <;> simp only [h,
          hp, grpS, grpD, grpF, grpL, eop, vop, bop, uop, fltop, convop, endOk, newE, new1, freshL, Md.isNew, outV, pureV, pureX, pure1, AV.cells, AV.one, storable, laid, refless,
                refless1, vload, loadC, storeC, vnil, vfaddr, vextract, flatT, flatE, flatC, vconv, vmm, vidxA, viaddrA, vfield, vlen, elemsOf, dF32, dF64, dI64, dU8, dBool, dStr,
                esOk, elemsS, vsliceX, bnd, ownV, ownC, own1, ownT, isSl, nSl, endL, Md.isOwn, purge, purgeH, purgeB, purgeE, hasName, name1, List.any_cons, List.any_nil, Md.isWr,
                pureV.pureP, Option.map, reduceIte, Nat.reduceEqDiff, Nat.reduceAdd, Nat.reduceMul, Nat.reduceLT, Nat.reduceLeDiff, List.mapM_cons, List.mapM_nil, Option.pure_def,
                Option.bind_eq_bind, Option.bind_some, implies_true, forall_const, beq_self_eq_true, decide_true, decide_false, eq_self, Int.reduceEq, Int.reduceLE, Int.reduceLT,
                if_true, if_false, fc66_0, fc66_1, fc66_2, fc66_3, fc66_4, Int.reduceAdd, Int.reduceSub, Int.reduceMul, Int.reduceNeg, Int.reducePow, Nat.reducePow, Int.reduceToNat,
                Nat.reduceSub, List.replicate, Nat.reduceBEq, wAs, wA, wC, zipW, noDupN, grpE, g_impl_ValidSkeleton, grpC, en0, dc_en0, ↓b_pick, ePk_true, ePk_false]))
      all_goals (try simp only [*, m_impl_hasBone, Bool.and_true, Bool.true_and, Bool.and_false, Bool.false_and, Bool.or_true, Bool.true_or, Bool.or_false, Bool.false_or, Bool.not_true, Bool.not_false, Bool.false_eq_true, if_true, if_false, reduceIte, decide_true, decide_false])
      all_goals (try (simp_all; done))
    · cases h
  · cases h
def l_slices_Reverse_int64_int64_0 : Nat → (List Int) → Int → Int → Option (List Int)
  | 0, _, _, _ => none
  | n + 1, z0_0, z0_1, z0_2 => (if (decide (z0_1 < z0_2)) = true then (need (inB z0_2 (List.length z0_0)) (need (inB z0_1 (List.length z0_0)) (l_slices_Reverse_int64_int64_0 n
        (List.set (List.set z0_0 (Int.toNat z0_1) (atI z0_0 z0_2)) (Int.toNat z0_2) (atI z0_0 z0_1)) (IntKind.wrap .i64 (z0_1 + 1)) (IntKind.wrap .i64 (z0_2 - 1))))) else (some
        z0_0))
def m_slices_Reverse_int64_int64 (x0 : (List Int)) : (Unit × (List Int)) := ((), (Option.getD (l_slices_Reverse_int64_int64_0 (Int.toNat ((IntKind.wrap .i64 ((((List.length x0) :
      Nat) : Int) - 1)) - 0) + 2) x0 0 (IntKind.wrap .i64 ((((List.length x0) : Nat) : Int) - 1))) default))
def p_slices_Reverse_int64_int64 (x0 : (List Int)) : Bool := ((Option.isSome (l_slices_Reverse_int64_int64_0 (Int.toNat ((IntKind.wrap .i64 ((((List.length x0) : Nat) : Int) - 1)) -
      0) + 2) x0 0 (IntKind.wrap .i64 ((((List.length x0) : Nat) : Int) - 1)))) && (decide (List.length (Option.getD (l_slices_Reverse_int64_int64_0 (Int.toNat ((IntKind.wrap .i64
      ((((List.length x0) : Nat) : Int) - 1)) - 0) + 2) x0 0 (IntKind.wrap .i64 ((((List.length x0) : Nat) : Int) - 1))) default) = List.length x0)))
def g_slices_Reverse_int64_int64 : List AV → Option (AV × Md)
  | [.sl w0] => (match decL dI64 w0 with | some y0 => (if p_slices_Reverse_int64_int64 y0 = true then some ((AV.tup []), .wr [1] [List.map (AV.int .i64) (m_slices_Reverse_int64_int64 y0).2]) else none) | none => none)
  | _ => none
def lb83_0 : ICode := (.seq (.seq (.reg [⟨(some 7), none, (.mov (.t 2))⟩, ⟨(some 8), none, (.mov (.t 3))⟩, ⟨(some 9), none, (.bin .lss false (.t 7) (.t 8))⟩] [0, 2, 3, 9]) (.cond
      (.t 9) .skip (.exit 0))) (.seq (.block 1 (.reg [⟨(some 14), none, (.mov (.t 0))⟩, ⟨(some 15), none, (.mov (.t 2))⟩, ⟨(some 16), none, (.mov (.t 0))⟩, ⟨(some 17), none, (.mov
      (.t 3))⟩, ⟨(some 18), none, (.mov (.t 0))⟩, ⟨(some 19), none, (.mov (.t 3))⟩, ⟨(some 20), none, (.iaddrS 1 (.t 18) (.t 19))⟩, ⟨(some 21), none, (.load none (.t 20))⟩, ⟨(some
      22), none, (.mov (.t 0))⟩, ⟨(some 23), none, (.mov (.t 2))⟩, ⟨(some 24), none, (.iaddrS 1 (.t 22) (.t 23))⟩, ⟨(some 25), none, (.load none (.t 24))⟩, ⟨(some 26), none,
      (.iaddrS 1 (.t 14) (.t 15))⟩, ⟨none, none, (.store 1 (.t 26) (.t 21))⟩, ⟨(some 27), none, (.iaddrS 1 (.t 16) (.t 17))⟩, ⟨none, none, (.store 1 (.t 27) (.t 25))⟩] [0, 2, 3]))
      (.reg [⟨(some 10), none, (.mov (.t 2))⟩, ⟨(some 11), none, (.bin .add false (.t 10) (.c (.int .i64 1)))⟩, ⟨(some 12), none, (.mov (.t 3))⟩, ⟨(some 13), none, (.bin .sub false
      (.t 12) (.c (.int .i64 1)))⟩, ⟨(some 2), none, (.mov (.t 11))⟩, ⟨(some 3), none, (.mov (.t 13))⟩] [0, 2, 3])))
def ic83 : ICode := (.seq (.reg [⟨(some 4), none, (.mov (.t 0))⟩, ⟨(some 5), none, (.len false (.t 4))⟩, ⟨(some 6), none, (.bin .sub false (.t 5) (.c (.int .i64 1)))⟩, ⟨(some 2),
      none, (.mov (.c (.int .i64 0)))⟩, ⟨(some 3), none, (.mov (.t 6))⟩] [0, 2, 3]) (.block 0 (.loop lb83_0)))
def cp83 : CP := CP.mk [] [] [[0, 2, 3], [0, 2, 3, 9], [0, 2, 3], [0, 2, 3]] 28 [] []
theorem fc83_0 : IntKind.wrap .i64 0 = 0 := by decide
theorem fc83_1 : IntKind.wrap .i64 1 = 1 := by decide
theorem fc83_2 : IntKind.wrap .i64 2 = 2 := by decide
theorem fc83_3 : IntKind.wrap .i64 3 = 3 := by decide
theorem fc83_4 : IntKind.wrap .i64 4 = 4 := by decide
theorem sl83_0 : ∀ (n : Nat) (z0_0 : (List Int)) (z0_1 : Int) (z0_2 : Int) (o : (List Int)) (K : IExit → St → Prop), l_slices_Reverse_int64_int64_0 n z0_0 z0_1 z0_2 = some o → (∀
      st, Wk st (⟨[(0, (.lsl 1000000 0 (List.length o)))], [(1000000, (some ⟨1, true, (List.map (AV.int .i64) o)⟩))]⟩ : St) → K (.exit 0) st) → eA (tabOf []) (.loop lb83_0) (⟨[(0,
      (.lsl 1000000 0 (List.length z0_0))), (2, (.int .i64 z0_1)), (3, (.int .i64 z0_2))], [(1000000, (some ⟨1, true, (List.map (AV.int .i64) z0_0)⟩))]⟩ : St) K := by
  intro n
  induction n with
  | zero =>
    intro z0_0 z0_1 z0_2 o K h h0
    simp only [l_slices_Reverse_int64_int64_0, reduceCtorEq] at h
  | succ n ih =>
    intro z0_0 z0_1 z0_2 o K h h0
    refine eA_loop ?_
    unfold lb83_0
    unfold l_slices_Reverse_int64_int64_0 at h
    (try simp only [need_iff] at h)
    simp only [
      need_iff, h, grpS, grpD, grpF, grpL, eop, vop, bop, uop, fltop, convop, endOk, newE, new1, freshL, Md.isNew, outV, pureV, pureX, pure1, AV.cells, AV.one, storable, laid,
            refless, refless1, vload, loadC, storeC, vnil, vfaddr, vextract, flatT, flatE, flatC, vconv, vmm, vidxA, viaddrA, vfield, vlen, elemsOf, dF32, dF64, dI64, dU8, dBool,
            dStr, esOk, elemsS, vsliceX, bnd, ownV, ownC, own1, ownT, isSl, nSl, endL, Md.isOwn, purge, purgeH, purgeB, purgeE, hasName, name1, List.any_cons, List.any_nil, Md.isWr,
            pureV.pureP, Option.map, reduceIte, Nat.reduceEqDiff, Nat.reduceAdd, Nat.reduceMul, Nat.reduceLT, Nat.reduceLeDiff, List.mapM_cons, List.mapM_nil, Option.pure_def,
            Option.bind_eq_bind, Option.bind_some, implies_true, forall_const, beq_self_eq_true, decide_true, decide_false, eq_self, Int.reduceEq, Int.reduceLE, Int.reduceLT,
            if_true, if_false, fc83_0, fc83_1, fc83_2, fc83_3, fc83_4, Int.reduceAdd, Int.reduceSub, Int.reduceMul, Int.reduceNeg, Int.reducePow, Nat.reducePow, Int.reduceToNat,
            Nat.reduceSub, List.replicate, Nat.reduceBEq, wAs, wA, wC, zipW, noDupN, grpE, grpC, en0, dc_en0]
    repeat' (first
      | ((first | (refine eGI_of (fun hc => ?_) (fun hc => ?_)) | (refine eCc_of (fun hc => ?_) (fun hc => ?_)) | (have hc := True.intro; refine KW_refl ?_)) <;> (try simp only [Bool.not_eq_true', Bool.not_eq_false'] at hc) <;> (try simp only [hc, need_iff, reduceCtorEq, Bool.not_eq_true', decide_eq_false_iff_not, Bool.not_true, Bool.not_false, Bool.false_or, Bool.true_or, Bool.true_and, Bool.false_and, Bool.and_eq_true, Bool.or_eq_true, if_true, if_false, reduceIte, Bool.false_eq_true, and_true, true_and, false_or, or_false, decide_eq_true_eq, not_false_eq_true, not_true_eq_false] at h) <;> (try (have hc2 := hc; simp only [decide_eq_true_eq, decide_eq_false_iff_not] at hc2; (first | (replace hc2 := eq_false hc2) | (replace hc2 := eq_true hc2)); simp only [hc2, if_true, if_false, need_iff, reduceCtorEq, Bool.not_eq_true', decide_eq_false_iff_not, Bool.not_true, Bool.not_false, Bool.false_or, Bool.true_or, Bool.true_and, Bool.false_and, Bool.and_eq_true, Bool.or_eq_true, if_true, if_false, reduceIte, Bool.false_eq_true, and_true, true_and, false_or, or_false, decide_eq_true_eq, not_false_eq_true, not_true_eq_false] at h)) <;> simp only [hc,
      need_iff, h, grpS, grpD, grpF, grpL, eop, vop, bop, uop, fltop, convop, endOk, newE, new1, freshL, Md.isNew, outV, pureV, pureX, pure1, AV.cells, AV.one, storable, laid,
            refless, refless1, vload, loadC, storeC, vnil, vfaddr, vextract, flatT, flatE, flatC, vconv, vmm, vidxA, viaddrA, vfield, vlen, elemsOf, dF32, dF64, dI64, dU8, dBool,
            dStr, esOk, elemsS, vsliceX, bnd, ownV, ownC, own1, ownT, isSl, nSl, endL, Md.isOwn, purge, purgeH, purgeB, purgeE, hasName, name1, List.any_cons, List.any_nil, Md.isWr,
            pureV.pureP, Option.map, reduceIte, Nat.reduceEqDiff, Nat.reduceAdd, Nat.reduceMul, Nat.reduceLT, Nat.reduceLeDiff, List.mapM_cons, List.mapM_nil, Option.pure_def,
            Option.bind_eq_bind, Option.bind_some, implies_true, forall_const, beq_self_eq_true, decide_true, decide_false, eq_self, Int.reduceEq, Int.reduceLE, Int.reduceLT,
            if_true, if_false, fc83_0, fc83_1, fc83_2, fc83_3, fc83_4, Int.reduceAdd, Int.reduceSub, Int.reduceMul, Int.reduceNeg, Int.reducePow, Nat.reducePow, Int.reduceToNat,
            Nat.reduceSub, List.replicate, Nat.reduceBEq, wAs, wA, wC, zipW, noDupN, grpE, grpC, en0, dc_en0]))
    all_goals (repeat (replace h := And.right h))
    all_goals first
      | (refine eA_wk (wk_norm (ks := [0, 2, 3]) (ls := [1000000]) ?_) (eA_cast ?_ (ih _ _ _ _ _ h h0)); (simp only [normOk, optIn, blkIn, nameIn,
      need_iff, h, grpS, grpD, grpF, grpL, eop, vop, bop, uop, fltop, convop, endOk, newE, new1, freshL, Md.isNew, outV, pureV, pureX, pure1, AV.cells, AV.one, storable, laid,
            refless, refless1, vload, loadC, storeC, vnil, vfaddr, vextract, flatT, flatE, flatC, vconv, vmm, vidxA, viaddrA, vfield, vlen, elemsOf, dF32, dF64, dI64, dU8, dBool,
            dStr, esOk, elemsS, vsliceX, bnd, ownV, ownC, own1, ownT, isSl, nSl, endL, Md.isOwn, purge, purgeH, purgeB, purgeE, hasName, name1, List.any_cons, List.any_nil, Md.isWr,
            pureV.pureP, Option.map, reduceIte, Nat.reduceEqDiff, Nat.reduceAdd, Nat.reduceMul, Nat.reduceLT, Nat.reduceLeDiff, List.mapM_cons, List.mapM_nil, Option.pure_def,
            Option.bind_eq_bind, Option.bind_some, implies_true, forall_const, beq_self_eq_true, decide_true, decide_false, eq_self, Int.reduceEq, Int.reduceLE, Int.reduceLT,
            if_true, if_false, fc83_0, fc83_1, fc83_2, fc83_3, fc83_4, Int.reduceAdd, Int.reduceSub, Int.reduceMul, Int.reduceNeg, Int.reducePow, Nat.reducePow, Int.reduceToNat,
            Nat.reduceSub, List.replicate, Nat.reduceBEq, wAs, wA, wC, zipW, noDupN, grpE, grpC, en0, dc_en0] <;> rfl); (simp only [normS, List.map_append, List.length_append, List.map_set, List.length_set, List.map_replicate, List.length_replicate, List.map_nil, List.map_cons,
      need_iff, h, grpS, grpD, grpF, grpL, eop, vop, bop, uop, fltop, convop, endOk, newE, new1, freshL, Md.isNew, outV, pureV, pureX, pure1, AV.cells, AV.one, storable, laid,
            refless, refless1, vload, loadC, storeC, vnil, vfaddr, vextract, flatT, flatE, flatC, vconv, vmm, vidxA, viaddrA, vfield, vlen, elemsOf, dF32, dF64, dI64, dU8, dBool,
            dStr, esOk, elemsS, vsliceX, bnd, ownV, ownC, own1, ownT, isSl, nSl, endL, Md.isOwn, purge, purgeH, purgeB, purgeE, hasName, name1, List.any_cons, List.any_nil, Md.isWr,
            pureV.pureP, Option.map, reduceIte, Nat.reduceEqDiff, Nat.reduceAdd, Nat.reduceMul, Nat.reduceLT, Nat.reduceLeDiff, List.mapM_cons, List.mapM_nil, Option.pure_def,
            Option.bind_eq_bind, Option.bind_some, implies_true, forall_const, beq_self_eq_true, decide_true, decide_false, eq_self, Int.reduceEq, Int.reduceLE, Int.reduceLT,
            if_true, if_false, fc83_0, fc83_1, fc83_2, fc83_3, fc83_4, Int.reduceAdd, Int.reduceSub, Int.reduceMul, Int.reduceNeg, Int.reducePow, Nat.reducePow, Int.reduceToNat,
            Nat.reduceSub, List.replicate, Nat.reduceBEq, wAs, wA, wC, zipW, noDupN, grpE, grpC, en0, dc_en0] <;> first | rfl | (simp only [Nat.add_comm]; done)))
      | (cases h; refine h0 _ (Wk.cast (wk_norm (ks := [0]) (ls := [1000000]) ?_) ?_); (simp only [normOk, optIn, blkIn, nameIn,
      grpS, grpD, grpF, grpL, eop, vop, bop, uop, fltop, convop, endOk, newE, new1, freshL, Md.isNew, outV, pureV, pureX, pure1, AV.cells, AV.one, storable, laid, refless, refless1,
            vload, loadC, storeC, vnil, vfaddr, vextract, flatT, flatE, flatC, vconv, vmm, vidxA, viaddrA, vfield, vlen, elemsOf, dF32, dF64, dI64, dU8, dBool, dStr, esOk, elemsS,
            vsliceX, bnd, ownV, ownC, own1, ownT, isSl, nSl, endL, Md.isOwn, purge, purgeH, purgeB, purgeE, hasName, name1, List.any_cons, List.any_nil, Md.isWr, pureV.pureP,
            Option.map, reduceIte, Nat.reduceEqDiff, Nat.reduceAdd, Nat.reduceMul, Nat.reduceLT, Nat.reduceLeDiff, List.mapM_cons, List.mapM_nil, Option.pure_def,
            Option.bind_eq_bind, Option.bind_some, implies_true, forall_const, beq_self_eq_true, decide_true, decide_false, eq_self, Int.reduceEq, Int.reduceLE, Int.reduceLT,
            if_true, if_false, fc83_0, fc83_1, fc83_2, fc83_3, fc83_4, Int.reduceAdd, Int.reduceSub, Int.reduceMul, Int.reduceNeg, Int.reducePow, Nat.reducePow, Int.reduceToNat,
            Nat.reduceSub, List.replicate, Nat.reduceBEq, wAs, wA, wC, zipW, noDupN, grpE, grpC, en0, dc_en0] <;> rfl); (simp only [normS, List.map_append, List.length_append, List.map_set, List.length_set, List.map_replicate, List.length_replicate,
      grpS, grpD, grpF, grpL, eop, vop, bop, uop, fltop, convop, endOk, newE, new1, freshL, Md.isNew, outV, pureV, pureX, pure1, AV.cells, AV.one, storable, laid, refless, refless1,
            vload, loadC, storeC, vnil, vfaddr, vextract, flatT, flatE, flatC, vconv, vmm, vidxA, viaddrA, vfield, vlen, elemsOf, dF32, dF64, dI64, dU8, dBool, dStr, esOk, elemsS,
            vsliceX, bnd, ownV, ownC, own1, ownT, isSl, nSl, endL, Md.isOwn, purge, purgeH, purgeB, purgeE, hasName, name1, List.any_cons, List.any_nil, Md.isWr, pureV.pureP,
            Option.map, reduceIte, Nat.reduceEqDiff, Nat.reduceAdd, Nat.reduceMul, Nat.reduceLT, Nat.reduceLeDiff, List.mapM_cons, List.mapM_nil, Option.pure_def,
            Option.bind_eq_bind, Option.bind_some, implies_true, forall_const, beq_self_eq_true, decide_true, decide_false, eq_self, Int.reduceEq, Int.reduceLE, Int.reduceLT,
            if_true, if_false, fc83_0, fc83_1, fc83_2, fc83_3, fc83_4, Int.reduceAdd, Int.reduceSub, Int.reduceMul, Int.reduceNeg, Int.reducePow, Nat.reducePow, Int.reduceToNat,
            Nat.reduceSub, List.replicate, Nat.reduceBEq, wAs, wA, wC, zipW, noDupN, grpE, grpC, en0, dc_en0] <;> first | rfl | (simp only [Nat.add_comm]; done)))
theorem s83 : ∀ vs r m, g_slices_Reverse_int64_int64 vs = some (r, m) → SaysX Try.prog m 83 vs r := by
  intro vs r m h
  unfold g_slices_Reverse_int64_int64 at h
  split at h
  · rename_i w0
    cases hd_y0 : decL dI64 w0 with
    | none => rw [hd_y0] at h; cases h
    | some y0 =>
    rw [hd_y0] at h
    obtain rfl := decL_inv dI64_inv hd_y0
    clear hd_y0
    dsimp only at h
    split at h
    · rename_i hp
      cases h
      have hz : zipW [(1000000, ⟨1, true, List.map (AV.int .i64) y0⟩)] [List.map (AV.int .i64) (m_slices_Reverse_int64_int64 y0).2] = some [(1000000, ⟨1, true, List.map (AV.int .i64) (m_slices_Reverse_int64_int64 y0).2⟩)] := by simp only [zipW, List.map_cons, List.map_nil, List.length_map, m_slices_Reverse_int64_int64, p_slices_Reverse_int64_int64, Bool.and_eq_true, decide_eq_true_eq] at hp ⊢; simp only [hp, if_true]
      refine spec_ofW (tab := tabOf []) (cp := cp83) (ic := ic83) (rvl := []) (H := [(1000000, ⟨1, true, List.map (AV.int .i64) y0⟩)]) (H' := [(1000000, ⟨1, true, List.map (AV.int .i64) (m_slices_Reverse_int64_int64 y0).2⟩)]) hm tabOk_nil Try.func83 rfl rfl rfl (by kernel_rfl) rfl (Nat.le_of_ble_eq_true rfl) (Nat.le_of_ble_eq_true rfl) (by rfl) hz (by rfl) (by rfl) (by rfl) ?_
      show eA _ _ _ _
      unfold ic83
      simp only [p_slices_Reverse_int64_int64, Bool.and_eq_true, Bool.or_eq_true, decide_eq_true_eq, Bool.not_eq_true', decide_eq_false_iff_not] at hp
      simp only [
          hp, grpS, grpD, grpF, grpL, eop, vop, bop, uop, fltop, convop, endOk, newE, new1, freshL, Md.isNew, outV, pureV, pureX, pure1, AV.cells, AV.one, storable, laid, refless,
                refless1, vload, loadC, storeC, vnil, vfaddr, vextract, flatT, flatE, flatC, vconv, vmm, vidxA, viaddrA, vfield, vlen, elemsOf, dF32, dF64, dI64, dU8, dBool, dStr,
                esOk, elemsS, vsliceX, bnd, ownV, ownC, own1, ownT, isSl, nSl, endL, Md.isOwn, purge, purgeH, purgeB, purgeE, hasName, name1, List.any_cons, List.any_nil, Md.isWr,
                pureV.pureP, Option.map, reduceIte, Nat.reduceEqDiff, Nat.reduceAdd, Nat.reduceMul, Nat.reduceLT, Nat.reduceLeDiff, List.mapM_cons, List.mapM_nil, Option.pure_def,
                Option.bind_eq_bind, Option.bind_some, implies_true, forall_const, beq_self_eq_true, decide_true, decide_false, eq_self, Int.reduceEq, Int.reduceLE, Int.reduceLT,
                if_true, if_false, fc83_0, fc83_1, fc83_2, fc83_3, fc83_4, Int.reduceAdd, Int.reduceSub, Int.reduceMul, Int.reduceNeg, Int.reducePow, Nat.reducePow, Int.reduceToNat,
                Nat.reduceSub, List.replicate, Nat.reduceBEq, wAs, wA, wC, zipW, noDupN, grpE, grpC, en0, dc_en0, startW, hpIs]
      repeat' (first
        | ((first | (refine eGI_of (fun h => ?_) (fun h => ?_)) | (refine eCc_of (fun h => ?_) (fun h => ?_)) | (have h := True.intro; refine KW_refl ?_)) <;> (try simp only [Bool.not_eq_true', Bool.not_eq_false'] at h) <;> (try simp only [h, reduceCtorEq, Bool.not_eq_true', decide_eq_false_iff_not, Bool.not_true, Bool.not_false, Bool.false_or, Bool.true_or, Bool.true_and, Bool.false_and, Bool.and_eq_true, Bool.or_eq_true, if_true, if_false, reduceIte, Bool.false_eq_true, and_true, true_and, false_or, or_false, decide_eq_true_eq, not_false_eq_true, not_true_eq_false] at hp) <;> (try (have h2 := h; simp only [decide_eq_true_eq, decide_eq_false_iff_not] at h2; (first | (replace h2 := eq_false h2) | (replace h2 := eq_true h2)); simp only [h2, if_true, if_false, false_or, true_or, or_true, or_false, and_true, true_and, not_false_eq_true, not_true_eq_false] at hp)) <;> simp only [h,
          hp, grpS, grpD, grpF, grpL, eop, vop, bop, uop, fltop, convop, endOk, newE, new1, freshL, Md.isNew, outV, pureV, pureX, pure1, AV.cells, AV.one, storable, laid, refless,
                refless1, vload, loadC, storeC, vnil, vfaddr, vextract, flatT, flatE, flatC, vconv, vmm, vidxA, viaddrA, vfield, vlen, elemsOf, dF32, dF64, dI64, dU8, dBool, dStr,
                esOk, elemsS, vsliceX, bnd, ownV, ownC, own1, ownT, isSl, nSl, endL, Md.isOwn, purge, purgeH, purgeB, purgeE, hasName, name1, List.any_cons, List.any_nil, Md.isWr,
                pureV.pureP, Option.map, reduceIte, Nat.reduceEqDiff, Nat.reduceAdd, Nat.reduceMul, Nat.reduceLT, Nat.reduceLeDiff, List.mapM_cons, List.mapM_nil, Option.pure_def,
                Option.bind_eq_bind, Option.bind_some, implies_true, forall_const, beq_self_eq_true, decide_true, decide_false, eq_self, Int.reduceEq, Int.reduceLE, Int.reduceLT,
                if_true, if_false, fc83_0, fc83_1, fc83_2, fc83_3, fc83_4, Int.reduceAdd, Int.reduceSub, Int.reduceMul, Int.reduceNeg, Int.reducePow, Nat.reducePow, Int.reduceToNat,
                Nat.reduceSub, List.replicate, Nat.reduceBEq, wAs, wA, wC, zipW, noDupN, grpE, grpC, en0, dc_en0, startW, hpIs])
        | (refine eA_wk (wk_norm (ks := [0, 2, 3]) (ls := [1000000]) ?_) (eA_cast ?_ (sl83_0 _ _ _ _ _ _ (getD_some (d := default) (x := (l_slices_Reverse_int64_int64_0 (Int.toNat ((IntKind.wrap .i64 ((((List.length y0) : Nat) : Int) - 1)) - 0) + 2) y0 0 (IntKind.wrap .i64 ((((List.length y0) : Nat) : Int) - 1)))) ?_) ?_)); (simp only [nilS, nilV, normOk, optIn, blkIn, nameIn, 
          hp, grpS, grpD, grpF, grpL, eop, vop, bop, uop, fltop, convop, endOk, newE, new1, freshL, Md.isNew, outV, pureV, pureX, pure1, AV.cells, AV.one, storable, laid, refless,
                refless1, vload, loadC, storeC, vnil, vfaddr, vextract, flatT, flatE, flatC, vconv, vmm, vidxA, viaddrA, vfield, vlen, elemsOf, dF32, dF64, dI64, dU8, dBool, dStr,
                esOk, elemsS, vsliceX, bnd, ownV, ownC, own1, ownT, isSl, nSl, endL, Md.isOwn, purge, purgeH, purgeB, purgeE, hasName, name1, List.any_cons, List.any_nil, Md.isWr,
                pureV.pureP, Option.map, reduceIte, Nat.reduceEqDiff, Nat.reduceAdd, Nat.reduceMul, Nat.reduceLT, Nat.reduceLeDiff, List.mapM_cons, List.mapM_nil, Option.pure_def,
                Option.bind_eq_bind, Option.bind_some, implies_true, forall_const, beq_self_eq_true, decide_true, decide_false, eq_self, Int.reduceEq, Int.reduceLE, Int.reduceLT,
                if_true, if_false, fc83_0, fc83_1, fc83_2, fc83_3, fc83_4, Int.reduceAdd, Int.reduceSub, Int.reduceMul, Int.reduceNeg, Int.reducePow, Nat.reducePow, Int.reduceToNat,
                Nat.reduceSub, List.replicate, Nat.reduceBEq, wAs, wA, wC, zipW, noDupN, grpE, grpC, en0, dc_en0, startW, hpIs] <;> rfl); (simp only [nilS, nilV, normS,  List.map_append, List.length_append, List.map_set, List.length_set, List.map_replicate, List.length_replicate, List.map_nil, List.map_cons,
          hp, grpS, grpD, grpF, grpL, eop, vop, bop, uop, fltop, convop, endOk, newE, new1, freshL, Md.isNew, outV, pureV, pureX, pure1, AV.cells, AV.one, storable, laid, refless,
                refless1, vload, loadC, storeC, vnil, vfaddr, vextract, flatT, flatE, flatC, vconv, vmm, vidxA, viaddrA, vfield, vlen, elemsOf, dF32, dF64, dI64, dU8, dBool, dStr,
                esOk, elemsS, vsliceX, bnd, ownV, ownC, own1, ownT, isSl, nSl, endL, Md.isOwn, purge, purgeH, purgeB, purgeE, hasName, name1, List.any_cons, List.any_nil, Md.isWr,
                pureV.pureP, Option.map, reduceIte, Nat.reduceEqDiff, Nat.reduceAdd, Nat.reduceMul, Nat.reduceLT, Nat.reduceLeDiff, List.mapM_cons, List.mapM_nil, Option.pure_def,
                Option.bind_eq_bind, Option.bind_some, implies_true, forall_const, beq_self_eq_true, decide_true, decide_false, eq_self, Int.reduceEq, Int.reduceLE, Int.reduceLT,
                if_true, if_false, fc83_0, fc83_1, fc83_2, fc83_3, fc83_4, Int.reduceAdd, Int.reduceSub, Int.reduceMul, Int.reduceNeg, Int.reducePow, Nat.reducePow, Int.reduceToNat,
                Nat.reduceSub, List.replicate, Nat.reduceBEq, wAs, wA, wC, zipW, noDupN, grpE, grpC, en0, dc_en0, startW, hpIs] <;> first | rfl | (simp only [Nat.add_comm]; done)); (simp only [hp]); (
        intro st2 hw; (try simp only [reduceCtorEq, Bool.not_eq_true', decide_eq_false_iff_not, Bool.not_true, Bool.not_false, Bool.false_or, Bool.true_or, Bool.true_and, Bool.false_and, Bool.and_eq_true, Bool.or_eq_true, if_true, if_false, reduceIte, Bool.false_eq_true, and_true, true_and, false_or, or_false, decide_eq_true_eq, not_false_eq_true, not_true_eq_false] at hp); simp only [
          hp, grpS, grpD, grpF, grpL, eop, vop, bop, uop, fltop, convop, endOk, newE, new1, freshL, Md.isNew, outV, pureV, pureX, pure1, AV.cells, AV.one, storable, laid, refless,
                refless1, vload, loadC, storeC, vnil, vfaddr, vextract, flatT, flatE, flatC, vconv, vmm, vidxA, viaddrA, vfield, vlen, elemsOf, dF32, dF64, dI64, dU8, dBool, dStr,
                esOk, elemsS, vsliceX, bnd, ownV, ownC, own1, ownT, isSl, nSl, endL, Md.isOwn, purge, purgeH, purgeB, purgeE, hasName, name1, List.any_cons, List.any_nil, Md.isWr,
                pureV.pureP, Option.map, reduceIte, Nat.reduceEqDiff, Nat.reduceAdd, Nat.reduceMul, Nat.reduceLT, Nat.reduceLeDiff, List.mapM_cons, List.mapM_nil, Option.pure_def,
                Option.bind_eq_bind, Option.bind_some, implies_true, forall_const, beq_self_eq_true, decide_true, decide_false, eq_self, Int.reduceEq, Int.reduceLE, Int.reduceLT,
                if_true, if_false, fc83_0, fc83_1, fc83_2, fc83_3, fc83_4, Int.reduceAdd, Int.reduceSub, Int.reduceMul, Int.reduceNeg, Int.reducePow, Nat.reducePow, Int.reduceToNat,
                Nat.reduceSub, List.replicate, Nat.reduceBEq, wAs, wA, wC, zipW, noDupN, grpE, grpC, en0, dc_en0, startW, hpIs]; refine KW_of hw ?_; simp only [
          hp, grpS, grpD, grpF, grpL, eop, vop, bop, uop, fltop, convop, endOk, newE, new1, freshL, Md.isNew, outV, pureV, pureX, pure1, AV.cells, AV.one, storable, laid, refless,
                refless1, vload, loadC, storeC, vnil, vfaddr, vextract, flatT, flatE, flatC, vconv, vmm, vidxA, viaddrA, vfield, vlen, elemsOf, dF32, dF64, dI64, dU8, dBool, dStr,
                esOk, elemsS, vsliceX, bnd, ownV, ownC, own1, ownT, isSl, nSl, endL, Md.isOwn, purge, purgeH, purgeB, purgeE, hasName, name1, List.any_cons, List.any_nil, Md.isWr,
                pureV.pureP, Option.map, reduceIte, Nat.reduceEqDiff, Nat.reduceAdd, Nat.reduceMul, Nat.reduceLT, Nat.reduceLeDiff, List.mapM_cons, List.mapM_nil, Option.pure_def,
                Option.bind_eq_bind, Option.bind_some, implies_true, forall_const, beq_self_eq_true, decide_true, decide_false, eq_self, Int.reduceEq, Int.reduceLE, Int.reduceLT,
                if_true, if_false, fc83_0, fc83_1, fc83_2, fc83_3, fc83_4, Int.reduceAdd, Int.reduceSub, Int.reduceMul, Int.reduceNeg, Int.reducePow, Nat.reducePow, Int.reduceToNat,
                Nat.reduceSub, List.replicate, Nat.reduceBEq, wAs, wA, wC, zipW, noDupN, grpE, grpC, en0, dc_en0, startW, hpIs])))
      all_goals (try simp only [*, m_slices_Reverse_int64_int64, Bool.and_true, Bool.true_and, Bool.and_false, Bool.false_and, Bool.or_true, Bool.true_or, Bool.or_false, Bool.false_or, Bool.not_true, Bool.not_false, Bool.false_eq_true, if_true, if_false, reduceIte, decide_true, decide_false])
      all_goals (try (simp_all; done))
    · cases h
  · cases h
def l_impl_Skeleton_chain_0 (x0 : (List (Int × Nat × Nat × Nat))) : Nat → (List Int) → Int → Option (List Int)
  | 0, _, _ => none
  | n + 1, z0_0, z0_1 => (if (decide (0 ≤ z0_1)) = true then (need (decide (((List.length z0_0) + 1) * 8 ≤ 17592186044416)) (need (decide ((List.length z0_0) + 1 ≤ 17592186044416))
        (need (inB z0_1 (List.length x0)) (l_impl_Skeleton_chain_0 x0 n (z0_0 ++ [z0_1]) (atI x0 z0_1).1)))) else (some z0_0))
def m_impl_Skeleton_chain (x0 : (List (Int × Nat × Nat × Nat))) (x1 : Int) : (List Int) := (m_slices_Reverse_int64_int64 (Option.getD (l_impl_Skeleton_chain_0 x0 (Int.toNat x1 + 2)
      [] x1) default)).2
def p_impl_Skeleton_chain (x0 : (List (Int × Nat × Nat × Nat))) (x1 : Int) : Bool := ((Option.isSome (l_impl_Skeleton_chain_0 x0 (Int.toNat x1 + 2) [] x1)) &&
      ((p_slices_Reverse_int64_int64 (Option.getD (l_impl_Skeleton_chain_0 x0 (Int.toNat x1 + 2) [] x1) default)) && (decide (List.length (m_slices_Reverse_int64_int64 (Option.getD
      (l_impl_Skeleton_chain_0 x0 (Int.toNat x1 + 2) [] x1) default)).2 = (List.length (Option.getD (l_impl_Skeleton_chain_0 x0 (Int.toNat x1 + 2) [] x1) default))))))
def g_impl_Skeleton_chain : List AV → Option AV
  | [.ptr (.agg [.sl w0]) 0, .int .i64 y1] => (match decL dc_en0 w0 with | some y0 => (if p_impl_Skeleton_chain y0 y1 = true then some (.sl (List.map (AV.int .i64) (m_impl_Skeleton_chain y0 y1))) else none) | none => none)
  | _ => none
def lb67_0 : ICode := (.seq (.seq (.reg [⟨(some 8), none, (.mov (.t 6))⟩, ⟨(some 9), none, (.bin .geq false (.t 8) (.c (.int .i64 0)))⟩] [0, 5, 6, 9]) (.cond (.t 9) .skip (.exit
      0))) (.seq (.block 1 (.reg [⟨(some 18), none, (.mov (.t 5))⟩, ⟨(some 19), none, (.mov (.t 6))⟩, ⟨(some 20), none, (.bslice 1 1 (.int .i64 0) [(0, (.t 19))])⟩, ⟨(some 21),
      none, (.append 1 8 (.t 18) (.t 20))⟩, ⟨(some 5), none, (.mov (.t 21))⟩] [0, 5, 6])) (.reg [⟨(some 10), none, (.mov (.t 0))⟩, ⟨(some 11), none, (.nilchk (.t 10))⟩, ⟨(some 12),
      none, (.faddr 0 (.t 11))⟩, ⟨(some 13), none, (.load none (.t 12))⟩, ⟨(some 14), none, (.mov (.t 6))⟩, ⟨(some 15), none, (.iaddrS 4 (.t 13) (.t 14))⟩, ⟨(some 16), none, (.faddr
      0 (.t 15))⟩, ⟨(some 17), none, (.load none (.t 16))⟩, ⟨(some 6), none, (.mov (.t 17))⟩] [0, 5, 6])))
def ic67 : ICode := (.seq (.reg [⟨(some 4), none, (.mov (.c .snil))⟩] [0, 1]) (.seq (.reg [⟨(some 5), none, (.mov (.c .snil))⟩] [0, 1, 5]) (.seq (.seq (.reg [⟨(some 7), none, (.mov
      (.t 1))⟩, ⟨(some 6), none, (.mov (.t 7))⟩] [0, 5, 6]) (.block 0 (.loop lb67_0))) (.seq (.reg [⟨(some 22), none, (.mov (.t 5))⟩, ⟨(some 23), none, (.callM 83 [(.t 22)])⟩] [5])
      (.seq (.reg [⟨(some 24), none, (.mov (.t 5))⟩, ⟨(some 4), none, (.mov (.t 24))⟩] [4]) .ret)))))
def cp67 : CP := CP.mk [] [83] [[0, 1], [0, 1, 5], [0, 5, 6], [0, 5, 6, 9], [0, 5, 6], [0, 5, 6], [5], [4]] 25 [] []
theorem fc67_0 : IntKind.wrap .i64 0 = 0 := by decide
theorem fc67_1 : IntKind.wrap .i64 1 = 1 := by decide
theorem fc67_2 : IntKind.wrap .i64 2 = 2 := by decide
theorem fc67_3 : IntKind.wrap .i64 3 = 3 := by decide
theorem fc67_4 : IntKind.wrap .i64 4 = 4 := by decide
theorem sl67_0 (x0 : (List (Int × Nat × Nat × Nat))) : ∀ (n : Nat) (z0_0 : (List Int)) (z0_1 : Int) (o : (List Int)) (K : IExit → St → Prop), l_impl_Skeleton_chain_0 x0 n z0_0 z0_1
      = some o → (∀ st, Wk st (⟨[(5, (.lsl 9005 0 (List.length o)))], [(9005, (some ⟨1, true, (List.map (AV.int .i64) o)⟩))]⟩ : St) → K (.exit 0) st) → eA (tabOf [(83,
      g_slices_Reverse_int64_int64)]) (.loop lb67_0) (⟨[(0, (.ptr (AV.agg [(.sl (List.map en0 x0))]) 0)), (5, (.lsl 9005 0 (List.length z0_0))), (6, (.int .i64 z0_1))], [(9005,
      (some ⟨1, true, (List.map (AV.int .i64) z0_0)⟩))]⟩ : St) K := by
  intro n
  induction n with
  | zero =>
    intro z0_0 z0_1 o K h h0
    simp only [l_impl_Skeleton_chain_0, reduceCtorEq] at h
  | succ n ih =>
    intro z0_0 z0_1 o K h h0
    refine eA_loop ?_
    unfold lb67_0
    unfold l_impl_Skeleton_chain_0 at h
    (try simp only [need_iff] at h)
    simp only [
      need_iff, h, grpS, grpD, grpF, grpL, eop, vop, bop, uop, fltop, convop, endOk, newE, new1, freshL, Md.isNew, outV, pureV, pureX, pure1, AV.cells, AV.one, storable, laid,
            refless, refless1, vload, loadC, storeC, vnil, vfaddr, vextract, flatT, flatE, flatC, vconv, vmm, vidxA, viaddrA, vfield, vlen, elemsOf, dF32, dF64, dI64, dU8, dBool,
            dStr, esOk, elemsS, vsliceX, bnd, ownV, ownC, own1, ownT, isSl, nSl, endL, Md.isOwn, purge, purgeH, purgeB, purgeE, hasName, name1, List.any_cons, List.any_nil, Md.isWr,
            pureV.pureP, Option.map, reduceIte, Nat.reduceEqDiff, Nat.reduceAdd, Nat.reduceMul, Nat.reduceLT, Nat.reduceLeDiff, List.mapM_cons, List.mapM_nil, Option.pure_def,
            Option.bind_eq_bind, Option.bind_some, implies_true, forall_const, beq_self_eq_true, decide_true, decide_false, eq_self, Int.reduceEq, Int.reduceLE, Int.reduceLT,
            if_true, if_false, fc67_0, fc67_1, fc67_2, fc67_3, fc67_4, Int.reduceAdd, Int.reduceSub, Int.reduceMul, Int.reduceNeg, Int.reducePow, Nat.reducePow, Int.reduceToNat,
            Nat.reduceSub, List.replicate, Nat.reduceBEq, wAs, wA, wC, zipW, noDupN, grpE, g_slices_Reverse_int64_int64, grpC, en0, dc_en0]
    repeat' (first
      | ((first | (refine eGI_of (fun hc => ?_) (fun hc => ?_)) | (refine eCc_of (fun hc => ?_) (fun hc => ?_)) | (have hc := True.intro; refine KW_refl ?_)) <;> (try simp only [Bool.not_eq_true', Bool.not_eq_false'] at hc) <;> (try simp only [hc, need_iff, reduceCtorEq, Bool.not_eq_true', decide_eq_false_iff_not, Bool.not_true, Bool.not_false, Bool.false_or, Bool.true_or, Bool.true_and, Bool.false_and, Bool.and_eq_true, Bool.or_eq_true, if_true, if_false, reduceIte, Bool.false_eq_true, and_true, true_and, false_or, or_false, decide_eq_true_eq, not_false_eq_true, not_true_eq_false] at h) <;> (try (have hc2 := hc; simp only [decide_eq_true_eq, decide_eq_false_iff_not] at hc2; (first | (replace hc2 := eq_false hc2) | (replace hc2 := eq_true hc2)); simp only [hc2, if_true, if_false, need_iff, reduceCtorEq, Bool.not_eq_true', decide_eq_false_iff_not, Bool.not_true, Bool.not_false, Bool.false_or, Bool.true_or, Bool.true_and, Bool.false_and, Bool.and_eq_true, Bool.or_eq_true, if_true, if_false, reduceIte, Bool.false_eq_true, and_true, true_and, false_or, or_false, decide_eq_true_eq, not_false_eq_true, not_true_eq_false] at h)) <;> simp only [hc,
      need_iff, h, grpS, grpD, grpF, grpL, eop, vop, bop, uop, fltop, convop, endOk, newE, new1, freshL, Md.isNew, outV, pureV, pureX, pure1, AV.cells, AV.one, storable, laid,
            refless, refless1, vload, loadC, storeC, vnil, vfaddr, vextract, flatT, flatE, flatC, vconv, vmm, vidxA, viaddrA, vfield, vlen, elemsOf, dF32, dF64, dI64, dU8, dBool,
            dStr, esOk, elemsS, vsliceX, bnd, ownV, ownC, own1, ownT, isSl, nSl, endL, Md.isOwn, purge, purgeH, purgeB, purgeE, hasName, name1, List.any_cons, List.any_nil, Md.isWr,
            pureV.pureP, Option.map, reduceIte, Nat.reduceEqDiff, Nat.reduceAdd, Nat.reduceMul, Nat.reduceLT, Nat.reduceLeDiff, List.mapM_cons, List.mapM_nil, Option.pure_def,
            Option.bind_eq_bind, Option.bind_some, implies_true, forall_const, beq_self_eq_true, decide_true, decide_false, eq_self, Int.reduceEq, Int.reduceLE, Int.reduceLT,
            if_true, if_false, fc67_0, fc67_1, fc67_2, fc67_3, fc67_4, Int.reduceAdd, Int.reduceSub, Int.reduceMul, Int.reduceNeg, Int.reducePow, Nat.reducePow, Int.reduceToNat,
            Nat.reduceSub, List.replicate, Nat.reduceBEq, wAs, wA, wC, zipW, noDupN, grpE, g_slices_Reverse_int64_int64, grpC, en0, dc_en0]))
    all_goals (repeat (replace h := And.right h))
    all_goals first
      | (refine eA_wk (wk_norm (ks := [0, 5, 6]) (ls := [9005]) ?_) (eA_cast ?_ (ih _ _ _ _ h h0)); (simp only [normOk, optIn, blkIn, nameIn,
      need_iff, h, grpS, grpD, grpF, grpL, eop, vop, bop, uop, fltop, convop, endOk, newE, new1, freshL, Md.isNew, outV, pureV, pureX, pure1, AV.cells, AV.one, storable, laid,
            refless, refless1, vload, loadC, storeC, vnil, vfaddr, vextract, flatT, flatE, flatC, vconv, vmm, vidxA, viaddrA, vfield, vlen, elemsOf, dF32, dF64, dI64, dU8, dBool,
            dStr, esOk, elemsS, vsliceX, bnd, ownV, ownC, own1, ownT, isSl, nSl, endL, Md.isOwn, purge, purgeH, purgeB, purgeE, hasName, name1, List.any_cons, List.any_nil, Md.isWr,
            pureV.pureP, Option.map, reduceIte, Nat.reduceEqDiff, Nat.reduceAdd, Nat.reduceMul, Nat.reduceLT, Nat.reduceLeDiff, List.mapM_cons, List.mapM_nil, Option.pure_def,
            Option.bind_eq_bind, Option.bind_some, implies_true, forall_const, beq_self_eq_true, decide_true, decide_false, eq_self, Int.reduceEq, Int.reduceLE, Int.reduceLT,
            if_true, if_false, fc67_0, fc67_1, fc67_2, fc67_3, fc67_4, Int.reduceAdd, Int.reduceSub, Int.reduceMul, Int.reduceNeg, Int.reducePow, Nat.reducePow, Int.reduceToNat,
            Nat.reduceSub, List.replicate, Nat.reduceBEq, wAs, wA, wC, zipW, noDupN, grpE, g_slices_Reverse_int64_int64, grpC, en0, dc_en0] <;> rfl); (simp only [normS, List.map_append, List.length_append, List.map_set, List.length_set, List.map_replicate, List.length_replicate, List.map_nil, List.map_cons,
      need_iff, h, grpS, grpD, grpF, grpL, eop, vop, bop, uop, fltop, convop, endOk, newE, new1, freshL, Md.isNew, outV, pureV, pureX, pure1, AV.cells, AV.one, storable, laid,
            refless, refless1, vload, loadC, storeC, vnil, vfaddr, vextract, flatT, flatE, flatC, vconv, vmm, vidxA, viaddrA, vfield, vlen, elemsOf, dF32, dF64, dI64, dU8, dBool,
            dStr, esOk, elemsS, vsliceX, bnd, ownV, ownC, own1, ownT, isSl, nSl, endL, Md.isOwn, purge, purgeH, purgeB, purgeE, hasName, name1, List.any_cons, List.any_nil, Md.isWr,
            pureV.pureP, Option.map, reduceIte, Nat.reduceEqDiff, Nat.reduceAdd, Nat.reduceMul, Nat.reduceLT, Nat.reduceLeDiff, List.mapM_cons, List.mapM_nil, Option.pure_def,
            Option.bind_eq_bind, Option.bind_some, implies_true, forall_const, beq_self_eq_true, decide_true, decide_false, eq_self, Int.reduceEq, Int.reduceLE, Int.reduceLT,
            if_true, if_false, fc67_0, fc67_1, fc67_2, fc67_3, fc67_4, Int.reduceAdd, Int.reduceSub, Int.reduceMul, Int.reduceNeg, Int.reducePow, Nat.reducePow, Int.reduceToNat,
            Nat.reduceSub, List.replicate, Nat.reduceBEq, wAs, wA, wC, zipW, noDupN, grpE, g_slices_Reverse_int64_int64, grpC, en0, dc_en0] <;> first | rfl | (simp only [Nat.add_comm]; done)))
      | (cases h; refine h0 _ (Wk.cast (wk_norm (ks := [5]) (ls := [9005]) ?_) ?_); (simp only [normOk, optIn, blkIn, nameIn,
      grpS, grpD, grpF, grpL, eop, vop, bop, uop, fltop, convop, endOk, newE, new1, freshL, Md.isNew, outV, pureV, pureX, pure1, AV.cells, AV.one, storable, laid, refless, refless1,
            vload, loadC, storeC, vnil, vfaddr, vextract, flatT, flatE, flatC, vconv, vmm, vidxA, viaddrA, vfield, vlen, elemsOf, dF32, dF64, dI64, dU8, dBool, dStr, esOk, elemsS,
            vsliceX, bnd, ownV, ownC, own1, ownT, isSl, nSl, endL, Md.isOwn, purge, purgeH, purgeB, purgeE, hasName, name1, List.any_cons, List.any_nil, Md.isWr, pureV.pureP,
            Option.map, reduceIte, Nat.reduceEqDiff, Nat.reduceAdd, Nat.reduceMul, Nat.reduceLT, Nat.reduceLeDiff, List.mapM_cons, List.mapM_nil, Option.pure_def,
            Option.bind_eq_bind, Option.bind_some, implies_true, forall_const, beq_self_eq_true, decide_true, decide_false, eq_self, Int.reduceEq, Int.reduceLE, Int.reduceLT,
            if_true, if_false, fc67_0, fc67_1, fc67_2, fc67_3, fc67_4, Int.reduceAdd, Int.reduceSub, Int.reduceMul, Int.reduceNeg, Int.reducePow, Nat.reducePow, Int.reduceToNat,
            Nat.reduceSub, List.replicate, Nat.reduceBEq, wAs, wA, wC, zipW, noDupN, grpE, g_slices_Reverse_int64_int64, grpC, en0, dc_en0] <;> rfl); (simp only [normS, List.map_append, List.length_append, List.map_set, List.length_set, List.map_replicate, List.length_replicate,
      grpS, grpD, grpF, grpL, eop, vop, bop, uop, fltop, convop, endOk, newE, new1, freshL, Md.isNew, outV, pureV, pureX, pure1, AV.cells, AV.one, storable, laid, refless, refless1,
            vload, loadC, storeC, vnil, vfaddr, vextract, flatT, flatE, flatC, vconv, vmm, vidxA, viaddrA, vfield, vlen, elemsOf, dF32, dF64, dI64, dU8, dBool, dStr, esOk, elemsS,
            vsliceX, bnd, ownV, ownC, own1, ownT, isSl, nSl, endL, Md.isOwn, purge, purgeH, purgeB, purgeE, hasName, name1, List.any_cons, List.any_nil, Md.isWr, pureV.pureP,
            Option.map, reduceIte, Nat.reduceEqDiff, Nat.reduceAdd, Nat.reduceMul, Nat.reduceLT, Nat.reduceLeDiff, List.mapM_cons, List.mapM_nil, Option.pure_def,
            Option.bind_eq_bind, Option.bind_some, implies_true, forall_const, beq_self_eq_true, decide_true, decide_false, eq_self, Int.reduceEq, Int.reduceLE, Int.reduceLT,
            if_true, if_false, fc67_0, fc67_1, fc67_2, fc67_3, fc67_4, Int.reduceAdd, Int.reduceSub, Int.reduceMul, Int.reduceNeg, Int.reducePow, Nat.reducePow, Int.reduceToNat,
            Nat.reduceSub, List.replicate, Nat.reduceBEq, wAs, wA, wC, zipW, noDupN, grpE, g_slices_Reverse_int64_int64, grpC, en0, dc_en0] <;> first | rfl | (simp only [Nat.add_comm]; done)))
theorem s67 : ∀ vs r, g_impl_Skeleton_chain vs = some r → SaysM Try.prog (.own [1]) 67 vs r := by
  intro vs r h
  unfold g_impl_Skeleton_chain at h
  split at h
  · rename_i w0 y1
    cases hd_y0 : decL dc_en0 w0 with
    | none => rw [hd_y0] at h; cases h
    | some y0 =>
    rw [hd_y0] at h
    obtain rfl := decL_inv dc_en0_inv hd_y0
    clear hd_y0
    dsimp only at h
    split at h
    · rename_i hp
      cases h
      refine spec_of (m := (.own [1])) (tab := tabOf [(83, g_slices_Reverse_int64_int64)]) (cp := cp67) (ic := ic67) (rvl := [(.t 4)]) hm (tabOk_consW s83 tabOk_nil) Try.func67 rfl rfl rfl (by kernel_rfl) rfl (Nat.le_of_ble_eq_true rfl) (Nat.le_of_ble_eq_true rfl) ?_
      show eA _ _ _ _
      unfold ic67
      simp only [p_impl_Skeleton_chain, Bool.and_eq_true, Bool.or_eq_true, decide_eq_true_eq, Bool.not_eq_true', decide_eq_false_iff_not] at hp
      simp only [
          hp, grpS, grpD, grpF, grpL, eop, vop, bop, uop, fltop, convop, endOk, newE, new1, freshL, Md.isNew, outV, pureV, pureX, pure1, AV.cells, AV.one, storable, laid, refless,
                refless1, vload, loadC, storeC, vnil, vfaddr, vextract, flatT, flatE, flatC, vconv, vmm, vidxA, viaddrA, vfield, vlen, elemsOf, dF32, dF64, dI64, dU8, dBool, dStr,
                esOk, elemsS, vsliceX, bnd, ownV, ownC, own1, ownT, isSl, nSl, endL, Md.isOwn, purge, purgeH, purgeB, purgeE, hasName, name1, List.any_cons, List.any_nil, Md.isWr,
                pureV.pureP, Option.map, reduceIte, Nat.reduceEqDiff, Nat.reduceAdd, Nat.reduceMul, Nat.reduceLT, Nat.reduceLeDiff, List.mapM_cons, List.mapM_nil, Option.pure_def,
                Option.bind_eq_bind, Option.bind_some, implies_true, forall_const, beq_self_eq_true, decide_true, decide_false, eq_self, Int.reduceEq, Int.reduceLE, Int.reduceLT,
                if_true, if_false, fc67_0, fc67_1, fc67_2, fc67_3, fc67_4, Int.reduceAdd, Int.reduceSub, Int.reduceMul, Int.reduceNeg, Int.reducePow, Nat.reducePow, Int.reduceToNat,
                Nat.reduceSub, List.replicate, Nat.reduceBEq, wAs, wA, wC, zipW, noDupN, grpE, g_slices_Reverse_int64_int64, grpC, en0, dc_en0]
      repeat' (first
        | ((first | (refine eGI_of (fun h => ?_) (fun h => ?_)) | (refine eCc_of (fun h => ?_) (fun h => ?_)) | (have h := True.intro; refine KW_refl ?_)) <;> (try simp only [Bool.not_eq_true', Bool.not_eq_false'] at h) <;> (try simp only [h, reduceCtorEq, Bool.not_eq_true', decide_eq_false_iff_not, Bool.not_true, Bool.not_false, Bool.false_or, Bool.true_or, Bool.true_and, Bool.false_and, Bool.and_eq_true, Bool.or_eq_true, if_true, if_false, reduceIte, Bool.false_eq_true, and_true, true_and, false_or, or_false, decide_eq_true_eq, not_false_eq_true, not_true_eq_false] at hp) <;> (try (have h2 := h; simp only [decide_eq_true_eq, decide_eq_false_iff_not] at h2; (first | (replace h2 := eq_false h2) | (replace h2 := eq_true h2)); simp only [h2, if_true, if_false, false_or, true_or, or_true, or_false, and_true, true_and, not_false_eq_true, not_true_eq_false] at hp)) <;> simp only [h,
          hp, grpS, grpD, grpF, grpL, eop, vop, bop, uop, fltop, convop, endOk, newE, new1, freshL, Md.isNew, outV, pureV, pureX, pure1, AV.cells, AV.one, storable, laid, refless,
                refless1, vload, loadC, storeC, vnil, vfaddr, vextract, flatT, flatE, flatC, vconv, vmm, vidxA, viaddrA, vfield, vlen, elemsOf, dF32, dF64, dI64, dU8, dBool, dStr,
                esOk, elemsS, vsliceX, bnd, ownV, ownC, own1, ownT, isSl, nSl, endL, Md.isOwn, purge, purgeH, purgeB, purgeE, hasName, name1, List.any_cons, List.any_nil, Md.isWr,
                pureV.pureP, Option.map, reduceIte, Nat.reduceEqDiff, Nat.reduceAdd, Nat.reduceMul, Nat.reduceLT, Nat.reduceLeDiff, List.mapM_cons, List.mapM_nil, Option.pure_def,
                Option.bind_eq_bind, Option.bind_some, implies_true, forall_const, beq_self_eq_true, decide_true, decide_false, eq_self, Int.reduceEq, Int.reduceLE, Int.reduceLT,
                if_true, if_false, fc67_0, fc67_1, fc67_2, fc67_3, fc67_4, Int.reduceAdd, Int.reduceSub, Int.reduceMul, Int.reduceNeg, Int.reducePow, Nat.reducePow, Int.reduceToNat,
                Nat.reduceSub, List.replicate, Nat.reduceBEq, wAs, wA, wC, zipW, noDupN, grpE, g_slices_Reverse_int64_int64, grpC, en0, dc_en0])
        | (refine eA_wk ((wk_nil (t := 5) (i := none) (l := 9005) (es := 1) ?_).trans (wk_norm (ks := [0, 5, 6]) (ls := [9005]) ?_)) (eA_cast ?_ (sl67_0 y0 _ _ _ _ _ (getD_some (d := default) (x := (l_impl_Skeleton_chain_0 y0 (Int.toNat y1 + 2) [] y1)) ?_) ?_)); (simp only [nilS, nilV, normOk, optIn, blkIn, nameIn, 
          hp, grpS, grpD, grpF, grpL, eop, vop, bop, uop, fltop, convop, endOk, newE, new1, freshL, Md.isNew, outV, pureV, pureX, pure1, AV.cells, AV.one, storable, laid, refless,
                refless1, vload, loadC, storeC, vnil, vfaddr, vextract, flatT, flatE, flatC, vconv, vmm, vidxA, viaddrA, vfield, vlen, elemsOf, dF32, dF64, dI64, dU8, dBool, dStr,
                esOk, elemsS, vsliceX, bnd, ownV, ownC, own1, ownT, isSl, nSl, endL, Md.isOwn, purge, purgeH, purgeB, purgeE, hasName, name1, List.any_cons, List.any_nil, Md.isWr,
                pureV.pureP, Option.map, reduceIte, Nat.reduceEqDiff, Nat.reduceAdd, Nat.reduceMul, Nat.reduceLT, Nat.reduceLeDiff, List.mapM_cons, List.mapM_nil, Option.pure_def,
                Option.bind_eq_bind, Option.bind_some, implies_true, forall_const, beq_self_eq_true, decide_true, decide_false, eq_self, Int.reduceEq, Int.reduceLE, Int.reduceLT,
                if_true, if_false, fc67_0, fc67_1, fc67_2, fc67_3, fc67_4, Int.reduceAdd, Int.reduceSub, Int.reduceMul, Int.reduceNeg, Int.reducePow, Nat.reducePow, Int.reduceToNat,
                Nat.reduceSub, List.replicate, Nat.reduceBEq, wAs, wA, wC, zipW, noDupN, grpE, g_slices_Reverse_int64_int64, grpC, en0, dc_en0] <;> rfl); (simp only [nilS, nilV, normOk, optIn, blkIn, nameIn, 
          hp, grpS, grpD, grpF, grpL, eop, vop, bop, uop, fltop, convop, endOk, newE, new1, freshL, Md.isNew, outV, pureV, pureX, pure1, AV.cells, AV.one, storable, laid, refless,
                refless1, vload, loadC, storeC, vnil, vfaddr, vextract, flatT, flatE, flatC, vconv, vmm, vidxA, viaddrA, vfield, vlen, elemsOf, dF32, dF64, dI64, dU8, dBool, dStr,
                esOk, elemsS, vsliceX, bnd, ownV, ownC, own1, ownT, isSl, nSl, endL, Md.isOwn, purge, purgeH, purgeB, purgeE, hasName, name1, List.any_cons, List.any_nil, Md.isWr,
                pureV.pureP, Option.map, reduceIte, Nat.reduceEqDiff, Nat.reduceAdd, Nat.reduceMul, Nat.reduceLT, Nat.reduceLeDiff, List.mapM_cons, List.mapM_nil, Option.pure_def,
                Option.bind_eq_bind, Option.bind_some, implies_true, forall_const, beq_self_eq_true, decide_true, decide_false, eq_self, Int.reduceEq, Int.reduceLE, Int.reduceLT,
                if_true, if_false, fc67_0, fc67_1, fc67_2, fc67_3, fc67_4, Int.reduceAdd, Int.reduceSub, Int.reduceMul, Int.reduceNeg, Int.reducePow, Nat.reducePow, Int.reduceToNat,
                Nat.reduceSub, List.replicate, Nat.reduceBEq, wAs, wA, wC, zipW, noDupN, grpE, g_slices_Reverse_int64_int64, grpC, en0, dc_en0] <;> rfl); (simp only [nilS, nilV, normS,  List.map_append, List.length_append, List.map_set, List.length_set, List.map_replicate, List.length_replicate, List.map_nil, List.map_cons,
          hp, grpS, grpD, grpF, grpL, eop, vop, bop, uop, fltop, convop, endOk, newE, new1, freshL, Md.isNew, outV, pureV, pureX, pure1, AV.cells, AV.one, storable, laid, refless,
                refless1, vload, loadC, storeC, vnil, vfaddr, vextract, flatT, flatE, flatC, vconv, vmm, vidxA, viaddrA, vfield, vlen, elemsOf, dF32, dF64, dI64, dU8, dBool, dStr,
                esOk, elemsS, vsliceX, bnd, ownV, ownC, own1, ownT, isSl, nSl, endL, Md.isOwn, purge, purgeH, purgeB, purgeE, hasName, name1, List.any_cons, List.any_nil, Md.isWr,
                pureV.pureP, Option.map, reduceIte, Nat.reduceEqDiff, Nat.reduceAdd, Nat.reduceMul, Nat.reduceLT, Nat.reduceLeDiff, List.mapM_cons, List.mapM_nil, Option.pure_def,
                Option.bind_eq_bind, Option.bind_some, implies_true, forall_const, beq_self_eq_true, decide_true, decide_false, eq_self, Int.reduceEq, Int.reduceLE, Int.reduceLT,
                if_true, if_false, fc67_0, fc67_1, fc67_2, fc67_3, fc67_4, Int.reduceAdd, Int.reduceSub, Int.reduceMul, Int.reduceNeg, Int.reducePow, Nat.reducePow, Int.reduceToNat,
                Nat.reduceSub, List.replicate, Nat.reduceBEq, wAs, wA, wC, zipW, noDupN, grpE, g_slices_Reverse_int64_int64, grpC, en0, dc_en0] <;> first | rfl | (simp only [Nat.add_comm]; done)); (simp only [hp]); (
        intro st2 hw; (try simp only [reduceCtorEq, Bool.not_eq_true', decide_eq_false_iff_not, Bool.not_true, Bool.not_false, Bool.false_or, Bool.true_or, Bool.true_and, Bool.false_and, Bool.and_eq_true, Bool.or_eq_true, if_true, if_false, reduceIte, Bool.false_eq_true, and_true, true_and, false_or, or_false, decide_eq_true_eq, not_false_eq_true, not_true_eq_false] at hp); simp only [
          hp, grpS, grpD, grpF, grpL, eop, vop, bop, uop, fltop, convop, endOk, newE, new1, freshL, Md.isNew, outV, pureV, pureX, pure1, AV.cells, AV.one, storable, laid, refless,
                refless1, vload, loadC, storeC, vnil, vfaddr, vextract, flatT, flatE, flatC, vconv, vmm, vidxA, viaddrA, vfield, vlen, elemsOf, dF32, dF64, dI64, dU8, dBool, dStr,
                esOk, elemsS, vsliceX, bnd, ownV, ownC, own1, ownT, isSl, nSl, endL, Md.isOwn, purge, purgeH, purgeB, purgeE, hasName, name1, List.any_cons, List.any_nil, Md.isWr,
                pureV.pureP, Option.map, reduceIte, Nat.reduceEqDiff, Nat.reduceAdd, Nat.reduceMul, Nat.reduceLT, Nat.reduceLeDiff, List.mapM_cons, List.mapM_nil, Option.pure_def,
                Option.bind_eq_bind, Option.bind_some, implies_true, forall_const, beq_self_eq_true, decide_true, decide_false, eq_self, Int.reduceEq, Int.reduceLE, Int.reduceLT,
                if_true, if_false, fc67_0, fc67_1, fc67_2, fc67_3, fc67_4, Int.reduceAdd, Int.reduceSub, Int.reduceMul, Int.reduceNeg, Int.reducePow, Nat.reducePow, Int.reduceToNat,
                Nat.reduceSub, List.replicate, Nat.reduceBEq, wAs, wA, wC, zipW, noDupN, grpE, g_slices_Reverse_int64_int64, grpC, en0, dc_en0]; refine KW_of hw ?_; simp only [
          hp, grpS, grpD, grpF, grpL, eop, vop, bop, uop, fltop, convop, endOk, newE, new1, freshL, Md.isNew, outV, pureV, pureX, pure1, AV.cells, AV.one, storable, laid, refless,
                refless1, vload, loadC, storeC, vnil, vfaddr, vextract, flatT, flatE, flatC, vconv, vmm, vidxA, viaddrA, vfield, vlen, elemsOf, dF32, dF64, dI64, dU8, dBool, dStr,
                esOk, elemsS, vsliceX, bnd, ownV, ownC, own1, ownT, isSl, nSl, endL, Md.isOwn, purge, purgeH, purgeB, purgeE, hasName, name1, List.any_cons, List.any_nil, Md.isWr,
                pureV.pureP, Option.map, reduceIte, Nat.reduceEqDiff, Nat.reduceAdd, Nat.reduceMul, Nat.reduceLT, Nat.reduceLeDiff, List.mapM_cons, List.mapM_nil, Option.pure_def,
                Option.bind_eq_bind, Option.bind_some, implies_true, forall_const, beq_self_eq_true, decide_true, decide_false, eq_self, Int.reduceEq, Int.reduceLE, Int.reduceLT,
                if_true, if_false, fc67_0, fc67_1, fc67_2, fc67_3, fc67_4, Int.reduceAdd, Int.reduceSub, Int.reduceMul, Int.reduceNeg, Int.reducePow, Nat.reducePow, Int.reduceToNat,
                Nat.reduceSub, List.replicate, Nat.reduceBEq, wAs, wA, wC, zipW, noDupN, grpE, g_slices_Reverse_int64_int64, grpC, en0, dc_en0])))
      all_goals (try simp only [*, m_impl_Skeleton_chain, Bool.and_true, Bool.true_and, Bool.and_false, Bool.false_and, Bool.or_true, Bool.true_or, Bool.or_false, Bool.false_or, Bool.not_true, Bool.not_false, Bool.false_eq_true, if_true, if_false, reduceIte, decide_true, decide_false])
      all_goals (try (simp_all; done))
    · cases h
  · cases h
def l_slices_Index_int64_int64_0 (x0 : (List Int)) (x1 : Int) : Nat → Int → Option (Bool × Int × Unit)
  | 0, _ => none
  | n + 1, z0_0 => (if (decide (z0_0 < ((List.length x0 : Nat) : Int))) = true then (need (inB z0_0 (List.length x0)) (if (decide (x1 = (atI x0 z0_0))) = true then (some (true,
        z0_0, default)) else (l_slices_Index_int64_int64_0 x0 x1 n (IntKind.wrap .i64 (z0_0 + 1))))) else (some (false, default, ())))
def m_slices_Index_int64_int64 (x0 : (List Int)) (x1 : Int) : Int := (if (Option.getD (l_slices_Index_int64_int64_0 x0 x1 (Int.toNat (((List.length x0 : Nat) : Int) - 0) + 2) 0)
      default).1 = true then (Option.getD (l_slices_Index_int64_int64_0 x0 x1 (Int.toNat (((List.length x0 : Nat) : Int) - 0) + 2) 0) default).2.1 else (-1))
def p_slices_Index_int64_int64 (x0 : (List Int)) (x1 : Int) : Bool := (Option.isSome (l_slices_Index_int64_int64_0 x0 x1 (Int.toNat (((List.length x0 : Nat) : Int) - 0) + 2) 0))
def g_slices_Index_int64_int64 : List AV → Option AV
  | [.sl w0, .int .i64 y1] => (match decL dI64 w0 with | some y0 => (if p_slices_Index_int64_int64 y0 y1 = true then some (.int .i64 (m_slices_Index_int64_int64 y0 y1)) else none) | none => none)
  | _ => none
def lb84_0 : ICode := (.seq (.reg [⟨(some 9), none, (.bin .lss false (.t 8) (.t 7))⟩] [0, 1, 7, 8, 9]) (.seq (.cond (.t 9) .skip (.exit 0)) (.seq (.block 1 (.seq (.reg [⟨(some 10),
      none, (.mov (.t 8))⟩, ⟨(some 5), none, (.mov (.t 10))⟩] [0, 1, 5, 7, 8]) (.seq (.reg [⟨(some 11), none, (.mov (.t 1))⟩, ⟨(some 12), none, (.mov (.t 0))⟩, ⟨(some 13), none,
      (.mov (.t 5))⟩, ⟨(some 14), none, (.iaddrS 1 (.t 12) (.t 13))⟩, ⟨(some 15), none, (.load none (.t 14))⟩, ⟨(some 16), none, (.bin .eql false (.t 11) (.t 15))⟩] [0, 1, 5, 7, 8,
      16]) (.cond (.t 16) (.seq (.reg [⟨(some 17), none, (.mov (.t 5))⟩, ⟨(some 4), none, (.mov (.t 17))⟩] [4]) .ret) .skip)))) (.reg [⟨(some 18), none, (.bin .add false (.t 8) (.c
      (.int .i64 1)))⟩, ⟨(some 8), none, (.mov (.t 18))⟩] [0, 1, 7, 8]))))
def ic84 : ICode := (.seq (.reg [⟨(some 4), none, (.mov (.c (.int .i64 0)))⟩] [0, 1]) (.seq (.seq (.reg [⟨(some 6), none, (.mov (.t 0))⟩, ⟨(some 7), none, (.len false (.t 6))⟩,
      ⟨(some 8), none, (.mov (.c (.int .i64 0)))⟩] [0, 1, 7, 8]) (.block 0 (.loop lb84_0))) (.seq (.reg [⟨(some 4), none, (.mov (.c (.int .i64 (-1))))⟩] [4]) .ret)))
def cp84 : CP := CP.mk [] [] [[0, 1], [0, 1, 7, 8], [0, 1, 7, 8, 9], [0, 1, 5, 7, 8], [0, 1, 5, 7, 8, 16], [4], [0, 1, 7, 8], [4]] 19 [] []
theorem fc84_0 : IntKind.wrap .i64 0 = 0 := by decide
theorem fc84_1 : IntKind.wrap .i64 1 = 1 := by decide
theorem fc84_2 : IntKind.wrap .i64 2 = 2 := by decide
theorem fc84_3 : IntKind.wrap .i64 3 = 3 := by decide
theorem fc84_4 : IntKind.wrap .i64 4 = 4 := by decide
theorem sl84_0 (x0 : (List Int)) (x1 : Int) : ∀ (n : Nat) (z0_0 : Int) (o : (Bool × Int × Unit)) (K : IExit → St → Prop), l_slices_Index_int64_int64_0 x0 x1 n z0_0 = some o → (∀ st,
      o.1 = true → outM .any st [(.t 4)] = some (.int .i64 o.2.1) → K .ret st) → (∀ st, o.1 = false → Wk st (⟨[], []⟩ : St) → K (.exit 0) st) → eA (tabOf []) (.loop lb84_0) (⟨[(0,
      (.sl (List.map (AV.int .i64) x0))), (1, (.int .i64 x1)), (7, (.int .i64 ((List.length x0 : Nat) : Int))), (8, (.int .i64 z0_0))], []⟩ : St) K := by
  intro n
  induction n with
  | zero =>
    intro z0_0 o K h h0 h1
    simp only [l_slices_Index_int64_int64_0, reduceCtorEq] at h
  | succ n ih =>
    intro z0_0 o K h h0 h1
    refine eA_loop ?_
    unfold lb84_0
    unfold l_slices_Index_int64_int64_0 at h
    (try simp only [need_iff] at h)
    simp only [
      need_iff, h, grpS, grpD, grpF, grpL, eop, vop, bop, uop, fltop, convop, endOk, newE, new1, freshL, Md.isNew, outV, pureV, pureX, pure1, AV.cells, AV.one, storable, laid,
            refless, refless1, vload, loadC, storeC, vnil, vfaddr, vextract, flatT, flatE, flatC, vconv, vmm, vidxA, viaddrA, vfield, vlen, elemsOf, dF32, dF64, dI64, dU8, dBool,
            dStr, esOk, elemsS, vsliceX, bnd, ownV, ownC, own1, ownT, isSl, nSl, endL, Md.isOwn, purge, purgeH, purgeB, purgeE, hasName, name1, List.any_cons, List.any_nil, Md.isWr,
            pureV.pureP, Option.map, reduceIte, Nat.reduceEqDiff, Nat.reduceAdd, Nat.reduceMul, Nat.reduceLT, Nat.reduceLeDiff, List.mapM_cons, List.mapM_nil, Option.pure_def,
            Option.bind_eq_bind, Option.bind_some, implies_true, forall_const, beq_self_eq_true, decide_true, decide_false, eq_self, Int.reduceEq, Int.reduceLE, Int.reduceLT,
            if_true, if_false, fc84_0, fc84_1, fc84_2, fc84_3, fc84_4, Int.reduceAdd, Int.reduceSub, Int.reduceMul, Int.reduceNeg, Int.reducePow, Nat.reducePow, Int.reduceToNat,
            Nat.reduceSub, List.replicate, Nat.reduceBEq, wAs, wA, wC, zipW, noDupN, grpE, grpC, en0, dc_en0]
    repeat' (first
      | ((first | (refine eGI_of (fun hc => ?_) (fun hc => ?_)) | (refine eCc_of (fun hc => ?_) (fun hc => ?_)) | (have hc := True.intro; refine KW_refl ?_)) <;> (try simp only [Bool.not_eq_true', Bool.not_eq_false'] at hc) <;> (try simp only [hc, need_iff, reduceCtorEq, Bool.not_eq_true', decide_eq_false_iff_not, Bool.not_true, Bool.not_false, Bool.false_or, Bool.true_or, Bool.true_and, Bool.false_and, Bool.and_eq_true, Bool.or_eq_true, if_true, if_false, reduceIte, Bool.false_eq_true, and_true, true_and, false_or, or_false, decide_eq_true_eq, not_false_eq_true, not_true_eq_false] at h) <;> (try (have hc2 := hc; simp only [decide_eq_true_eq, decide_eq_false_iff_not] at hc2; (first | (replace hc2 := eq_false hc2) | (replace hc2 := eq_true hc2)); simp only [hc2, if_true, if_false, need_iff, reduceCtorEq, Bool.not_eq_true', decide_eq_false_iff_not, Bool.not_true, Bool.not_false, Bool.false_or, Bool.true_or, Bool.true_and, Bool.false_and, Bool.and_eq_true, Bool.or_eq_true, if_true, if_false, reduceIte, Bool.false_eq_true, and_true, true_and, false_or, or_false, decide_eq_true_eq, not_false_eq_true, not_true_eq_false] at h)) <;> simp only [hc,
      need_iff, h, grpS, grpD, grpF, grpL, eop, vop, bop, uop, fltop, convop, endOk, newE, new1, freshL, Md.isNew, outV, pureV, pureX, pure1, AV.cells, AV.one, storable, laid,
            refless, refless1, vload, loadC, storeC, vnil, vfaddr, vextract, flatT, flatE, flatC, vconv, vmm, vidxA, viaddrA, vfield, vlen, elemsOf, dF32, dF64, dI64, dU8, dBool,
            dStr, esOk, elemsS, vsliceX, bnd, ownV, ownC, own1, ownT, isSl, nSl, endL, Md.isOwn, purge, purgeH, purgeB, purgeE, hasName, name1, List.any_cons, List.any_nil, Md.isWr,
            pureV.pureP, Option.map, reduceIte, Nat.reduceEqDiff, Nat.reduceAdd, Nat.reduceMul, Nat.reduceLT, Nat.reduceLeDiff, List.mapM_cons, List.mapM_nil, Option.pure_def,
            Option.bind_eq_bind, Option.bind_some, implies_true, forall_const, beq_self_eq_true, decide_true, decide_false, eq_self, Int.reduceEq, Int.reduceLE, Int.reduceLT,
            if_true, if_false, fc84_0, fc84_1, fc84_2, fc84_3, fc84_4, Int.reduceAdd, Int.reduceSub, Int.reduceMul, Int.reduceNeg, Int.reducePow, Nat.reducePow, Int.reduceToNat,
            Nat.reduceSub, List.replicate, Nat.reduceBEq, wAs, wA, wC, zipW, noDupN, grpE, grpC, en0, dc_en0]))
    all_goals (repeat (replace h := And.right h))
    all_goals first
      | (refine eA_wk (wk_norm (ks := [0, 1, 7, 8]) (ls := []) ?_) (eA_cast ?_ (ih _ _ _ h h0 h1)); (simp only [normOk, optIn, blkIn, nameIn,
      need_iff, h, grpS, grpD, grpF, grpL, eop, vop, bop, uop, fltop, convop, endOk, newE, new1, freshL, Md.isNew, outV, pureV, pureX, pure1, AV.cells, AV.one, storable, laid,
            refless, refless1, vload, loadC, storeC, vnil, vfaddr, vextract, flatT, flatE, flatC, vconv, vmm, vidxA, viaddrA, vfield, vlen, elemsOf, dF32, dF64, dI64, dU8, dBool,
            dStr, esOk, elemsS, vsliceX, bnd, ownV, ownC, own1, ownT, isSl, nSl, endL, Md.isOwn, purge, purgeH, purgeB, purgeE, hasName, name1, List.any_cons, List.any_nil, Md.isWr,
            pureV.pureP, Option.map, reduceIte, Nat.reduceEqDiff, Nat.reduceAdd, Nat.reduceMul, Nat.reduceLT, Nat.reduceLeDiff, List.mapM_cons, List.mapM_nil, Option.pure_def,
            Option.bind_eq_bind, Option.bind_some, implies_true, forall_const, beq_self_eq_true, decide_true, decide_false, eq_self, Int.reduceEq, Int.reduceLE, Int.reduceLT,
            if_true, if_false, fc84_0, fc84_1, fc84_2, fc84_3, fc84_4, Int.reduceAdd, Int.reduceSub, Int.reduceMul, Int.reduceNeg, Int.reducePow, Nat.reducePow, Int.reduceToNat,
            Nat.reduceSub, List.replicate, Nat.reduceBEq, wAs, wA, wC, zipW, noDupN, grpE, grpC, en0, dc_en0] <;> rfl); (simp only [normS, List.map_append, List.length_append, List.map_set, List.length_set, List.map_replicate, List.length_replicate, List.map_nil, List.map_cons,
      need_iff, h, grpS, grpD, grpF, grpL, eop, vop, bop, uop, fltop, convop, endOk, newE, new1, freshL, Md.isNew, outV, pureV, pureX, pure1, AV.cells, AV.one, storable, laid,
            refless, refless1, vload, loadC, storeC, vnil, vfaddr, vextract, flatT, flatE, flatC, vconv, vmm, vidxA, viaddrA, vfield, vlen, elemsOf, dF32, dF64, dI64, dU8, dBool,
            dStr, esOk, elemsS, vsliceX, bnd, ownV, ownC, own1, ownT, isSl, nSl, endL, Md.isOwn, purge, purgeH, purgeB, purgeE, hasName, name1, List.any_cons, List.any_nil, Md.isWr,
            pureV.pureP, Option.map, reduceIte, Nat.reduceEqDiff, Nat.reduceAdd, Nat.reduceMul, Nat.reduceLT, Nat.reduceLeDiff, List.mapM_cons, List.mapM_nil, Option.pure_def,
            Option.bind_eq_bind, Option.bind_some, implies_true, forall_const, beq_self_eq_true, decide_true, decide_false, eq_self, Int.reduceEq, Int.reduceLE, Int.reduceLT,
            if_true, if_false, fc84_0, fc84_1, fc84_2, fc84_3, fc84_4, Int.reduceAdd, Int.reduceSub, Int.reduceMul, Int.reduceNeg, Int.reducePow, Nat.reducePow, Int.reduceToNat,
            Nat.reduceSub, List.replicate, Nat.reduceBEq, wAs, wA, wC, zipW, noDupN, grpE, grpC, en0, dc_en0] <;> first | rfl | (simp only [Nat.add_comm]; done)))
      | (cases h; refine h0 _ rfl ?_; simp only [
      grpS, grpD, grpF, grpL, eop, vop, bop, uop, fltop, convop, endOk, newE, new1, freshL, Md.isNew, outV, pureV, pureX, pure1, AV.cells, AV.one, storable, laid, refless, refless1,
            vload, loadC, storeC, vnil, vfaddr, vextract, flatT, flatE, flatC, vconv, vmm, vidxA, viaddrA, vfield, vlen, elemsOf, dF32, dF64, dI64, dU8, dBool, dStr, esOk, elemsS,
            vsliceX, bnd, ownV, ownC, own1, ownT, isSl, nSl, endL, Md.isOwn, purge, purgeH, purgeB, purgeE, hasName, name1, List.any_cons, List.any_nil, Md.isWr, pureV.pureP,
            Option.map, reduceIte, Nat.reduceEqDiff, Nat.reduceAdd, Nat.reduceMul, Nat.reduceLT, Nat.reduceLeDiff, List.mapM_cons, List.mapM_nil, Option.pure_def,
            Option.bind_eq_bind, Option.bind_some, implies_true, forall_const, beq_self_eq_true, decide_true, decide_false, eq_self, Int.reduceEq, Int.reduceLE, Int.reduceLT,
            if_true, if_false, fc84_0, fc84_1, fc84_2, fc84_3, fc84_4, Int.reduceAdd, Int.reduceSub, Int.reduceMul, Int.reduceNeg, Int.reducePow, Nat.reducePow, Int.reduceToNat,
            Nat.reduceSub, List.replicate, Nat.reduceBEq, wAs, wA, wC, zipW, noDupN, grpE, grpC, en0, dc_en0])
      | (cases h; refine h1 _ rfl (Wk.cast (wk_norm (ks := []) (ls := []) ?_) ?_); (simp only [normOk, optIn, blkIn, nameIn,
      grpS, grpD, grpF, grpL, eop, vop, bop, uop, fltop, convop, endOk, newE, new1, freshL, Md.isNew, outV, pureV, pureX, pure1, AV.cells, AV.one, storable, laid, refless, refless1,
            vload, loadC, storeC, vnil, vfaddr, vextract, flatT, flatE, flatC, vconv, vmm, vidxA, viaddrA, vfield, vlen, elemsOf, dF32, dF64, dI64, dU8, dBool, dStr, esOk, elemsS,
            vsliceX, bnd, ownV, ownC, own1, ownT, isSl, nSl, endL, Md.isOwn, purge, purgeH, purgeB, purgeE, hasName, name1, List.any_cons, List.any_nil, Md.isWr, pureV.pureP,
            Option.map, reduceIte, Nat.reduceEqDiff, Nat.reduceAdd, Nat.reduceMul, Nat.reduceLT, Nat.reduceLeDiff, List.mapM_cons, List.mapM_nil, Option.pure_def,
            Option.bind_eq_bind, Option.bind_some, implies_true, forall_const, beq_self_eq_true, decide_true, decide_false, eq_self, Int.reduceEq, Int.reduceLE, Int.reduceLT,
            if_true, if_false, fc84_0, fc84_1, fc84_2, fc84_3, fc84_4, Int.reduceAdd, Int.reduceSub, Int.reduceMul, Int.reduceNeg, Int.reducePow, Nat.reducePow, Int.reduceToNat,
            Nat.reduceSub, List.replicate, Nat.reduceBEq, wAs, wA, wC, zipW, noDupN, grpE, grpC, en0, dc_en0] <;> rfl); (simp only [normS, List.map_append, List.length_append, List.map_set, List.length_set, List.map_replicate, List.length_replicate,
      grpS, grpD, grpF, grpL, eop, vop, bop, uop, fltop, convop, endOk, newE, new1, freshL, Md.isNew, outV, pureV, pureX, pure1, AV.cells, AV.one, storable, laid, refless, refless1,
            vload, loadC, storeC, vnil, vfaddr, vextract, flatT, flatE, flatC, vconv, vmm, vidxA, viaddrA, vfield, vlen, elemsOf, dF32, dF64, dI64, dU8, dBool, dStr, esOk, elemsS,
            vsliceX, bnd, ownV, ownC, own1, ownT, isSl, nSl, endL, Md.isOwn, purge, purgeH, purgeB, purgeE, hasName, name1, List.any_cons, List.any_nil, Md.isWr, pureV.pureP,
            Option.map, reduceIte, Nat.reduceEqDiff, Nat.reduceAdd, Nat.reduceMul, Nat.reduceLT, Nat.reduceLeDiff, List.mapM_cons, List.mapM_nil, Option.pure_def,
            Option.bind_eq_bind, Option.bind_some, implies_true, forall_const, beq_self_eq_true, decide_true, decide_false, eq_self, Int.reduceEq, Int.reduceLE, Int.reduceLT,
            if_true, if_false, fc84_0, fc84_1, fc84_2, fc84_3, fc84_4, Int.reduceAdd, Int.reduceSub, Int.reduceMul, Int.reduceNeg, Int.reducePow, Nat.reducePow, Int.reduceToNat,
            Nat.reduceSub, List.replicate, Nat.reduceBEq, wAs, wA, wC, zipW, noDupN, grpE, grpC, en0, dc_en0] <;> first | rfl | (simp only [Nat.add_comm]; done)))
theorem s84 : ∀ vs r, g_slices_Index_int64_int64 vs = some r → SaysM Try.prog .any 84 vs r := by
  intro vs r h
  unfold g_slices_Index_int64_int64 at h
  split at h
  · rename_i w0 y1
    cases hd_y0 : decL dI64 w0 with
    | none => rw [hd_y0] at h; cases h
    | some y0 =>
    rw [hd_y0] at h
    obtain rfl := decL_inv dI64_inv hd_y0
    clear hd_y0
    dsimp only at h
    split at h
    · rename_i hp
      cases h
      refine spec_of (m := .any) (tab := tabOf []) (cp := cp84) (ic := ic84) (rvl := [(.t 4)]) hm tabOk_nil Try.func84 rfl rfl rfl (by kernel_rfl) rfl (Nat.le_of_ble_eq_true rfl) (Nat.le_of_ble_eq_true rfl) ?_
      show eA _ _ _ _
      unfold ic84
      simp only [p_slices_Index_int64_int64, Bool.and_eq_true, Bool.or_eq_true, decide_eq_true_eq, Bool.not_eq_true', decide_eq_false_iff_not] at hp
      simp only [
          hp, grpS, grpD, grpF, grpL, eop, vop, bop, uop, fltop, convop, endOk, newE, new1, freshL, Md.isNew, outV, pureV, pureX, pure1, AV.cells, AV.one, storable, laid, refless,
                refless1, vload, loadC, storeC, vnil, vfaddr, vextract, flatT, flatE, flatC, vconv, vmm, vidxA, viaddrA, vfield, vlen, elemsOf, dF32, dF64, dI64, dU8, dBool, dStr,
                esOk, elemsS, vsliceX, bnd, ownV, ownC, own1, ownT, isSl, nSl, endL, Md.isOwn, purge, purgeH, purgeB, purgeE, hasName, name1, List.any_cons, List.any_nil, Md.isWr,
                pureV.pureP, Option.map, reduceIte, Nat.reduceEqDiff, Nat.reduceAdd, Nat.reduceMul, Nat.reduceLT, Nat.reduceLeDiff, List.mapM_cons, List.mapM_nil, Option.pure_def,
                Option.bind_eq_bind, Option.bind_some, implies_true, forall_const, beq_self_eq_true, decide_true, decide_false, eq_self, Int.reduceEq, Int.reduceLE, Int.reduceLT,
                if_true, if_false, fc84_0, fc84_1, fc84_2, fc84_3, fc84_4, Int.reduceAdd, Int.reduceSub, Int.reduceMul, Int.reduceNeg, Int.reducePow, Nat.reducePow, Int.reduceToNat,
                Nat.reduceSub, List.replicate, Nat.reduceBEq, wAs, wA, wC, zipW, noDupN, grpE, grpC, en0, dc_en0]
      repeat' (first
        | ((first | (refine eGI_of (fun h => ?_) (fun h => ?_)) | (refine eCc_of (fun h => ?_) (fun h => ?_)) | (have h := True.intro; refine KW_refl ?_)) <;> (try simp only [Bool.not_eq_true', Bool.not_eq_false'] at h) <;> (try simp only [h, reduceCtorEq, Bool.not_eq_true', decide_eq_false_iff_not, Bool.not_true, Bool.not_false, Bool.false_or, Bool.true_or, Bool.true_and, Bool.false_and, Bool.and_eq_true, Bool.or_eq_true, if_true, if_false, reduceIte, Bool.false_eq_true, and_true, true_and, false_or, or_false, decide_eq_true_eq, not_false_eq_true, not_true_eq_false] at hp) <;> (try (have h2 := h; simp only [decide_eq_true_eq, decide_eq_false_iff_not] at h2; (first | (replace h2 := eq_false h2) | (replace h2 := eq_true h2)); simp only [h2, if_true, if_false, false_or, true_or, or_true, or_false, and_true, true_and, not_false_eq_true, not_true_eq_false] at hp)) <;> simp only [h,
          hp, grpS, grpD, grpF, grpL, eop, vop, bop, uop, fltop, convop, endOk, newE, new1, freshL, Md.isNew, outV, pureV, pureX, pure1, AV.cells, AV.one, storable, laid, refless,
                refless1, vload, loadC, storeC, vnil, vfaddr, vextract, flatT, flatE, flatC, vconv, vmm, vidxA, viaddrA, vfield, vlen, elemsOf, dF32, dF64, dI64, dU8, dBool, dStr,
                esOk, elemsS, vsliceX, bnd, ownV, ownC, own1, ownT, isSl, nSl, endL, Md.isOwn, purge, purgeH, purgeB, purgeE, hasName, name1, List.any_cons, List.any_nil, Md.isWr,
                pureV.pureP, Option.map, reduceIte, Nat.reduceEqDiff, Nat.reduceAdd, Nat.reduceMul, Nat.reduceLT, Nat.reduceLeDiff, List.mapM_cons, List.mapM_nil, Option.pure_def,
                Option.bind_eq_bind, Option.bind_some, implies_true, forall_const, beq_self_eq_true, decide_true, decide_false, eq_self, Int.reduceEq, Int.reduceLE, Int.reduceLT,
                if_true, if_false, fc84_0, fc84_1, fc84_2, fc84_3, fc84_4, Int.reduceAdd, Int.reduceSub, Int.reduceMul, Int.reduceNeg, Int.reducePow, Nat.reducePow, Int.reduceToNat,
                Nat.reduceSub, List.replicate, Nat.reduceBEq, wAs, wA, wC, zipW, noDupN, grpE, grpC, en0, dc_en0])
        | (refine eA_wk (wk_norm (ks := [0, 1, 7, 8]) (ls := []) ?_) (eA_cast ?_ (sl84_0 y0 y1 _ _ _ _ (getD_some (d := default) (x := (l_slices_Index_int64_int64_0 y0 y1 (Int.toNat (((List.length y0 : Nat) : Int) - 0) + 2) 0)) ?_) ?_ ?_)); (simp only [nilS, nilV, normOk, optIn, blkIn, nameIn, 
          hp, grpS, grpD, grpF, grpL, eop, vop, bop, uop, fltop, convop, endOk, newE, new1, freshL, Md.isNew, outV, pureV, pureX, pure1, AV.cells, AV.one, storable, laid, refless,
                refless1, vload, loadC, storeC, vnil, vfaddr, vextract, flatT, flatE, flatC, vconv, vmm, vidxA, viaddrA, vfield, vlen, elemsOf, dF32, dF64, dI64, dU8, dBool, dStr,
                esOk, elemsS, vsliceX, bnd, ownV, ownC, own1, ownT, isSl, nSl, endL, Md.isOwn, purge, purgeH, purgeB, purgeE, hasName, name1, List.any_cons, List.any_nil, Md.isWr,
                pureV.pureP, Option.map, reduceIte, Nat.reduceEqDiff, Nat.reduceAdd, Nat.reduceMul, Nat.reduceLT, Nat.reduceLeDiff, List.mapM_cons, List.mapM_nil, Option.pure_def,
                Option.bind_eq_bind, Option.bind_some, implies_true, forall_const, beq_self_eq_true, decide_true, decide_false, eq_self, Int.reduceEq, Int.reduceLE, Int.reduceLT,
                if_true, if_false, fc84_0, fc84_1, fc84_2, fc84_3, fc84_4, Int.reduceAdd, Int.reduceSub, Int.reduceMul, Int.reduceNeg, Int.reducePow, Nat.reducePow, Int.reduceToNat,
                Nat.reduceSub, List.replicate, Nat.reduceBEq, wAs, wA, wC, zipW, noDupN, grpE, grpC, en0, dc_en0] <;> rfl); (simp only [nilS, nilV, normS,  List.map_append, List.length_append, List.map_set, List.length_set, List.map_replicate, List.length_replicate, List.map_nil, List.map_cons,
          hp, grpS, grpD, grpF, grpL, eop, vop, bop, uop, fltop, convop, endOk, newE, new1, freshL, Md.isNew, outV, pureV, pureX, pure1, AV.cells, AV.one, storable, laid, refless,
                refless1, vload, loadC, storeC, vnil, vfaddr, vextract, flatT, flatE, flatC, vconv, vmm, vidxA, viaddrA, vfield, vlen, elemsOf, dF32, dF64, dI64, dU8, dBool, dStr,
                esOk, elemsS, vsliceX, bnd, ownV, ownC, own1, ownT, isSl, nSl, endL, Md.isOwn, purge, purgeH, purgeB, purgeE, hasName, name1, List.any_cons, List.any_nil, Md.isWr,
                pureV.pureP, Option.map, reduceIte, Nat.reduceEqDiff, Nat.reduceAdd, Nat.reduceMul, Nat.reduceLT, Nat.reduceLeDiff, List.mapM_cons, List.mapM_nil, Option.pure_def,
                Option.bind_eq_bind, Option.bind_some, implies_true, forall_const, beq_self_eq_true, decide_true, decide_false, eq_self, Int.reduceEq, Int.reduceLE, Int.reduceLT,
                if_true, if_false, fc84_0, fc84_1, fc84_2, fc84_3, fc84_4, Int.reduceAdd, Int.reduceSub, Int.reduceMul, Int.reduceNeg, Int.reducePow, Nat.reducePow, Int.reduceToNat,
                Nat.reduceSub, List.replicate, Nat.reduceBEq, wAs, wA, wC, zipW, noDupN, grpE, grpC, en0, dc_en0] <;> first | rfl | (simp only [Nat.add_comm]; done)); (simp only [hp]); (
        intro st2 ht hw; simp only [Kq_ret, Kb_ret, Kl_ret, ret_ok]; first | exact h0 _ hw | exact h0 _ rfl hw | exact h1 _ rfl hw | exact h0 _ ht hw | exact h1 _ ht hw | refine ⟨_, hw, ?_⟩); rotate_left; (
        intro st2 ht hw; (try simp only [ht, reduceCtorEq, Bool.not_eq_true', decide_eq_false_iff_not, Bool.not_true, Bool.not_false, Bool.false_or, Bool.true_or, Bool.true_and, Bool.false_and, Bool.and_eq_true, Bool.or_eq_true, if_true, if_false, reduceIte, Bool.false_eq_true, and_true, true_and, false_or, or_false, decide_eq_true_eq, not_false_eq_true, not_true_eq_false] at hp); simp only [
          hp, grpS, grpD, grpF, grpL, eop, vop, bop, uop, fltop, convop, endOk, newE, new1, freshL, Md.isNew, outV, pureV, pureX, pure1, AV.cells, AV.one, storable, laid, refless,
                refless1, vload, loadC, storeC, vnil, vfaddr, vextract, flatT, flatE, flatC, vconv, vmm, vidxA, viaddrA, vfield, vlen, elemsOf, dF32, dF64, dI64, dU8, dBool, dStr,
                esOk, elemsS, vsliceX, bnd, ownV, ownC, own1, ownT, isSl, nSl, endL, Md.isOwn, purge, purgeH, purgeB, purgeE, hasName, name1, List.any_cons, List.any_nil, Md.isWr,
                pureV.pureP, Option.map, reduceIte, Nat.reduceEqDiff, Nat.reduceAdd, Nat.reduceMul, Nat.reduceLT, Nat.reduceLeDiff, List.mapM_cons, List.mapM_nil, Option.pure_def,
                Option.bind_eq_bind, Option.bind_some, implies_true, forall_const, beq_self_eq_true, decide_true, decide_false, eq_self, Int.reduceEq, Int.reduceLE, Int.reduceLT,
                if_true, if_false, fc84_0, fc84_1, fc84_2, fc84_3, fc84_4, Int.reduceAdd, Int.reduceSub, Int.reduceMul, Int.reduceNeg, Int.reducePow, Nat.reducePow, Int.reduceToNat,
                Nat.reduceSub, List.replicate, Nat.reduceBEq, wAs, wA, wC, zipW, noDupN, grpE, grpC, en0, dc_en0]; refine KW_of hw ?_; simp only [ht, 
          hp, grpS, grpD, grpF, grpL, eop, vop, bop, uop, fltop, convop, endOk, newE, new1, freshL, Md.isNew, outV, pureV, pureX, pure1, AV.cells, AV.one, storable, laid, refless,
                refless1, vload, loadC, storeC, vnil, vfaddr, vextract, flatT, flatE, flatC, vconv, vmm, vidxA, viaddrA, vfield, vlen, elemsOf, dF32, dF64, dI64, dU8, dBool, dStr,
                esOk, elemsS, vsliceX, bnd, ownV, ownC, own1, ownT, isSl, nSl, endL, Md.isOwn, purge, purgeH, purgeB, purgeE, hasName, name1, List.any_cons, List.any_nil, Md.isWr,
                pureV.pureP, Option.map, reduceIte, Nat.reduceEqDiff, Nat.reduceAdd, Nat.reduceMul, Nat.reduceLT, Nat.reduceLeDiff, List.mapM_cons, List.mapM_nil, Option.pure_def,
                Option.bind_eq_bind, Option.bind_some, implies_true, forall_const, beq_self_eq_true, decide_true, decide_false, eq_self, Int.reduceEq, Int.reduceLE, Int.reduceLT,
                if_true, if_false, fc84_0, fc84_1, fc84_2, fc84_3, fc84_4, Int.reduceAdd, Int.reduceSub, Int.reduceMul, Int.reduceNeg, Int.reducePow, Nat.reducePow, Int.reduceToNat,
                Nat.reduceSub, List.replicate, Nat.reduceBEq, wAs, wA, wC, zipW, noDupN, grpE, grpC, en0, dc_en0])))
      all_goals (try simp only [*, m_slices_Index_int64_int64, Bool.and_true, Bool.true_and, Bool.and_false, Bool.false_and, Bool.or_true, Bool.true_or, Bool.or_false, Bool.false_or, Bool.not_true, Bool.not_false, Bool.false_eq_true, if_true, if_false, reduceIte, decide_true, decide_false])
      all_goals (try (simp_all; done))
    · cases h
  · cases h
def m_slices_Contains_int64_int64 (x0 : (List Int)) (x1 : Int) : Bool := (decide (0 ≤ (m_slices_Index_int64_int64 x0 x1)))
def p_slices_Contains_int64_int64 (x0 : (List Int)) (x1 : Int) : Bool := (p_slices_Index_int64_int64 x0 x1)
def g_slices_Contains_int64_int64 : List AV → Option AV
  | [.sl w0, .int .i64 y1] => (match decL dI64 w0 with | some y0 => (if p_slices_Contains_int64_int64 y0 y1 = true then some (.bool (m_slices_Contains_int64_int64 y0 y1)) else none) | none => none)
  | _ => none
def ic70 : ICode := (.seq (.reg [⟨(some 4), none, (.mov (.c (.bool false)))⟩] [0, 1]) (.seq (.reg [⟨(some 5), none, (.mov (.t 0))⟩, ⟨(some 6), none, (.mov (.t 1))⟩, ⟨(some 7), none,
      (.call (.fn 84) [(.t 5), (.t 6)] [])⟩, ⟨(some 8), none, (.bin .geq false (.t 7) (.c (.int .i64 0)))⟩, ⟨(some 4), none, (.mov (.t 8))⟩] [4]) .ret))
def cp70 : CP := CP.mk [] [] [[0, 1], [4]] 9 [] []
theorem fc70_0 : IntKind.wrap .i64 0 = 0 := by decide
theorem fc70_1 : IntKind.wrap .i64 1 = 1 := by decide
theorem fc70_2 : IntKind.wrap .i64 2 = 2 := by decide
theorem fc70_3 : IntKind.wrap .i64 3 = 3 := by decide
theorem fc70_4 : IntKind.wrap .i64 4 = 4 := by decide
theorem s70 : ∀ vs r, g_slices_Contains_int64_int64 vs = some r → SaysM Try.prog .any 70 vs r := by
  intro vs r h
  unfold g_slices_Contains_int64_int64 at h
  split at h
  · rename_i w0 y1
    cases hd_y0 : decL dI64 w0 with
    | none => rw [hd_y0] at h; cases h
    | some y0 =>
    rw [hd_y0] at h
    obtain rfl := decL_inv dI64_inv hd_y0
    clear hd_y0
    dsimp only at h
    split at h
    · rename_i hp
      cases h
      refine spec_of (m := .any) (tab := tabOf [(84, wM .any g_slices_Index_int64_int64)]) (cp := cp70) (ic := ic70) (rvl := [(.t 4)]) hm (tabOk_cons (m := .any) s84 tabOk_nil) Try.func70 rfl rfl rfl (by kernel_rfl) rfl (Nat.le_of_ble_eq_true rfl) (Nat.le_of_ble_eq_true rfl) ?_
      show eA _ _ _ _
      unfold ic70
      simp only [p_slices_Contains_int64_int64, Bool.and_eq_true, Bool.or_eq_true, decide_eq_true_eq, Bool.not_eq_true', decide_eq_false_iff_not] at hp
      simp only [
          hp, grpS, grpD, grpF, grpL, eop, vop, bop, uop, fltop, convop, endOk, newE, new1, freshL, Md.isNew, outV, pureV, pureX, pure1, AV.cells, AV.one, storable, laid, refless,
                refless1, vload, loadC, storeC, vnil, vfaddr, vextract, flatT, flatE, flatC, vconv, vmm, vidxA, viaddrA, vfield, vlen, elemsOf, dF32, dF64, dI64, dU8, dBool, dStr,
                esOk, elemsS, vsliceX, bnd, ownV, ownC, own1, ownT, isSl, nSl, endL, Md.isOwn, purge, purgeH, purgeB, purgeE, hasName, name1, List.any_cons, List.any_nil, Md.isWr,
                pureV.pureP, Option.map, reduceIte, Nat.reduceEqDiff, Nat.reduceAdd, Nat.reduceMul, Nat.reduceLT, Nat.reduceLeDiff, List.mapM_cons, List.mapM_nil, Option.pure_def,
                Option.bind_eq_bind, Option.bind_some, implies_true, forall_const, beq_self_eq_true, decide_true, decide_false, eq_self, Int.reduceEq, Int.reduceLE, Int.reduceLT,
                if_true, if_false, fc70_0, fc70_1, fc70_2, fc70_3, fc70_4, Int.reduceAdd, Int.reduceSub, Int.reduceMul, Int.reduceNeg, Int.reducePow, Nat.reducePow, Int.reduceToNat,
                Nat.reduceSub, List.replicate, Nat.reduceBEq, wAs, wA, wC, zipW, noDupN, grpE, g_slices_Index_int64_int64, grpC, en0, dc_en0]
      repeat' (first
        | ((first | (refine eGI_of (fun h => ?_) (fun h => ?_)) | (refine eCc_of (fun h => ?_) (fun h => ?_))) <;> (try simp only [Bool.not_eq_true', Bool.not_eq_false'] at h) <;> (try simp only [h, reduceCtorEq, Bool.not_eq_true', decide_eq_false_iff_not, Bool.not_true, Bool.not_false, Bool.false_or, Bool.true_or, Bool.true_and, Bool.false_and, Bool.and_eq_true, Bool.or_eq_true, if_true, if_false, reduceIte, Bool.false_eq_true, and_true, true_and, false_or, or_false, decide_eq_true_eq, not_false_eq_true, not_true_eq_false] at hp) <;> (try (have h2 := h; simp only [decide_eq_true_eq, decide_eq_false_iff_not] at h2; (first | (replace h2 := eq_false h2) | (replace h2 := eq_true h2)); simp only [h2, if_true, if_false, false_or, true_or, or_true, or_false, and_true, true_and, not_false_eq_true, not_true_eq_false] at hp)) <;> simp only [h,
          hp, grpS, grpD, grpF, grpL, eop, vop, bop, uop, fltop, convop, endOk, newE, new1, freshL, Md.isNew, outV, pureV, pureX, pure1, AV.cells, AV.one, storable, laid, refless,
                refless1, vload, loadC, storeC, vnil, vfaddr, vextract, flatT, flatE, flatC, vconv, vmm, vidxA, viaddrA, vfield, vlen, elemsOf, dF32, dF64, dI64, dU8, dBool, dStr,
                esOk, elemsS, vsliceX, bnd, ownV, ownC, own1, ownT, isSl, nSl, endL, Md.isOwn, purge, purgeH, purgeB, purgeE, hasName, name1, List.any_cons, List.any_nil, Md.isWr,
                pureV.pureP, Option.map, reduceIte, Nat.reduceEqDiff, Nat.reduceAdd, Nat.reduceMul, Nat.reduceLT, Nat.reduceLeDiff, List.mapM_cons, List.mapM_nil, Option.pure_def,
                Option.bind_eq_bind, Option.bind_some, implies_true, forall_const, beq_self_eq_true, decide_true, decide_false, eq_self, Int.reduceEq, Int.reduceLE, Int.reduceLT,
                if_true, if_false, fc70_0, fc70_1, fc70_2, fc70_3, fc70_4, Int.reduceAdd, Int.reduceSub, Int.reduceMul, Int.reduceNeg, Int.reducePow, Nat.reducePow, Int.reduceToNat,
                Nat.reduceSub, List.replicate, Nat.reduceBEq, wAs, wA, wC, zipW, noDupN, grpE, g_slices_Index_int64_int64, grpC, en0, dc_en0]))
      all_goals (try simp only [*, m_slices_Contains_int64_int64, Bool.and_true, Bool.true_and, Bool.and_false, Bool.false_and, Bool.or_true, Bool.true_or, Bool.or_false, Bool.false_or, Bool.not_true, Bool.not_false, Bool.false_eq_true, if_true, if_false, reduceIte, decide_true, decide_false])
      all_goals (try (simp_all; done))
    · cases h
  · cases h
def l_impl_BelowOf_0 (x0 : (List (Int × Nat × Nat × Nat))) (x1 : Int) : Nat → (List Int) → Int → Option (List Int)
  | 0, _, _ => none
  | n + 1, z0_0, z0_1 => (if (decide (z0_1 < ((List.length x0 : Nat) : Int))) = true then (need (p_impl_Skeleton_chain x0 z0_1) (need (p_slices_Contains_int64_int64
        (m_impl_Skeleton_chain x0 z0_1) x1) (if (m_slices_Contains_int64_int64 (m_impl_Skeleton_chain x0 z0_1) x1) = true then (need (decide (((List.length z0_0) + 1) * 8 ≤
        17592186044416)) (need (decide ((List.length z0_0) + 1 ≤ 17592186044416)) (l_impl_BelowOf_0 x0 x1 n (z0_0 ++ [z0_1]) (IntKind.wrap .i64 (z0_1 + 1))))) else (l_impl_BelowOf_0
        x0 x1 n z0_0 (IntKind.wrap .i64 (z0_1 + 1)))))) else (some z0_0))
def m_impl_BelowOf (x0 : (List (Int × Nat × Nat × Nat))) (x1 : Int) : ((List Int) × Bool) := (if (m_impl_hasBone x0 x1) = true then ((Option.getD (l_impl_BelowOf_0 x0 x1 (Int.toNat
      (((List.length x0 : Nat) : Int) - 0) + 2) [] 0) default), true) else ([], false))
def p_impl_BelowOf (x0 : (List (Int × Nat × Nat × Nat))) (x1 : Int) : Bool := ((p_impl_hasBone x0 x1) && (!(m_impl_hasBone x0 x1) || (Option.isSome (l_impl_BelowOf_0 x0 x1
      (Int.toNat (((List.length x0 : Nat) : Int) - 0) + 2) [] 0))))
def g_impl_BelowOf : List AV → Option AV
  | [.agg [.sl w0], .int .i64 y1] => (match decL dc_en0 w0 with | some y0 => (if p_impl_BelowOf y0 y1 = true then some (AV.tup [(.sl (List.map (AV.int .i64) (m_impl_BelowOf y0 y1).1)), (.bool (m_impl_BelowOf y0 y1).2)]) else none) | none => none)
  | _ => none
def lb39_0 : ICode := (.seq (.reg [⟨(some 16), none, (.bin .lss false (.t 15) (.t 14))⟩] [1, 2, 6, 14, 15, 16]) (.seq (.cond (.t 16) .skip (.exit 0)) (.seq (.block 1 (.seq (.reg
      [⟨(some 17), none, (.mov (.t 15))⟩, ⟨(some 7), none, (.mov (.t 17))⟩] [1, 2, 6, 7, 14, 15]) (.seq (.reg [⟨(some 18), none, (.mov (.t 7))⟩, ⟨(some 19), none, (.call (.fn 67)
      [(.t 2), (.t 18)] [])⟩, ⟨(some 20), none, (.mov (.t 1))⟩, ⟨(some 21), none, (.call (.fn 70) [(.t 19), (.t 20)] [])⟩] [1, 2, 6, 7, 14, 15, 21]) (.cond (.t 21) (.reg [⟨(some
      22), none, (.mov (.t 6))⟩, ⟨(some 23), none, (.mov (.t 7))⟩, ⟨(some 24), none, (.bslice 1 1 (.int .i64 0) [(0, (.t 23))])⟩, ⟨(some 25), none, (.append 1 8 (.t 22) (.t 24))⟩,
      ⟨(some 6), none, (.mov (.t 25))⟩] [1, 2, 6, 14, 15]) .skip)))) (.reg [⟨(some 26), none, (.bin .add false (.t 15) (.c (.int .i64 1)))⟩, ⟨(some 15), none, (.mov (.t 26))⟩] [1,
      2, 6, 14, 15]))))
def ic39 : ICode := (.seq (.reg [⟨(some 2), none, (.box 1 (.t 0))⟩, ⟨(some 4), none, (.mov (.c .snil))⟩, ⟨(some 5), none, (.mov (.c (.bool false)))⟩] [1, 2]) (.seq (.seq (.reg
      [⟨(some 8), none, (.load (some 1) (.t 2))⟩, ⟨(some 9), none, (.mov (.t 1))⟩, ⟨(some 10), none, (.call (.fn 66) [(.t 8), (.t 9)] [])⟩, ⟨(some 11), none, (.un .not (.t 10))⟩]
      [1, 2, 11]) (.cond (.t 11) (.seq (.reg [⟨(some 4), none, (.mov (.c .snil))⟩, ⟨(some 5), none, (.mov (.c (.bool false)))⟩] [4, 5]) .ret) .skip)) (.seq (.reg [⟨(some 6), none,
      (.mov (.c .snil))⟩] [1, 2, 6]) (.seq (.seq (.reg [⟨(some 12), none, (.faddr 0 (.t 2))⟩, ⟨(some 13), none, (.load none (.t 12))⟩, ⟨(some 14), none, (.len false (.t 13))⟩,
      ⟨(some 15), none, (.mov (.c (.int .i64 0)))⟩] [1, 2, 6, 14, 15]) (.block 0 (.loop lb39_0))) (.seq (.reg [⟨(some 27), none, (.mov (.t 6))⟩, ⟨(some 4), none, (.mov (.t 27))⟩,
      ⟨(some 5), none, (.mov (.c (.bool true)))⟩] [4, 5]) .ret)))))
def cp39 : CP := CP.mk [] [] [[1, 2], [1, 2, 11], [4, 5], [1, 2, 6], [1, 2, 6, 14, 15], [1, 2, 6, 14, 15, 16], [1, 2, 6, 7, 14, 15], [1, 2, 6, 7, 14, 15, 21], [1, 2, 6, 14, 15], [1,
      2, 6, 14, 15], [4, 5]] 28 [] []
theorem fc39_0 : IntKind.wrap .i64 0 = 0 := by decide
theorem fc39_1 : IntKind.wrap .i64 1 = 1 := by decide
theorem fc39_2 : IntKind.wrap .i64 2 = 2 := by decide
theorem fc39_3 : IntKind.wrap .i64 3 = 3 := by decide
theorem fc39_4 : IntKind.wrap .i64 4 = 4 := by decide
theorem sl39_0 (x0 : (List (Int × Nat × Nat × Nat))) (x1 : Int) : ∀ (n : Nat) (z0_0 : (List Int)) (z0_1 : Int) (o : (List Int)) (K : IExit → St → Prop), l_impl_BelowOf_0 x0 x1 n
      z0_0 z0_1 = some o → (∀ st, Wk st (⟨[(6, (.lsl 9006 0 (List.length o)))], [(9006, (some ⟨1, true, (List.map (AV.int .i64) o)⟩))]⟩ : St) → K (.exit 0) st) → eA (tabOf [(66, wM
      .any g_impl_hasBone), (67, wM (.own [1]) g_impl_Skeleton_chain), (70, wM .any g_slices_Contains_int64_int64)]) (.loop lb39_0) (⟨[(1, (.int .i64 x1)), (2, (.lptr 2 0 0)), (6,
      (.lsl 9006 0 (List.length z0_0))), (14, (.int .i64 ((List.length x0 : Nat) : Int))), (15, (.int .i64 z0_1))], [(2, (some ⟨1, false, [(AV.agg [(.sl (List.map en0 x0))])]⟩)),
      (9006, (some ⟨1, true, (List.map (AV.int .i64) z0_0)⟩))]⟩ : St) K := by
  intro n
  induction n with
  | zero =>
    intro z0_0 z0_1 o K h h0
    simp only [l_impl_BelowOf_0, reduceCtorEq] at h
  | succ n ih =>
    intro z0_0 z0_1 o K h h0
    refine eA_loop ?_
    unfold lb39_0
    unfold l_impl_BelowOf_0 at h
    (try simp only [need_iff] at h)
    simp only [
      need_iff, h, grpS, grpD, grpF, grpL, eop, vop, bop, uop, fltop, convop, endOk, newE, new1, freshL, Md.isNew, outV, pureV, pureX, pure1, AV.cells, AV.one, storable, laid,
            refless, refless1, vload, loadC, storeC, vnil, vfaddr, vextract, flatT, flatE, flatC, vconv, vmm, vidxA, viaddrA, vfield, vlen, elemsOf, dF32, dF64, dI64, dU8, dBool,
            dStr, esOk, elemsS, vsliceX, bnd, ownV, ownC, own1, ownT, isSl, nSl, endL, Md.isOwn, purge, purgeH, purgeB, purgeE, hasName, name1, List.any_cons, List.any_nil, Md.isWr,
            pureV.pureP, Option.map, reduceIte, Nat.reduceEqDiff, Nat.reduceAdd, Nat.reduceMul, Nat.reduceLT, Nat.reduceLeDiff, List.mapM_cons, List.mapM_nil, Option.pure_def,
            Option.bind_eq_bind, Option.bind_some, implies_true, forall_const, beq_self_eq_true, decide_true, decide_false, eq_self, Int.reduceEq, Int.reduceLE, Int.reduceLT,
            if_true, if_false, fc39_0, fc39_1, fc39_2, fc39_3, fc39_4, Int.reduceAdd, Int.reduceSub, Int.reduceMul, Int.reduceNeg, Int.reducePow, Nat.reducePow, Int.reduceToNat,
            Nat.reduceSub, List.replicate, Nat.reduceBEq, wAs, wA, wC, zipW, noDupN, grpE, g_impl_hasBone, g_impl_Skeleton_chain, g_slices_Contains_int64_int64, grpC, en0, dc_en0]
    repeat' (first
      | ((first | (refine eGI_of (fun hc => ?_) (fun hc => ?_)) | (refine eCc_of (fun hc => ?_) (fun hc => ?_)) | (have hc := True.intro; refine KW_refl ?_)) <;> (try simp only [Bool.not_eq_true', Bool.not_eq_false'] at hc) <;> (try simp only [hc, need_iff, reduceCtorEq, Bool.not_eq_true', decide_eq_false_iff_not, Bool.not_true, Bool.not_false, Bool.false_or, Bool.true_or, Bool.true_and, Bool.false_and, Bool.and_eq_true, Bool.or_eq_true, if_true, if_false, reduceIte, Bool.false_eq_true, and_true, true_and, false_or, or_false, decide_eq_true_eq, not_false_eq_true, not_true_eq_false] at h) <;> (try (have hc2 := hc; simp only [decide_eq_true_eq, decide_eq_false_iff_not] at hc2; (first | (replace hc2 := eq_false hc2) | (replace hc2 := eq_true hc2)); simp only [hc2, if_true, if_false, need_iff, reduceCtorEq, Bool.not_eq_true', decide_eq_false_iff_not, Bool.not_true, Bool.not_false, Bool.false_or, Bool.true_or, Bool.true_and, Bool.false_and, Bool.and_eq_true, Bool.or_eq_true, if_true, if_false, reduceIte, Bool.false_eq_true, and_true, true_and, false_or, or_false, decide_eq_true_eq, not_false_eq_true, not_true_eq_false] at h)) <;> simp only [hc,
      need_iff, h, grpS, grpD, grpF, grpL, eop, vop, bop, uop, fltop, convop, endOk, newE, new1, freshL, Md.isNew, outV, pureV, pureX, pure1, AV.cells, AV.one, storable, laid,
            refless, refless1, vload, loadC, storeC, vnil, vfaddr, vextract, flatT, flatE, flatC, vconv, vmm, vidxA, viaddrA, vfield, vlen, elemsOf, dF32, dF64, dI64, dU8, dBool,
            dStr, esOk, elemsS, vsliceX, bnd, ownV, ownC, own1, ownT, isSl, nSl, endL, Md.isOwn, purge, purgeH, purgeB, purgeE, hasName, name1, List.any_cons, List.any_nil, Md.isWr,
            pureV.pureP, Option.map, reduceIte, Nat.reduceEqDiff, Nat.reduceAdd, Nat.reduceMul, Nat.reduceLT, Nat.reduceLeDiff, List.mapM_cons, List.mapM_nil, Option.pure_def,
            Option.bind_eq_bind, Option.bind_some, implies_true, forall_const, beq_self_eq_true, decide_true, decide_false, eq_self, Int.reduceEq, Int.reduceLE, Int.reduceLT,
            if_true, if_false, fc39_0, fc39_1, fc39_2, fc39_3, fc39_4, Int.reduceAdd, Int.reduceSub, Int.reduceMul, Int.reduceNeg, Int.reducePow, Nat.reducePow, Int.reduceToNat,
            Nat.reduceSub, List.replicate, Nat.reduceBEq, wAs, wA, wC, zipW, noDupN, grpE, g_impl_hasBone, g_impl_Skeleton_chain, g_slices_Contains_int64_int64, grpC, en0, dc_en0]))
    all_goals (repeat (replace h := And.right h))
    all_goals first
      | (refine eA_wk (wk_norm (ks := [1, 2, 6, 14, 15]) (ls := [2, 9006]) ?_) (eA_cast ?_ (ih _ _ _ _ h h0)); (simp only [normOk, optIn, blkIn, nameIn,
      need_iff, h, grpS, grpD, grpF, grpL, eop, vop, bop, uop, fltop, convop, endOk, newE, new1, freshL, Md.isNew, outV, pureV, pureX, pure1, AV.cells, AV.one, storable, laid,
            refless, refless1, vload, loadC, storeC, vnil, vfaddr, vextract, flatT, flatE, flatC, vconv, vmm, vidxA, viaddrA, vfield, vlen, elemsOf, dF32, dF64, dI64, dU8, dBool,
            dStr, esOk, elemsS, vsliceX, bnd, ownV, ownC, own1, ownT, isSl, nSl, endL, Md.isOwn, purge, purgeH, purgeB, purgeE, hasName, name1, List.any_cons, List.any_nil, Md.isWr,
            pureV.pureP, Option.map, reduceIte, Nat.reduceEqDiff, Nat.reduceAdd, Nat.reduceMul, Nat.reduceLT, Nat.reduceLeDiff, List.mapM_cons, List.mapM_nil, Option.pure_def,
            Option.bind_eq_bind, Option.bind_some, implies_true, forall_const, beq_self_eq_true, decide_true, decide_false, eq_self, Int.reduceEq, Int.reduceLE, Int.reduceLT,
            if_true, if_false, fc39_0, fc39_1, fc39_2, fc39_3, fc39_4, Int.reduceAdd, Int.reduceSub, Int.reduceMul, Int.reduceNeg, Int.reducePow, Nat.reducePow, Int.reduceToNat,
            Nat.reduceSub, List.replicate, Nat.reduceBEq, wAs, wA, wC, zipW, noDupN, grpE, g_impl_hasBone, g_impl_Skeleton_chain, g_slices_Contains_int64_int64, grpC, en0, dc_en0] <;> rfl); (simp only [normS, List.map_append, List.length_append, List.map_set, List.length_set, List.map_replicate, List.length_replicate, List.map_nil, List.map_cons,
      need_iff, h, grpS, grpD, grpF, grpL, eop, vop, bop, uop, fltop, convop, endOk, newE, new1, freshL, Md.isNew, outV, pureV, pureX, pure1, AV.cells, AV.one, storable, laid,
            refless, refless1, vload, loadC, storeC, vnil, vfaddr, vextract, flatT, flatE, flatC, vconv, vmm, vidxA, viaddrA, vfield, vlen, elemsOf, dF32, dF64, dI64, dU8, dBool,
            dStr, esOk, elemsS, vsliceX, bnd, ownV, ownC, own1, ownT, isSl, nSl, endL, Md.isOwn, purge, purgeH, purgeB, purgeE, hasName, name1, List.any_cons, List.any_nil, Md.isWr,
            pureV.pureP, Option.map, reduceIte, Nat.reduceEqDiff, Nat.reduceAdd, Nat.reduceMul, Nat.reduceLT, Nat.reduceLeDiff, List.mapM_cons, List.mapM_nil, Option.pure_def,
            Option.bind_eq_bind, Option.bind_some, implies_true, forall_const, beq_self_eq_true, decide_true, decide_false, eq_self, Int.reduceEq, Int.reduceLE, Int.reduceLT,
            if_true, if_false, fc39_0, fc39_1, fc39_2, fc39_3, fc39_4, Int.reduceAdd, Int.reduceSub, Int.reduceMul, Int.reduceNeg, Int.reducePow, Nat.reducePow, Int.reduceToNat,
            Nat.reduceSub, List.replicate, Nat.reduceBEq, wAs, wA, wC, zipW, noDupN, grpE, g_impl_hasBone, g_impl_Skeleton_chain, g_slices_Contains_int64_int64, grpC, en0, dc_en0] <;> first | rfl | (simp only [Nat.add_comm]; done)))
      | (cases h; refine h0 _ (Wk.cast (wk_norm (ks := [6]) (ls := [9006]) ?_) ?_); (simp only [normOk, optIn, blkIn, nameIn,
      grpS, grpD, grpF, grpL, eop, vop, bop, uop, fltop, convop, endOk, newE, new1, freshL, Md.isNew, outV, pureV, pureX, pure1, AV.cells, AV.one, storable, laid, refless, refless1,
            vload, loadC, storeC, vnil, vfaddr, vextract, flatT, flatE, flatC, vconv, vmm, vidxA, viaddrA, vfield, vlen, elemsOf, dF32, dF64, dI64, dU8, dBool, dStr, esOk, elemsS,
            vsliceX, bnd, ownV, ownC, own1, ownT, isSl, nSl, endL, Md.isOwn, purge, purgeH, purgeB, purgeE, hasName, name1, List.any_cons, List.any_nil, Md.isWr, pureV.pureP,
            Option.map, reduceIte, Nat.reduceEqDiff, Nat.reduceAdd, Nat.reduceMul, Nat.reduceLT, Nat.reduceLeDiff, List.mapM_cons, List.mapM_nil, Option.pure_def,
            Option.bind_eq_bind, Option.bind_some, implies_true, forall_const, beq_self_eq_true, decide_true, decide_false, eq_self, Int.reduceEq, Int.reduceLE, Int.reduceLT,
            if_true, if_false, fc39_0, fc39_1, fc39_2, fc39_3, fc39_4, Int.reduceAdd, Int.reduceSub, Int.reduceMul, Int.reduceNeg, Int.reducePow, Nat.reducePow, Int.reduceToNat,
            Nat.reduceSub, List.replicate, Nat.reduceBEq, wAs, wA, wC, zipW, noDupN, grpE, g_impl_hasBone, g_impl_Skeleton_chain, g_slices_Contains_int64_int64, grpC, en0, dc_en0] <;> rfl); (simp only [normS, List.map_append, List.length_append, List.map_set, List.length_set, List.map_replicate, List.length_replicate,
      grpS, grpD, grpF, grpL, eop, vop, bop, uop, fltop, convop, endOk, newE, new1, freshL, Md.isNew, outV, pureV, pureX, pure1, AV.cells, AV.one, storable, laid, refless, refless1,
            vload, loadC, storeC, vnil, vfaddr, vextract, flatT, flatE, flatC, vconv, vmm, vidxA, viaddrA, vfield, vlen, elemsOf, dF32, dF64, dI64, dU8, dBool, dStr, esOk, elemsS,
            vsliceX, bnd, ownV, ownC, own1, ownT, isSl, nSl, endL, Md.isOwn, purge, purgeH, purgeB, purgeE, hasName, name1, List.any_cons, List.any_nil, Md.isWr, pureV.pureP,
            Option.map, reduceIte, Nat.reduceEqDiff, Nat.reduceAdd, Nat.reduceMul, Nat.reduceLT, Nat.reduceLeDiff, List.mapM_cons, List.mapM_nil, Option.pure_def,
            Option.bind_eq_bind, Option.bind_some, implies_true, forall_const, beq_self_eq_true, decide_true, decide_false, eq_self, Int.reduceEq, Int.reduceLE, Int.reduceLT,
            if_true, if_false, fc39_0, fc39_1, fc39_2, fc39_3, fc39_4, Int.reduceAdd, Int.reduceSub, Int.reduceMul, Int.reduceNeg, Int.reducePow, Nat.reducePow, Int.reduceToNat,
            Nat.reduceSub, List.replicate, Nat.reduceBEq, wAs, wA, wC, zipW, noDupN, grpE, g_impl_hasBone, g_impl_Skeleton_chain, g_slices_Contains_int64_int64, grpC, en0, dc_en0] <;> first | rfl | (simp only [Nat.add_comm]; done)))
end Go.Proofs
