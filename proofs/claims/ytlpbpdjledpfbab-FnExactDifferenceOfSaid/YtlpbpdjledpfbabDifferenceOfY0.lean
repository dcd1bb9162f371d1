/- What functions that FnExactDifferenceOf reaches compute. No conditions. -/
import Derived.Test.YtlpbpdjledpfbabFwF
import Derived.Test.YtlpbpdjledpfbabProg
import Derived.KernelRfl
set_option maxRecDepth 100000
set_option maxHeartbeats 4000000
set_option linter.all false
namespace Go.Proofs
open Go.Ab
theorem hm : Try.prog.follows .mixedOrders = true := by kernel_rfl
def en0 (p : (Nat × Nat × Nat × Nat)) : AV := (AV.agg [(.flt .f32 p.1), (.flt .f32 p.2.1), (.flt .f32 p.2.2.1), (.flt .f32 p.2.2.2)])
def dc_en0 : AV → Option (Nat × Nat × Nat × Nat)
  | .agg [.flt .f32 y0, .flt .f32 y1, .flt .f32 y2, .flt .f32 y3] => some (y0, y1, y2, y3)
  | _ => none
theorem dc_en0_map (ys : List (Nat × Nat × Nat × Nat)) : decL dc_en0 (List.map en0 ys) = some ys := decL_map (d := dc_en0) (e := en0) (fun p => by rfl) ys
theorem dc_en0_inv : ∀ x p, dc_en0 x = some p → x = en0 p := by
  intro x p h; unfold dc_en0 at h; split at h
  · cases h; rfl
  · cases h
theorem dc_en0_es (l : List (Nat × Nat × Nat × Nat)) : List.all (List.map en0 l) (esIs 4) = true := all_enc (fun _ => rfl) l
theorem dc_en0_st (l : List (Nat × Nat × Nat × Nat)) : List.all (List.map en0 l) (esSt 4) = true := all_enc (fun _ => rfl) l
theorem en0_app {xs : List (Nat × Nat × Nat × Nat)} {n : Int} {u0 : Nat} {u1 : Nat} {u2 : Nat} {u3 : Nat} (h : inB n (xs.length + 1) = true) : ((List.map en0 xs) ++ [(AV.agg [(.flt .f32 u0), (.flt .f32 u1), (.flt .f32 u2), (.flt .f32 u3)])])[n.toNat]? = some (en0 (atI (xs ++ [(u0, u1, u2, u3)]) n)) := getE_app (e := en0) (v := (u0, u1, u2, u3)) h
theorem en0_set {xs : List (Nat × Nat × Nat × Nat)} {n : Int} {i : Nat} {u0 : Nat} {u1 : Nat} {u2 : Nat} {u3 : Nat} (h : inB n xs.length = true) : ((List.map en0 xs).set i (AV.agg [(.flt .f32 u0), (.flt .f32 u1), (.flt .f32 u2), (.flt .f32 u3)]))[n.toNat]? = some (en0 (atI (xs.set i (u0, u1, u2, u3)) n)) := getE_set (e := en0) (v := (u0, u1, u2, u3)) h
theorem dc_en0_fl (l : List (Nat × Nat × Nat × Nat)) : List.all (List.map en0 l) flatE = true := all_enc (fun _ => rfl) l
def grpC := And.intro @dc_en0_map <| And.intro @dc_en0_es <| And.intro @dc_en0_st <| And.intro @en0_app <| And.intro @en0_set @dc_en0_fl
def m_laws_szTurnS (x0 : (List (Nat × Nat × Nat × Nat))) (x1 : Int) : Int := (if (decide ((IntKind.wrap .i64 (x1 - ((List.length x0 : Nat) : Int))) < 0)) = true then (-1) else
      (IntKind.wrap .i64 (x1 - ((List.length x0 : Nat) : Int))))
def g_laws_szTurnS : List AV → Option AV
  | [.sl w0, .int .i64 y1] => (match decL dc_en0 w0 with | some y0 => (some (.int .i64 (m_laws_szTurnS y0 y1))) | none => none)
  | _ => none
def ic32 : ICode := (.seq (.reg [⟨(some 4), none, (.mov (.c (.int .i64 0)))⟩] [0, 1]) (.seq (.reg [⟨(some 5), none, (.mov (.t 1))⟩, ⟨(some 6), none, (.mov (.t 0))⟩, ⟨(some 7), none,
      (.len false (.t 6))⟩, ⟨(some 8), none, (.bin .sub false (.t 5) (.t 7))⟩, ⟨(some 1), none, (.mov (.t 8))⟩] [1]) (.seq (.seq (.reg [⟨(some 9), none, (.mov (.t 1))⟩, ⟨(some 10),
      none, (.bin .lss false (.t 9) (.c (.int .i64 0)))⟩] [1, 10]) (.cond (.t 10) (.seq (.reg [⟨(some 4), none, (.mov (.c (.int .i64 (-1))))⟩] [4]) .ret) .skip)) (.seq (.reg [⟨(some
      11), none, (.mov (.t 1))⟩, ⟨(some 4), none, (.mov (.t 11))⟩] [4]) .ret))))
def cp32 : CP := CP.mk [] [] [[0, 1], [1], [1, 10], [4], [4]] 12 [] []
theorem fc32_0 : IntKind.wrap .i64 1 = 1 := by decide
theorem fc32_1 : IntKind.wrap .i64 2 = 2 := by decide
theorem fc32_2 : IntKind.wrap .i64 3 = 3 := by decide
theorem s32 : ∀ vs r, g_laws_szTurnS vs = some r → SaysM Try.prog .any 32 vs r := by
  intro vs r h
  unfold g_laws_szTurnS at h
  split at h
  · rename_i w0 y1
    cases hd_y0 : decL dc_en0 w0 with
    | none => rw [hd_y0] at h; cases h
    | some y0 =>
    rw [hd_y0] at h
    obtain rfl := decL_inv dc_en0_inv hd_y0
    clear hd_y0
    dsimp only at h
    cases h
    refine spec_of (m := .any) (tab := tabOf []) (cp := cp32) (ic := ic32) (rvl := [(.t 4)]) hm tabOk_nil Try.func32 rfl rfl rfl (by kernel_rfl) rfl (Nat.le_of_ble_eq_true rfl) (Nat.le_of_ble_eq_true rfl) ?_
    show eA _ _ _ _
    unfold ic32
    simp only [
        grpA, vsliceS, grpS, grpD, grpF, grpL, eop, vop, bop, uop, fltop, convop, endOk, newE, new1, freshL, Md.isNew, outV, pureV, pureX, pure1, AV.cells, AV.one, storable, laid,
              refless, refless1, vload, loadC, storeC, vnil, vfaddr, vextract, flatT, flatE, flatC, vconv, vmm, vidxA, viaddrA, vfield, vlen, elemsOf, dF32, dF64, dI64, dU8, dBool,
              dStr, esOk, elemsS, vsliceX, bnd, ownV, ownC, own1, ownT, isSl, nSl, endL, Md.isOwn, purge, purgeH, purgeB, purgeE, hasName, name1, List.any_cons, List.any_nil,
              Md.isWr, pureV.pureP, Option.map, reduceIte, Nat.reduceEqDiff, Nat.reduceAdd, Nat.reduceMul, Nat.reduceLT, Nat.reduceLeDiff, List.mapM_cons, List.mapM_nil,
              Option.pure_def, Option.bind_eq_bind, Option.bind_some, implies_true, forall_const, beq_self_eq_true, decide_true, decide_false, eq_self, Int.reduceEq, Int.reduceLE,
              Int.reduceLT, if_true, if_false, fc32_0, fc32_1, fc32_2, Int.reduceAdd, Int.reduceSub, Int.reduceMul, Int.reduceNeg, Int.reducePow, Nat.reducePow, Int.reduceToNat,
              Nat.reduceSub, List.replicate, Nat.reduceBEq, wAs, wA, wC, zipW, noDupN, grpE, beq_true, beq_false, grpC, en0, dc_en0]
    repeat' (first
      | ((first | (refine eGI_of (fun h => ?_) (fun h => ?_)) | (refine eCc_of (fun h => ?_) (fun h => ?_))) <;> (try simp only [Bool.not_eq_true', Bool.not_eq_false'] at h) <;> (try first | exact absurd (Eq.trans (Eq.symm h) (by assumption)) Bool.false_ne_true | exact absurd (Eq.trans (Eq.symm h) (by assumption)) (Ne.symm Bool.false_ne_true)) <;> simp only [h,
        grpA, vsliceS, grpS, grpD, grpF, grpL, eop, vop, bop, uop, fltop, convop, endOk, newE, new1, freshL, Md.isNew, outV, pureV, pureX, pure1, AV.cells, AV.one, storable, laid,
              refless, refless1, vload, loadC, storeC, vnil, vfaddr, vextract, flatT, flatE, flatC, vconv, vmm, vidxA, viaddrA, vfield, vlen, elemsOf, dF32, dF64, dI64, dU8, dBool,
              dStr, esOk, elemsS, vsliceX, bnd, ownV, ownC, own1, ownT, isSl, nSl, endL, Md.isOwn, purge, purgeH, purgeB, purgeE, hasName, name1, List.any_cons, List.any_nil,
              Md.isWr, pureV.pureP, Option.map, reduceIte, Nat.reduceEqDiff, Nat.reduceAdd, Nat.reduceMul, Nat.reduceLT, Nat.reduceLeDiff, List.mapM_cons, List.mapM_nil,
              Option.pure_def, Option.bind_eq_bind, Option.bind_some, implies_true, forall_const, beq_self_eq_true, decide_true, decide_false, eq_self, Int.reduceEq, Int.reduceLE,
              Int.reduceLT, if_true, if_false, fc32_0, fc32_1, fc32_2, Int.reduceAdd, Int.reduceSub, Int.reduceMul, Int.reduceNeg, Int.reducePow, Nat.reducePow, Int.reduceToNat,
              Nat.reduceSub, List.replicate, Nat.reduceBEq, wAs, wA, wC, zipW, noDupN, grpE, beq_true, beq_false, grpC, en0, dc_en0]))
    all_goals (try simp only [*, m_laws_szTurnS, Bool.and_true, Bool.true_and, Bool.and_false, Bool.false_and, Bool.or_true, Bool.true_or, Bool.or_false, Bool.false_or, Bool.not_true, Bool.not_false, Bool.false_eq_true, if_true, if_false, reduceIte, decide_true, decide_false])
    all_goals (try (simp_all; done))
  · cases h
def m_laws_szPose (x0 : (Nat × Nat × Nat × (List (Nat × Nat × Nat × Nat)))) (x1 : Int) : Int := (if (decide ((m_laws_szTurnS x0.2.2.2 x1) < 0)) = true then (-1) else (m_laws_szTurnS
      x0.2.2.2 x1))
def g_laws_szPose : List AV → Option AV
  | [.agg [.flt .f32 y0, .flt .f32 y1, .flt .f32 y2, .sl w3], .int .i64 y4] => (match decL dc_en0 w3 with | some y3 => (some (.int .i64 (m_laws_szPose (y0, y1, y2, y3) y4))) | none => none)
  | _ => none
def ic23 : ICode := (.seq (.reg [⟨(some 2), none, (.box 4 (.t 0))⟩, ⟨(some 4), none, (.mov (.c (.int .i64 0)))⟩] [1, 2]) (.seq (.reg [⟨(some 5), none, (.faddr 3 (.t 2))⟩, ⟨(some 6),
      none, (.load none (.t 5))⟩, ⟨(some 7), none, (.mov (.t 1))⟩, ⟨(some 8), none, (.call (.fn 32) [(.t 6), (.t 7)] [])⟩, ⟨(some 1), none, (.mov (.t 8))⟩] [1]) (.seq (.seq (.reg
      [⟨(some 9), none, (.mov (.t 1))⟩, ⟨(some 10), none, (.bin .lss false (.t 9) (.c (.int .i64 0)))⟩] [1, 10]) (.cond (.t 10) (.seq (.reg [⟨(some 4), none, (.mov (.c (.int .i64
      (-1))))⟩] [4]) .ret) .skip)) (.seq (.reg [⟨(some 11), none, (.mov (.t 1))⟩, ⟨(some 4), none, (.mov (.t 11))⟩] [4]) .ret))))
def cp23 : CP := CP.mk [] [] [[1, 2], [1], [1, 10], [4], [4]] 12 [] []
theorem fc23_0 : IntKind.wrap .i64 1 = 1 := by decide
theorem fc23_1 : IntKind.wrap .i64 2 = 2 := by decide
theorem fc23_2 : IntKind.wrap .i64 3 = 3 := by decide
theorem s23 : ∀ vs r, g_laws_szPose vs = some r → SaysM Try.prog .any 23 vs r := by
  intro vs r h
  unfold g_laws_szPose at h
  split at h
  · rename_i y0 y1 y2 w3 y4
    cases hd_y3 : decL dc_en0 w3 with
    | none => rw [hd_y3] at h; cases h
    | some y3 =>
    rw [hd_y3] at h
    obtain rfl := decL_inv dc_en0_inv hd_y3
    clear hd_y3
    dsimp only at h
    cases h
    refine spec_of (m := .any) (tab := tabOf [(32, wM .any g_laws_szTurnS)]) (cp := cp23) (ic := ic23) (rvl := [(.t 4)]) hm (tabOk_cons (m := .any) s32 tabOk_nil) Try.func23 rfl rfl rfl (by kernel_rfl) rfl (Nat.le_of_ble_eq_true rfl) (Nat.le_of_ble_eq_true rfl) ?_
    show eA _ _ _ _
    unfold ic23
    simp only [
        grpA, vsliceS, grpS, grpD, grpF, grpL, eop, vop, bop, uop, fltop, convop, endOk, newE, new1, freshL, Md.isNew, outV, pureV, pureX, pure1, AV.cells, AV.one, storable, laid,
              refless, refless1, vload, loadC, storeC, vnil, vfaddr, vextract, flatT, flatE, flatC, vconv, vmm, vidxA, viaddrA, vfield, vlen, elemsOf, dF32, dF64, dI64, dU8, dBool,
              dStr, esOk, elemsS, vsliceX, bnd, ownV, ownC, own1, ownT, isSl, nSl, endL, Md.isOwn, purge, purgeH, purgeB, purgeE, hasName, name1, List.any_cons, List.any_nil,
              Md.isWr, pureV.pureP, Option.map, reduceIte, Nat.reduceEqDiff, Nat.reduceAdd, Nat.reduceMul, Nat.reduceLT, Nat.reduceLeDiff, List.mapM_cons, List.mapM_nil,
              Option.pure_def, Option.bind_eq_bind, Option.bind_some, implies_true, forall_const, beq_self_eq_true, decide_true, decide_false, eq_self, Int.reduceEq, Int.reduceLE,
              Int.reduceLT, if_true, if_false, fc23_0, fc23_1, fc23_2, Int.reduceAdd, Int.reduceSub, Int.reduceMul, Int.reduceNeg, Int.reducePow, Nat.reducePow, Int.reduceToNat,
              Nat.reduceSub, List.replicate, Nat.reduceBEq, wAs, wA, wC, zipW, noDupN, grpE, beq_true, beq_false, g_laws_szTurnS, grpC, en0, dc_en0]
    repeat' (first
      | ((first | (refine eGI_of (fun h => ?_) (fun h => ?_)) | (refine eCc_of (fun h => ?_) (fun h => ?_))) <;> (try simp only [Bool.not_eq_true', Bool.not_eq_false'] at h) <;> (try first | exact absurd (Eq.trans (Eq.symm h) (by assumption)) Bool.false_ne_true | exact absurd (Eq.trans (Eq.symm h) (by assumption)) (Ne.symm Bool.false_ne_true)) <;> simp only [h,
        grpA, vsliceS, grpS, grpD, grpF, grpL, eop, vop, bop, uop, fltop, convop, endOk, newE, new1, freshL, Md.isNew, outV, pureV, pureX, pure1, AV.cells, AV.one, storable, laid,
              refless, refless1, vload, loadC, storeC, vnil, vfaddr, vextract, flatT, flatE, flatC, vconv, vmm, vidxA, viaddrA, vfield, vlen, elemsOf, dF32, dF64, dI64, dU8, dBool,
              dStr, esOk, elemsS, vsliceX, bnd, ownV, ownC, own1, ownT, isSl, nSl, endL, Md.isOwn, purge, purgeH, purgeB, purgeE, hasName, name1, List.any_cons, List.any_nil,
              Md.isWr, pureV.pureP, Option.map, reduceIte, Nat.reduceEqDiff, Nat.reduceAdd, Nat.reduceMul, Nat.reduceLT, Nat.reduceLeDiff, List.mapM_cons, List.mapM_nil,
              Option.pure_def, Option.bind_eq_bind, Option.bind_some, implies_true, forall_const, beq_self_eq_true, decide_true, decide_false, eq_self, Int.reduceEq, Int.reduceLE,
              Int.reduceLT, if_true, if_false, fc23_0, fc23_1, fc23_2, Int.reduceAdd, Int.reduceSub, Int.reduceMul, Int.reduceNeg, Int.reducePow, Nat.reducePow, Int.reduceToNat,
              Nat.reduceSub, List.replicate, Nat.reduceBEq, wAs, wA, wC, zipW, noDupN, grpE, beq_true, beq_false, g_laws_szTurnS, grpC, en0, dc_en0]))
    all_goals (try simp only [*, m_laws_szPose, Bool.and_true, Bool.true_and, Bool.and_false, Bool.false_and, Bool.or_true, Bool.true_or, Bool.or_false, Bool.false_or, Bool.not_true, Bool.not_false, Bool.false_eq_true, if_true, if_false, reduceIte, decide_true, decide_false])
    all_goals (try (simp_all; done))
  · cases h
def m_laws_toVector (x0 : (Nat × Nat × Nat)) : (Nat × Nat × Nat) := x0
def g_laws_toVector : List AV → Option AV
  | [.agg [.flt .f32 y0, .flt .f32 y1, .flt .f32 y2]] => some (AV.agg [(.flt .f32 (m_laws_toVector (y0, y1, y2)).1), (.flt .f32
      (m_laws_toVector (y0, y1, y2)).2.1), (.flt .f32 (m_laws_toVector (y0, y1, y2)).2.2)])
  | _ => none
def ic34 : ICode := (.seq (.reg [⟨(some 1), none, (.box 3 (.t 0))⟩, ⟨(some 2), none, (.alloc (.agg [(.flt .f32 0), (.flt .f32 0), (.flt .f32 0)]))⟩] [1, 2]) (.seq (.reg [⟨(some 3),
      none, (.alloc (.agg [(.flt .f32 0), (.flt .f32 0), (.flt .f32 0)]))⟩] [1, 2, 3]) (.seq (.reg [⟨(some 4), none, (.faddr 0 (.t 1))⟩, ⟨(some 5), none, (.load none (.t 4))⟩,
      ⟨(some 6), none, (.faddr 0 (.t 3))⟩, ⟨none, none, (.store 1 (.t 6) (.t 5))⟩] [1, 2, 3]) (.seq (.reg [⟨(some 7), none, (.faddr 1 (.t 1))⟩, ⟨(some 8), none, (.load none (.t
      7))⟩, ⟨(some 9), none, (.faddr 1 (.t 3))⟩, ⟨none, none, (.store 1 (.t 9) (.t 8))⟩] [1, 2, 3]) (.seq (.reg [⟨(some 10), none, (.faddr 2 (.t 1))⟩, ⟨(some 11), none, (.load none
      (.t 10))⟩, ⟨(some 12), none, (.faddr 2 (.t 3))⟩, ⟨none, none, (.store 1 (.t 12) (.t 11))⟩] [2, 3]) (.seq (.reg [⟨(some 13), none, (.load (some 3) (.t 3))⟩, ⟨none, none,
      (.store 3 (.t 2) (.t 13))⟩] [2]) .ret))))))
def cp34 : CP := CP.mk [] [] [[1, 2], [1, 2, 3], [1, 2, 3], [1, 2, 3], [2, 3], [2]] 14 [] []
theorem fc34_0 : IntKind.wrap .i64 1 = 1 := by decide
theorem fc34_1 : IntKind.wrap .i64 2 = 2 := by decide
theorem fc34_2 : IntKind.wrap .i64 3 = 3 := by decide
theorem s34 : ∀ vs r, g_laws_toVector vs = some r → SaysM Try.prog .any 34 vs r := by
  intro vs r h
  unfold g_laws_toVector at h
  split at h
  · rename_i y0 y1 y2
    cases h
    refine spec_of (m := .any) (tab := tabOf []) (cp := cp34) (ic := ic34) (rvl := [(.c 2 (some 3))]) hm tabOk_nil Try.func34 rfl rfl rfl (by kernel_rfl) rfl (Nat.le_of_ble_eq_true rfl) (Nat.le_of_ble_eq_true rfl) ?_
    show eA _ _ _ _
    unfold ic34
    simp only [
        grpA, vsliceS, grpS, grpD, grpF, grpL, eop, vop, bop, uop, fltop, convop, endOk, newE, new1, freshL, Md.isNew, outV, pureV, pureX, pure1, AV.cells, AV.one, storable, laid,
              refless, refless1, vload, loadC, storeC, vnil, vfaddr, vextract, flatT, flatE, flatC, vconv, vmm, vidxA, viaddrA, vfield, vlen, elemsOf, dF32, dF64, dI64, dU8, dBool,
              dStr, esOk, elemsS, vsliceX, bnd, ownV, ownC, own1, ownT, isSl, nSl, endL, Md.isOwn, purge, purgeH, purgeB, purgeE, hasName, name1, List.any_cons, List.any_nil,
              Md.isWr, pureV.pureP, Option.map, reduceIte, Nat.reduceEqDiff, Nat.reduceAdd, Nat.reduceMul, Nat.reduceLT, Nat.reduceLeDiff, List.mapM_cons, List.mapM_nil,
              Option.pure_def, Option.bind_eq_bind, Option.bind_some, implies_true, forall_const, beq_self_eq_true, decide_true, decide_false, eq_self, Int.reduceEq, Int.reduceLE,
              Int.reduceLT, if_true, if_false, fc34_0, fc34_1, fc34_2, Int.reduceAdd, Int.reduceSub, Int.reduceMul, Int.reduceNeg, Int.reducePow, Nat.reducePow, Int.reduceToNat,
              Nat.reduceSub, List.replicate, Nat.reduceBEq, wAs, wA, wC, zipW, noDupN, grpE, beq_true, beq_false, grpC, en0, dc_en0]
    repeat' (first
      | ((first | (refine eGI_of (fun h => ?_) (fun h => ?_)) | (refine eCc_of (fun h => ?_) (fun h => ?_))) <;> (try simp only [Bool.not_eq_true', Bool.not_eq_false'] at h) <;> (try first | exact absurd (Eq.trans (Eq.symm h) (by assumption)) Bool.false_ne_true | exact absurd (Eq.trans (Eq.symm h) (by assumption)) (Ne.symm Bool.false_ne_true)) <;> simp only [h,
        grpA, vsliceS, grpS, grpD, grpF, grpL, eop, vop, bop, uop, fltop, convop, endOk, newE, new1, freshL, Md.isNew, outV, pureV, pureX, pure1, AV.cells, AV.one, storable, laid,
              refless, refless1, vload, loadC, storeC, vnil, vfaddr, vextract, flatT, flatE, flatC, vconv, vmm, vidxA, viaddrA, vfield, vlen, elemsOf, dF32, dF64, dI64, dU8, dBool,
              dStr, esOk, elemsS, vsliceX, bnd, ownV, ownC, own1, ownT, isSl, nSl, endL, Md.isOwn, purge, purgeH, purgeB, purgeE, hasName, name1, List.any_cons, List.any_nil,
              Md.isWr, pureV.pureP, Option.map, reduceIte, Nat.reduceEqDiff, Nat.reduceAdd, Nat.reduceMul, Nat.reduceLT, Nat.reduceLeDiff, List.mapM_cons, List.mapM_nil,
              Option.pure_def, Option.bind_eq_bind, Option.bind_some, implies_true, forall_const, beq_self_eq_true, decide_true, decide_false, eq_self, Int.reduceEq, Int.reduceLE,
              Int.reduceLT, if_true, if_false, fc34_0, fc34_1, fc34_2, Int.reduceAdd, Int.reduceSub, Int.reduceMul, Int.reduceNeg, Int.reducePow, Nat.reducePow, Int.reduceToNat,
              Nat.reduceSub, List.replicate, Nat.reduceBEq, wAs, wA, wC, zipW, noDupN, grpE, beq_true, beq_false, grpC, en0, dc_en0]))
    all_goals (try simp only [*, m_laws_toVector, Bool.and_true, Bool.true_and, Bool.and_false, Bool.false_and, Bool.or_true, Bool.true_or, Bool.or_false, Bool.false_or, Bool.not_true, Bool.not_false, Bool.false_eq_true, if_true, if_false, reduceIte, decide_true, decide_false])
    all_goals (try (simp_all; done))
  · cases h
def m_laws_toTurn (x0 : (Nat × Nat × Nat × Nat)) : (Nat × Nat × Nat × Nat) := x0
def g_laws_toTurn : List AV → Option AV
  | [.agg [.flt .f32 y0, .flt .f32 y1, .flt .f32 y2, .flt .f32 y3]] => some (AV.agg [(.flt .f32 (m_laws_toTurn (y0, y1, y2, y3)).1), (.flt
      .f32 (m_laws_toTurn (y0, y1, y2, y3)).2.1), (.flt .f32 (m_laws_toTurn (y0, y1, y2, y3)).2.2.1), (.flt .f32 (m_laws_toTurn (y0, y1, y2, y3)).2.2.2)])
  | _ => none
def ic76 : ICode := (.seq (.reg [⟨(some 1), none, (.box 4 (.t 0))⟩, ⟨(some 2), none, (.alloc (.agg [(.flt .f32 0), (.flt .f32 0), (.flt .f32 0), (.flt .f32 0)]))⟩] [1, 2]) (.seq
      (.reg [⟨(some 3), none, (.alloc (.agg [(.flt .f32 0), (.flt .f32 0), (.flt .f32 0), (.flt .f32 0)]))⟩] [1, 2, 3]) (.seq (.reg [⟨(some 4), none, (.faddr 0 (.t 1))⟩, ⟨(some 5),
      none, (.load none (.t 4))⟩, ⟨(some 6), none, (.faddr 0 (.t 3))⟩, ⟨none, none, (.store 1 (.t 6) (.t 5))⟩] [1, 2, 3]) (.seq (.reg [⟨(some 7), none, (.faddr 1 (.t 1))⟩, ⟨(some
      8), none, (.load none (.t 7))⟩, ⟨(some 9), none, (.faddr 1 (.t 3))⟩, ⟨none, none, (.store 1 (.t 9) (.t 8))⟩] [1, 2, 3]) (.seq (.reg [⟨(some 10), none, (.faddr 2 (.t 1))⟩,
      ⟨(some 11), none, (.load none (.t 10))⟩, ⟨(some 12), none, (.faddr 2 (.t 3))⟩, ⟨none, none, (.store 1 (.t 12) (.t 11))⟩] [1, 2, 3]) (.seq (.reg [⟨(some 13), none, (.faddr 3
      (.t 1))⟩, ⟨(some 14), none, (.load none (.t 13))⟩, ⟨(some 15), none, (.faddr 3 (.t 3))⟩, ⟨none, none, (.store 1 (.t 15) (.t 14))⟩] [2, 3]) (.seq (.reg [⟨(some 16), none,
      (.load (some 4) (.t 3))⟩, ⟨none, none, (.store 4 (.t 2) (.t 16))⟩] [2]) .ret)))))))
def cp76 : CP := CP.mk [] [] [[1, 2], [1, 2, 3], [1, 2, 3], [1, 2, 3], [1, 2, 3], [2, 3], [2]] 17 [] []
theorem fc76_0 : IntKind.wrap .i64 1 = 1 := by decide
theorem fc76_1 : IntKind.wrap .i64 2 = 2 := by decide
theorem fc76_2 : IntKind.wrap .i64 3 = 3 := by decide
theorem s76 : ∀ vs r, g_laws_toTurn vs = some r → SaysM Try.prog .any 76 vs r := by
  intro vs r h
  unfold g_laws_toTurn at h
  split at h
  · rename_i y0 y1 y2 y3
    cases h
    refine spec_of (m := .any) (tab := tabOf []) (cp := cp76) (ic := ic76) (rvl := [(.c 2 (some 4))]) hm tabOk_nil Try.func76 rfl rfl rfl (by kernel_rfl) rfl (Nat.le_of_ble_eq_true rfl) (Nat.le_of_ble_eq_true rfl) ?_
    show eA _ _ _ _
    unfold ic76
    simp only [
        grpA, vsliceS, grpS, grpD, grpF, grpL, eop, vop, bop, uop, fltop, convop, endOk, newE, new1, freshL, Md.isNew, outV, pureV, pureX, pure1, AV.cells, AV.one, storable, laid,
              refless, refless1, vload, loadC, storeC, vnil, vfaddr, vextract, flatT, flatE, flatC, vconv, vmm, vidxA, viaddrA, vfield, vlen, elemsOf, dF32, dF64, dI64, dU8, dBool,
              dStr, esOk, elemsS, vsliceX, bnd, ownV, ownC, own1, ownT, isSl, nSl, endL, Md.isOwn, purge, purgeH, purgeB, purgeE, hasName, name1, List.any_cons, List.any_nil,
              Md.isWr, pureV.pureP, Option.map, reduceIte, Nat.reduceEqDiff, Nat.reduceAdd, Nat.reduceMul, Nat.reduceLT, Nat.reduceLeDiff, List.mapM_cons, List.mapM_nil,
              Option.pure_def, Option.bind_eq_bind, Option.bind_some, implies_true, forall_const, beq_self_eq_true, decide_true, decide_false, eq_self, Int.reduceEq, Int.reduceLE,
              Int.reduceLT, if_true, if_false, fc76_0, fc76_1, fc76_2, Int.reduceAdd, Int.reduceSub, Int.reduceMul, Int.reduceNeg, Int.reducePow, Nat.reducePow, Int.reduceToNat,
              Nat.reduceSub, List.replicate, Nat.reduceBEq, wAs, wA, wC, zipW, noDupN, grpE, beq_true, beq_false, grpC, en0, dc_en0]
    repeat' (first
      | ((first | (refine eGI_of (fun h => ?_) (fun h => ?_)) | (refine eCc_of (fun h => ?_) (fun h => ?_))) <;> (try simp only [Bool.not_eq_true', Bool.not_eq_false'] at h) <;> (try first | exact absurd (Eq.trans (Eq.symm h) (by assumption)) Bool.false_ne_true | exact absurd (Eq.trans (Eq.symm h) (by assumption)) (Ne.symm Bool.false_ne_true)) <;> simp only [h,
        grpA, vsliceS, grpS, grpD, grpF, grpL, eop, vop, bop, uop, fltop, convop, endOk, newE, new1, freshL, Md.isNew, outV, pureV, pureX, pure1, AV.cells, AV.one, storable, laid,
              refless, refless1, vload, loadC, storeC, vnil, vfaddr, vextract, flatT, flatE, flatC, vconv, vmm, vidxA, viaddrA, vfield, vlen, elemsOf, dF32, dF64, dI64, dU8, dBool,
              dStr, esOk, elemsS, vsliceX, bnd, ownV, ownC, own1, ownT, isSl, nSl, endL, Md.isOwn, purge, purgeH, purgeB, purgeE, hasName, name1, List.any_cons, List.any_nil,
              Md.isWr, pureV.pureP, Option.map, reduceIte, Nat.reduceEqDiff, Nat.reduceAdd, Nat.reduceMul, Nat.reduceLT, Nat.reduceLeDiff, List.mapM_cons, List.mapM_nil,
              Option.pure_def, Option.bind_eq_bind, Option.bind_some, implies_true, forall_const, beq_self_eq_true, decide_true, decide_false, eq_self, Int.reduceEq, Int.reduceLE,
              Int.reduceLT, if_true, if_false, fc76_0, fc76_1, fc76_2, Int.reduceAdd, Int.reduceSub, Int.reduceMul, Int.reduceNeg, Int.reducePow, Nat.reducePow, Int.reduceToNat,
              Nat.reduceSub, List.replicate, Nat.reduceBEq, wAs, wA, wC, zipW, noDupN, grpE, beq_true, beq_false, grpC, en0, dc_en0]))
    all_goals (try simp only [*, m_laws_toTurn, Bool.and_true, Bool.true_and, Bool.and_false, Bool.false_and, Bool.or_true, Bool.true_or, Bool.or_false, Bool.false_or, Bool.not_true, Bool.not_false, Bool.false_eq_true, if_true, if_false, reduceIte, decide_true, decide_false])
    all_goals (try (simp_all; done))
  · cases h
def l_laws_toTurnS_0 (x0 : (List (Nat × Nat × Nat × Nat))) : Nat → (List (Nat × Nat × Nat × Nat)) → Int → Option (List (Nat × Nat × Nat × Nat))
  | 0, _, _ => none
  | n + 1, z0_0, z0_1 => (if (decide (z0_1 < ((List.length x0 : Nat) : Int))) = true then (need (inB z0_1 (List.length x0)) (need (inB z0_1 (List.length z0_0)) (l_laws_toTurnS_0 x0
        n (List.set z0_0 (Int.toNat z0_1) (m_laws_toTurn (atI x0 z0_1))) (IntKind.wrap .i64 (z0_1 + 1))))) else (some z0_0))
def m_laws_toTurnS (x0 : (List (Nat × Nat × Nat × Nat))) : (List (Nat × Nat × Nat × Nat)) := (Option.getD (l_laws_toTurnS_0 x0 (Int.toNat (((List.length x0 : Nat) : Int) - 0) + 2)
      (List.replicate (Int.toNat ((List.length x0 : Nat) : Int)) (0, 0, 0, 0)) 0) default)
def p_laws_toTurnS (x0 : (List (Nat × Nat × Nat × Nat))) : Bool := ((decide (0 ≤ ((List.length x0 : Nat) : Int))) && ((decide (((List.length x0 : Nat) : Int) * 16 ≤ 70368744177664))
      && ((decide (((List.length x0 : Nat) : Int) ≤ 70368744177664)) && (Option.isSome (l_laws_toTurnS_0 x0 (Int.toNat (((List.length x0 : Nat) : Int) - 0) + 2) (List.replicate
      (Int.toNat ((List.length x0 : Nat) : Int)) (0, 0, 0, 0)) 0)))))
def g_laws_toTurnS : List AV → Option AV
  | [.sl w0] => (match decL dc_en0 w0 with | some y0 => (if p_laws_toTurnS y0 = true then some (.sl (List.map en0 (m_laws_toTurnS y0))) else none) | none => none)
  | _ => none
def lb35_0 : ICode := (.seq (.seq (.reg [⟨(some 8), none, (.mov (.t 4))⟩, ⟨(some 9), none, (.mov (.t 0))⟩, ⟨(some 10), none, (.len false (.t 9))⟩, ⟨(some 11), none, (.bin .lss false
      (.t 8) (.t 10))⟩] [0, 3, 4, 11]) (.cond (.t 11) .skip (.exit 0))) (.seq (.block 1 (.reg [⟨(some 14), none, (.mov (.t 3))⟩, ⟨(some 15), none, (.mov (.t 4))⟩, ⟨(some 16), none,
      (.mov (.t 0))⟩, ⟨(some 17), none, (.mov (.t 4))⟩, ⟨(some 18), none, (.iaddrS 4 (.t 16) (.t 17))⟩, ⟨(some 19), none, (.load (some 4) (.t 18))⟩, ⟨(some 20), none, (.call (.fn
      76) [(.t 19)] [])⟩, ⟨(some 21), none, (.iaddrS 4 (.t 14) (.t 15))⟩, ⟨none, none, (.store 4 (.t 21) (.t 20))⟩] [0, 3, 4])) (.reg [⟨(some 12), none, (.mov (.t 4))⟩, ⟨(some 13),
      none, (.bin .add false (.t 12) (.c (.int .i64 1)))⟩, ⟨(some 4), none, (.mov (.t 13))⟩] [0, 3, 4])))
def ic35 : ICode := (.seq (.reg [⟨(some 2), none, (.mov (.c .snil))⟩] [0]) (.seq (.reg [⟨(some 5), none, (.mov (.t 0))⟩, ⟨(some 6), none, (.len false (.t 5))⟩, ⟨(some 7), none,
      (.mkslice 4 16 (.agg [(.flt .f32 0), (.flt .f32 0), (.flt .f32 0), (.flt .f32 0)]) (.t 6) (.t 6))⟩, ⟨(some 3), none, (.mov (.t 7))⟩] [0, 3]) (.seq (.seq (.reg [⟨(some 4),
      none, (.mov (.c (.int .i64 0)))⟩] [0, 3, 4]) (.block 0 (.loop lb35_0))) (.seq (.reg [⟨(some 22), none, (.mov (.t 3))⟩, ⟨(some 2), none, (.mov (.t 22))⟩] [2]) .ret))))
def cp35 : CP := CP.mk [] [] [[0], [0, 3], [0, 3, 4], [0, 3, 4, 11], [0, 3, 4], [0, 3, 4], [2]] 23 [] []
theorem fc35_0 : IntKind.wrap .i64 1 = 1 := by decide
theorem fc35_1 : IntKind.wrap .i64 2 = 2 := by decide
theorem fc35_2 : IntKind.wrap .i64 3 = 3 := by decide
theorem sl35_0 (x0 : (List (Nat × Nat × Nat × Nat))) : ∀ (n : Nat) (z0_0 : (List (Nat × Nat × Nat × Nat))) (z0_1 : Int) (o : (List (Nat × Nat × Nat × Nat))) (K : IExit → St → Prop),
      l_laws_toTurnS_0 x0 n z0_0 z0_1 = some o → (∀ st, Wk st (⟨[(3, (.lsl 7 0 (List.length o)))], [(7, (some ⟨4, true, (List.map en0 o)⟩))]⟩ : St) → K (.exit 0) st) → eA (tabOf
      [(76, wM .any g_laws_toTurn)]) (.loop lb35_0) (⟨[(0, (.sl (List.map en0 x0))), (3, (.lsl 7 0 (List.length z0_0))), (4, (.int .i64 z0_1))], [(7, (some ⟨4, true, (List.map en0
      z0_0)⟩))]⟩ : St) K := by
  intro n
  induction n with
  | zero =>
    intro z0_0 z0_1 o K h h0
    simp only [l_laws_toTurnS_0, reduceCtorEq] at h
  | succ n ih =>
    intro z0_0 z0_1 o K h h0
    refine eA_loop ?_
    unfold lb35_0
    unfold l_laws_toTurnS_0 at h
    (try simp only [need_iff] at h)
    simp only [
      need_iff, h, grpA, vsliceS, grpS, grpD, grpF, grpL, eop, vop, bop, uop, fltop, convop, endOk, newE, new1, freshL, Md.isNew, outV, pureV, pureX, pure1, AV.cells, AV.one,
            storable, laid, refless, refless1, vload, loadC, storeC, vnil, vfaddr, vextract, flatT, flatE, flatC, vconv, vmm, vidxA, viaddrA, vfield, vlen, elemsOf, dF32, dF64,
            dI64, dU8, dBool, dStr, esOk, elemsS, vsliceX, bnd, ownV, ownC, own1, ownT, isSl, nSl, endL, Md.isOwn, purge, purgeH, purgeB, purgeE, hasName, name1, List.any_cons,
            List.any_nil, Md.isWr, pureV.pureP, Option.map, reduceIte, Nat.reduceEqDiff, Nat.reduceAdd, Nat.reduceMul, Nat.reduceLT, Nat.reduceLeDiff, List.mapM_cons, List.mapM_nil,
            Option.pure_def, Option.bind_eq_bind, Option.bind_some, implies_true, forall_const, beq_self_eq_true, decide_true, decide_false, eq_self, Int.reduceEq, Int.reduceLE,
            Int.reduceLT, if_true, if_false, fc35_0, fc35_1, fc35_2, Int.reduceAdd, Int.reduceSub, Int.reduceMul, Int.reduceNeg, Int.reducePow, Nat.reducePow, Int.reduceToNat,
            Nat.reduceSub, List.replicate, Nat.reduceBEq, wAs, wA, wC, zipW, noDupN, grpE, beq_true, beq_false, g_laws_toTurn, grpC, en0, dc_en0]
    repeat' (first
      | ((first | (refine eGI_of (fun hc => ?_) (fun hc => ?_)) | (refine eCc_of (fun hc => ?_) (fun hc => ?_)) | (have hc := True.intro; refine KW_refl ?_)) <;> (try simp only [Bool.not_eq_true', Bool.not_eq_false'] at hc) <;> (try simp only [hc, need_iff, reduceCtorEq, beq_true, beq_false, Int.reduceEq, Int.reduceLT, Int.reduceLE, true_or, or_true, Bool.not_eq_true', decide_eq_false_iff_not, Bool.not_true, Bool.not_false, Bool.false_or, Bool.true_or, Bool.true_and, Bool.false_and, Bool.and_eq_true, Bool.or_eq_true, if_true, if_false, reduceIte, Bool.false_eq_true, and_true, true_and, false_or, or_false, decide_eq_true_eq, not_false_eq_true, not_true_eq_false] at h) <;> (first | (have hc2 := hc; simp only [decide_eq_true_eq, decide_eq_false_iff_not] at hc2; (first | (replace hc2 := eq_false hc2) | (replace hc2 := eq_true hc2)); (try simp only [hc2, need_iff, reduceCtorEq, beq_true, beq_false, Int.reduceEq, Int.reduceLT, Int.reduceLE, true_or, or_true, Bool.not_eq_true', decide_eq_false_iff_not, Bool.not_true, Bool.not_false, Bool.false_or, Bool.true_or, Bool.true_and, Bool.false_and, Bool.and_eq_true, Bool.or_eq_true, if_true, if_false, reduceIte, Bool.false_eq_true, and_true, true_and, false_or, or_false, decide_eq_true_eq, not_false_eq_true, not_true_eq_false] at h); replace h := And.intro hc2 h) | (replace h := And.intro hc h) | skip) <;> simp only [hc,
      need_iff, h, grpA, vsliceS, grpS, grpD, grpF, grpL, eop, vop, bop, uop, fltop, convop, endOk, newE, new1, freshL, Md.isNew, outV, pureV, pureX, pure1, AV.cells, AV.one,
            storable, laid, refless, refless1, vload, loadC, storeC, vnil, vfaddr, vextract, flatT, flatE, flatC, vconv, vmm, vidxA, viaddrA, vfield, vlen, elemsOf, dF32, dF64,
            dI64, dU8, dBool, dStr, esOk, elemsS, vsliceX, bnd, ownV, ownC, own1, ownT, isSl, nSl, endL, Md.isOwn, purge, purgeH, purgeB, purgeE, hasName, name1, List.any_cons,
            List.any_nil, Md.isWr, pureV.pureP, Option.map, reduceIte, Nat.reduceEqDiff, Nat.reduceAdd, Nat.reduceMul, Nat.reduceLT, Nat.reduceLeDiff, List.mapM_cons, List.mapM_nil,
            Option.pure_def, Option.bind_eq_bind, Option.bind_some, implies_true, forall_const, beq_self_eq_true, decide_true, decide_false, eq_self, Int.reduceEq, Int.reduceLE,
            Int.reduceLT, if_true, if_false, fc35_0, fc35_1, fc35_2, Int.reduceAdd, Int.reduceSub, Int.reduceMul, Int.reduceNeg, Int.reducePow, Nat.reducePow, Int.reduceToNat,
            Nat.reduceSub, List.replicate, Nat.reduceBEq, wAs, wA, wC, zipW, noDupN, grpE, beq_true, beq_false, g_laws_toTurn, grpC, en0, dc_en0]))
    all_goals (repeat (replace h := And.right h))
    all_goals first
      | (refine eA_wk (wk_norm (ks := [0, 3, 4]) (ls := [7]) ?_) (eA_cast ?_ (ih _ _ _ _ h h0)); (simp only [normOk, optIn, blkIn, nameIn,
      need_iff, h, grpA, vsliceS, grpS, grpD, grpF, grpL, eop, vop, bop, uop, fltop, convop, endOk, newE, new1, freshL, Md.isNew, outV, pureV, pureX, pure1, AV.cells, AV.one,
            storable, laid, refless, refless1, vload, loadC, storeC, vnil, vfaddr, vextract, flatT, flatE, flatC, vconv, vmm, vidxA, viaddrA, vfield, vlen, elemsOf, dF32, dF64,
            dI64, dU8, dBool, dStr, esOk, elemsS, vsliceX, bnd, ownV, ownC, own1, ownT, isSl, nSl, endL, Md.isOwn, purge, purgeH, purgeB, purgeE, hasName, name1, List.any_cons,
            List.any_nil, Md.isWr, pureV.pureP, Option.map, reduceIte, Nat.reduceEqDiff, Nat.reduceAdd, Nat.reduceMul, Nat.reduceLT, Nat.reduceLeDiff, List.mapM_cons, List.mapM_nil,
            Option.pure_def, Option.bind_eq_bind, Option.bind_some, implies_true, forall_const, beq_self_eq_true, decide_true, decide_false, eq_self, Int.reduceEq, Int.reduceLE,
            Int.reduceLT, if_true, if_false, fc35_0, fc35_1, fc35_2, Int.reduceAdd, Int.reduceSub, Int.reduceMul, Int.reduceNeg, Int.reducePow, Nat.reducePow, Int.reduceToNat,
            Nat.reduceSub, List.replicate, Nat.reduceBEq, wAs, wA, wC, zipW, noDupN, grpE, beq_true, beq_false, g_laws_toTurn, grpC, en0, dc_en0] <;> rfl); (simp only [normS, List.map_append, List.length_append, List.map_set, List.length_set, List.map_replicate, List.length_replicate, List.map_nil, List.map_cons,
      need_iff, h, grpA, vsliceS, grpS, grpD, grpF, grpL, eop, vop, bop, uop, fltop, convop, endOk, newE, new1, freshL, Md.isNew, outV, pureV, pureX, pure1, AV.cells, AV.one,
            storable, laid, refless, refless1, vload, loadC, storeC, vnil, vfaddr, vextract, flatT, flatE, flatC, vconv, vmm, vidxA, viaddrA, vfield, vlen, elemsOf, dF32, dF64,
            dI64, dU8, dBool, dStr, esOk, elemsS, vsliceX, bnd, ownV, ownC, own1, ownT, isSl, nSl, endL, Md.isOwn, purge, purgeH, purgeB, purgeE, hasName, name1, List.any_cons,
            List.any_nil, Md.isWr, pureV.pureP, Option.map, reduceIte, Nat.reduceEqDiff, Nat.reduceAdd, Nat.reduceMul, Nat.reduceLT, Nat.reduceLeDiff, List.mapM_cons, List.mapM_nil,
            Option.pure_def, Option.bind_eq_bind, Option.bind_some, implies_true, forall_const, beq_self_eq_true, decide_true, decide_false, eq_self, Int.reduceEq, Int.reduceLE,
            Int.reduceLT, if_true, if_false, fc35_0, fc35_1, fc35_2, Int.reduceAdd, Int.reduceSub, Int.reduceMul, Int.reduceNeg, Int.reducePow, Nat.reducePow, Int.reduceToNat,
            Nat.reduceSub, List.replicate, Nat.reduceBEq, wAs, wA, wC, zipW, noDupN, grpE, beq_true, beq_false, g_laws_toTurn, grpC, en0, dc_en0] <;> first | rfl | (simp only [Nat.add_comm]; done)))
      | (cases h; refine h0 _ (Wk.cast (wk_norm (ks := [3]) (ls := [7]) ?_) ?_); (simp only [normOk, optIn, blkIn, nameIn,
      grpA, vsliceS, grpS, grpD, grpF, grpL, eop, vop, bop, uop, fltop, convop, endOk, newE, new1, freshL, Md.isNew, outV, pureV, pureX, pure1, AV.cells, AV.one, storable, laid,
            refless, refless1, vload, loadC, storeC, vnil, vfaddr, vextract, flatT, flatE, flatC, vconv, vmm, vidxA, viaddrA, vfield, vlen, elemsOf, dF32, dF64, dI64, dU8, dBool,
            dStr, esOk, elemsS, vsliceX, bnd, ownV, ownC, own1, ownT, isSl, nSl, endL, Md.isOwn, purge, purgeH, purgeB, purgeE, hasName, name1, List.any_cons, List.any_nil, Md.isWr,
            pureV.pureP, Option.map, reduceIte, Nat.reduceEqDiff, Nat.reduceAdd, Nat.reduceMul, Nat.reduceLT, Nat.reduceLeDiff, List.mapM_cons, List.mapM_nil, Option.pure_def,
            Option.bind_eq_bind, Option.bind_some, implies_true, forall_const, beq_self_eq_true, decide_true, decide_false, eq_self, Int.reduceEq, Int.reduceLE, Int.reduceLT,
            if_true, if_false, fc35_0, fc35_1, fc35_2, Int.reduceAdd, Int.reduceSub, Int.reduceMul, Int.reduceNeg, Int.reducePow, Nat.reducePow, Int.reduceToNat, Nat.reduceSub,
            List.replicate, Nat.reduceBEq, wAs, wA, wC, zipW, noDupN, grpE, beq_true, beq_false, g_laws_toTurn, grpC, en0, dc_en0] <;> rfl); (simp only [normS, List.map_append, List.length_append, List.map_set, List.length_set, List.map_replicate, List.length_replicate,
      grpA, vsliceS, grpS, grpD, grpF, grpL, eop, vop, bop, uop, fltop, convop, endOk, newE, new1, freshL, Md.isNew, outV, pureV, pureX, pure1, AV.cells, AV.one, storable, laid,
            refless, refless1, vload, loadC, storeC, vnil, vfaddr, vextract, flatT, flatE, flatC, vconv, vmm, vidxA, viaddrA, vfield, vlen, elemsOf, dF32, dF64, dI64, dU8, dBool,
            dStr, esOk, elemsS, vsliceX, bnd, ownV, ownC, own1, ownT, isSl, nSl, endL, Md.isOwn, purge, purgeH, purgeB, purgeE, hasName, name1, List.any_cons, List.any_nil, Md.isWr,
            pureV.pureP, Option.map, reduceIte, Nat.reduceEqDiff, Nat.reduceAdd, Nat.reduceMul, Nat.reduceLT, Nat.reduceLeDiff, List.mapM_cons, List.mapM_nil, Option.pure_def,
            Option.bind_eq_bind, Option.bind_some, implies_true, forall_const, beq_self_eq_true, decide_true, decide_false, eq_self, Int.reduceEq, Int.reduceLE, Int.reduceLT,
            if_true, if_false, fc35_0, fc35_1, fc35_2, Int.reduceAdd, Int.reduceSub, Int.reduceMul, Int.reduceNeg, Int.reducePow, Nat.reducePow, Int.reduceToNat, Nat.reduceSub,
            List.replicate, Nat.reduceBEq, wAs, wA, wC, zipW, noDupN, grpE, beq_true, beq_false, g_laws_toTurn, grpC, en0, dc_en0] <;> first | rfl | (simp only [Nat.add_comm]; done)))
theorem s35 : ∀ vs r, g_laws_toTurnS vs = some r → SaysM Try.prog (.own [4]) 35 vs r := by
  intro vs r h
  unfold g_laws_toTurnS at h
  split at h
  · rename_i w0
    cases hd_y0 : decL dc_en0 w0 with
    | none => rw [hd_y0] at h; cases h
    | some y0 =>
    rw [hd_y0] at h
    obtain rfl := decL_inv dc_en0_inv hd_y0
    clear hd_y0
    dsimp only at h
    split at h
    · rename_i hp
      cases h
      refine spec_of (m := (.own [4])) (tab := tabOf [(76, wM .any g_laws_toTurn)]) (cp := cp35) (ic := ic35) (rvl := [(.t 2)]) hm (tabOk_cons (m := .any) s76 tabOk_nil) Try.func35 rfl rfl rfl (by kernel_rfl) rfl (Nat.le_of_ble_eq_true rfl) (Nat.le_of_ble_eq_true rfl) ?_
      show eA _ _ _ _
      unfold ic35
      simp only [p_laws_toTurnS, Bool.and_eq_true, Bool.or_eq_true, decide_eq_true_eq, Bool.not_eq_true', decide_eq_false_iff_not] at hp
      simp only [
          hp, grpA, vsliceS, grpS, grpD, grpF, grpL, eop, vop, bop, uop, fltop, convop, endOk, newE, new1, freshL, Md.isNew, outV, pureV, pureX, pure1, AV.cells, AV.one, storable,
                laid, refless, refless1, vload, loadC, storeC, vnil, vfaddr, vextract, flatT, flatE, flatC, vconv, vmm, vidxA, viaddrA, vfield, vlen, elemsOf, dF32, dF64, dI64, dU8,
                dBool, dStr, esOk, elemsS, vsliceX, bnd, ownV, ownC, own1, ownT, isSl, nSl, endL, Md.isOwn, purge, purgeH, purgeB, purgeE, hasName, name1, List.any_cons,
                List.any_nil, Md.isWr, pureV.pureP, Option.map, reduceIte, Nat.reduceEqDiff, Nat.reduceAdd, Nat.reduceMul, Nat.reduceLT, Nat.reduceLeDiff, List.mapM_cons,
                List.mapM_nil, Option.pure_def, Option.bind_eq_bind, Option.bind_some, implies_true, forall_const, beq_self_eq_true, decide_true, decide_false, eq_self,
                Int.reduceEq, Int.reduceLE, Int.reduceLT, if_true, if_false, fc35_0, fc35_1, fc35_2, Int.reduceAdd, Int.reduceSub, Int.reduceMul, Int.reduceNeg, Int.reducePow,
                Nat.reducePow, Int.reduceToNat, Nat.reduceSub, List.replicate, Nat.reduceBEq, wAs, wA, wC, zipW, noDupN, grpE, beq_true, beq_false, g_laws_toTurn, grpC, en0, dc_en0]
      repeat' (first
        | ((first | (refine eGI_of (fun h => ?_) (fun h => ?_)) | (refine eCc_of (fun h => ?_) (fun h => ?_)) | (have h := True.intro; refine KW_refl ?_)) <;> (try simp only [Bool.not_eq_true', Bool.not_eq_false'] at h) <;> (try first | exact absurd (Eq.trans (Eq.symm h) (by assumption)) Bool.false_ne_true | exact absurd (Eq.trans (Eq.symm h) (by assumption)) (Ne.symm Bool.false_ne_true)) <;> (try simp only [h, reduceCtorEq, beq_true, beq_false, Int.reduceEq, Int.reduceLT, Int.reduceLE, true_or, or_true, Bool.not_eq_true', decide_eq_false_iff_not, Bool.not_true, Bool.not_false, Bool.false_or, Bool.true_or, Bool.true_and, Bool.false_and, Bool.and_eq_true, Bool.or_eq_true, if_true, if_false, reduceIte, Bool.false_eq_true, and_true, true_and, false_or, or_false, decide_eq_true_eq, not_false_eq_true, not_true_eq_false] at hp) <;> (first | (have h2 := h; simp only [decide_eq_true_eq, decide_eq_false_iff_not] at h2; (first | (replace h2 := eq_false h2) | (replace h2 := eq_true h2)); (try simp only [h2, reduceCtorEq, beq_true, beq_false, Int.reduceEq, Int.reduceLT, Int.reduceLE, true_or, or_true, Bool.not_eq_true', decide_eq_false_iff_not, Bool.not_true, Bool.not_false, Bool.false_or, Bool.true_or, Bool.true_and, Bool.false_and, Bool.and_eq_true, Bool.or_eq_true, if_true, if_false, reduceIte, Bool.false_eq_true, and_true, true_and, false_or, or_false, decide_eq_true_eq, not_false_eq_true, not_true_eq_false] at hp); replace hp := And.intro h2 hp) | (replace hp := And.intro h hp) | skip) <;> simp only [h,
          hp, grpA, vsliceS, grpS, grpD, grpF, grpL, eop, vop, bop, uop, fltop, convop, endOk, newE, new1, freshL, Md.isNew, outV, pureV, pureX, pure1, AV.cells, AV.one, storable,
                laid, refless, refless1, vload, loadC, storeC, vnil, vfaddr, vextract, flatT, flatE, flatC, vconv, vmm, vidxA, viaddrA, vfield, vlen, elemsOf, dF32, dF64, dI64, dU8,
                dBool, dStr, esOk, elemsS, vsliceX, bnd, ownV, ownC, own1, ownT, isSl, nSl, endL, Md.isOwn, purge, purgeH, purgeB, purgeE, hasName, name1, List.any_cons,
                List.any_nil, Md.isWr, pureV.pureP, Option.map, reduceIte, Nat.reduceEqDiff, Nat.reduceAdd, Nat.reduceMul, Nat.reduceLT, Nat.reduceLeDiff, List.mapM_cons,
                List.mapM_nil, Option.pure_def, Option.bind_eq_bind, Option.bind_some, implies_true, forall_const, beq_self_eq_true, decide_true, decide_false, eq_self,
                Int.reduceEq, Int.reduceLE, Int.reduceLT, if_true, if_false, fc35_0, fc35_1, fc35_2, Int.reduceAdd, Int.reduceSub, Int.reduceMul, Int.reduceNeg, Int.reducePow,
                Nat.reducePow, Int.reduceToNat, Nat.reduceSub, List.replicate, Nat.reduceBEq, wAs, wA, wC, zipW, noDupN, grpE, beq_true, beq_false, g_laws_toTurn, grpC, en0, dc_en0])
        | (refine eA_wk (wk_norm (ks := [0, 3, 4]) (ls := [7]) ?_) (eA_cast ?_ (sl35_0 y0 _ _ _ _ _ (getD_some (d := default) (x := (l_laws_toTurnS_0 y0 (Int.toNat (((List.length y0 : Nat) : Int) - 0) + 2) (List.replicate (Int.toNat ((List.length y0 : Nat) : Int)) (0, 0, 0, 0)) 0)) ?_) ?_)); (simp only [nilS, nilV, normOk, optIn, blkIn, nameIn, 
          hp, grpA, vsliceS, grpS, grpD, grpF, grpL, eop, vop, bop, uop, fltop, convop, endOk, newE, new1, freshL, Md.isNew, outV, pureV, pureX, pure1, AV.cells, AV.one, storable,
                laid, refless, refless1, vload, loadC, storeC, vnil, vfaddr, vextract, flatT, flatE, flatC, vconv, vmm, vidxA, viaddrA, vfield, vlen, elemsOf, dF32, dF64, dI64, dU8,
                dBool, dStr, esOk, elemsS, vsliceX, bnd, ownV, ownC, own1, ownT, isSl, nSl, endL, Md.isOwn, purge, purgeH, purgeB, purgeE, hasName, name1, List.any_cons,
                List.any_nil, Md.isWr, pureV.pureP, Option.map, reduceIte, Nat.reduceEqDiff, Nat.reduceAdd, Nat.reduceMul, Nat.reduceLT, Nat.reduceLeDiff, List.mapM_cons,
                List.mapM_nil, Option.pure_def, Option.bind_eq_bind, Option.bind_some, implies_true, forall_const, beq_self_eq_true, decide_true, decide_false, eq_self,
                Int.reduceEq, Int.reduceLE, Int.reduceLT, if_true, if_false, fc35_0, fc35_1, fc35_2, Int.reduceAdd, Int.reduceSub, Int.reduceMul, Int.reduceNeg, Int.reducePow,
                Nat.reducePow, Int.reduceToNat, Nat.reduceSub, List.replicate, Nat.reduceBEq, wAs, wA, wC, zipW, noDupN, grpE, beq_true, beq_false, g_laws_toTurn, grpC, en0, dc_en0] <;> rfl); (simp only [nilS, nilV, normS,  List.map_append, List.length_append, List.map_set, List.length_set, List.map_replicate, List.length_replicate, List.map_nil, List.map_cons,
          hp, grpA, vsliceS, grpS, grpD, grpF, grpL, eop, vop, bop, uop, fltop, convop, endOk, newE, new1, freshL, Md.isNew, outV, pureV, pureX, pure1, AV.cells, AV.one, storable,
                laid, refless, refless1, vload, loadC, storeC, vnil, vfaddr, vextract, flatT, flatE, flatC, vconv, vmm, vidxA, viaddrA, vfield, vlen, elemsOf, dF32, dF64, dI64, dU8,
                dBool, dStr, esOk, elemsS, vsliceX, bnd, ownV, ownC, own1, ownT, isSl, nSl, endL, Md.isOwn, purge, purgeH, purgeB, purgeE, hasName, name1, List.any_cons,
                List.any_nil, Md.isWr, pureV.pureP, Option.map, reduceIte, Nat.reduceEqDiff, Nat.reduceAdd, Nat.reduceMul, Nat.reduceLT, Nat.reduceLeDiff, List.mapM_cons,
                List.mapM_nil, Option.pure_def, Option.bind_eq_bind, Option.bind_some, implies_true, forall_const, beq_self_eq_true, decide_true, decide_false, eq_self,
                Int.reduceEq, Int.reduceLE, Int.reduceLT, if_true, if_false, fc35_0, fc35_1, fc35_2, Int.reduceAdd, Int.reduceSub, Int.reduceMul, Int.reduceNeg, Int.reducePow,
                Nat.reducePow, Int.reduceToNat, Nat.reduceSub, List.replicate, Nat.reduceBEq, wAs, wA, wC, zipW, noDupN, grpE, beq_true, beq_false, g_laws_toTurn, grpC, en0, dc_en0] <;> first | rfl | (simp only [Nat.add_comm]; done)); (simp only [hp]); (
        intro st2 hw; (try simp only [reduceCtorEq, beq_true, beq_false, Int.reduceEq, Int.reduceLT, Int.reduceLE, true_or, or_true, Bool.not_eq_true', decide_eq_false_iff_not, Bool.not_true, Bool.not_false, Bool.false_or, Bool.true_or, Bool.true_and, Bool.false_and, Bool.and_eq_true, Bool.or_eq_true, if_true, if_false, reduceIte, Bool.false_eq_true, and_true, true_and, false_or, or_false, decide_eq_true_eq, not_false_eq_true, not_true_eq_false] at hp); simp only [
          hp, grpA, vsliceS, grpS, grpD, grpF, grpL, eop, vop, bop, uop, fltop, convop, endOk, newE, new1, freshL, Md.isNew, outV, pureV, pureX, pure1, AV.cells, AV.one, storable,
                laid, refless, refless1, vload, loadC, storeC, vnil, vfaddr, vextract, flatT, flatE, flatC, vconv, vmm, vidxA, viaddrA, vfield, vlen, elemsOf, dF32, dF64, dI64, dU8,
                dBool, dStr, esOk, elemsS, vsliceX, bnd, ownV, ownC, own1, ownT, isSl, nSl, endL, Md.isOwn, purge, purgeH, purgeB, purgeE, hasName, name1, List.any_cons,
                List.any_nil, Md.isWr, pureV.pureP, Option.map, reduceIte, Nat.reduceEqDiff, Nat.reduceAdd, Nat.reduceMul, Nat.reduceLT, Nat.reduceLeDiff, List.mapM_cons,
                List.mapM_nil, Option.pure_def, Option.bind_eq_bind, Option.bind_some, implies_true, forall_const, beq_self_eq_true, decide_true, decide_false, eq_self,
                Int.reduceEq, Int.reduceLE, Int.reduceLT, if_true, if_false, fc35_0, fc35_1, fc35_2, Int.reduceAdd, Int.reduceSub, Int.reduceMul, Int.reduceNeg, Int.reducePow,
                Nat.reducePow, Int.reduceToNat, Nat.reduceSub, List.replicate, Nat.reduceBEq, wAs, wA, wC, zipW, noDupN, grpE, beq_true, beq_false, g_laws_toTurn, grpC, en0, dc_en0]; refine KW_of hw ?_; simp only [
          hp, grpA, vsliceS, grpS, grpD, grpF, grpL, eop, vop, bop, uop, fltop, convop, endOk, newE, new1, freshL, Md.isNew, outV, pureV, pureX, pure1, AV.cells, AV.one, storable,
                laid, refless, refless1, vload, loadC, storeC, vnil, vfaddr, vextract, flatT, flatE, flatC, vconv, vmm, vidxA, viaddrA, vfield, vlen, elemsOf, dF32, dF64, dI64, dU8,
                dBool, dStr, esOk, elemsS, vsliceX, bnd, ownV, ownC, own1, ownT, isSl, nSl, endL, Md.isOwn, purge, purgeH, purgeB, purgeE, hasName, name1, List.any_cons,
                List.any_nil, Md.isWr, pureV.pureP, Option.map, reduceIte, Nat.reduceEqDiff, Nat.reduceAdd, Nat.reduceMul, Nat.reduceLT, Nat.reduceLeDiff, List.mapM_cons,
                List.mapM_nil, Option.pure_def, Option.bind_eq_bind, Option.bind_some, implies_true, forall_const, beq_self_eq_true, decide_true, decide_false, eq_self,
                Int.reduceEq, Int.reduceLE, Int.reduceLT, if_true, if_false, fc35_0, fc35_1, fc35_2, Int.reduceAdd, Int.reduceSub, Int.reduceMul, Int.reduceNeg, Int.reducePow,
                Nat.reducePow, Int.reduceToNat, Nat.reduceSub, List.replicate, Nat.reduceBEq, wAs, wA, wC, zipW, noDupN, grpE, beq_true, beq_false, g_laws_toTurn, grpC, en0, dc_en0])))
      all_goals (try simp only [*, m_laws_toTurnS, Bool.and_true, Bool.true_and, Bool.and_false, Bool.false_and, Bool.or_true, Bool.true_or, Bool.or_false, Bool.false_or, Bool.not_true, Bool.not_false, Bool.false_eq_true, if_true, if_false, reduceIte, decide_true, decide_false])
      all_goals (try (simp_all; done))
    · cases h
  · cases h
def m_laws_toPose (x0 : (Nat × Nat × Nat × (List (Nat × Nat × Nat × Nat)))) : (Nat × Nat × Nat × (List (Nat × Nat × Nat × Nat))) := ((m_laws_toVector (x0.1, x0.2.1, x0.2.2.1)).1,
      (m_laws_toVector (x0.1, x0.2.1, x0.2.2.1)).2.1, (m_laws_toVector (x0.1, x0.2.1, x0.2.2.1)).2.2, (m_laws_toTurnS x0.2.2.2))
def p_laws_toPose (x0 : (Nat × Nat × Nat × (List (Nat × Nat × Nat × Nat)))) : Bool := (p_laws_toTurnS x0.2.2.2)
def g_laws_toPose : List AV → Option AV
  | [.agg [.flt .f32 y0, .flt .f32 y1, .flt .f32 y2, .sl w3]] => (match decL dc_en0 w3 with | some y3 => (if p_laws_toPose (y0, y1, y2, y3) = true then some (AV.agg [(.flt .f32 (m_laws_toPose (y0, y1, y2, y3)).1), (.flt .f32 (m_laws_toPose (y0, y1, y2, y3)).2.1), (.flt .f32 (m_laws_toPose (y0, y1, y2, y3)).2.2.1), (.sl (List.map en0 (m_laws_toPose (y0, y1, y2, y3)).2.2.2))]) else none) | none => none)
  | _ => none
def ic25 : ICode := (.seq (.reg [⟨(some 1), none, (.box 4 (.t 0))⟩, ⟨(some 2), none, (.alloc (.agg [(.flt .f32 0), (.flt .f32 0), (.flt .f32 0), .snil]))⟩] [1, 2]) (.seq (.reg
      [⟨(some 3), none, (.alloc (.agg [(.flt .f32 0), (.flt .f32 0), (.flt .f32 0), .snil]))⟩] [1, 2, 3]) (.seq (.reg [⟨(some 4), none, (.faddr 0 (.t 1))⟩, ⟨(some 5), none, (.load
      (some 3) (.t 4))⟩, ⟨(some 6), none, (.call (.fn 34) [(.t 5)] [])⟩, ⟨(some 7), none, (.faddr 0 (.t 3))⟩, ⟨none, none, (.store 3 (.t 7) (.t 6))⟩] [1, 2, 3]) (.seq (.reg [⟨(some
      8), none, (.faddr 3 (.t 1))⟩, ⟨(some 9), none, (.load none (.t 8))⟩, ⟨(some 10), none, (.call (.fn 35) [(.t 9)] [4])⟩, ⟨(some 11), none, (.faddr 3 (.t 3))⟩, ⟨none, none,
      (.store 1 (.t 11) (.t 10))⟩] [2, 3]) (.seq (.reg [⟨(some 12), none, (.load (some 4) (.t 3))⟩, ⟨none, none, (.store 4 (.t 2) (.t 12))⟩] [2]) .ret)))))
def cp25 : CP := CP.mk [(10, [4])] [] [[1, 2], [1, 2, 3], [1, 2, 3], [2, 3], [2]] 13 [] []
theorem fc25_0 : IntKind.wrap .i64 1 = 1 := by decide
theorem fc25_1 : IntKind.wrap .i64 2 = 2 := by decide
theorem fc25_2 : IntKind.wrap .i64 3 = 3 := by decide
theorem s25 : ∀ vs r, g_laws_toPose vs = some r → SaysM Try.prog (.own [4]) 25 vs r := by
  intro vs r h
  unfold g_laws_toPose at h
  split at h
  · rename_i y0 y1 y2 w3
    cases hd_y3 : decL dc_en0 w3 with
    | none => rw [hd_y3] at h; cases h
    | some y3 =>
    rw [hd_y3] at h
    obtain rfl := decL_inv dc_en0_inv hd_y3
    clear hd_y3
    dsimp only at h
    split at h
    · rename_i hp
      cases h
      refine spec_of (m := (.own [4])) (tab := tabOf [(34, wM .any g_laws_toVector), (35, wM (.own [4]) g_laws_toTurnS)]) (cp := cp25) (ic := ic25) (rvl := [(.c 2 (some 4))]) hm (tabOk_cons (m := .any) s34 (tabOk_cons (m := (.own [4])) s35 tabOk_nil)) Try.func25 rfl rfl rfl (by kernel_rfl) rfl (Nat.le_of_ble_eq_true rfl) (Nat.le_of_ble_eq_true rfl) ?_
      show eA _ _ _ _
      unfold ic25
      simp only [p_laws_toPose, Bool.and_eq_true, Bool.or_eq_true, decide_eq_true_eq, Bool.not_eq_true', decide_eq_false_iff_not] at hp
      simp only [
          hp, grpA, vsliceS, grpS, grpD, grpF, grpL, eop, vop, bop, uop, fltop, convop, endOk, newE, new1, freshL, Md.isNew, outV, pureV, pureX, pure1, AV.cells, AV.one, storable,
                laid, refless, refless1, vload, loadC, storeC, vnil, vfaddr, vextract, flatT, flatE, flatC, vconv, vmm, vidxA, viaddrA, vfield, vlen, elemsOf, dF32, dF64, dI64, dU8,
                dBool, dStr, esOk, elemsS, vsliceX, bnd, ownV, ownC, own1, ownT, isSl, nSl, endL, Md.isOwn, purge, purgeH, purgeB, purgeE, hasName, name1, List.any_cons,
                List.any_nil, Md.isWr, pureV.pureP, Option.map, reduceIte, Nat.reduceEqDiff, Nat.reduceAdd, Nat.reduceMul, Nat.reduceLT, Nat.reduceLeDiff, List.mapM_cons,
                List.mapM_nil, Option.pure_def, Option.bind_eq_bind, Option.bind_some, implies_true, forall_const, beq_self_eq_true, decide_true, decide_false, eq_self,
                Int.reduceEq, Int.reduceLE, Int.reduceLT, if_true, if_false, fc25_0, fc25_1, fc25_2, Int.reduceAdd, Int.reduceSub, Int.reduceMul, Int.reduceNeg, Int.reducePow,
                Nat.reducePow, Int.reduceToNat, Nat.reduceSub, List.replicate, Nat.reduceBEq, wAs, wA, wC, zipW, noDupN, grpE, beq_true, beq_false, g_laws_toVector, g_laws_toTurnS,
                grpC, en0, dc_en0]
      repeat' (first
        | ((first | (refine eGI_of (fun h => ?_) (fun h => ?_)) | (refine eCc_of (fun h => ?_) (fun h => ?_))) <;> (try simp only [Bool.not_eq_true', Bool.not_eq_false'] at h) <;> (try first | exact absurd (Eq.trans (Eq.symm h) (by assumption)) Bool.false_ne_true | exact absurd (Eq.trans (Eq.symm h) (by assumption)) (Ne.symm Bool.false_ne_true)) <;> (try simp only [h, reduceCtorEq, beq_true, beq_false, Int.reduceEq, Int.reduceLT, Int.reduceLE, true_or, or_true, Bool.not_eq_true', decide_eq_false_iff_not, Bool.not_true, Bool.not_false, Bool.false_or, Bool.true_or, Bool.true_and, Bool.false_and, Bool.and_eq_true, Bool.or_eq_true, if_true, if_false, reduceIte, Bool.false_eq_true, and_true, true_and, false_or, or_false, decide_eq_true_eq, not_false_eq_true, not_true_eq_false] at hp) <;> (first | (have h2 := h; simp only [decide_eq_true_eq, decide_eq_false_iff_not] at h2; (first | (replace h2 := eq_false h2) | (replace h2 := eq_true h2)); (try simp only [h2, reduceCtorEq, beq_true, beq_false, Int.reduceEq, Int.reduceLT, Int.reduceLE, true_or, or_true, Bool.not_eq_true', decide_eq_false_iff_not, Bool.not_true, Bool.not_false, Bool.false_or, Bool.true_or, Bool.true_and, Bool.false_and, Bool.and_eq_true, Bool.or_eq_true, if_true, if_false, reduceIte, Bool.false_eq_true, and_true, true_and, false_or, or_false, decide_eq_true_eq, not_false_eq_true, not_true_eq_false] at hp); replace hp := And.intro h2 hp) | (replace hp := And.intro h hp) | skip) <;> simp only [h,
          hp, grpA, vsliceS, grpS, grpD, grpF, grpL, eop, vop, bop, uop, fltop, convop, endOk, newE, new1, freshL, Md.isNew, outV, pureV, pureX, pure1, AV.cells, AV.one, storable,
                laid, refless, refless1, vload, loadC, storeC, vnil, vfaddr, vextract, flatT, flatE, flatC, vconv, vmm, vidxA, viaddrA, vfield, vlen, elemsOf, dF32, dF64, dI64, dU8,
                dBool, dStr, esOk, elemsS, vsliceX, bnd, ownV, ownC, own1, ownT, isSl, nSl, endL, Md.isOwn, purge, purgeH, purgeB, purgeE, hasName, name1, List.any_cons,
                List.any_nil, Md.isWr, pureV.pureP, Option.map, reduceIte, Nat.reduceEqDiff, Nat.reduceAdd, Nat.reduceMul, Nat.reduceLT, Nat.reduceLeDiff, List.mapM_cons,
                List.mapM_nil, Option.pure_def, Option.bind_eq_bind, Option.bind_some, implies_true, forall_const, beq_self_eq_true, decide_true, decide_false, eq_self,
                Int.reduceEq, Int.reduceLE, Int.reduceLT, if_true, if_false, fc25_0, fc25_1, fc25_2, Int.reduceAdd, Int.reduceSub, Int.reduceMul, Int.reduceNeg, Int.reducePow,
                Nat.reducePow, Int.reduceToNat, Nat.reduceSub, List.replicate, Nat.reduceBEq, wAs, wA, wC, zipW, noDupN, grpE, beq_true, beq_false, g_laws_toVector, g_laws_toTurnS,
                grpC, en0, dc_en0]))
      all_goals (try simp only [*, m_laws_toPose, Bool.and_true, Bool.true_and, Bool.and_false, Bool.false_and, Bool.or_true, Bool.true_or, Bool.or_false, Bool.false_or, Bool.not_true, Bool.not_false, Bool.false_eq_true, if_true, if_false, reduceIte, decide_true, decide_false])
      all_goals (try (simp_all; done))
    · cases h
  · cases h
def m_spec_l03Few (x0 : (Nat × Nat × Nat × (List (Nat × Nat × Nat × Nat)))) : Bool := (if (decide (1 ≤ ((List.length x0.2.2.2 : Nat) : Int))) = true then (decide (((List.length
      x0.2.2.2 : Nat) : Int) ≤ 12)) else false)
def g_spec_l03Few : List AV → Option AV
  | [.ptr (.agg [.flt .f32 y0, .flt .f32 y1, .flt .f32 y2, .sl w3]) 0] => (match decL dc_en0 w3 with | some y3 => (some (.bool (m_spec_l03Few (y0, y1, y2, y3)))) | none => none)
  | _ => none
def ic65 : ICode := (.seq (.reg [⟨(some 2), none, (.mov (.c (.bool false)))⟩] [0]) (.seq (.reg [⟨(some 3), none, (.mov (.t 0))⟩, ⟨(some 4), none, (.nilchk (.t 3))⟩, ⟨(some 5), none,
      (.faddr 3 (.t 4))⟩, ⟨(some 6), none, (.load none (.t 5))⟩, ⟨(some 7), none, (.len false (.t 6))⟩, ⟨(some 8), none, (.bin .geq false (.t 7) (.c (.int .i64 1)))⟩, ⟨(some 9),
      none, (.mov (.t 8))⟩, ⟨(some 10), (some (9, true)), (.mov (.t 0))⟩, ⟨(some 11), (some (9, true)), (.nilchk (.t 10))⟩, ⟨(some 12), (some (9, true)), (.faddr 3 (.t 11))⟩, ⟨(some
      13), (some (9, true)), (.load none (.t 12))⟩, ⟨(some 14), (some (9, true)), (.len false (.t 13))⟩, ⟨(some 15), (some (9, true)), (.bin .leq false (.t 14) (.c (.int .i64
      12)))⟩, ⟨(some 16), none, (.pick (.t 9) (.t 15) (.c (.bool false)))⟩, ⟨(some 2), none, (.mov (.t 16))⟩] [2]) .ret))
def cp65 : CP := CP.mk [] [] [[0], [2]] 17 [] []
theorem fc65_0 : IntKind.wrap .i64 1 = 1 := by decide
theorem fc65_1 : IntKind.wrap .i64 2 = 2 := by decide
theorem fc65_2 : IntKind.wrap .i64 3 = 3 := by decide
theorem s65 : ∀ vs r, g_spec_l03Few vs = some r → SaysM Try.prog .any 65 vs r := by
  intro vs r h
  unfold g_spec_l03Few at h
  split at h
  · rename_i y0 y1 y2 w3
    cases hd_y3 : decL dc_en0 w3 with
    | none => rw [hd_y3] at h; cases h
    | some y3 =>
    rw [hd_y3] at h
    obtain rfl := decL_inv dc_en0_inv hd_y3
    clear hd_y3
    dsimp only at h
    cases h
    refine spec_of (m := .any) (tab := tabOf []) (cp := cp65) (ic := ic65) (rvl := [(.t 2)]) hm tabOk_nil Try.func65 rfl rfl rfl (by kernel_rfl) rfl (Nat.le_of_ble_eq_true rfl) (Nat.le_of_ble_eq_true rfl) ?_
    show eA _ _ _ _
    unfold ic65
    simp only [
        grpA, vsliceS, grpS, grpD, grpF, grpL, eop, vop, bop, uop, fltop, convop, endOk, newE, new1, freshL, Md.isNew, outV, pureV, pureX, pure1, AV.cells, AV.one, storable, laid,
              refless, refless1, vload, loadC, storeC, vnil, vfaddr, vextract, flatT, flatE, flatC, vconv, vmm, vidxA, viaddrA, vfield, vlen, elemsOf, dF32, dF64, dI64, dU8, dBool,
              dStr, esOk, elemsS, vsliceX, bnd, ownV, ownC, own1, ownT, isSl, nSl, endL, Md.isOwn, purge, purgeH, purgeB, purgeE, hasName, name1, List.any_cons, List.any_nil,
              Md.isWr, pureV.pureP, Option.map, reduceIte, Nat.reduceEqDiff, Nat.reduceAdd, Nat.reduceMul, Nat.reduceLT, Nat.reduceLeDiff, List.mapM_cons, List.mapM_nil,
              Option.pure_def, Option.bind_eq_bind, Option.bind_some, implies_true, forall_const, beq_self_eq_true, decide_true, decide_false, eq_self, Int.reduceEq, Int.reduceLE,
              Int.reduceLT, if_true, if_false, fc65_0, fc65_1, fc65_2, Int.reduceAdd, Int.reduceSub, Int.reduceMul, Int.reduceNeg, Int.reducePow, Nat.reducePow, Int.reduceToNat,
              Nat.reduceSub, List.replicate, Nat.reduceBEq, wAs, wA, wC, zipW, noDupN, grpE, beq_true, beq_false, grpC, en0, dc_en0, ↓b_pick, ePk_true, ePk_false]
    repeat' (first
      | ((first | (refine eGI_of (fun h => ?_) (fun h => ?_)) | (refine eCc_of (fun h => ?_) (fun h => ?_)) | (refine ePk_of (fun h => ?_) (fun h => ?_))) <;> (try simp only [Bool.not_eq_true', Bool.not_eq_false'] at h) <;> (try first | exact absurd (Eq.trans (Eq.symm h) (by assumption)) Bool.false_ne_true | exact absurd (Eq.trans (Eq.symm h) (by assumption)) (Ne.symm Bool.false_ne_true)) <;> simp only [h,
        grpA, vsliceS, grpS, grpD, grpF, grpL, eop, vop, bop, uop, fltop, convop, endOk, newE, new1, freshL, Md.isNew, outV, pureV, pureX, pure1, AV.cells, AV.one, storable, laid,
              refless, refless1, vload, loadC, storeC, vnil, vfaddr, vextract, flatT, flatE, flatC, vconv, vmm, vidxA, viaddrA, vfield, vlen, elemsOf, dF32, dF64, dI64, dU8, dBool,
              dStr, esOk, elemsS, vsliceX, bnd, ownV, ownC, own1, ownT, isSl, nSl, endL, Md.isOwn, purge, purgeH, purgeB, purgeE, hasName, name1, List.any_cons, List.any_nil,
              Md.isWr, pureV.pureP, Option.map, reduceIte, Nat.reduceEqDiff, Nat.reduceAdd, Nat.reduceMul, Nat.reduceLT, Nat.reduceLeDiff, List.mapM_cons, List.mapM_nil,
              Option.pure_def, Option.bind_eq_bind, Option.bind_some, implies_true, forall_const, beq_self_eq_true, decide_true, decide_false, eq_self, Int.reduceEq, Int.reduceLE,
              Int.reduceLT, if_true, if_false, fc65_0, fc65_1, fc65_2, Int.reduceAdd, Int.reduceSub, Int.reduceMul, Int.reduceNeg, Int.reducePow, Nat.reducePow, Int.reduceToNat,
              Nat.reduceSub, List.replicate, Nat.reduceBEq, wAs, wA, wC, zipW, noDupN, grpE, beq_true, beq_false, grpC, en0, dc_en0, ↓b_pick, ePk_true, ePk_false]))
    all_goals (try simp only [*, m_spec_l03Few, Bool.and_true, Bool.true_and, Bool.and_false, Bool.false_and, Bool.or_true, Bool.true_or, Bool.or_false, Bool.false_or, Bool.not_true, Bool.not_false, Bool.false_eq_true, if_true, if_false, reduceIte, decide_true, decide_false])
    all_goals (try (simp_all; done))
  · cases h
def m_spec_l01Less (x0 : (Nat × Nat × Nat)) (x1 : (Nat × Nat × Nat)) : (Nat × Nat × Nat) := ((fsub .f32 x0.1 x1.1), (fsub .f32 x0.2.1 x1.2.1), (fsub .f32 x0.2.2 x1.2.2))
def g_spec_l01Less : List AV → Option AV
  | [.agg [.flt .f32 y0, .flt .f32 y1, .flt .f32 y2], .agg [.flt .f32 y3, .flt .f32 y4, .flt .f32 y5]] => some (AV.agg [(.flt .f32
      (m_spec_l01Less (y0, y1, y2) (y3, y4, y5)).1), (.flt .f32 (m_spec_l01Less (y0, y1, y2) (y3, y4, y5)).2.1), (.flt .f32 (m_spec_l01Less (y0, y1, y2) (y3, y4, y5)).2.2)])
  | _ => none
def ic72 : ICode := (.seq (.reg [⟨(some 2), none, (.box 3 (.t 0))⟩, ⟨(some 3), none, (.box 3 (.t 1))⟩, ⟨(some 4), none, (.alloc (.agg [(.flt .f32 0), (.flt .f32 0), (.flt .f32
      0)]))⟩] [2, 3, 4]) (.seq (.reg [⟨(some 5), none, (.faddr 0 (.t 2))⟩, ⟨(some 6), none, (.load none (.t 5))⟩, ⟨(some 7), none, (.faddr 0 (.t 3))⟩, ⟨(some 8), none, (.load none
      (.t 7))⟩, ⟨(some 9), none, (.bin .sub false (.t 6) (.t 8))⟩, ⟨(some 10), none, (.faddr 1 (.t 2))⟩, ⟨(some 11), none, (.load none (.t 10))⟩, ⟨(some 12), none, (.faddr 1 (.t
      3))⟩, ⟨(some 13), none, (.load none (.t 12))⟩, ⟨(some 14), none, (.bin .sub false (.t 11) (.t 13))⟩, ⟨(some 15), none, (.faddr 2 (.t 2))⟩, ⟨(some 16), none, (.load none (.t
      15))⟩, ⟨(some 17), none, (.faddr 2 (.t 3))⟩, ⟨(some 18), none, (.load none (.t 17))⟩, ⟨(some 19), none, (.bin .sub false (.t 16) (.t 18))⟩, ⟨(some 20), none, (.build [(.flt
      .f32 0), (.flt .f32 0), (.flt .f32 0)] [(0, 1, (.t 9)), (1, 1, (.t 14)), (2, 1, (.t 19))])⟩, ⟨none, none, (.store 3 (.t 4) (.t 20))⟩] [4]) .ret))
def cp72 : CP := CP.mk [] [] [[2, 3, 4], [4]] 21 [] []
theorem fc72_0 : IntKind.wrap .i64 1 = 1 := by decide
theorem fc72_1 : IntKind.wrap .i64 2 = 2 := by decide
theorem fc72_2 : IntKind.wrap .i64 3 = 3 := by decide
theorem s72 : ∀ vs r, g_spec_l01Less vs = some r → SaysM Try.prog .any 72 vs r := by
  intro vs r h
  unfold g_spec_l01Less at h
  split at h
  · rename_i y0 y1 y2 y3 y4 y5
    cases h
    refine spec_of (m := .any) (tab := tabOf []) (cp := cp72) (ic := ic72) (rvl := [(.c 4 (some 3))]) hm tabOk_nil Try.func72 rfl rfl rfl (by kernel_rfl) rfl (Nat.le_of_ble_eq_true rfl) (Nat.le_of_ble_eq_true rfl) ?_
    show eA _ _ _ _
    unfold ic72
    simp only [
        grpA, vsliceS, grpS, grpD, grpF, grpL, eop, vop, bop, uop, fltop, convop, endOk, newE, new1, freshL, Md.isNew, outV, pureV, pureX, pure1, AV.cells, AV.one, storable, laid,
              refless, refless1, vload, loadC, storeC, vnil, vfaddr, vextract, flatT, flatE, flatC, vconv, vmm, vidxA, viaddrA, vfield, vlen, elemsOf, dF32, dF64, dI64, dU8, dBool,
              dStr, esOk, elemsS, vsliceX, bnd, ownV, ownC, own1, ownT, isSl, nSl, endL, Md.isOwn, purge, purgeH, purgeB, purgeE, hasName, name1, List.any_cons, List.any_nil,
              Md.isWr, pureV.pureP, Option.map, reduceIte, Nat.reduceEqDiff, Nat.reduceAdd, Nat.reduceMul, Nat.reduceLT, Nat.reduceLeDiff, List.mapM_cons, List.mapM_nil,
              Option.pure_def, Option.bind_eq_bind, Option.bind_some, implies_true, forall_const, beq_self_eq_true, decide_true, decide_false, eq_self, Int.reduceEq, Int.reduceLE,
              Int.reduceLT, if_true, if_false, fc72_0, fc72_1, fc72_2, Int.reduceAdd, Int.reduceSub, Int.reduceMul, Int.reduceNeg, Int.reducePow, Nat.reducePow, Int.reduceToNat,
              Nat.reduceSub, List.replicate, Nat.reduceBEq, wAs, wA, wC, zipW, noDupN, grpE, beq_true, beq_false, grpC, en0, dc_en0]
    repeat' (first
      | ((first | (refine eGI_of (fun h => ?_) (fun h => ?_)) | (refine eCc_of (fun h => ?_) (fun h => ?_))) <;> (try simp only [Bool.not_eq_true', Bool.not_eq_false'] at h) <;> (try first | exact absurd (Eq.trans (Eq.symm h) (by assumption)) Bool.false_ne_true | exact absurd (Eq.trans (Eq.symm h) (by assumption)) (Ne.symm Bool.false_ne_true)) <;> simp only [h,
        grpA, vsliceS, grpS, grpD, grpF, grpL, eop, vop, bop, uop, fltop, convop, endOk, newE, new1, freshL, Md.isNew, outV, pureV, pureX, pure1, AV.cells, AV.one, storable, laid,
              refless, refless1, vload, loadC, storeC, vnil, vfaddr, vextract, flatT, flatE, flatC, vconv, vmm, vidxA, viaddrA, vfield, vlen, elemsOf, dF32, dF64, dI64, dU8, dBool,
              dStr, esOk, elemsS, vsliceX, bnd, ownV, ownC, own1, ownT, isSl, nSl, endL, Md.isOwn, purge, purgeH, purgeB, purgeE, hasName, name1, List.any_cons, List.any_nil,
              Md.isWr, pureV.pureP, Option.map, reduceIte, Nat.reduceEqDiff, Nat.reduceAdd, Nat.reduceMul, Nat.reduceLT, Nat.reduceLeDiff, List.mapM_cons, List.mapM_nil,
              Option.pure_def, Option.bind_eq_bind, Option.bind_some, implies_true, forall_const, beq_self_eq_true, decide_true, decide_false, eq_self, Int.reduceEq, Int.reduceLE,
              Int.reduceLT, if_true, if_false, fc72_0, fc72_1, fc72_2, Int.reduceAdd, Int.reduceSub, Int.reduceMul, Int.reduceNeg, Int.reducePow, Nat.reducePow, Int.reduceToNat,
              Nat.reduceSub, List.replicate, Nat.reduceBEq, wAs, wA, wC, zipW, noDupN, grpE, beq_true, beq_false, grpC, en0, dc_en0]))
    all_goals (try simp only [*, m_spec_l01Less, Bool.and_true, Bool.true_and, Bool.and_false, Bool.false_and, Bool.or_true, Bool.true_or, Bool.or_false, Bool.false_or, Bool.not_true, Bool.not_false, Bool.false_eq_true, if_true, if_false, reduceIte, decide_true, decide_false])
    all_goals (try (simp_all; done))
  · cases h
def m_spec_l02Inverse (x0 : (Nat × Nat × Nat × Nat)) : (Nat × Nat × Nat × Nat) := (x0.1, (fneg .f32 x0.2.1), (fneg .f32 x0.2.2.1), (fneg .f32 x0.2.2.2))
def g_spec_l02Inverse : List AV → Option AV
  | [.agg [.flt .f32 y0, .flt .f32 y1, .flt .f32 y2, .flt .f32 y3]] => some (AV.agg [(.flt .f32 (m_spec_l02Inverse (y0, y1, y2, y3)).1),
      (.flt .f32 (m_spec_l02Inverse (y0, y1, y2, y3)).2.1), (.flt .f32 (m_spec_l02Inverse (y0, y1, y2, y3)).2.2.1), (.flt .f32 (m_spec_l02Inverse (y0, y1, y2, y3)).2.2.2)])
  | _ => none
def ic73 : ICode := (.seq (.reg [⟨(some 1), none, (.box 4 (.t 0))⟩, ⟨(some 2), none, (.alloc (.agg [(.flt .f32 0), (.flt .f32 0), (.flt .f32 0), (.flt .f32 0)]))⟩] [1, 2]) (.seq
      (.reg [⟨(some 3), none, (.faddr 0 (.t 1))⟩, ⟨(some 4), none, (.load none (.t 3))⟩, ⟨(some 5), none, (.faddr 1 (.t 1))⟩, ⟨(some 6), none, (.load none (.t 5))⟩, ⟨(some 7), none,
      (.un .neg (.t 6))⟩, ⟨(some 8), none, (.faddr 2 (.t 1))⟩, ⟨(some 9), none, (.load none (.t 8))⟩, ⟨(some 10), none, (.un .neg (.t 9))⟩, ⟨(some 11), none, (.faddr 3 (.t 1))⟩,
      ⟨(some 12), none, (.load none (.t 11))⟩, ⟨(some 13), none, (.un .neg (.t 12))⟩, ⟨(some 14), none, (.build [(.flt .f32 0), (.flt .f32 0), (.flt .f32 0), (.flt .f32 0)] [(0, 1,
      (.t 4)), (1, 1, (.t 7)), (2, 1, (.t 10)), (3, 1, (.t 13))])⟩, ⟨none, none, (.store 4 (.t 2) (.t 14))⟩] [2]) .ret))
def cp73 : CP := CP.mk [] [] [[1, 2], [2]] 15 [] []
theorem fc73_0 : IntKind.wrap .i64 1 = 1 := by decide
theorem fc73_1 : IntKind.wrap .i64 2 = 2 := by decide
theorem fc73_2 : IntKind.wrap .i64 3 = 3 := by decide
theorem s73 : ∀ vs r, g_spec_l02Inverse vs = some r → SaysM Try.prog .any 73 vs r := by
  intro vs r h
  unfold g_spec_l02Inverse at h
  split at h
  · rename_i y0 y1 y2 y3
    cases h
    refine spec_of (m := .any) (tab := tabOf []) (cp := cp73) (ic := ic73) (rvl := [(.c 2 (some 4))]) hm tabOk_nil Try.func73 rfl rfl rfl (by kernel_rfl) rfl (Nat.le_of_ble_eq_true rfl) (Nat.le_of_ble_eq_true rfl) ?_
    show eA _ _ _ _
    unfold ic73
    simp only [
        grpA, vsliceS, grpS, grpD, grpF, grpL, eop, vop, bop, uop, fltop, convop, endOk, newE, new1, freshL, Md.isNew, outV, pureV, pureX, pure1, AV.cells, AV.one, storable, laid,
              refless, refless1, vload, loadC, storeC, vnil, vfaddr, vextract, flatT, flatE, flatC, vconv, vmm, vidxA, viaddrA, vfield, vlen, elemsOf, dF32, dF64, dI64, dU8, dBool,
              dStr, esOk, elemsS, vsliceX, bnd, ownV, ownC, own1, ownT, isSl, nSl, endL, Md.isOwn, purge, purgeH, purgeB, purgeE, hasName, name1, List.any_cons, List.any_nil,
              Md.isWr, pureV.pureP, Option.map, reduceIte, Nat.reduceEqDiff, Nat.reduceAdd, Nat.reduceMul, Nat.reduceLT, Nat.reduceLeDiff, List.mapM_cons, List.mapM_nil,
              Option.pure_def, Option.bind_eq_bind, Option.bind_some, implies_true, forall_const, beq_self_eq_true, decide_true, decide_false, eq_self, Int.reduceEq, Int.reduceLE,
              Int.reduceLT, if_true, if_false, fc73_0, fc73_1, fc73_2, Int.reduceAdd, Int.reduceSub, Int.reduceMul, Int.reduceNeg, Int.reducePow, Nat.reducePow, Int.reduceToNat,
              Nat.reduceSub, List.replicate, Nat.reduceBEq, wAs, wA, wC, zipW, noDupN, grpE, beq_true, beq_false, grpC, en0, dc_en0]
    repeat' (first
      | ((first | (refine eGI_of (fun h => ?_) (fun h => ?_)) | (refine eCc_of (fun h => ?_) (fun h => ?_))) <;> (try simp only [Bool.not_eq_true', Bool.not_eq_false'] at h) <;> (try first | exact absurd (Eq.trans (Eq.symm h) (by assumption)) Bool.false_ne_true | exact absurd (Eq.trans (Eq.symm h) (by assumption)) (Ne.symm Bool.false_ne_true)) <;> simp only [h,
        grpA, vsliceS, grpS, grpD, grpF, grpL, eop, vop, bop, uop, fltop, convop, endOk, newE, new1, freshL, Md.isNew, outV, pureV, pureX, pure1, AV.cells, AV.one, storable, laid,
              refless, refless1, vload, loadC, storeC, vnil, vfaddr, vextract, flatT, flatE, flatC, vconv, vmm, vidxA, viaddrA, vfield, vlen, elemsOf, dF32, dF64, dI64, dU8, dBool,
              dStr, esOk, elemsS, vsliceX, bnd, ownV, ownC, own1, ownT, isSl, nSl, endL, Md.isOwn, purge, purgeH, purgeB, purgeE, hasName, name1, List.any_cons, List.any_nil,
              Md.isWr, pureV.pureP, Option.map, reduceIte, Nat.reduceEqDiff, Nat.reduceAdd, Nat.reduceMul, Nat.reduceLT, Nat.reduceLeDiff, List.mapM_cons, List.mapM_nil,
              Option.pure_def, Option.bind_eq_bind, Option.bind_some, implies_true, forall_const, beq_self_eq_true, decide_true, decide_false, eq_self, Int.reduceEq, Int.reduceLE,
              Int.reduceLT, if_true, if_false, fc73_0, fc73_1, fc73_2, Int.reduceAdd, Int.reduceSub, Int.reduceMul, Int.reduceNeg, Int.reducePow, Nat.reducePow, Int.reduceToNat,
              Nat.reduceSub, List.replicate, Nat.reduceBEq, wAs, wA, wC, zipW, noDupN, grpE, beq_true, beq_false, grpC, en0, dc_en0]))
    all_goals (try simp only [*, m_spec_l02Inverse, Bool.and_true, Bool.true_and, Bool.and_false, Bool.false_and, Bool.or_true, Bool.true_or, Bool.or_false, Bool.false_or, Bool.not_true, Bool.not_false, Bool.false_eq_true, if_true, if_false, reduceIte, decide_true, decide_false])
    all_goals (try (simp_all; done))
  · cases h
def m_spec_l02Mul (x0 : (Nat × Nat × Nat × Nat)) (x1 : (Nat × Nat × Nat × Nat)) : (Nat × Nat × Nat × Nat) := ((fsub .f32 (fsub .f32 (fsub .f32 (fmul .f32 x0.1 x1.1) (fmul .f32
      x0.2.1 x1.2.1)) (fmul .f32 x0.2.2.1 x1.2.2.1)) (fmul .f32 x0.2.2.2 x1.2.2.2)), (fsub .f32 (fadd .f32 (fadd .f32 (fmul .f32 x0.1 x1.2.1) (fmul .f32 x0.2.1 x1.1)) (fmul .f32
      x0.2.2.1 x1.2.2.2)) (fmul .f32 x0.2.2.2 x1.2.2.1)), (fadd .f32 (fadd .f32 (fsub .f32 (fmul .f32 x0.1 x1.2.2.1) (fmul .f32 x0.2.1 x1.2.2.2)) (fmul .f32 x0.2.2.1 x1.1)) (fmul
      .f32 x0.2.2.2 x1.2.1)), (fadd .f32 (fsub .f32 (fadd .f32 (fmul .f32 x0.1 x1.2.2.2) (fmul .f32 x0.2.1 x1.2.2.1)) (fmul .f32 x0.2.2.1 x1.2.1)) (fmul .f32 x0.2.2.2 x1.1)))
def g_spec_l02Mul : List AV → Option AV
  | [.agg [.flt .f32 y0, .flt .f32 y1, .flt .f32 y2, .flt .f32 y3], .agg [.flt .f32 y4, .flt .f32 y5, .flt .f32 y6, .flt .f32 y7]] => some
      (AV.agg [(.flt .f32 (m_spec_l02Mul (y0, y1, y2, y3) (y4, y5, y6, y7)).1), (.flt .f32 (m_spec_l02Mul (y0, y1, y2, y3) (y4, y5, y6, y7)).2.1), (.flt .f32 (m_spec_l02Mul (y0, y1,
      y2, y3) (y4, y5, y6, y7)).2.2.1), (.flt .f32 (m_spec_l02Mul (y0, y1, y2, y3) (y4, y5, y6, y7)).2.2.2)])
  | _ => none
def ic67 : ICode := (.seq (.reg [⟨(some 2), none, (.box 4 (.t 0))⟩, ⟨(some 3), none, (.box 4 (.t 1))⟩, ⟨(some 4), none, (.alloc (.agg [(.flt .f32 0), (.flt .f32 0), (.flt .f32 0),
      (.flt .f32 0)]))⟩] [2, 3, 4]) (.seq (.reg [⟨(some 9), none, (.faddr 0 (.t 2))⟩, ⟨(some 10), none, (.load none (.t 9))⟩, ⟨(some 11), none, (.faddr 0 (.t 3))⟩, ⟨(some 12), none,
      (.load none (.t 11))⟩, ⟨(some 13), none, (.bin .mul false (.t 10) (.t 12))⟩, ⟨(some 14), none, (.faddr 1 (.t 2))⟩, ⟨(some 15), none, (.load none (.t 14))⟩, ⟨(some 16), none,
      (.faddr 1 (.t 3))⟩, ⟨(some 17), none, (.load none (.t 16))⟩, ⟨(some 18), none, (.bin .mul false (.t 15) (.t 17))⟩, ⟨(some 19), none, (.bin .sub false (.t 13) (.t 18))⟩, ⟨(some
      5), none, (.mov (.t 19))⟩] [2, 3, 4, 5]) (.seq (.reg [⟨(some 20), none, (.mov (.t 5))⟩, ⟨(some 21), none, (.faddr 2 (.t 2))⟩, ⟨(some 22), none, (.load none (.t 21))⟩, ⟨(some
      23), none, (.faddr 2 (.t 3))⟩, ⟨(some 24), none, (.load none (.t 23))⟩, ⟨(some 25), none, (.bin .mul false (.t 22) (.t 24))⟩, ⟨(some 26), none, (.bin .sub false (.t 20) (.t
      25))⟩, ⟨(some 5), none, (.mov (.t 26))⟩] [2, 3, 4, 5]) (.seq (.reg [⟨(some 27), none, (.mov (.t 5))⟩, ⟨(some 28), none, (.faddr 3 (.t 2))⟩, ⟨(some 29), none, (.load none (.t
      28))⟩, ⟨(some 30), none, (.faddr 3 (.t 3))⟩, ⟨(some 31), none, (.load none (.t 30))⟩, ⟨(some 32), none, (.bin .mul false (.t 29) (.t 31))⟩, ⟨(some 33), none, (.bin .sub false
      (.t 27) (.t 32))⟩, ⟨(some 5), none, (.mov (.t 33))⟩] [2, 3, 4, 5]) (.seq (.reg [⟨(some 34), none, (.faddr 0 (.t 2))⟩, ⟨(some 35), none, (.load none (.t 34))⟩, ⟨(some 36),
      none, (.faddr 1 (.t 3))⟩, ⟨(some 37), none, (.load none (.t 36))⟩, ⟨(some 38), none, (.bin .mul false (.t 35) (.t 37))⟩, ⟨(some 39), none, (.faddr 1 (.t 2))⟩, ⟨(some 40),
      none, (.load none (.t 39))⟩, ⟨(some 41), none, (.faddr 0 (.t 3))⟩, ⟨(some 42), none, (.load none (.t 41))⟩, ⟨(some 43), none, (.bin .mul false (.t 40) (.t 42))⟩, ⟨(some 44),
      none, (.bin .add false (.t 38) (.t 43))⟩, ⟨(some 6), none, (.mov (.t 44))⟩] [2, 3, 4, 5, 6]) (.seq (.reg [⟨(some 45), none, (.mov (.t 6))⟩, ⟨(some 46), none, (.faddr 2 (.t
      2))⟩, ⟨(some 47), none, (.load none (.t 46))⟩, ⟨(some 48), none, (.faddr 3 (.t 3))⟩, ⟨(some 49), none, (.load none (.t 48))⟩, ⟨(some 50), none, (.bin .mul false (.t 47) (.t
      49))⟩, ⟨(some 51), none, (.bin .add false (.t 45) (.t 50))⟩, ⟨(some 6), none, (.mov (.t 51))⟩] [2, 3, 4, 5, 6]) (.seq (.reg [⟨(some 52), none, (.mov (.t 6))⟩, ⟨(some 53),
      none, (.faddr 3 (.t 2))⟩, ⟨(some 54), none, (.load none (.t 53))⟩, ⟨(some 55), none, (.faddr 2 (.t 3))⟩, ⟨(some 56), none, (.load none (.t 55))⟩, ⟨(some 57), none, (.bin .mul
      false (.t 54) (.t 56))⟩, ⟨(some 58), none, (.bin .sub false (.t 52) (.t 57))⟩, ⟨(some 6), none, (.mov (.t 58))⟩] [2, 3, 4, 5, 6]) (.seq (.reg [⟨(some 59), none, (.faddr 0 (.t
      2))⟩, ⟨(some 60), none, (.load none (.t 59))⟩, ⟨(some 61), none, (.faddr 2 (.t 3))⟩, ⟨(some 62), none, (.load none (.t 61))⟩, ⟨(some 63), none, (.bin .mul false (.t 60) (.t
      62))⟩, ⟨(some 64), none, (.faddr 1 (.t 2))⟩, ⟨(some 65), none, (.load none (.t 64))⟩, ⟨(some 66), none, (.faddr 3 (.t 3))⟩, ⟨(some 67), none, (.load none (.t 66))⟩, ⟨(some
      68), none, (.bin .mul false (.t 65) (.t 67))⟩, ⟨(some 69), none, (.bin .sub false (.t 63) (.t 68))⟩, ⟨(some 7), none, (.mov (.t 69))⟩] [2, 3, 4, 5, 6, 7]) (.seq (.reg [⟨(some
      70), none, (.mov (.t 7))⟩, ⟨(some 71), none, (.faddr 2 (.t 2))⟩, ⟨(some 72), none, (.load none (.t 71))⟩, ⟨(some 73), none, (.faddr 0 (.t 3))⟩, ⟨(some 74), none, (.load none
      (.t 73))⟩, ⟨(some 75), none, (.bin .mul false (.t 72) (.t 74))⟩, ⟨(some 76), none, (.bin .add false (.t 70) (.t 75))⟩, ⟨(some 7), none, (.mov (.t 76))⟩] [2, 3, 4, 5, 6, 7])
      (.seq (.reg [⟨(some 77), none, (.mov (.t 7))⟩, ⟨(some 78), none, (.faddr 3 (.t 2))⟩, ⟨(some 79), none, (.load none (.t 78))⟩, ⟨(some 80), none, (.faddr 1 (.t 3))⟩, ⟨(some 81),
      none, (.load none (.t 80))⟩, ⟨(some 82), none, (.bin .mul false (.t 79) (.t 81))⟩, ⟨(some 83), none, (.bin .add false (.t 77) (.t 82))⟩, ⟨(some 7), none, (.mov (.t 83))⟩] [2,
      3, 4, 5, 6, 7]) (.seq (.reg [⟨(some 84), none, (.faddr 0 (.t 2))⟩, ⟨(some 85), none, (.load none (.t 84))⟩, ⟨(some 86), none, (.faddr 3 (.t 3))⟩, ⟨(some 87), none, (.load none
      (.t 86))⟩, ⟨(some 88), none, (.bin .mul false (.t 85) (.t 87))⟩, ⟨(some 89), none, (.faddr 1 (.t 2))⟩, ⟨(some 90), none, (.load none (.t 89))⟩, ⟨(some 91), none, (.faddr 2 (.t
      3))⟩, ⟨(some 92), none, (.load none (.t 91))⟩, ⟨(some 93), none, (.bin .mul false (.t 90) (.t 92))⟩, ⟨(some 94), none, (.bin .add false (.t 88) (.t 93))⟩, ⟨(some 8), none,
      (.mov (.t 94))⟩] [2, 3, 4, 5, 6, 7, 8]) (.seq (.reg [⟨(some 95), none, (.mov (.t 8))⟩, ⟨(some 96), none, (.faddr 2 (.t 2))⟩, ⟨(some 97), none, (.load none (.t 96))⟩, ⟨(some
      98), none, (.faddr 1 (.t 3))⟩, ⟨(some 99), none, (.load none (.t 98))⟩, ⟨(some 100), none, (.bin .mul false (.t 97) (.t 99))⟩, ⟨(some 101), none, (.bin .sub false (.t 95) (.t
      100))⟩, ⟨(some 8), none, (.mov (.t 101))⟩] [2, 3, 4, 5, 6, 7, 8]) (.seq (.reg [⟨(some 102), none, (.mov (.t 8))⟩, ⟨(some 103), none, (.faddr 3 (.t 2))⟩, ⟨(some 104), none,
      (.load none (.t 103))⟩, ⟨(some 105), none, (.faddr 0 (.t 3))⟩, ⟨(some 106), none, (.load none (.t 105))⟩, ⟨(some 107), none, (.bin .mul false (.t 104) (.t 106))⟩, ⟨(some 108),
      none, (.bin .add false (.t 102) (.t 107))⟩, ⟨(some 8), none, (.mov (.t 108))⟩] [4, 5, 6, 7, 8]) (.seq (.reg [⟨(some 109), none, (.mov (.t 5))⟩, ⟨(some 110), none, (.mov (.t
      6))⟩, ⟨(some 111), none, (.mov (.t 7))⟩, ⟨(some 112), none, (.mov (.t 8))⟩, ⟨(some 113), none, (.build [(.flt .f32 0), (.flt .f32 0), (.flt .f32 0), (.flt .f32 0)] [(0, 1, (.t
      109)), (1, 1, (.t 110)), (2, 1, (.t 111)), (3, 1, (.t 112))])⟩, ⟨none, none, (.store 4 (.t 4) (.t 113))⟩] [4]) .ret))))))))))))))
def cp67 : CP := CP.mk [] [] [[2, 3, 4], [2, 3, 4, 5], [2, 3, 4, 5], [2, 3, 4, 5], [2, 3, 4, 5, 6], [2, 3, 4, 5, 6], [2, 3, 4, 5, 6], [2, 3, 4, 5, 6, 7], [2, 3, 4, 5, 6, 7], [2, 3,
      4, 5, 6, 7], [2, 3, 4, 5, 6, 7, 8], [2, 3, 4, 5, 6, 7, 8], [4, 5, 6, 7, 8], [4]] 114 [] []
theorem fc67_0 : IntKind.wrap .i64 1 = 1 := by decide
theorem fc67_1 : IntKind.wrap .i64 2 = 2 := by decide
theorem fc67_2 : IntKind.wrap .i64 3 = 3 := by decide
theorem s67 : ∀ vs r, g_spec_l02Mul vs = some r → SaysM Try.prog .any 67 vs r := by
  intro vs r h
  unfold g_spec_l02Mul at h
  split at h
  · rename_i y0 y1 y2 y3 y4 y5 y6 y7
    cases h
    refine spec_of (m := .any) (tab := tabOf []) (cp := cp67) (ic := ic67) (rvl := [(.c 4 (some 4))]) hm tabOk_nil Try.func67 rfl rfl rfl (by kernel_rfl) rfl (Nat.le_of_ble_eq_true rfl) (Nat.le_of_ble_eq_true rfl) ?_
    show eA _ _ _ _
    unfold ic67
    simp only [
        grpA, vsliceS, grpS, grpD, grpF, grpL, eop, vop, bop, uop, fltop, convop, endOk, newE, new1, freshL, Md.isNew, outV, pureV, pureX, pure1, AV.cells, AV.one, storable, laid,
              refless, refless1, vload, loadC, storeC, vnil, vfaddr, vextract, flatT, flatE, flatC, vconv, vmm, vidxA, viaddrA, vfield, vlen, elemsOf, dF32, dF64, dI64, dU8, dBool,
              dStr, esOk, elemsS, vsliceX, bnd, ownV, ownC, own1, ownT, isSl, nSl, endL, Md.isOwn, purge, purgeH, purgeB, purgeE, hasName, name1, List.any_cons, List.any_nil,
              Md.isWr, pureV.pureP, Option.map, reduceIte, Nat.reduceEqDiff, Nat.reduceAdd, Nat.reduceMul, Nat.reduceLT, Nat.reduceLeDiff, List.mapM_cons, List.mapM_nil,
              Option.pure_def, Option.bind_eq_bind, Option.bind_some, implies_true, forall_const, beq_self_eq_true, decide_true, decide_false, eq_self, Int.reduceEq, Int.reduceLE,
              Int.reduceLT, if_true, if_false, fc67_0, fc67_1, fc67_2, Int.reduceAdd, Int.reduceSub, Int.reduceMul, Int.reduceNeg, Int.reducePow, Nat.reducePow, Int.reduceToNat,
              Nat.reduceSub, List.replicate, Nat.reduceBEq, wAs, wA, wC, zipW, noDupN, grpE, beq_true, beq_false, grpC, en0, dc_en0]
    repeat' (first
      | ((first | (refine eGI_of (fun h => ?_) (fun h => ?_)) | (refine eCc_of (fun h => ?_) (fun h => ?_))) <;> (try simp only [Bool.not_eq_true', Bool.not_eq_false'] at h) <;> (try first | exact absurd (Eq.trans (Eq.symm h) (by assumption)) Bool.false_ne_true | exact absurd (Eq.trans (Eq.symm h) (by assumption)) (Ne.symm Bool.false_ne_true)) <;> simp only [h,
        grpA, vsliceS, grpS, grpD, grpF, grpL, eop, vop, bop, uop, fltop, convop, endOk, newE, new1, freshL, Md.isNew, outV, pureV, pureX, pure1, AV.cells, AV.one, storable, laid,
              refless, refless1, vload, loadC, storeC, vnil, vfaddr, vextract, flatT, flatE, flatC, vconv, vmm, vidxA, viaddrA, vfield, vlen, elemsOf, dF32, dF64, dI64, dU8, dBool,
              dStr, esOk, elemsS, vsliceX, bnd, ownV, ownC, own1, ownT, isSl, nSl, endL, Md.isOwn, purge, purgeH, purgeB, purgeE, hasName, name1, List.any_cons, List.any_nil,
              Md.isWr, pureV.pureP, Option.map, reduceIte, Nat.reduceEqDiff, Nat.reduceAdd, Nat.reduceMul, Nat.reduceLT, Nat.reduceLeDiff, List.mapM_cons, List.mapM_nil,
              Option.pure_def, Option.bind_eq_bind, Option.bind_some, implies_true, forall_const, beq_self_eq_true, decide_true, decide_false, eq_self, Int.reduceEq, Int.reduceLE,
              Int.reduceLT, if_true, if_false, fc67_0, fc67_1, fc67_2, Int.reduceAdd, Int.reduceSub, Int.reduceMul, Int.reduceNeg, Int.reducePow, Nat.reducePow, Int.reduceToNat,
              Nat.reduceSub, List.replicate, Nat.reduceBEq, wAs, wA, wC, zipW, noDupN, grpE, beq_true, beq_false, grpC, en0, dc_en0]))
    all_goals (try simp only [*, m_spec_l02Mul, Bool.and_true, Bool.true_and, Bool.and_false, Bool.false_and, Bool.or_true, Bool.true_or, Bool.or_false, Bool.false_or, Bool.not_true, Bool.not_false, Bool.false_eq_true, if_true, if_false, reduceIte, decide_true, decide_false])
    all_goals (try (simp_all; done))
  · cases h
def l_spec_DifferenceOf_0 (x0 : (Nat × Nat × Nat × (List (Nat × Nat × Nat × Nat)))) (x1 : (Nat × Nat × Nat × (List (Nat × Nat × Nat × Nat)))) : Nat → (List (Nat × Nat × Nat × Nat))
      → Int → Option (List (Nat × Nat × Nat × Nat))
  | 0, _, _ => none
  | n + 1, z0_0, z0_1 => (if (decide (z0_1 < ((List.length x1.2.2.2 : Nat) : Int))) = true then (need (inB z0_1 (List.length x0.2.2.2)) (need (inB z0_1 (List.length x1.2.2.2)) (need
        (decide (((List.length z0_0) + 1) * 16 ≤ 17592186044416)) (need (decide ((List.length z0_0) + 1 ≤ 17592186044416)) (l_spec_DifferenceOf_0 x0 x1 n (z0_0 ++ [(m_spec_l02Mul
        (m_spec_l02Inverse (atI x0.2.2.2 z0_1)) (atI x1.2.2.2 z0_1))]) (IntKind.wrap .i64 (z0_1 + 1))))))) else (some z0_0))
def m_spec_DifferenceOf (x0 : (Nat × Nat × Nat × (List (Nat × Nat × Nat × Nat)))) (x1 : (Nat × Nat × Nat × (List (Nat × Nat × Nat × Nat)))) : ((Nat × Nat × Nat × (List (Nat × Nat ×
      Nat × Nat))) × Bool) := (if (m_spec_l03Few x1) = true then (if (decide (((List.length x0.2.2.2 : Nat) : Int) = ((List.length x1.2.2.2 : Nat) : Int))) = true then
      (((m_spec_l01Less (x1.1, x1.2.1, x1.2.2.1) (x0.1, x0.2.1, x0.2.2.1)).1, (m_spec_l01Less (x1.1, x1.2.1, x1.2.2.1) (x0.1, x0.2.1, x0.2.2.1)).2.1, (m_spec_l01Less (x1.1, x1.2.1,
      x1.2.2.1) (x0.1, x0.2.1, x0.2.2.1)).2.2, (Option.getD (l_spec_DifferenceOf_0 x0 x1 (Int.toNat (((List.length x1.2.2.2 : Nat) : Int) - 0) + 2) [] 0) default)), true) else ((0,
      0, 0, []), false)) else ((0, 0, 0, []), false))
def p_spec_DifferenceOf (x0 : (Nat × Nat × Nat × (List (Nat × Nat × Nat × Nat)))) (x1 : (Nat × Nat × Nat × (List (Nat × Nat × Nat × Nat)))) : Bool := (!(m_spec_l03Few x1) ||
      (!(decide (((List.length x0.2.2.2 : Nat) : Int) = ((List.length x1.2.2.2 : Nat) : Int))) || (Option.isSome (l_spec_DifferenceOf_0 x0 x1 (Int.toNat (((List.length x1.2.2.2 :
      Nat) : Int) - 0) + 2) [] 0))))
def g_spec_DifferenceOf : List AV → Option AV
  | [.agg [.flt .f32 y0, .flt .f32 y1, .flt .f32 y2, .sl w3], .agg [.flt .f32 y4, .flt .f32 y5, .flt .f32 y6, .sl w7]] => (match decL dc_en0 w3 with | some y3 => ((match decL dc_en0 w7 with | some y7 => (if p_spec_DifferenceOf (y0, y1, y2, y3) (y4, y5, y6, y7) = true then some (AV.tup [(AV.agg [(.flt .f32 (m_spec_DifferenceOf (y0, y1, y2, y3) (y4, y5, y6, y7)).1.1), (.flt .f32 (m_spec_DifferenceOf (y0, y1, y2, y3) (y4, y5, y6, y7)).1.2.1), (.flt .f32 (m_spec_DifferenceOf (y0, y1, y2, y3) (y4, y5, y6, y7)).1.2.2.1), (.sl (List.map en0 (m_spec_DifferenceOf (y0, y1, y2, y3) (y4, y5, y6, y7)).1.2.2.2))]), (.bool (m_spec_DifferenceOf (y0, y1, y2, y3) (y4, y5, y6, y7)).2)]) else none) | none => none)) | none => none)
  | _ => none
def lb30_0 : ICode := (.seq (.reg [⟨(some 31), none, (.bin .lss false (.t 30) (.t 29))⟩] [2, 3, 4, 6, 29, 30, 31]) (.seq (.cond (.t 31) .skip (.exit 0)) (.seq (.block 1 (.seq (.reg
      [⟨(some 32), none, (.mov (.t 30))⟩, ⟨(some 7), none, (.mov (.t 32))⟩] [2, 3, 4, 6, 7, 29, 30]) (.reg [⟨(some 33), none, (.faddr 3 (.t 6))⟩, ⟨(some 34), none, (.load none (.t
      33))⟩, ⟨(some 35), none, (.faddr 3 (.t 2))⟩, ⟨(some 36), none, (.load none (.t 35))⟩, ⟨(some 37), none, (.mov (.t 7))⟩, ⟨(some 38), none, (.iaddrS 4 (.t 36) (.t 37))⟩, ⟨(some
      39), none, (.load (some 4) (.t 38))⟩, ⟨(some 40), none, (.call (.fn 73) [(.t 39)] [])⟩, ⟨(some 41), none, (.faddr 3 (.t 3))⟩, ⟨(some 42), none, (.load none (.t 41))⟩, ⟨(some
      43), none, (.mov (.t 7))⟩, ⟨(some 44), none, (.iaddrS 4 (.t 42) (.t 43))⟩, ⟨(some 45), none, (.load (some 4) (.t 44))⟩, ⟨(some 46), none, (.call (.fn 67) [(.t 40), (.t 45)]
      [])⟩, ⟨(some 47), none, (.bslice 4 1 (.agg [(.flt .f32 0), (.flt .f32 0), (.flt .f32 0), (.flt .f32 0)]) [(0, (.t 46))])⟩, ⟨(some 48), none, (.append 4 16 (.t 34) (.t 47))⟩,
      ⟨(some 49), none, (.faddr 3 (.t 6))⟩, ⟨none, none, (.store 1 (.t 49) (.t 48))⟩] [2, 3, 4, 6, 29, 30]))) (.reg [⟨(some 50), none, (.bin .add false (.t 30) (.c (.int .i64 1)))⟩,
      ⟨(some 30), none, (.mov (.t 50))⟩] [2, 3, 4, 6, 29, 30]))))
def ic30 : ICode := (.seq (.reg [⟨(some 2), none, (.box 4 (.t 0))⟩, ⟨(some 3), none, (.box 4 (.t 1))⟩, ⟨(some 4), none, (.alloc (.agg [(.flt .f32 0), (.flt .f32 0), (.flt .f32 0),
      .snil]))⟩, ⟨(some 5), none, (.mov (.c (.bool false)))⟩] [2, 3, 4]) (.seq (.seq (.reg [⟨(some 8), none, (.call (.fn 65) [(.t 3)] [])⟩, ⟨(some 9), none, (.un .not (.t 8))⟩,
      ⟨(some 10), none, (.mov (.t 9))⟩, ⟨(some 11), (some (10, false)), (.faddr 3 (.t 2))⟩, ⟨(some 12), (some (10, false)), (.load none (.t 11))⟩, ⟨(some 13), (some (10, false)),
      (.len false (.t 12))⟩, ⟨(some 14), (some (10, false)), (.faddr 3 (.t 3))⟩, ⟨(some 15), (some (10, false)), (.load none (.t 14))⟩, ⟨(some 16), (some (10, false)), (.len false
      (.t 15))⟩, ⟨(some 17), (some (10, false)), (.bin .neq false (.t 13) (.t 16))⟩, ⟨(some 18), none, (.pick (.t 10) (.c (.bool true)) (.t 17))⟩] [2, 3, 4, 18]) (.cond (.t 18)
      (.seq (.reg [⟨(some 19), none, (.build [(.flt .f32 0), (.flt .f32 0), (.flt .f32 0), .snil] [])⟩, ⟨none, none, (.store 4 (.t 4) (.t 19))⟩, ⟨(some 5), none, (.mov (.c (.bool
      false)))⟩] [4, 5]) .ret) .skip)) (.seq (.reg [⟨(some 20), none, (.faddr 0 (.t 3))⟩, ⟨(some 21), none, (.load (some 3) (.t 20))⟩, ⟨(some 22), none, (.faddr 0 (.t 2))⟩, ⟨(some
      23), none, (.load (some 3) (.t 22))⟩, ⟨(some 24), none, (.call (.fn 72) [(.t 21), (.t 23)] [])⟩, ⟨(some 25), none, (.bslice 4 0 (.agg [(.flt .f32 0), (.flt .f32 0), (.flt .f32
      0), (.flt .f32 0)]) [])⟩, ⟨(some 26), none, (.build [(.flt .f32 0), (.flt .f32 0), (.flt .f32 0), .snil] [(0, 3, (.t 24)), (3, 1, (.t 25))])⟩, ⟨(some 6), none, (.alloc (.agg
      [(.flt .f32 0), (.flt .f32 0), (.flt .f32 0), .snil]))⟩, ⟨none, none, (.store 4 (.t 6) (.t 26))⟩] [2, 3, 4, 6]) (.seq (.seq (.reg [⟨(some 27), none, (.faddr 3 (.t 3))⟩, ⟨(some
      28), none, (.load none (.t 27))⟩, ⟨(some 29), none, (.len false (.t 28))⟩, ⟨(some 30), none, (.mov (.c (.int .i64 0)))⟩] [2, 3, 4, 6, 29, 30]) (.block 0 (.loop lb30_0))) (.seq
      (.reg [⟨(some 51), none, (.load (some 4) (.t 6))⟩, ⟨none, none, (.store 4 (.t 4) (.t 51))⟩, ⟨(some 5), none, (.mov (.c (.bool true)))⟩] [4, 5]) .ret)))))
def cp30 : CP := CP.mk [] [] [[2, 3, 4], [2, 3, 4, 18], [4, 5], [2, 3, 4, 6], [2, 3, 4, 6, 29, 30], [2, 3, 4, 6, 29, 30, 31], [2, 3, 4, 6, 7, 29, 30], [2, 3, 4, 6, 29, 30], [2, 3,
      4, 6, 29, 30], [4, 5]] 52 [] []
theorem fc30_0 : IntKind.wrap .i64 1 = 1 := by decide
theorem fc30_1 : IntKind.wrap .i64 2 = 2 := by decide
theorem fc30_2 : IntKind.wrap .i64 3 = 3 := by decide
theorem sl30_0 (x0 : (Nat × Nat × Nat × (List (Nat × Nat × Nat × Nat)))) (x1 : (Nat × Nat × Nat × (List (Nat × Nat × Nat × Nat)))) : ∀ (n : Nat) (z0_0 : (List (Nat × Nat × Nat ×
      Nat))) (z0_1 : Int) (o : (List (Nat × Nat × Nat × Nat))) (K : IExit → St → Prop), l_spec_DifferenceOf_0 x0 x1 n z0_0 z0_1 = some o → (∀ st, Wk st (⟨[(4, (.lptr 4 0 0)), (6,
      (.lptr 6 0 0))], [(4, (some ⟨4, false, [(AV.agg [(.flt .f32 0), (.flt .f32 0), (.flt .f32 0), .snil])]⟩)), (6, (some ⟨4, false, [(AV.agg [(.flt .f32 (m_spec_l01Less (x1.1,
      x1.2.1, x1.2.2.1) (x0.1, x0.2.1, x0.2.2.1)).1), (.flt .f32 (m_spec_l01Less (x1.1, x1.2.1, x1.2.2.1) (x0.1, x0.2.1, x0.2.2.1)).2.1), (.flt .f32 (m_spec_l01Less (x1.1, x1.2.1,
      x1.2.2.1) (x0.1, x0.2.1, x0.2.2.1)).2.2), (.lsl 25 0 (List.length o))])]⟩)), (25, (some ⟨4, true, (List.map en0 o)⟩))]⟩ : St) → K (.exit 0) st) → eA (tabOf [(65, wM .any
      g_spec_l03Few), (67, wM .any g_spec_l02Mul), (72, wM .any g_spec_l01Less), (73, wM .any g_spec_l02Inverse)]) (.loop lb30_0) (⟨[(2, (.lptr 2 0 0)), (3, (.lptr 3 0 0)), (4,
      (.lptr 4 0 0)), (6, (.lptr 6 0 0)), (29, (.int .i64 ((List.length x1.2.2.2 : Nat) : Int))), (30, (.int .i64 z0_1))], [(2, (some ⟨4, false, [(AV.agg [(.flt .f32 x0.1), (.flt
      .f32 x0.2.1), (.flt .f32 x0.2.2.1), (.sl (List.map en0 x0.2.2.2))])]⟩)), (3, (some ⟨4, false, [(AV.agg [(.flt .f32 x1.1), (.flt .f32 x1.2.1), (.flt .f32 x1.2.2.1), (.sl
      (List.map en0 x1.2.2.2))])]⟩)), (4, (some ⟨4, false, [(AV.agg [(.flt .f32 0), (.flt .f32 0), (.flt .f32 0), .snil])]⟩)), (6, (some ⟨4, false, [(AV.agg [(.flt .f32
      (m_spec_l01Less (x1.1, x1.2.1, x1.2.2.1) (x0.1, x0.2.1, x0.2.2.1)).1), (.flt .f32 (m_spec_l01Less (x1.1, x1.2.1, x1.2.2.1) (x0.1, x0.2.1, x0.2.2.1)).2.1), (.flt .f32
      (m_spec_l01Less (x1.1, x1.2.1, x1.2.2.1) (x0.1, x0.2.1, x0.2.2.1)).2.2), (.lsl 25 0 (List.length z0_0))])]⟩)), (25, (some ⟨4, true, (List.map en0 z0_0)⟩))]⟩ : St) K := by
  intro n
  induction n with
  | zero =>
    intro z0_0 z0_1 o K h h0
    simp only [l_spec_DifferenceOf_0, reduceCtorEq] at h
  | succ n ih =>
    intro z0_0 z0_1 o K h h0
    refine eA_loop ?_
    unfold lb30_0
    unfold l_spec_DifferenceOf_0 at h
    (try simp only [need_iff] at h)
    simp only [
      need_iff, h, grpA, vsliceS, grpS, grpD, grpF, grpL, eop, vop, bop, uop, fltop, convop, endOk, newE, new1, freshL, Md.isNew, outV, pureV, pureX, pure1, AV.cells, AV.one,
            storable, laid, refless, refless1, vload, loadC, storeC, vnil, vfaddr, vextract, flatT, flatE, flatC, vconv, vmm, vidxA, viaddrA, vfield, vlen, elemsOf, dF32, dF64,
            dI64, dU8, dBool, dStr, esOk, elemsS, vsliceX, bnd, ownV, ownC, own1, ownT, isSl, nSl, endL, Md.isOwn, purge, purgeH, purgeB, purgeE, hasName, name1, List.any_cons,
            List.any_nil, Md.isWr, pureV.pureP, Option.map, reduceIte, Nat.reduceEqDiff, Nat.reduceAdd, Nat.reduceMul, Nat.reduceLT, Nat.reduceLeDiff, List.mapM_cons, List.mapM_nil,
            Option.pure_def, Option.bind_eq_bind, Option.bind_some, implies_true, forall_const, beq_self_eq_true, decide_true, decide_false, eq_self, Int.reduceEq, Int.reduceLE,
            Int.reduceLT, if_true, if_false, fc30_0, fc30_1, fc30_2, Int.reduceAdd, Int.reduceSub, Int.reduceMul, Int.reduceNeg, Int.reducePow, Nat.reducePow, Int.reduceToNat,
            Nat.reduceSub, List.replicate, Nat.reduceBEq, wAs, wA, wC, zipW, noDupN, grpE, beq_true, beq_false, g_spec_l03Few, g_spec_l02Mul, g_spec_l01Less, g_spec_l02Inverse,
            grpC, en0, dc_en0, ↓b_pick, ePk_true, ePk_false]
    repeat' (first
      | ((first | (refine eGI_of (fun hc => ?_) (fun hc => ?_)) | (refine eCc_of (fun hc => ?_) (fun hc => ?_)) | (refine ePk_of (fun hc => ?_) (fun hc => ?_)) | (have hc := True.intro; refine KW_refl ?_)) <;> (try simp only [Bool.not_eq_true', Bool.not_eq_false'] at hc) <;> (try simp only [hc, need_iff, reduceCtorEq, beq_true, beq_false, Int.reduceEq, Int.reduceLT, Int.reduceLE, true_or, or_true, Bool.not_eq_true', decide_eq_false_iff_not, Bool.not_true, Bool.not_false, Bool.false_or, Bool.true_or, Bool.true_and, Bool.false_and, Bool.and_eq_true, Bool.or_eq_true, if_true, if_false, reduceIte, Bool.false_eq_true, and_true, true_and, false_or, or_false, decide_eq_true_eq, not_false_eq_true, not_true_eq_false] at h) <;> (first | (have hc2 := hc; simp only [decide_eq_true_eq, decide_eq_false_iff_not] at hc2; (first | (replace hc2 := eq_false hc2) | (replace hc2 := eq_true hc2)); (try simp only [hc2, need_iff, reduceCtorEq, beq_true, beq_false, Int.reduceEq, Int.reduceLT, Int.reduceLE, true_or, or_true, Bool.not_eq_true', decide_eq_false_iff_not, Bool.not_true, Bool.not_false, Bool.false_or, Bool.true_or, Bool.true_and, Bool.false_and, Bool.and_eq_true, Bool.or_eq_true, if_true, if_false, reduceIte, Bool.false_eq_true, and_true, true_and, false_or, or_false, decide_eq_true_eq, not_false_eq_true, not_true_eq_false] at h); replace h := And.intro hc2 h) | (replace h := And.intro hc h) | skip) <;> simp only [hc,
      need_iff, h, grpA, vsliceS, grpS, grpD, grpF, grpL, eop, vop, bop, uop, fltop, convop, endOk, newE, new1, freshL, Md.isNew, outV, pureV, pureX, pure1, AV.cells, AV.one,
            storable, laid, refless, refless1, vload, loadC, storeC, vnil, vfaddr, vextract, flatT, flatE, flatC, vconv, vmm, vidxA, viaddrA, vfield, vlen, elemsOf, dF32, dF64,
            dI64, dU8, dBool, dStr, esOk, elemsS, vsliceX, bnd, ownV, ownC, own1, ownT, isSl, nSl, endL, Md.isOwn, purge, purgeH, purgeB, purgeE, hasName, name1, List.any_cons,
            List.any_nil, Md.isWr, pureV.pureP, Option.map, reduceIte, Nat.reduceEqDiff, Nat.reduceAdd, Nat.reduceMul, Nat.reduceLT, Nat.reduceLeDiff, List.mapM_cons, List.mapM_nil,
            Option.pure_def, Option.bind_eq_bind, Option.bind_some, implies_true, forall_const, beq_self_eq_true, decide_true, decide_false, eq_self, Int.reduceEq, Int.reduceLE,
            Int.reduceLT, if_true, if_false, fc30_0, fc30_1, fc30_2, Int.reduceAdd, Int.reduceSub, Int.reduceMul, Int.reduceNeg, Int.reducePow, Nat.reducePow, Int.reduceToNat,
            Nat.reduceSub, List.replicate, Nat.reduceBEq, wAs, wA, wC, zipW, noDupN, grpE, beq_true, beq_false, g_spec_l03Few, g_spec_l02Mul, g_spec_l01Less, g_spec_l02Inverse,
            grpC, en0, dc_en0, ↓b_pick, ePk_true, ePk_false]))
    all_goals (repeat (replace h := And.right h))
    all_goals first
      | (refine eA_wk (wk_norm (ks := [2, 3, 4, 6, 29, 30]) (ls := [2, 3, 4, 6, 25]) ?_) (eA_cast ?_ (ih _ _ _ _ h h0)); (simp only [normOk, optIn, blkIn, nameIn,
      need_iff, h, grpA, vsliceS, grpS, grpD, grpF, grpL, eop, vop, bop, uop, fltop, convop, endOk, newE, new1, freshL, Md.isNew, outV, pureV, pureX, pure1, AV.cells, AV.one,
            storable, laid, refless, refless1, vload, loadC, storeC, vnil, vfaddr, vextract, flatT, flatE, flatC, vconv, vmm, vidxA, viaddrA, vfield, vlen, elemsOf, dF32, dF64,
            dI64, dU8, dBool, dStr, esOk, elemsS, vsliceX, bnd, ownV, ownC, own1, ownT, isSl, nSl, endL, Md.isOwn, purge, purgeH, purgeB, purgeE, hasName, name1, List.any_cons,
            List.any_nil, Md.isWr, pureV.pureP, Option.map, reduceIte, Nat.reduceEqDiff, Nat.reduceAdd, Nat.reduceMul, Nat.reduceLT, Nat.reduceLeDiff, List.mapM_cons, List.mapM_nil,
            Option.pure_def, Option.bind_eq_bind, Option.bind_some, implies_true, forall_const, beq_self_eq_true, decide_true, decide_false, eq_self, Int.reduceEq, Int.reduceLE,
            Int.reduceLT, if_true, if_false, fc30_0, fc30_1, fc30_2, Int.reduceAdd, Int.reduceSub, Int.reduceMul, Int.reduceNeg, Int.reducePow, Nat.reducePow, Int.reduceToNat,
            Nat.reduceSub, List.replicate, Nat.reduceBEq, wAs, wA, wC, zipW, noDupN, grpE, beq_true, beq_false, g_spec_l03Few, g_spec_l02Mul, g_spec_l01Less, g_spec_l02Inverse,
            grpC, en0, dc_en0, ↓b_pick, ePk_true, ePk_false] <;> rfl); (simp only [normS, List.map_append, List.length_append, List.map_set, List.length_set, List.map_replicate, List.length_replicate, List.map_nil, List.map_cons,
      need_iff, h, grpA, vsliceS, grpS, grpD, grpF, grpL, eop, vop, bop, uop, fltop, convop, endOk, newE, new1, freshL, Md.isNew, outV, pureV, pureX, pure1, AV.cells, AV.one,
            storable, laid, refless, refless1, vload, loadC, storeC, vnil, vfaddr, vextract, flatT, flatE, flatC, vconv, vmm, vidxA, viaddrA, vfield, vlen, elemsOf, dF32, dF64,
            dI64, dU8, dBool, dStr, esOk, elemsS, vsliceX, bnd, ownV, ownC, own1, ownT, isSl, nSl, endL, Md.isOwn, purge, purgeH, purgeB, purgeE, hasName, name1, List.any_cons,
            List.any_nil, Md.isWr, pureV.pureP, Option.map, reduceIte, Nat.reduceEqDiff, Nat.reduceAdd, Nat.reduceMul, Nat.reduceLT, Nat.reduceLeDiff, List.mapM_cons, List.mapM_nil,
            Option.pure_def, Option.bind_eq_bind, Option.bind_some, implies_true, forall_const, beq_self_eq_true, decide_true, decide_false, eq_self, Int.reduceEq, Int.reduceLE,
            Int.reduceLT, if_true, if_false, fc30_0, fc30_1, fc30_2, Int.reduceAdd, Int.reduceSub, Int.reduceMul, Int.reduceNeg, Int.reducePow, Nat.reducePow, Int.reduceToNat,
            Nat.reduceSub, List.replicate, Nat.reduceBEq, wAs, wA, wC, zipW, noDupN, grpE, beq_true, beq_false, g_spec_l03Few, g_spec_l02Mul, g_spec_l01Less, g_spec_l02Inverse,
            grpC, en0, dc_en0, ↓b_pick, ePk_true, ePk_false] <;> first | rfl | (simp only [Nat.add_comm]; done)))
      | (cases h; refine h0 _ (Wk.cast (wk_norm (ks := [4, 6]) (ls := [4, 6, 25]) ?_) ?_); (simp only [normOk, optIn, blkIn, nameIn,
      grpA, vsliceS, grpS, grpD, grpF, grpL, eop, vop, bop, uop, fltop, convop, endOk, newE, new1, freshL, Md.isNew, outV, pureV, pureX, pure1, AV.cells, AV.one, storable, laid,
            refless, refless1, vload, loadC, storeC, vnil, vfaddr, vextract, flatT, flatE, flatC, vconv, vmm, vidxA, viaddrA, vfield, vlen, elemsOf, dF32, dF64, dI64, dU8, dBool,
            dStr, esOk, elemsS, vsliceX, bnd, ownV, ownC, own1, ownT, isSl, nSl, endL, Md.isOwn, purge, purgeH, purgeB, purgeE, hasName, name1, List.any_cons, List.any_nil, Md.isWr,
            pureV.pureP, Option.map, reduceIte, Nat.reduceEqDiff, Nat.reduceAdd, Nat.reduceMul, Nat.reduceLT, Nat.reduceLeDiff, List.mapM_cons, List.mapM_nil, Option.pure_def,
            Option.bind_eq_bind, Option.bind_some, implies_true, forall_const, beq_self_eq_true, decide_true, decide_false, eq_self, Int.reduceEq, Int.reduceLE, Int.reduceLT,
            if_true, if_false, fc30_0, fc30_1, fc30_2, Int.reduceAdd, Int.reduceSub, Int.reduceMul, Int.reduceNeg, Int.reducePow, Nat.reducePow, Int.reduceToNat, Nat.reduceSub,
            List.replicate, Nat.reduceBEq, wAs, wA, wC, zipW, noDupN, grpE, beq_true, beq_false, g_spec_l03Few, g_spec_l02Mul, g_spec_l01Less, g_spec_l02Inverse, grpC, en0, dc_en0,
            ↓b_pick, ePk_true, ePk_false] <;> rfl); (simp only [normS, List.map_append, List.length_append, List.map_set, List.length_set, List.map_replicate, List.length_replicate,
      grpA, vsliceS, grpS, grpD, grpF, grpL, eop, vop, bop, uop, fltop, convop, endOk, newE, new1, freshL, Md.isNew, outV, pureV, pureX, pure1, AV.cells, AV.one, storable, laid,
            refless, refless1, vload, loadC, storeC, vnil, vfaddr, vextract, flatT, flatE, flatC, vconv, vmm, vidxA, viaddrA, vfield, vlen, elemsOf, dF32, dF64, dI64, dU8, dBool,
            dStr, esOk, elemsS, vsliceX, bnd, ownV, ownC, own1, ownT, isSl, nSl, endL, Md.isOwn, purge, purgeH, purgeB, purgeE, hasName, name1, List.any_cons, List.any_nil, Md.isWr,
            pureV.pureP, Option.map, reduceIte, Nat.reduceEqDiff, Nat.reduceAdd, Nat.reduceMul, Nat.reduceLT, Nat.reduceLeDiff, List.mapM_cons, List.mapM_nil, Option.pure_def,
            Option.bind_eq_bind, Option.bind_some, implies_true, forall_const, beq_self_eq_true, decide_true, decide_false, eq_self, Int.reduceEq, Int.reduceLE, Int.reduceLT,
            if_true, if_false, fc30_0, fc30_1, fc30_2, Int.reduceAdd, Int.reduceSub, Int.reduceMul, Int.reduceNeg, Int.reducePow, Nat.reducePow, Int.reduceToNat, Nat.reduceSub,
            List.replicate, Nat.reduceBEq, wAs, wA, wC, zipW, noDupN, grpE, beq_true, beq_false, g_spec_l03Few, g_spec_l02Mul, g_spec_l01Less, g_spec_l02Inverse, grpC, en0, dc_en0,
            ↓b_pick, ePk_true, ePk_false] <;> first | rfl | (simp only [Nat.add_comm]; done)))
theorem s30 : ∀ vs r, g_spec_DifferenceOf vs = some r → SaysM Try.prog (.own [4]) 30 vs r := by
  intro vs r h
  unfold g_spec_DifferenceOf at h
  split at h
  · rename_i y0 y1 y2 w3 y4 y5 y6 w7
    cases hd_y3 : decL dc_en0 w3 with
    | none => rw [hd_y3] at h; cases h
    | some y3 =>
    rw [hd_y3] at h
    obtain rfl := decL_inv dc_en0_inv hd_y3
    clear hd_y3
    dsimp only at h
    cases hd_y7 : decL dc_en0 w7 with
    | none => rw [hd_y7] at h; cases h
    | some y7 =>
    rw [hd_y7] at h
    obtain rfl := decL_inv dc_en0_inv hd_y7
    clear hd_y7
    dsimp only at h
    split at h
    · rename_i hp
      cases h
      refine spec_of (m := (.own [4])) (tab := tabOf [(65, wM .any g_spec_l03Few), (67, wM .any g_spec_l02Mul), (72, wM .any g_spec_l01Less), (73, wM .any g_spec_l02Inverse)]) (cp := cp30) (ic := ic30) (rvl := [(.c 4 (some 4)), (.t 5)]) hm (tabOk_cons (m := .any) s65 (tabOk_cons (m := .any) s67 (tabOk_cons (m := .any) s72 (tabOk_cons (m := .any) s73 tabOk_nil)))) Try.func30 rfl rfl rfl (by kernel_rfl) rfl (Nat.le_of_ble_eq_true rfl) (Nat.le_of_ble_eq_true rfl) ?_
      show eA _ _ _ _
      unfold ic30
      simp only [p_spec_DifferenceOf, Bool.and_eq_true, Bool.or_eq_true, decide_eq_true_eq, Bool.not_eq_true', decide_eq_false_iff_not] at hp
      simp only [
          hp, grpA, vsliceS, grpS, grpD, grpF, grpL, eop, vop, bop, uop, fltop, convop, endOk, newE, new1, freshL, Md.isNew, outV, pureV, pureX, pure1, AV.cells, AV.one, storable,
                laid, refless, refless1, vload, loadC, storeC, vnil, vfaddr, vextract, flatT, flatE, flatC, vconv, vmm, vidxA, viaddrA, vfield, vlen, elemsOf, dF32, dF64, dI64, dU8,
                dBool, dStr, esOk, elemsS, vsliceX, bnd, ownV, ownC, own1, ownT, isSl, nSl, endL, Md.isOwn, purge, purgeH, purgeB, purgeE, hasName, name1, List.any_cons,
                List.any_nil, Md.isWr, pureV.pureP, Option.map, reduceIte, Nat.reduceEqDiff, Nat.reduceAdd, Nat.reduceMul, Nat.reduceLT, Nat.reduceLeDiff, List.mapM_cons,
                List.mapM_nil, Option.pure_def, Option.bind_eq_bind, Option.bind_some, implies_true, forall_const, beq_self_eq_true, decide_true, decide_false, eq_self,
                Int.reduceEq, Int.reduceLE, Int.reduceLT, if_true, if_false, fc30_0, fc30_1, fc30_2, Int.reduceAdd, Int.reduceSub, Int.reduceMul, Int.reduceNeg, Int.reducePow,
                Nat.reducePow, Int.reduceToNat, Nat.reduceSub, List.replicate, Nat.reduceBEq, wAs, wA, wC, zipW, noDupN, grpE, beq_true, beq_false, g_spec_l03Few, g_spec_l02Mul,
                g_spec_l01Less, g_spec_l02Inverse, grpC, en0, dc_en0, ↓b_pick, ePk_true, ePk_false]
      repeat' (first
        | ((first | (refine eGI_of (fun h => ?_) (fun h => ?_)) | (refine eCc_of (fun h => ?_) (fun h => ?_)) | (refine ePk_of (fun h => ?_) (fun h => ?_)) | (have h := True.intro; refine KW_refl ?_)) <;> (try simp only [Bool.not_eq_true', Bool.not_eq_false'] at h) <;> (try first | exact absurd (Eq.trans (Eq.symm h) (by assumption)) Bool.false_ne_true | exact absurd (Eq.trans (Eq.symm h) (by assumption)) (Ne.symm Bool.false_ne_true)) <;> (try simp only [h, reduceCtorEq, beq_true, beq_false, Int.reduceEq, Int.reduceLT, Int.reduceLE, true_or, or_true, Bool.not_eq_true', decide_eq_false_iff_not, Bool.not_true, Bool.not_false, Bool.false_or, Bool.true_or, Bool.true_and, Bool.false_and, Bool.and_eq_true, Bool.or_eq_true, if_true, if_false, reduceIte, Bool.false_eq_true, and_true, true_and, false_or, or_false, decide_eq_true_eq, not_false_eq_true, not_true_eq_false] at hp) <;> (first | (have h2 := h; simp only [decide_eq_true_eq, decide_eq_false_iff_not] at h2; (first | (replace h2 := eq_false h2) | (replace h2 := eq_true h2)); (try simp only [h2, reduceCtorEq, beq_true, beq_false, Int.reduceEq, Int.reduceLT, Int.reduceLE, true_or, or_true, Bool.not_eq_true', decide_eq_false_iff_not, Bool.not_true, Bool.not_false, Bool.false_or, Bool.true_or, Bool.true_and, Bool.false_and, Bool.and_eq_true, Bool.or_eq_true, if_true, if_false, reduceIte, Bool.false_eq_true, and_true, true_and, false_or, or_false, decide_eq_true_eq, not_false_eq_true, not_true_eq_false] at hp); replace hp := And.intro h2 hp) | (replace hp := And.intro h hp) | skip) <;> simp only [h,
          hp, grpA, vsliceS, grpS, grpD, grpF, grpL, eop, vop, bop, uop, fltop, convop, endOk, newE, new1, freshL, Md.isNew, outV, pureV, pureX, pure1, AV.cells, AV.one, storable,
                laid, refless, refless1, vload, loadC, storeC, vnil, vfaddr, vextract, flatT, flatE, flatC, vconv, vmm, vidxA, viaddrA, vfield, vlen, elemsOf, dF32, dF64, dI64, dU8,
                dBool, dStr, esOk, elemsS, vsliceX, bnd, ownV, ownC, own1, ownT, isSl, nSl, endL, Md.isOwn, purge, purgeH, purgeB, purgeE, hasName, name1, List.any_cons,
                List.any_nil, Md.isWr, pureV.pureP, Option.map, reduceIte, Nat.reduceEqDiff, Nat.reduceAdd, Nat.reduceMul, Nat.reduceLT, Nat.reduceLeDiff, List.mapM_cons,
                List.mapM_nil, Option.pure_def, Option.bind_eq_bind, Option.bind_some, implies_true, forall_const, beq_self_eq_true, decide_true, decide_false, eq_self,
                Int.reduceEq, Int.reduceLE, Int.reduceLT, if_true, if_false, fc30_0, fc30_1, fc30_2, Int.reduceAdd, Int.reduceSub, Int.reduceMul, Int.reduceNeg, Int.reducePow,
                Nat.reducePow, Int.reduceToNat, Nat.reduceSub, List.replicate, Nat.reduceBEq, wAs, wA, wC, zipW, noDupN, grpE, beq_true, beq_false, g_spec_l03Few, g_spec_l02Mul,
                g_spec_l01Less, g_spec_l02Inverse, grpC, en0, dc_en0, ↓b_pick, ePk_true, ePk_false])
        | (refine eA_wk (wk_norm (ks := [2, 3, 4, 6, 29, 30]) (ls := [2, 3, 4, 6, 25]) ?_) (eA_cast ?_ (sl30_0 (y0, y1, y2, y3) (y4, y5, y6, y7) _ _ _ _ _ (getD_some (d := default) (x := (l_spec_DifferenceOf_0 (y0, y1, y2, y3) (y4, y5, y6, y7) (Int.toNat (((List.length (y4, y5, y6, y7).2.2.2 : Nat) : Int) - 0) + 2) [] 0)) ?_) ?_)); (simp only [nilS, nilV, normOk, optIn, blkIn, nameIn, 
          hp, grpA, vsliceS, grpS, grpD, grpF, grpL, eop, vop, bop, uop, fltop, convop, endOk, newE, new1, freshL, Md.isNew, outV, pureV, pureX, pure1, AV.cells, AV.one, storable,
                laid, refless, refless1, vload, loadC, storeC, vnil, vfaddr, vextract, flatT, flatE, flatC, vconv, vmm, vidxA, viaddrA, vfield, vlen, elemsOf, dF32, dF64, dI64, dU8,
                dBool, dStr, esOk, elemsS, vsliceX, bnd, ownV, ownC, own1, ownT, isSl, nSl, endL, Md.isOwn, purge, purgeH, purgeB, purgeE, hasName, name1, List.any_cons,
                List.any_nil, Md.isWr, pureV.pureP, Option.map, reduceIte, Nat.reduceEqDiff, Nat.reduceAdd, Nat.reduceMul, Nat.reduceLT, Nat.reduceLeDiff, List.mapM_cons,
                List.mapM_nil, Option.pure_def, Option.bind_eq_bind, Option.bind_some, implies_true, forall_const, beq_self_eq_true, decide_true, decide_false, eq_self,
                Int.reduceEq, Int.reduceLE, Int.reduceLT, if_true, if_false, fc30_0, fc30_1, fc30_2, Int.reduceAdd, Int.reduceSub, Int.reduceMul, Int.reduceNeg, Int.reducePow,
                Nat.reducePow, Int.reduceToNat, Nat.reduceSub, List.replicate, Nat.reduceBEq, wAs, wA, wC, zipW, noDupN, grpE, beq_true, beq_false, g_spec_l03Few, g_spec_l02Mul,
                g_spec_l01Less, g_spec_l02Inverse, grpC, en0, dc_en0, ↓b_pick, ePk_true, ePk_false] <;> rfl); (simp only [nilS, nilV, normS,  List.map_append, List.length_append, List.map_set, List.length_set, List.map_replicate, List.length_replicate, List.map_nil, List.map_cons,
          hp, grpA, vsliceS, grpS, grpD, grpF, grpL, eop, vop, bop, uop, fltop, convop, endOk, newE, new1, freshL, Md.isNew, outV, pureV, pureX, pure1, AV.cells, AV.one, storable,
                laid, refless, refless1, vload, loadC, storeC, vnil, vfaddr, vextract, flatT, flatE, flatC, vconv, vmm, vidxA, viaddrA, vfield, vlen, elemsOf, dF32, dF64, dI64, dU8,
                dBool, dStr, esOk, elemsS, vsliceX, bnd, ownV, ownC, own1, ownT, isSl, nSl, endL, Md.isOwn, purge, purgeH, purgeB, purgeE, hasName, name1, List.any_cons,
                List.any_nil, Md.isWr, pureV.pureP, Option.map, reduceIte, Nat.reduceEqDiff, Nat.reduceAdd, Nat.reduceMul, Nat.reduceLT, Nat.reduceLeDiff, List.mapM_cons,
                List.mapM_nil, Option.pure_def, Option.bind_eq_bind, Option.bind_some, implies_true, forall_const, beq_self_eq_true, decide_true, decide_false, eq_self,
                Int.reduceEq, Int.reduceLE, Int.reduceLT, if_true, if_false, fc30_0, fc30_1, fc30_2, Int.reduceAdd, Int.reduceSub, Int.reduceMul, Int.reduceNeg, Int.reducePow,
                Nat.reducePow, Int.reduceToNat, Nat.reduceSub, List.replicate, Nat.reduceBEq, wAs, wA, wC, zipW, noDupN, grpE, beq_true, beq_false, g_spec_l03Few, g_spec_l02Mul,
                g_spec_l01Less, g_spec_l02Inverse, grpC, en0, dc_en0, ↓b_pick, ePk_true, ePk_false] <;> first | rfl | (simp only [Nat.add_comm]; done)); (simp only [hp]); (
        intro st2 hw; (try simp only [reduceCtorEq, beq_true, beq_false, Int.reduceEq, Int.reduceLT, Int.reduceLE, true_or, or_true, Bool.not_eq_true', decide_eq_false_iff_not, Bool.not_true, Bool.not_false, Bool.false_or, Bool.true_or, Bool.true_and, Bool.false_and, Bool.and_eq_true, Bool.or_eq_true, if_true, if_false, reduceIte, Bool.false_eq_true, and_true, true_and, false_or, or_false, decide_eq_true_eq, not_false_eq_true, not_true_eq_false] at hp); simp only [
          hp, grpA, vsliceS, grpS, grpD, grpF, grpL, eop, vop, bop, uop, fltop, convop, endOk, newE, new1, freshL, Md.isNew, outV, pureV, pureX, pure1, AV.cells, AV.one, storable,
                laid, refless, refless1, vload, loadC, storeC, vnil, vfaddr, vextract, flatT, flatE, flatC, vconv, vmm, vidxA, viaddrA, vfield, vlen, elemsOf, dF32, dF64, dI64, dU8,
                dBool, dStr, esOk, elemsS, vsliceX, bnd, ownV, ownC, own1, ownT, isSl, nSl, endL, Md.isOwn, purge, purgeH, purgeB, purgeE, hasName, name1, List.any_cons,
                List.any_nil, Md.isWr, pureV.pureP, Option.map, reduceIte, Nat.reduceEqDiff, Nat.reduceAdd, Nat.reduceMul, Nat.reduceLT, Nat.reduceLeDiff, List.mapM_cons,
                List.mapM_nil, Option.pure_def, Option.bind_eq_bind, Option.bind_some, implies_true, forall_const, beq_self_eq_true, decide_true, decide_false, eq_self,
                Int.reduceEq, Int.reduceLE, Int.reduceLT, if_true, if_false, fc30_0, fc30_1, fc30_2, Int.reduceAdd, Int.reduceSub, Int.reduceMul, Int.reduceNeg, Int.reducePow,
                Nat.reducePow, Int.reduceToNat, Nat.reduceSub, List.replicate, Nat.reduceBEq, wAs, wA, wC, zipW, noDupN, grpE, beq_true, beq_false, g_spec_l03Few, g_spec_l02Mul,
                g_spec_l01Less, g_spec_l02Inverse, grpC, en0, dc_en0, ↓b_pick, ePk_true, ePk_false]; refine KW_of hw ?_; simp only [
          hp, grpA, vsliceS, grpS, grpD, grpF, grpL, eop, vop, bop, uop, fltop, convop, endOk, newE, new1, freshL, Md.isNew, outV, pureV, pureX, pure1, AV.cells, AV.one, storable,
                laid, refless, refless1, vload, loadC, storeC, vnil, vfaddr, vextract, flatT, flatE, flatC, vconv, vmm, vidxA, viaddrA, vfield, vlen, elemsOf, dF32, dF64, dI64, dU8,
                dBool, dStr, esOk, elemsS, vsliceX, bnd, ownV, ownC, own1, ownT, isSl, nSl, endL, Md.isOwn, purge, purgeH, purgeB, purgeE, hasName, name1, List.any_cons,
                List.any_nil, Md.isWr, pureV.pureP, Option.map, reduceIte, Nat.reduceEqDiff, Nat.reduceAdd, Nat.reduceMul, Nat.reduceLT, Nat.reduceLeDiff, List.mapM_cons,
                List.mapM_nil, Option.pure_def, Option.bind_eq_bind, Option.bind_some, implies_true, forall_const, beq_self_eq_true, decide_true, decide_false, eq_self,
                Int.reduceEq, Int.reduceLE, Int.reduceLT, if_true, if_false, fc30_0, fc30_1, fc30_2, Int.reduceAdd, Int.reduceSub, Int.reduceMul, Int.reduceNeg, Int.reducePow,
                Nat.reducePow, Int.reduceToNat, Nat.reduceSub, List.replicate, Nat.reduceBEq, wAs, wA, wC, zipW, noDupN, grpE, beq_true, beq_false, g_spec_l03Few, g_spec_l02Mul,
                g_spec_l01Less, g_spec_l02Inverse, grpC, en0, dc_en0, ↓b_pick, ePk_true, ePk_false])))
      all_goals (try simp only [*, m_spec_DifferenceOf, Bool.and_true, Bool.true_and, Bool.and_false, Bool.false_and, Bool.or_true, Bool.true_or, Bool.or_false, Bool.false_or, Bool.not_true, Bool.not_false, Bool.false_eq_true, if_true, if_false, reduceIte, decide_true, decide_false])
      all_goals (try (simp_all; done))
    · cases h
  · cases h
def m_impl_isPose (x0 : (Nat × Nat × Nat × (List (Nat × Nat × Nat × Nat)))) : Bool := (if (decide (1 ≤ ((List.length x0.2.2.2 : Nat) : Int))) = true then (decide (((List.length
      x0.2.2.2 : Nat) : Int) ≤ 12)) else false)
def g_impl_isPose : List AV → Option AV
  | [.agg [.flt .f32 y0, .flt .f32 y1, .flt .f32 y2, .sl w3]] => (match decL dc_en0 w3 with | some y3 => (some (.bool (m_impl_isPose (y0, y1, y2, y3)))) | none => none)
  | _ => none
def ic91 : ICode := (.seq (.reg [⟨(some 1), none, (.box 4 (.t 0))⟩, ⟨(some 2), none, (.mov (.c (.bool false)))⟩] [1]) (.seq (.reg [⟨(some 3), none, (.faddr 3 (.t 1))⟩, ⟨(some 4),
      none, (.load none (.t 3))⟩, ⟨(some 5), none, (.len false (.t 4))⟩, ⟨(some 6), none, (.bin .geq false (.t 5) (.c (.int .i64 1)))⟩, ⟨(some 7), none, (.mov (.t 6))⟩, ⟨(some 8),
      (some (7, true)), (.faddr 3 (.t 1))⟩, ⟨(some 9), (some (7, true)), (.load none (.t 8))⟩, ⟨(some 10), (some (7, true)), (.len false (.t 9))⟩, ⟨(some 11), (some (7, true)),
      (.bin .leq false (.t 10) (.c (.int .i64 12)))⟩, ⟨(some 12), none, (.pick (.t 7) (.t 11) (.c (.bool false)))⟩, ⟨(some 2), none, (.mov (.t 12))⟩] [2]) .ret))
def cp91 : CP := CP.mk [] [] [[1], [2]] 13 [] []
theorem fc91_0 : IntKind.wrap .i64 1 = 1 := by decide
theorem fc91_1 : IntKind.wrap .i64 2 = 2 := by decide
theorem fc91_2 : IntKind.wrap .i64 3 = 3 := by decide
theorem s91 : ∀ vs r, g_impl_isPose vs = some r → SaysM Try.prog .any 91 vs r := by
  intro vs r h
  unfold g_impl_isPose at h
  split at h
  · rename_i y0 y1 y2 w3
    cases hd_y3 : decL dc_en0 w3 with
    | none => rw [hd_y3] at h; cases h
    | some y3 =>
    rw [hd_y3] at h
    obtain rfl := decL_inv dc_en0_inv hd_y3
    clear hd_y3
    dsimp only at h
    cases h
    refine spec_of (m := .any) (tab := tabOf []) (cp := cp91) (ic := ic91) (rvl := [(.t 2)]) hm tabOk_nil Try.func91 rfl rfl rfl (by kernel_rfl) rfl (Nat.le_of_ble_eq_true rfl) (Nat.le_of_ble_eq_true rfl) ?_
    show eA _ _ _ _
    unfold ic91
    simp only [
        grpA, vsliceS, grpS, grpD, grpF, grpL, eop, vop, bop, uop, fltop, convop, endOk, newE, new1, freshL, Md.isNew, outV, pureV, pureX, pure1, AV.cells, AV.one, storable, laid,
              refless, refless1, vload, loadC, storeC, vnil, vfaddr, vextract, flatT, flatE, flatC, vconv, vmm, vidxA, viaddrA, vfield, vlen, elemsOf, dF32, dF64, dI64, dU8, dBool,
              dStr, esOk, elemsS, vsliceX, bnd, ownV, ownC, own1, ownT, isSl, nSl, endL, Md.isOwn, purge, purgeH, purgeB, purgeE, hasName, name1, List.any_cons, List.any_nil,
              Md.isWr, pureV.pureP, Option.map, reduceIte, Nat.reduceEqDiff, Nat.reduceAdd, Nat.reduceMul, Nat.reduceLT, Nat.reduceLeDiff, List.mapM_cons, List.mapM_nil,
              Option.pure_def, Option.bind_eq_bind, Option.bind_some, implies_true, forall_const, beq_self_eq_true, decide_true, decide_false, eq_self, Int.reduceEq, Int.reduceLE,
              Int.reduceLT, if_true, if_false, fc91_0, fc91_1, fc91_2, Int.reduceAdd, Int.reduceSub, Int.reduceMul, Int.reduceNeg, Int.reducePow, Nat.reducePow, Int.reduceToNat,
              Nat.reduceSub, List.replicate, Nat.reduceBEq, wAs, wA, wC, zipW, noDupN, grpE, beq_true, beq_false, grpC, en0, dc_en0, ↓b_pick, ePk_true, ePk_false]
    repeat' (first
      | ((first | (refine eGI_of (fun h => ?_) (fun h => ?_)) | (refine eCc_of (fun h => ?_) (fun h => ?_)) | (refine ePk_of (fun h => ?_) (fun h => ?_))) <;> (try simp only [Bool.not_eq_true', Bool.not_eq_false'] at h) <;> (try first | exact absurd (Eq.trans (Eq.symm h) (by assumption)) Bool.false_ne_true | exact absurd (Eq.trans (Eq.symm h) (by assumption)) (Ne.symm Bool.false_ne_true)) <;> simp only [h,
        grpA, vsliceS, grpS, grpD, grpF, grpL, eop, vop, bop, uop, fltop, convop, endOk, newE, new1, freshL, Md.isNew, outV, pureV, pureX, pure1, AV.cells, AV.one, storable, laid,
              refless, refless1, vload, loadC, storeC, vnil, vfaddr, vextract, flatT, flatE, flatC, vconv, vmm, vidxA, viaddrA, vfield, vlen, elemsOf, dF32, dF64, dI64, dU8, dBool,
              dStr, esOk, elemsS, vsliceX, bnd, ownV, ownC, own1, ownT, isSl, nSl, endL, Md.isOwn, purge, purgeH, purgeB, purgeE, hasName, name1, List.any_cons, List.any_nil,
              Md.isWr, pureV.pureP, Option.map, reduceIte, Nat.reduceEqDiff, Nat.reduceAdd, Nat.reduceMul, Nat.reduceLT, Nat.reduceLeDiff, List.mapM_cons, List.mapM_nil,
              Option.pure_def, Option.bind_eq_bind, Option.bind_some, implies_true, forall_const, beq_self_eq_true, decide_true, decide_false, eq_self, Int.reduceEq, Int.reduceLE,
              Int.reduceLT, if_true, if_false, fc91_0, fc91_1, fc91_2, Int.reduceAdd, Int.reduceSub, Int.reduceMul, Int.reduceNeg, Int.reducePow, Nat.reducePow, Int.reduceToNat,
              Nat.reduceSub, List.replicate, Nat.reduceBEq, wAs, wA, wC, zipW, noDupN, grpE, beq_true, beq_false, grpC, en0, dc_en0, ↓b_pick, ePk_true, ePk_false]))
    all_goals (try simp only [*, m_impl_isPose, Bool.and_true, Bool.true_and, Bool.and_false, Bool.false_and, Bool.or_true, Bool.true_or, Bool.or_false, Bool.false_or, Bool.not_true, Bool.not_false, Bool.false_eq_true, if_true, if_false, reduceIte, decide_true, decide_false])
    all_goals (try (simp_all; done))
  · cases h
def m_impl_arePair (x0 : (Nat × Nat × Nat × (List (Nat × Nat × Nat × Nat)))) (x1 : (Nat × Nat × Nat × (List (Nat × Nat × Nat × Nat)))) : Bool := (if (m_impl_isPose x0) = true then
      (decide (((List.length x0.2.2.2 : Nat) : Int) = ((List.length x1.2.2.2 : Nat) : Int))) else false)
def g_impl_arePair : List AV → Option AV
  | [.agg [.flt .f32 y0, .flt .f32 y1, .flt .f32 y2, .sl w3], .agg [.flt .f32 y4, .flt .f32 y5, .flt .f32 y6, .sl w7]] => (match decL dc_en0 w3 with | some y3 => ((match decL dc_en0 w7 with | some y7 => (some (.bool (m_impl_arePair (y0, y1, y2, y3) (y4, y5, y6, y7)))) | none => none)) | none => none)
  | _ => none
def ic68 : ICode := (.seq (.reg [⟨(some 2), none, (.box 4 (.t 0))⟩, ⟨(some 3), none, (.box 4 (.t 1))⟩, ⟨(some 4), none, (.mov (.c (.bool false)))⟩] [2, 3]) (.seq (.reg [⟨(some 5),
      none, (.load (some 4) (.t 2))⟩, ⟨(some 6), none, (.call (.fn 91) [(.t 5)] [])⟩, ⟨(some 7), none, (.mov (.t 6))⟩, ⟨(some 8), (some (7, true)), (.faddr 3 (.t 2))⟩, ⟨(some 9),
      (some (7, true)), (.load none (.t 8))⟩, ⟨(some 10), (some (7, true)), (.len false (.t 9))⟩, ⟨(some 11), (some (7, true)), (.faddr 3 (.t 3))⟩, ⟨(some 12), (some (7, true)),
      (.load none (.t 11))⟩, ⟨(some 13), (some (7, true)), (.len false (.t 12))⟩, ⟨(some 14), (some (7, true)), (.bin .eql false (.t 10) (.t 13))⟩, ⟨(some 15), none, (.pick (.t 7)
      (.t 14) (.c (.bool false)))⟩, ⟨(some 4), none, (.mov (.t 15))⟩] [4]) .ret))
def cp68 : CP := CP.mk [] [] [[2, 3], [4]] 16 [] []
theorem fc68_0 : IntKind.wrap .i64 1 = 1 := by decide
theorem fc68_1 : IntKind.wrap .i64 2 = 2 := by decide
theorem fc68_2 : IntKind.wrap .i64 3 = 3 := by decide
theorem s68 : ∀ vs r, g_impl_arePair vs = some r → SaysM Try.prog .any 68 vs r := by
  intro vs r h
  unfold g_impl_arePair at h
  split at h
  · rename_i y0 y1 y2 w3 y4 y5 y6 w7
    cases hd_y3 : decL dc_en0 w3 with
    | none => rw [hd_y3] at h; cases h
    | some y3 =>
    rw [hd_y3] at h
    obtain rfl := decL_inv dc_en0_inv hd_y3
    clear hd_y3
    dsimp only at h
    cases hd_y7 : decL dc_en0 w7 with
    | none => rw [hd_y7] at h; cases h
    | some y7 =>
    rw [hd_y7] at h
    obtain rfl := decL_inv dc_en0_inv hd_y7
    clear hd_y7
    dsimp only at h
    cases h
    refine spec_of (m := .any) (tab := tabOf [(91, wM .any g_impl_isPose)]) (cp := cp68) (ic := ic68) (rvl := [(.t 4)]) hm (tabOk_cons (m := .any) s91 tabOk_nil) Try.func68 rfl rfl rfl (by kernel_rfl) rfl (Nat.le_of_ble_eq_true rfl) (Nat.le_of_ble_eq_true rfl) ?_
    show eA _ _ _ _
    unfold ic68
    simp only [
        grpA, vsliceS, grpS, grpD, grpF, grpL, eop, vop, bop, uop, fltop, convop, endOk, newE, new1, freshL, Md.isNew, outV, pureV, pureX, pure1, AV.cells, AV.one, storable, laid,
              refless, refless1, vload, loadC, storeC, vnil, vfaddr, vextract, flatT, flatE, flatC, vconv, vmm, vidxA, viaddrA, vfield, vlen, elemsOf, dF32, dF64, dI64, dU8, dBool,
              dStr, esOk, elemsS, vsliceX, bnd, ownV, ownC, own1, ownT, isSl, nSl, endL, Md.isOwn, purge, purgeH, purgeB, purgeE, hasName, name1, List.any_cons, List.any_nil,
              Md.isWr, pureV.pureP, Option.map, reduceIte, Nat.reduceEqDiff, Nat.reduceAdd, Nat.reduceMul, Nat.reduceLT, Nat.reduceLeDiff, List.mapM_cons, List.mapM_nil,
              Option.pure_def, Option.bind_eq_bind, Option.bind_some, implies_true, forall_const, beq_self_eq_true, decide_true, decide_false, eq_self, Int.reduceEq, Int.reduceLE,
              Int.reduceLT, if_true, if_false, fc68_0, fc68_1, fc68_2, Int.reduceAdd, Int.reduceSub, Int.reduceMul, Int.reduceNeg, Int.reducePow, Nat.reducePow, Int.reduceToNat,
              Nat.reduceSub, List.replicate, Nat.reduceBEq, wAs, wA, wC, zipW, noDupN, grpE, beq_true, beq_false, g_impl_isPose, grpC, en0, dc_en0, ↓b_pick, ePk_true, ePk_false]
    repeat' (first
      | ((first | (refine eGI_of (fun h => ?_) (fun h => ?_)) | (refine eCc_of (fun h => ?_) (fun h => ?_)) | (refine ePk_of (fun h => ?_) (fun h => ?_))) <;> (try simp only [Bool.not_eq_true', Bool.not_eq_false'] at h) <;> (try first | exact absurd (Eq.trans (Eq.symm h) (by assumption)) Bool.false_ne_true | exact absurd (Eq.trans (Eq.symm h) (by assumption)) (Ne.symm Bool.false_ne_true)) <;> simp only [h,
        grpA, vsliceS, grpS, grpD, grpF, grpL, eop, vop, bop, uop, fltop, convop, endOk, newE, new1, freshL, Md.isNew, outV, pureV, pureX, pure1, AV.cells, AV.one, storable, laid,
              refless, refless1, vload, loadC, storeC, vnil, vfaddr, vextract, flatT, flatE, flatC, vconv, vmm, vidxA, viaddrA, vfield, vlen, elemsOf, dF32, dF64, dI64, dU8, dBool,
              dStr, esOk, elemsS, vsliceX, bnd, ownV, ownC, own1, ownT, isSl, nSl, endL, Md.isOwn, purge, purgeH, purgeB, purgeE, hasName, name1, List.any_cons, List.any_nil,
              Md.isWr, pureV.pureP, Option.map, reduceIte, Nat.reduceEqDiff, Nat.reduceAdd, Nat.reduceMul, Nat.reduceLT, Nat.reduceLeDiff, List.mapM_cons, List.mapM_nil,
              Option.pure_def, Option.bind_eq_bind, Option.bind_some, implies_true, forall_const, beq_self_eq_true, decide_true, decide_false, eq_self, Int.reduceEq, Int.reduceLE,
              Int.reduceLT, if_true, if_false, fc68_0, fc68_1, fc68_2, Int.reduceAdd, Int.reduceSub, Int.reduceMul, Int.reduceNeg, Int.reducePow, Nat.reducePow, Int.reduceToNat,
              Nat.reduceSub, List.replicate, Nat.reduceBEq, wAs, wA, wC, zipW, noDupN, grpE, beq_true, beq_false, g_impl_isPose, grpC, en0, dc_en0, ↓b_pick, ePk_true, ePk_false]))
    all_goals (try simp only [*, m_impl_arePair, Bool.and_true, Bool.true_and, Bool.and_false, Bool.false_and, Bool.or_true, Bool.true_or, Bool.or_false, Bool.false_or, Bool.not_true, Bool.not_false, Bool.false_eq_true, if_true, if_false, reduceIte, decide_true, decide_false])
    all_goals (try (simp_all; done))
  · cases h
def m_impl_LessVectors (x0 : (Nat × Nat × Nat)) (x1 : (Nat × Nat × Nat)) : (Nat × Nat × Nat) := ((fsub .f32 x0.1 x1.1), (fsub .f32 x0.2.1 x1.2.1), (fsub .f32 x0.2.2 x1.2.2))
def g_impl_LessVectors : List AV → Option AV
  | [.agg [.flt .f32 y0, .flt .f32 y1, .flt .f32 y2], .agg [.flt .f32 y3, .flt .f32 y4, .flt .f32 y5]] => some (AV.agg [(.flt .f32
      (m_impl_LessVectors (y0, y1, y2) (y3, y4, y5)).1), (.flt .f32 (m_impl_LessVectors (y0, y1, y2) (y3, y4, y5)).2.1), (.flt .f32 (m_impl_LessVectors (y0, y1, y2) (y3, y4,
      y5)).2.2)])
  | _ => none
def ic74 : ICode := (.seq (.reg [⟨(some 2), none, (.box 3 (.t 0))⟩, ⟨(some 3), none, (.box 3 (.t 1))⟩, ⟨(some 4), none, (.alloc (.agg [(.flt .f32 0), (.flt .f32 0), (.flt .f32
      0)]))⟩] [2, 3, 4]) (.seq (.reg [⟨(some 5), none, (.faddr 0 (.t 2))⟩, ⟨(some 6), none, (.load none (.t 5))⟩, ⟨(some 7), none, (.faddr 0 (.t 3))⟩, ⟨(some 8), none, (.load none
      (.t 7))⟩, ⟨(some 9), none, (.bin .sub false (.t 6) (.t 8))⟩, ⟨(some 10), none, (.faddr 1 (.t 2))⟩, ⟨(some 11), none, (.load none (.t 10))⟩, ⟨(some 12), none, (.faddr 1 (.t
      3))⟩, ⟨(some 13), none, (.load none (.t 12))⟩, ⟨(some 14), none, (.bin .sub false (.t 11) (.t 13))⟩, ⟨(some 15), none, (.faddr 2 (.t 2))⟩, ⟨(some 16), none, (.load none (.t
      15))⟩, ⟨(some 17), none, (.faddr 2 (.t 3))⟩, ⟨(some 18), none, (.load none (.t 17))⟩, ⟨(some 19), none, (.bin .sub false (.t 16) (.t 18))⟩, ⟨(some 20), none, (.build [(.flt
      .f32 0), (.flt .f32 0), (.flt .f32 0)] [(0, 1, (.t 9)), (1, 1, (.t 14)), (2, 1, (.t 19))])⟩, ⟨none, none, (.store 3 (.t 4) (.t 20))⟩] [4]) .ret))
def cp74 : CP := CP.mk [] [] [[2, 3, 4], [4]] 21 [] []
theorem fc74_0 : IntKind.wrap .i64 1 = 1 := by decide
theorem fc74_1 : IntKind.wrap .i64 2 = 2 := by decide
theorem fc74_2 : IntKind.wrap .i64 3 = 3 := by decide
theorem s74 : ∀ vs r, g_impl_LessVectors vs = some r → SaysM Try.prog .any 74 vs r := by
  intro vs r h
  unfold g_impl_LessVectors at h
  split at h
  · rename_i y0 y1 y2 y3 y4 y5
    cases h
    refine spec_of (m := .any) (tab := tabOf []) (cp := cp74) (ic := ic74) (rvl := [(.c 4 (some 3))]) hm tabOk_nil Try.func74 rfl rfl rfl (by kernel_rfl) rfl (Nat.le_of_ble_eq_true rfl) (Nat.le_of_ble_eq_true rfl) ?_
    show eA _ _ _ _
    unfold ic74
    simp only [
        grpA, vsliceS, grpS, grpD, grpF, grpL, eop, vop, bop, uop, fltop, convop, endOk, newE, new1, freshL, Md.isNew, outV, pureV, pureX, pure1, AV.cells, AV.one, storable, laid,
              refless, refless1, vload, loadC, storeC, vnil, vfaddr, vextract, flatT, flatE, flatC, vconv, vmm, vidxA, viaddrA, vfield, vlen, elemsOf, dF32, dF64, dI64, dU8, dBool,
              dStr, esOk, elemsS, vsliceX, bnd, ownV, ownC, own1, ownT, isSl, nSl, endL, Md.isOwn, purge, purgeH, purgeB, purgeE, hasName, name1, List.any_cons, List.any_nil,
              Md.isWr, pureV.pureP, Option.map, reduceIte, Nat.reduceEqDiff, Nat.reduceAdd, Nat.reduceMul, Nat.reduceLT, Nat.reduceLeDiff, List.mapM_cons, List.mapM_nil,
              Option.pure_def, Option.bind_eq_bind, Option.bind_some, implies_true, forall_const, beq_self_eq_true, decide_true, decide_false, eq_self, Int.reduceEq, Int.reduceLE,
              Int.reduceLT, if_true, if_false, fc74_0, fc74_1, fc74_2, Int.reduceAdd, Int.reduceSub, Int.reduceMul, Int.reduceNeg, Int.reducePow, Nat.reducePow, Int.reduceToNat,
              Nat.reduceSub, List.replicate, Nat.reduceBEq, wAs, wA, wC, zipW, noDupN, grpE, beq_true, beq_false, grpC, en0, dc_en0]
    repeat' (first
      | ((first | (refine eGI_of (fun h => ?_) (fun h => ?_)) | (refine eCc_of (fun h => ?_) (fun h => ?_))) <;> (try simp only [Bool.not_eq_true', Bool.not_eq_false'] at h) <;> (try first | exact absurd (Eq.trans (Eq.symm h) (by assumption)) Bool.false_ne_true | exact absurd (Eq.trans (Eq.symm h) (by assumption)) (Ne.symm Bool.false_ne_true)) <;> simp only [h,
        grpA, vsliceS, grpS, grpD, grpF, grpL, eop, vop, bop, uop, fltop, convop, endOk, newE, new1, freshL, Md.isNew, outV, pureV, pureX, pure1, AV.cells, AV.one, storable, laid,
              refless, refless1, vload, loadC, storeC, vnil, vfaddr, vextract, flatT, flatE, flatC, vconv, vmm, vidxA, viaddrA, vfield, vlen, elemsOf, dF32, dF64, dI64, dU8, dBool,
              dStr, esOk, elemsS, vsliceX, bnd, ownV, ownC, own1, ownT, isSl, nSl, endL, Md.isOwn, purge, purgeH, purgeB, purgeE, hasName, name1, List.any_cons, List.any_nil,
              Md.isWr, pureV.pureP, Option.map, reduceIte, Nat.reduceEqDiff, Nat.reduceAdd, Nat.reduceMul, Nat.reduceLT, Nat.reduceLeDiff, List.mapM_cons, List.mapM_nil,
              Option.pure_def, Option.bind_eq_bind, Option.bind_some, implies_true, forall_const, beq_self_eq_true, decide_true, decide_false, eq_self, Int.reduceEq, Int.reduceLE,
              Int.reduceLT, if_true, if_false, fc74_0, fc74_1, fc74_2, Int.reduceAdd, Int.reduceSub, Int.reduceMul, Int.reduceNeg, Int.reducePow, Nat.reducePow, Int.reduceToNat,
              Nat.reduceSub, List.replicate, Nat.reduceBEq, wAs, wA, wC, zipW, noDupN, grpE, beq_true, beq_false, grpC, en0, dc_en0]))
    all_goals (try simp only [*, m_impl_LessVectors, Bool.and_true, Bool.true_and, Bool.and_false, Bool.false_and, Bool.or_true, Bool.true_or, Bool.or_false, Bool.false_or, Bool.not_true, Bool.not_false, Bool.false_eq_true, if_true, if_false, reduceIte, decide_true, decide_false])
    all_goals (try (simp_all; done))
  · cases h
def m_impl_InverseOf (x0 : (Nat × Nat × Nat × Nat)) : (Nat × Nat × Nat × Nat) := (x0.1, (fneg .f32 x0.2.1), (fneg .f32 x0.2.2.1), (fneg .f32 x0.2.2.2))
def g_impl_InverseOf : List AV → Option AV
  | [.agg [.flt .f32 y0, .flt .f32 y1, .flt .f32 y2, .flt .f32 y3]] => some (AV.agg [(.flt .f32 (m_impl_InverseOf (y0, y1, y2, y3)).1),
      (.flt .f32 (m_impl_InverseOf (y0, y1, y2, y3)).2.1), (.flt .f32 (m_impl_InverseOf (y0, y1, y2, y3)).2.2.1), (.flt .f32 (m_impl_InverseOf (y0, y1, y2, y3)).2.2.2)])
  | _ => none
def ic75 : ICode := (.seq (.reg [⟨(some 1), none, (.box 4 (.t 0))⟩, ⟨(some 2), none, (.alloc (.agg [(.flt .f32 0), (.flt .f32 0), (.flt .f32 0), (.flt .f32 0)]))⟩] [1, 2]) (.seq
      (.reg [⟨(some 3), none, (.faddr 0 (.t 1))⟩, ⟨(some 4), none, (.load none (.t 3))⟩, ⟨(some 5), none, (.faddr 1 (.t 1))⟩, ⟨(some 6), none, (.load none (.t 5))⟩, ⟨(some 7), none,
      (.un .neg (.t 6))⟩, ⟨(some 8), none, (.faddr 2 (.t 1))⟩, ⟨(some 9), none, (.load none (.t 8))⟩, ⟨(some 10), none, (.un .neg (.t 9))⟩, ⟨(some 11), none, (.faddr 3 (.t 1))⟩,
      ⟨(some 12), none, (.load none (.t 11))⟩, ⟨(some 13), none, (.un .neg (.t 12))⟩, ⟨(some 14), none, (.build [(.flt .f32 0), (.flt .f32 0), (.flt .f32 0), (.flt .f32 0)] [(0, 1,
      (.t 4)), (1, 1, (.t 7)), (2, 1, (.t 10)), (3, 1, (.t 13))])⟩, ⟨none, none, (.store 4 (.t 2) (.t 14))⟩] [2]) .ret))
def cp75 : CP := CP.mk [] [] [[1, 2], [2]] 15 [] []
theorem fc75_0 : IntKind.wrap .i64 1 = 1 := by decide
theorem fc75_1 : IntKind.wrap .i64 2 = 2 := by decide
theorem fc75_2 : IntKind.wrap .i64 3 = 3 := by decide
theorem s75 : ∀ vs r, g_impl_InverseOf vs = some r → SaysM Try.prog .any 75 vs r := by
  intro vs r h
  unfold g_impl_InverseOf at h
  split at h
  · rename_i y0 y1 y2 y3
    cases h
    refine spec_of (m := .any) (tab := tabOf []) (cp := cp75) (ic := ic75) (rvl := [(.c 2 (some 4))]) hm tabOk_nil Try.func75 rfl rfl rfl (by kernel_rfl) rfl (Nat.le_of_ble_eq_true rfl) (Nat.le_of_ble_eq_true rfl) ?_
    show eA _ _ _ _
    unfold ic75
    simp only [
        grpA, vsliceS, grpS, grpD, grpF, grpL, eop, vop, bop, uop, fltop, convop, endOk, newE, new1, freshL, Md.isNew, outV, pureV, pureX, pure1, AV.cells, AV.one, storable, laid,
              refless, refless1, vload, loadC, storeC, vnil, vfaddr, vextract, flatT, flatE, flatC, vconv, vmm, vidxA, viaddrA, vfield, vlen, elemsOf, dF32, dF64, dI64, dU8, dBool,
              dStr, esOk, elemsS, vsliceX, bnd, ownV, ownC, own1, ownT, isSl, nSl, endL, Md.isOwn, purge, purgeH, purgeB, purgeE, hasName, name1, List.any_cons, List.any_nil,
              Md.isWr, pureV.pureP, Option.map, reduceIte, Nat.reduceEqDiff, Nat.reduceAdd, Nat.reduceMul, Nat.reduceLT, Nat.reduceLeDiff, List.mapM_cons, List.mapM_nil,
              Option.pure_def, Option.bind_eq_bind, Option.bind_some, implies_true, forall_const, beq_self_eq_true, decide_true, decide_false, eq_self, Int.reduceEq, Int.reduceLE,
              Int.reduceLT, if_true, if_false, fc75_0, fc75_1, fc75_2, Int.reduceAdd, Int.reduceSub, Int.reduceMul, Int.reduceNeg, Int.reducePow, Nat.reducePow, Int.reduceToNat,
              Nat.reduceSub, List.replicate, Nat.reduceBEq, wAs, wA, wC, zipW, noDupN, grpE, beq_true, beq_false, grpC, en0, dc_en0]
    repeat' (first
      | ((first | (refine eGI_of (fun h => ?_) (fun h => ?_)) | (refine eCc_of (fun h => ?_) (fun h => ?_))) <;> (try simp only [Bool.not_eq_true', Bool.not_eq_false'] at h) <;> (try first | exact absurd (Eq.trans (Eq.symm h) (by assumption)) Bool.false_ne_true | exact absurd (Eq.trans (Eq.symm h) (by assumption)) (Ne.symm Bool.false_ne_true)) <;> simp only [h,
        grpA, vsliceS, grpS, grpD, grpF, grpL, eop, vop, bop, uop, fltop, convop, endOk, newE, new1, freshL, Md.isNew, outV, pureV, pureX, pure1, AV.cells, AV.one, storable, laid,
              refless, refless1, vload, loadC, storeC, vnil, vfaddr, vextract, flatT, flatE, flatC, vconv, vmm, vidxA, viaddrA, vfield, vlen, elemsOf, dF32, dF64, dI64, dU8, dBool,
              dStr, esOk, elemsS, vsliceX, bnd, ownV, ownC, own1, ownT, isSl, nSl, endL, Md.isOwn, purge, purgeH, purgeB, purgeE, hasName, name1, List.any_cons, List.any_nil,
              Md.isWr, pureV.pureP, Option.map, reduceIte, Nat.reduceEqDiff, Nat.reduceAdd, Nat.reduceMul, Nat.reduceLT, Nat.reduceLeDiff, List.mapM_cons, List.mapM_nil,
              Option.pure_def, Option.bind_eq_bind, Option.bind_some, implies_true, forall_const, beq_self_eq_true, decide_true, decide_false, eq_self, Int.reduceEq, Int.reduceLE,
              Int.reduceLT, if_true, if_false, fc75_0, fc75_1, fc75_2, Int.reduceAdd, Int.reduceSub, Int.reduceMul, Int.reduceNeg, Int.reducePow, Nat.reducePow, Int.reduceToNat,
              Nat.reduceSub, List.replicate, Nat.reduceBEq, wAs, wA, wC, zipW, noDupN, grpE, beq_true, beq_false, grpC, en0, dc_en0]))
    all_goals (try simp only [*, m_impl_InverseOf, Bool.and_true, Bool.true_and, Bool.and_false, Bool.false_and, Bool.or_true, Bool.true_or, Bool.or_false, Bool.false_or, Bool.not_true, Bool.not_false, Bool.false_eq_true, if_true, if_false, reduceIte, decide_true, decide_false])
    all_goals (try (simp_all; done))
  · cases h
def m_impl_MulTurns (x0 : (Nat × Nat × Nat × Nat)) (x1 : (Nat × Nat × Nat × Nat)) : (Nat × Nat × Nat × Nat) := ((fsub .f32 (fsub .f32 (fsub .f32 (fmul .f32 x0.1 x1.1) (fmul .f32
      x0.2.1 x1.2.1)) (fmul .f32 x0.2.2.1 x1.2.2.1)) (fmul .f32 x0.2.2.2 x1.2.2.2)), (fsub .f32 (fadd .f32 (fadd .f32 (fmul .f32 x0.1 x1.2.1) (fmul .f32 x0.2.1 x1.1)) (fmul .f32
      x0.2.2.1 x1.2.2.2)) (fmul .f32 x0.2.2.2 x1.2.2.1)), (fadd .f32 (fadd .f32 (fsub .f32 (fmul .f32 x0.1 x1.2.2.1) (fmul .f32 x0.2.1 x1.2.2.2)) (fmul .f32 x0.2.2.1 x1.1)) (fmul
      .f32 x0.2.2.2 x1.2.1)), (fadd .f32 (fsub .f32 (fadd .f32 (fmul .f32 x0.1 x1.2.2.2) (fmul .f32 x0.2.1 x1.2.2.1)) (fmul .f32 x0.2.2.1 x1.2.1)) (fmul .f32 x0.2.2.2 x1.1)))
def g_impl_MulTurns : List AV → Option AV
  | [.agg [.flt .f32 y0, .flt .f32 y1, .flt .f32 y2, .flt .f32 y3], .agg [.flt .f32 y4, .flt .f32 y5, .flt .f32 y6, .flt .f32 y7]] => some
      (AV.agg [(.flt .f32 (m_impl_MulTurns (y0, y1, y2, y3) (y4, y5, y6, y7)).1), (.flt .f32 (m_impl_MulTurns (y0, y1, y2, y3) (y4, y5, y6, y7)).2.1), (.flt .f32 (m_impl_MulTurns
      (y0, y1, y2, y3) (y4, y5, y6, y7)).2.2.1), (.flt .f32 (m_impl_MulTurns (y0, y1, y2, y3) (y4, y5, y6, y7)).2.2.2)])
  | _ => none
def ic70 : ICode := (.seq (.reg [⟨(some 2), none, (.box 4 (.t 0))⟩, ⟨(some 3), none, (.box 4 (.t 1))⟩, ⟨(some 4), none, (.alloc (.agg [(.flt .f32 0), (.flt .f32 0), (.flt .f32 0),
      (.flt .f32 0)]))⟩] [2, 3, 4]) (.seq (.reg [⟨(some 5), none, (.faddr 0 (.t 2))⟩, ⟨(some 6), none, (.load none (.t 5))⟩, ⟨(some 7), none, (.faddr 0 (.t 3))⟩, ⟨(some 8), none,
      (.load none (.t 7))⟩, ⟨(some 9), none, (.bin .mul false (.t 6) (.t 8))⟩, ⟨(some 10), none, (.faddr 1 (.t 2))⟩, ⟨(some 11), none, (.load none (.t 10))⟩, ⟨(some 12), none,
      (.faddr 1 (.t 3))⟩, ⟨(some 13), none, (.load none (.t 12))⟩, ⟨(some 14), none, (.bin .mul false (.t 11) (.t 13))⟩, ⟨(some 15), none, (.bin .sub false (.t 9) (.t 14))⟩, ⟨(some
      16), none, (.faddr 2 (.t 2))⟩, ⟨(some 17), none, (.load none (.t 16))⟩, ⟨(some 18), none, (.faddr 2 (.t 3))⟩, ⟨(some 19), none, (.load none (.t 18))⟩, ⟨(some 20), none, (.bin
      .mul false (.t 17) (.t 19))⟩, ⟨(some 21), none, (.bin .sub false (.t 15) (.t 20))⟩, ⟨(some 22), none, (.faddr 3 (.t 2))⟩, ⟨(some 23), none, (.load none (.t 22))⟩, ⟨(some 24),
      none, (.faddr 3 (.t 3))⟩, ⟨(some 25), none, (.load none (.t 24))⟩, ⟨(some 26), none, (.bin .mul false (.t 23) (.t 25))⟩, ⟨(some 27), none, (.bin .sub false (.t 21) (.t 26))⟩,
      ⟨(some 28), none, (.faddr 0 (.t 2))⟩, ⟨(some 29), none, (.load none (.t 28))⟩, ⟨(some 30), none, (.faddr 1 (.t 3))⟩, ⟨(some 31), none, (.load none (.t 30))⟩, ⟨(some 32), none,
      (.bin .mul false (.t 29) (.t 31))⟩, ⟨(some 33), none, (.faddr 1 (.t 2))⟩, ⟨(some 34), none, (.load none (.t 33))⟩, ⟨(some 35), none, (.faddr 0 (.t 3))⟩, ⟨(some 36), none,
      (.load none (.t 35))⟩, ⟨(some 37), none, (.bin .mul false (.t 34) (.t 36))⟩, ⟨(some 38), none, (.bin .add false (.t 32) (.t 37))⟩, ⟨(some 39), none, (.faddr 2 (.t 2))⟩, ⟨(some
      40), none, (.load none (.t 39))⟩, ⟨(some 41), none, (.faddr 3 (.t 3))⟩, ⟨(some 42), none, (.load none (.t 41))⟩, ⟨(some 43), none, (.bin .mul false (.t 40) (.t 42))⟩, ⟨(some
      44), none, (.bin .add false (.t 38) (.t 43))⟩, ⟨(some 45), none, (.faddr 3 (.t 2))⟩, ⟨(some 46), none, (.load none (.t 45))⟩, ⟨(some 47), none, (.faddr 2 (.t 3))⟩, ⟨(some 48),
      none, (.load none (.t 47))⟩, ⟨(some 49), none, (.bin .mul false (.t 46) (.t 48))⟩, ⟨(some 50), none, (.bin .sub false (.t 44) (.t 49))⟩, ⟨(some 51), none, (.faddr 0 (.t 2))⟩,
      ⟨(some 52), none, (.load none (.t 51))⟩, ⟨(some 53), none, (.faddr 2 (.t 3))⟩, ⟨(some 54), none, (.load none (.t 53))⟩, ⟨(some 55), none, (.bin .mul false (.t 52) (.t 54))⟩,
      ⟨(some 56), none, (.faddr 1 (.t 2))⟩, ⟨(some 57), none, (.load none (.t 56))⟩, ⟨(some 58), none, (.faddr 3 (.t 3))⟩, ⟨(some 59), none, (.load none (.t 58))⟩, ⟨(some 60), none,
      (.bin .mul false (.t 57) (.t 59))⟩, ⟨(some 61), none, (.bin .sub false (.t 55) (.t 60))⟩, ⟨(some 62), none, (.faddr 2 (.t 2))⟩, ⟨(some 63), none, (.load none (.t 62))⟩, ⟨(some
      64), none, (.faddr 0 (.t 3))⟩, ⟨(some 65), none, (.load none (.t 64))⟩, ⟨(some 66), none, (.bin .mul false (.t 63) (.t 65))⟩, ⟨(some 67), none, (.bin .add false (.t 61) (.t
      66))⟩, ⟨(some 68), none, (.faddr 3 (.t 2))⟩, ⟨(some 69), none, (.load none (.t 68))⟩, ⟨(some 70), none, (.faddr 1 (.t 3))⟩, ⟨(some 71), none, (.load none (.t 70))⟩, ⟨(some
      72), none, (.bin .mul false (.t 69) (.t 71))⟩, ⟨(some 73), none, (.bin .add false (.t 67) (.t 72))⟩, ⟨(some 74), none, (.faddr 0 (.t 2))⟩, ⟨(some 75), none, (.load none (.t
      74))⟩, ⟨(some 76), none, (.faddr 3 (.t 3))⟩, ⟨(some 77), none, (.load none (.t 76))⟩, ⟨(some 78), none, (.bin .mul false (.t 75) (.t 77))⟩, ⟨(some 79), none, (.faddr 1 (.t
      2))⟩, ⟨(some 80), none, (.load none (.t 79))⟩, ⟨(some 81), none, (.faddr 2 (.t 3))⟩, ⟨(some 82), none, (.load none (.t 81))⟩, ⟨(some 83), none, (.bin .mul false (.t 80) (.t
      82))⟩, ⟨(some 84), none, (.bin .add false (.t 78) (.t 83))⟩, ⟨(some 85), none, (.faddr 2 (.t 2))⟩, ⟨(some 86), none, (.load none (.t 85))⟩, ⟨(some 87), none, (.faddr 1 (.t
      3))⟩, ⟨(some 88), none, (.load none (.t 87))⟩, ⟨(some 89), none, (.bin .mul false (.t 86) (.t 88))⟩, ⟨(some 90), none, (.bin .sub false (.t 84) (.t 89))⟩, ⟨(some 91), none,
      (.faddr 3 (.t 2))⟩, ⟨(some 92), none, (.load none (.t 91))⟩, ⟨(some 93), none, (.faddr 0 (.t 3))⟩, ⟨(some 94), none, (.load none (.t 93))⟩, ⟨(some 95), none, (.bin .mul false
      (.t 92) (.t 94))⟩, ⟨(some 96), none, (.bin .add false (.t 90) (.t 95))⟩, ⟨(some 97), none, (.build [(.flt .f32 0), (.flt .f32 0), (.flt .f32 0), (.flt .f32 0)] [(0, 1, (.t
      27)), (1, 1, (.t 50)), (2, 1, (.t 73)), (3, 1, (.t 96))])⟩, ⟨none, none, (.store 4 (.t 4) (.t 97))⟩] [4]) .ret))
def cp70 : CP := CP.mk [] [] [[2, 3, 4], [4]] 98 [] []
theorem fc70_0 : IntKind.wrap .i64 1 = 1 := by decide
theorem fc70_1 : IntKind.wrap .i64 2 = 2 := by decide
theorem fc70_2 : IntKind.wrap .i64 3 = 3 := by decide
theorem s70 : ∀ vs r, g_impl_MulTurns vs = some r → SaysM Try.prog .any 70 vs r := by
  intro vs r h
  unfold g_impl_MulTurns at h
  split at h
  · rename_i y0 y1 y2 y3 y4 y5 y6 y7
    cases h
    refine spec_of (m := .any) (tab := tabOf []) (cp := cp70) (ic := ic70) (rvl := [(.c 4 (some 4))]) hm tabOk_nil Try.func70 rfl rfl rfl (by kernel_rfl) rfl (Nat.le_of_ble_eq_true rfl) (Nat.le_of_ble_eq_true rfl) ?_
    show eA _ _ _ _
    unfold ic70
    simp only [
        grpA, vsliceS, grpS, grpD, grpF, grpL, eop, vop, bop, uop, fltop, convop, endOk, newE, new1, freshL, Md.isNew, outV, pureV, pureX, pure1, AV.cells, AV.one, storable, laid,
              refless, refless1, vload, loadC, storeC, vnil, vfaddr, vextract, flatT, flatE, flatC, vconv, vmm, vidxA, viaddrA, vfield, vlen, elemsOf, dF32, dF64, dI64, dU8, dBool,
              dStr, esOk, elemsS, vsliceX, bnd, ownV, ownC, own1, ownT, isSl, nSl, endL, Md.isOwn, purge, purgeH, purgeB, purgeE, hasName, name1, List.any_cons, List.any_nil,
              Md.isWr, pureV.pureP, Option.map, reduceIte, Nat.reduceEqDiff, Nat.reduceAdd, Nat.reduceMul, Nat.reduceLT, Nat.reduceLeDiff, List.mapM_cons, List.mapM_nil,
              Option.pure_def, Option.bind_eq_bind, Option.bind_some, implies_true, forall_const, beq_self_eq_true, decide_true, decide_false, eq_self, Int.reduceEq, Int.reduceLE,
              Int.reduceLT, if_true, if_false, fc70_0, fc70_1, fc70_2, Int.reduceAdd, Int.reduceSub, Int.reduceMul, Int.reduceNeg, Int.reducePow, Nat.reducePow, Int.reduceToNat,
              Nat.reduceSub, List.replicate, Nat.reduceBEq, wAs, wA, wC, zipW, noDupN, grpE, beq_true, beq_false, grpC, en0, dc_en0]
    repeat' (first
      | ((first | (refine eGI_of (fun h => ?_) (fun h => ?_)) | (refine eCc_of (fun h => ?_) (fun h => ?_))) <;> (try simp only [Bool.not_eq_true', Bool.not_eq_false'] at h) <;> (try first | exact absurd (Eq.trans (Eq.symm h) (by assumption)) Bool.false_ne_true | exact absurd (Eq.trans (Eq.symm h) (by assumption)) (Ne.symm Bool.false_ne_true)) <;> simp only [h,
        grpA, vsliceS, grpS, grpD, grpF, grpL, eop, vop, bop, uop, fltop, convop, endOk, newE, new1, freshL, Md.isNew, outV, pureV, pureX, pure1, AV.cells, AV.one, storable, laid,
              refless, refless1, vload, loadC, storeC, vnil, vfaddr, vextract, flatT, flatE, flatC, vconv, vmm, vidxA, viaddrA, vfield, vlen, elemsOf, dF32, dF64, dI64, dU8, dBool,
              dStr, esOk, elemsS, vsliceX, bnd, ownV, ownC, own1, ownT, isSl, nSl, endL, Md.isOwn, purge, purgeH, purgeB, purgeE, hasName, name1, List.any_cons, List.any_nil,
              Md.isWr, pureV.pureP, Option.map, reduceIte, Nat.reduceEqDiff, Nat.reduceAdd, Nat.reduceMul, Nat.reduceLT, Nat.reduceLeDiff, List.mapM_cons, List.mapM_nil,
              Option.pure_def, Option.bind_eq_bind, Option.bind_some, implies_true, forall_const, beq_self_eq_true, decide_true, decide_false, eq_self, Int.reduceEq, Int.reduceLE,
              Int.reduceLT, if_true, if_false, fc70_0, fc70_1, fc70_2, Int.reduceAdd, Int.reduceSub, Int.reduceMul, Int.reduceNeg, Int.reducePow, Nat.reducePow, Int.reduceToNat,
              Nat.reduceSub, List.replicate, Nat.reduceBEq, wAs, wA, wC, zipW, noDupN, grpE, beq_true, beq_false, grpC, en0, dc_en0]))
    all_goals (try simp only [*, m_impl_MulTurns, Bool.and_true, Bool.true_and, Bool.and_false, Bool.false_and, Bool.or_true, Bool.true_or, Bool.or_false, Bool.false_or, Bool.not_true, Bool.not_false, Bool.false_eq_true, if_true, if_false, reduceIte, decide_true, decide_false])
    all_goals (try (simp_all; done))
  · cases h
def l_impl_DifferenceOf_0 (x0 : (Nat × Nat × Nat × (List (Nat × Nat × Nat × Nat)))) (x1 : (Nat × Nat × Nat × (List (Nat × Nat × Nat × Nat)))) : Nat → (List (Nat × Nat × Nat × Nat))
      → Int → Option (List (Nat × Nat × Nat × Nat))
  | 0, _, _ => none
  | n + 1, z0_0, z0_1 => (if (decide (z0_1 < ((List.length x1.2.2.2 : Nat) : Int))) = true then (need (inB z0_1 (List.length x1.2.2.2)) (need (inB z0_1 (List.length x0.2.2.2)) (need
        (inB z0_1 (List.length z0_0)) (l_impl_DifferenceOf_0 x0 x1 n (List.set z0_0 (Int.toNat z0_1) (m_impl_MulTurns (m_impl_InverseOf (atI x0.2.2.2 z0_1)) (atI x1.2.2.2 z0_1)))
        (IntKind.wrap .i64 (z0_1 + 1)))))) else (some z0_0))
def m_impl_DifferenceOf (x0 : (Nat × Nat × Nat × (List (Nat × Nat × Nat × Nat)))) (x1 : (Nat × Nat × Nat × (List (Nat × Nat × Nat × Nat)))) : ((Nat × Nat × Nat × (List (Nat × Nat ×
      Nat × Nat))) × Bool) := (if (m_impl_arePair x0 x1) = true then (((m_impl_LessVectors (x1.1, x1.2.1, x1.2.2.1) (x0.1, x0.2.1, x0.2.2.1)).1, (m_impl_LessVectors (x1.1, x1.2.1,
      x1.2.2.1) (x0.1, x0.2.1, x0.2.2.1)).2.1, (m_impl_LessVectors (x1.1, x1.2.1, x1.2.2.1) (x0.1, x0.2.1, x0.2.2.1)).2.2, (Option.getD (l_impl_DifferenceOf_0 x0 x1 (Int.toNat
      (((List.length x1.2.2.2 : Nat) : Int) - 0) + 2) (List.replicate (Int.toNat ((List.length x1.2.2.2 : Nat) : Int)) (0, 0, 0, 0)) 0) default)), true) else ((0, 0, 0, []), false))
def p_impl_DifferenceOf (x0 : (Nat × Nat × Nat × (List (Nat × Nat × Nat × Nat)))) (x1 : (Nat × Nat × Nat × (List (Nat × Nat × Nat × Nat)))) : Bool := (!(m_impl_arePair x0 x1) ||
      ((decide (0 ≤ ((List.length x1.2.2.2 : Nat) : Int))) && ((decide (((List.length x1.2.2.2 : Nat) : Int) * 16 ≤ 70368744177664)) && ((decide (((List.length x1.2.2.2 : Nat) :
      Int) ≤ 70368744177664)) && (Option.isSome (l_impl_DifferenceOf_0 x0 x1 (Int.toNat (((List.length x1.2.2.2 : Nat) : Int) - 0) + 2) (List.replicate (Int.toNat ((List.length
      x1.2.2.2 : Nat) : Int)) (0, 0, 0, 0)) 0))))))
def g_impl_DifferenceOf : List AV → Option AV
  | [.agg [.flt .f32 y0, .flt .f32 y1, .flt .f32 y2, .sl w3], .agg [.flt .f32 y4, .flt .f32 y5, .flt .f32 y6, .sl w7]] => (match decL dc_en0 w3 with | some y3 => ((match decL dc_en0 w7 with | some y7 => (if p_impl_DifferenceOf (y0, y1, y2, y3) (y4, y5, y6, y7) = true then some (AV.tup [(AV.agg [(.flt .f32 (m_impl_DifferenceOf (y0, y1, y2, y3) (y4, y5, y6, y7)).1.1), (.flt .f32 (m_impl_DifferenceOf (y0, y1, y2, y3) (y4, y5, y6, y7)).1.2.1), (.flt .f32 (m_impl_DifferenceOf (y0, y1, y2, y3) (y4, y5, y6, y7)).1.2.2.1), (.sl (List.map en0 (m_impl_DifferenceOf (y0, y1, y2, y3) (y4, y5, y6, y7)).1.2.2.2))]), (.bool (m_impl_DifferenceOf (y0, y1, y2, y3) (y4, y5, y6, y7)).2)]) else none) | none => none)) | none => none)
  | _ => none
def lb31_0 : ICode := (.seq (.reg [⟨(some 28), none, (.bin .lss false (.t 27) (.t 26))⟩] [2, 4, 6, 25, 26, 27, 28]) (.seq (.cond (.t 28) .skip (.exit 0)) (.seq (.block 1 (.seq (.reg
      [⟨(some 29), none, (.mov (.t 27))⟩, ⟨(some 30), none, (.iaddrS 4 (.t 25) (.t 27))⟩, ⟨(some 31), none, (.load (some 4) (.t 30))⟩, ⟨(some 8), none, (.alloc (.agg [(.flt .f32 0),
      (.flt .f32 0), (.flt .f32 0), (.flt .f32 0)]))⟩, ⟨(some 7), none, (.mov (.t 29))⟩, ⟨none, none, (.store 4 (.t 8) (.t 31))⟩] [2, 4, 6, 7, 8, 25, 26, 27]) (.reg [⟨(some 32),
      none, (.faddr 3 (.t 6))⟩, ⟨(some 33), none, (.load none (.t 32))⟩, ⟨(some 34), none, (.mov (.t 7))⟩, ⟨(some 35), none, (.faddr 3 (.t 2))⟩, ⟨(some 36), none, (.load none (.t
      35))⟩, ⟨(some 37), none, (.mov (.t 7))⟩, ⟨(some 38), none, (.iaddrS 4 (.t 36) (.t 37))⟩, ⟨(some 39), none, (.load (some 4) (.t 38))⟩, ⟨(some 40), none, (.call (.fn 75) [(.t
      39)] [])⟩, ⟨(some 41), none, (.load (some 4) (.t 8))⟩, ⟨(some 42), none, (.call (.fn 70) [(.t 40), (.t 41)] [])⟩, ⟨(some 43), none, (.iaddrS 4 (.t 33) (.t 34))⟩, ⟨none, none,
      (.store 4 (.t 43) (.t 42))⟩] [2, 4, 6, 25, 26, 27]))) (.reg [⟨(some 44), none, (.bin .add false (.t 27) (.c (.int .i64 1)))⟩, ⟨(some 27), none, (.mov (.t 44))⟩] [2, 4, 6, 25,
      26, 27]))))
def ic31 : ICode := (.seq (.reg [⟨(some 2), none, (.box 4 (.t 0))⟩, ⟨(some 3), none, (.box 4 (.t 1))⟩, ⟨(some 4), none, (.alloc (.agg [(.flt .f32 0), (.flt .f32 0), (.flt .f32 0),
      .snil]))⟩, ⟨(some 5), none, (.mov (.c (.bool false)))⟩] [2, 3, 4]) (.seq (.seq (.reg [⟨(some 9), none, (.load (some 4) (.t 2))⟩, ⟨(some 10), none, (.load (some 4) (.t 3))⟩,
      ⟨(some 11), none, (.call (.fn 68) [(.t 9), (.t 10)] [])⟩, ⟨(some 12), none, (.un .not (.t 11))⟩] [2, 3, 4, 12]) (.cond (.t 12) (.seq (.reg [⟨(some 13), none, (.build [(.flt
      .f32 0), (.flt .f32 0), (.flt .f32 0), .snil] [])⟩, ⟨none, none, (.store 4 (.t 4) (.t 13))⟩, ⟨(some 5), none, (.mov (.c (.bool false)))⟩] [4, 5]) .ret) .skip)) (.seq (.reg
      [⟨(some 14), none, (.faddr 0 (.t 3))⟩, ⟨(some 15), none, (.load (some 3) (.t 14))⟩, ⟨(some 16), none, (.faddr 0 (.t 2))⟩, ⟨(some 17), none, (.load (some 3) (.t 16))⟩, ⟨(some
      18), none, (.call (.fn 74) [(.t 15), (.t 17)] [])⟩, ⟨(some 19), none, (.faddr 3 (.t 3))⟩, ⟨(some 20), none, (.load none (.t 19))⟩, ⟨(some 21), none, (.len false (.t 20))⟩,
      ⟨(some 22), none, (.mkslice 4 16 (.agg [(.flt .f32 0), (.flt .f32 0), (.flt .f32 0), (.flt .f32 0)]) (.t 21) (.t 21))⟩, ⟨(some 23), none, (.build [(.flt .f32 0), (.flt .f32
      0), (.flt .f32 0), .snil] [(0, 3, (.t 18)), (3, 1, (.t 22))])⟩, ⟨(some 6), none, (.alloc (.agg [(.flt .f32 0), (.flt .f32 0), (.flt .f32 0), .snil]))⟩, ⟨none, none, (.store 4
      (.t 6) (.t 23))⟩] [2, 3, 4, 6]) (.seq (.seq (.reg [⟨(some 24), none, (.faddr 3 (.t 3))⟩, ⟨(some 25), none, (.load none (.t 24))⟩, ⟨(some 26), none, (.len false (.t 25))⟩,
      ⟨(some 27), none, (.mov (.c (.int .i64 0)))⟩] [2, 4, 6, 25, 26, 27]) (.block 0 (.loop lb31_0))) (.seq (.reg [⟨(some 45), none, (.load (some 4) (.t 6))⟩, ⟨none, none, (.store 4
      (.t 4) (.t 45))⟩, ⟨(some 5), none, (.mov (.c (.bool true)))⟩] [4, 5]) .ret)))))
def cp31 : CP := CP.mk [] [] [[2, 3, 4], [2, 3, 4, 12], [4, 5], [2, 3, 4, 6], [2, 4, 6, 25, 26, 27], [2, 4, 6, 25, 26, 27, 28], [2, 4, 6, 7, 8, 25, 26, 27], [2, 4, 6, 25, 26, 27],
      [2, 4, 6, 25, 26, 27], [4, 5]] 46 [] []
theorem fc31_0 : IntKind.wrap .i64 1 = 1 := by decide
theorem fc31_1 : IntKind.wrap .i64 2 = 2 := by decide
theorem fc31_2 : IntKind.wrap .i64 3 = 3 := by decide
theorem sl31_0 (x0 : (Nat × Nat × Nat × (List (Nat × Nat × Nat × Nat)))) (x1 : (Nat × Nat × Nat × (List (Nat × Nat × Nat × Nat)))) : ∀ (n : Nat) (z0_0 : (List (Nat × Nat × Nat ×
      Nat))) (z0_1 : Int) (o : (List (Nat × Nat × Nat × Nat))) (K : IExit → St → Prop), l_impl_DifferenceOf_0 x0 x1 n z0_0 z0_1 = some o → (∀ st, Wk st (⟨[(4, (.lptr 4 0 0)), (6,
      (.lptr 6 0 0))], [(4, (some ⟨4, false, [(AV.agg [(.flt .f32 0), (.flt .f32 0), (.flt .f32 0), .snil])]⟩)), (6, (some ⟨4, false, [(AV.agg [(.flt .f32 (m_impl_LessVectors (x1.1,
      x1.2.1, x1.2.2.1) (x0.1, x0.2.1, x0.2.2.1)).1), (.flt .f32 (m_impl_LessVectors (x1.1, x1.2.1, x1.2.2.1) (x0.1, x0.2.1, x0.2.2.1)).2.1), (.flt .f32 (m_impl_LessVectors (x1.1,
      x1.2.1, x1.2.2.1) (x0.1, x0.2.1, x0.2.2.1)).2.2), (.lsl 22 0 (List.length o))])]⟩)), (22, (some ⟨4, true, (List.map en0 o)⟩))]⟩ : St) → K (.exit 0) st) → eA (tabOf [(68, wM
      .any g_impl_arePair), (70, wM .any g_impl_MulTurns), (74, wM .any g_impl_LessVectors), (75, wM .any g_impl_InverseOf)]) (.loop lb31_0) (⟨[(2, (.lptr 2 0 0)), (4, (.lptr 4 0
      0)), (6, (.lptr 6 0 0)), (25, (.sl (List.map en0 x1.2.2.2))), (26, (.int .i64 ((List.length x1.2.2.2 : Nat) : Int))), (27, (.int .i64 z0_1))], [(2, (some ⟨4, false, [(AV.agg
      [(.flt .f32 x0.1), (.flt .f32 x0.2.1), (.flt .f32 x0.2.2.1), (.sl (List.map en0 x0.2.2.2))])]⟩)), (4, (some ⟨4, false, [(AV.agg [(.flt .f32 0), (.flt .f32 0), (.flt .f32 0),
      .snil])]⟩)), (6, (some ⟨4, false, [(AV.agg [(.flt .f32 (m_impl_LessVectors (x1.1, x1.2.1, x1.2.2.1) (x0.1, x0.2.1, x0.2.2.1)).1), (.flt .f32 (m_impl_LessVectors (x1.1, x1.2.1,
      x1.2.2.1) (x0.1, x0.2.1, x0.2.2.1)).2.1), (.flt .f32 (m_impl_LessVectors (x1.1, x1.2.1, x1.2.2.1) (x0.1, x0.2.1, x0.2.2.1)).2.2), (.lsl 22 0 (List.length z0_0))])]⟩)), (22,
      (some ⟨4, true, (List.map en0 z0_0)⟩))]⟩ : St) K := by
  intro n
  induction n with
  | zero =>
    intro z0_0 z0_1 o K h h0
    simp only [l_impl_DifferenceOf_0, reduceCtorEq] at h
  | succ n ih =>
    intro z0_0 z0_1 o K h h0
    refine eA_loop ?_
    unfold lb31_0
    unfold l_impl_DifferenceOf_0 at h
    (try simp only [need_iff] at h)
    simp only [
      need_iff, h, grpA, vsliceS, grpS, grpD, grpF, grpL, eop, vop, bop, uop, fltop, convop, endOk, newE, new1, freshL, Md.isNew, outV, pureV, pureX, pure1, AV.cells, AV.one,
            storable, laid, refless, refless1, vload, loadC, storeC, vnil, vfaddr, vextract, flatT, flatE, flatC, vconv, vmm, vidxA, viaddrA, vfield, vlen, elemsOf, dF32, dF64,
            dI64, dU8, dBool, dStr, esOk, elemsS, vsliceX, bnd, ownV, ownC, own1, ownT, isSl, nSl, endL, Md.isOwn, purge, purgeH, purgeB, purgeE, hasName, name1, List.any_cons,
            List.any_nil, Md.isWr, pureV.pureP, Option.map, reduceIte, Nat.reduceEqDiff, Nat.reduceAdd, Nat.reduceMul, Nat.reduceLT, Nat.reduceLeDiff, List.mapM_cons, List.mapM_nil,
            Option.pure_def, Option.bind_eq_bind, Option.bind_some, implies_true, forall_const, beq_self_eq_true, decide_true, decide_false, eq_self, Int.reduceEq, Int.reduceLE,
            Int.reduceLT, if_true, if_false, fc31_0, fc31_1, fc31_2, Int.reduceAdd, Int.reduceSub, Int.reduceMul, Int.reduceNeg, Int.reducePow, Nat.reducePow, Int.reduceToNat,
            Nat.reduceSub, List.replicate, Nat.reduceBEq, wAs, wA, wC, zipW, noDupN, grpE, beq_true, beq_false, g_impl_arePair, g_impl_MulTurns, g_impl_LessVectors,
            g_impl_InverseOf, grpC, en0, dc_en0]
    repeat' (first
      | ((first | (refine eGI_of (fun hc => ?_) (fun hc => ?_)) | (refine eCc_of (fun hc => ?_) (fun hc => ?_)) | (have hc := True.intro; refine KW_refl ?_)) <;> (try simp only [Bool.not_eq_true', Bool.not_eq_false'] at hc) <;> (try simp only [hc, need_iff, reduceCtorEq, beq_true, beq_false, Int.reduceEq, Int.reduceLT, Int.reduceLE, true_or, or_true, Bool.not_eq_true', decide_eq_false_iff_not, Bool.not_true, Bool.not_false, Bool.false_or, Bool.true_or, Bool.true_and, Bool.false_and, Bool.and_eq_true, Bool.or_eq_true, if_true, if_false, reduceIte, Bool.false_eq_true, and_true, true_and, false_or, or_false, decide_eq_true_eq, not_false_eq_true, not_true_eq_false] at h) <;> (first | (have hc2 := hc; simp only [decide_eq_true_eq, decide_eq_false_iff_not] at hc2; (first | (replace hc2 := eq_false hc2) | (replace hc2 := eq_true hc2)); (try simp only [hc2, need_iff, reduceCtorEq, beq_true, beq_false, Int.reduceEq, Int.reduceLT, Int.reduceLE, true_or, or_true, Bool.not_eq_true', decide_eq_false_iff_not, Bool.not_true, Bool.not_false, Bool.false_or, Bool.true_or, Bool.true_and, Bool.false_and, Bool.and_eq_true, Bool.or_eq_true, if_true, if_false, reduceIte, Bool.false_eq_true, and_true, true_and, false_or, or_false, decide_eq_true_eq, not_false_eq_true, not_true_eq_false] at h); replace h := And.intro hc2 h) | (replace h := And.intro hc h) | skip) <;> simp only [hc,
      need_iff, h, grpA, vsliceS, grpS, grpD, grpF, grpL, eop, vop, bop, uop, fltop, convop, endOk, newE, new1, freshL, Md.isNew, outV, pureV, pureX, pure1, AV.cells, AV.one,
            storable, laid, refless, refless1, vload, loadC, storeC, vnil, vfaddr, vextract, flatT, flatE, flatC, vconv, vmm, vidxA, viaddrA, vfield, vlen, elemsOf, dF32, dF64,
            dI64, dU8, dBool, dStr, esOk, elemsS, vsliceX, bnd, ownV, ownC, own1, ownT, isSl, nSl, endL, Md.isOwn, purge, purgeH, purgeB, purgeE, hasName, name1, List.any_cons,
            List.any_nil, Md.isWr, pureV.pureP, Option.map, reduceIte, Nat.reduceEqDiff, Nat.reduceAdd, Nat.reduceMul, Nat.reduceLT, Nat.reduceLeDiff, List.mapM_cons, List.mapM_nil,
            Option.pure_def, Option.bind_eq_bind, Option.bind_some, implies_true, forall_const, beq_self_eq_true, decide_true, decide_false, eq_self, Int.reduceEq, Int.reduceLE,
            Int.reduceLT, if_true, if_false, fc31_0, fc31_1, fc31_2, Int.reduceAdd, Int.reduceSub, Int.reduceMul, Int.reduceNeg, Int.reducePow, Nat.reducePow, Int.reduceToNat,
            Nat.reduceSub, List.replicate, Nat.reduceBEq, wAs, wA, wC, zipW, noDupN, grpE, beq_true, beq_false, g_impl_arePair, g_impl_MulTurns, g_impl_LessVectors,
            g_impl_InverseOf, grpC, en0, dc_en0]))
    all_goals (repeat (replace h := And.right h))
    all_goals first
      | (refine eA_wk (wk_norm (ks := [2, 4, 6, 25, 26, 27]) (ls := [2, 4, 6, 22]) ?_) (eA_cast ?_ (ih _ _ _ _ h h0)); (simp only [normOk, optIn, blkIn, nameIn,
      need_iff, h, grpA, vsliceS, grpS, grpD, grpF, grpL, eop, vop, bop, uop, fltop, convop, endOk, newE, new1, freshL, Md.isNew, outV, pureV, pureX, pure1, AV.cells, AV.one,
            storable, laid, refless, refless1, vload, loadC, storeC, vnil, vfaddr, vextract, flatT, flatE, flatC, vconv, vmm, vidxA, viaddrA, vfield, vlen, elemsOf, dF32, dF64,
            dI64, dU8, dBool, dStr, esOk, elemsS, vsliceX, bnd, ownV, ownC, own1, ownT, isSl, nSl, endL, Md.isOwn, purge, purgeH, purgeB, purgeE, hasName, name1, List.any_cons,
            List.any_nil, Md.isWr, pureV.pureP, Option.map, reduceIte, Nat.reduceEqDiff, Nat.reduceAdd, Nat.reduceMul, Nat.reduceLT, Nat.reduceLeDiff, List.mapM_cons, List.mapM_nil,
            Option.pure_def, Option.bind_eq_bind, Option.bind_some, implies_true, forall_const, beq_self_eq_true, decide_true, decide_false, eq_self, Int.reduceEq, Int.reduceLE,
            Int.reduceLT, if_true, if_false, fc31_0, fc31_1, fc31_2, Int.reduceAdd, Int.reduceSub, Int.reduceMul, Int.reduceNeg, Int.reducePow, Nat.reducePow, Int.reduceToNat,
            Nat.reduceSub, List.replicate, Nat.reduceBEq, wAs, wA, wC, zipW, noDupN, grpE, beq_true, beq_false, g_impl_arePair, g_impl_MulTurns, g_impl_LessVectors,
            g_impl_InverseOf, grpC, en0, dc_en0] <;> rfl); (simp only [normS, List.map_append, List.length_append, List.map_set, List.length_set, List.map_replicate, List.length_replicate, List.map_nil, List.map_cons,
      need_iff, h, grpA, vsliceS, grpS, grpD, grpF, grpL, eop, vop, bop, uop, fltop, convop, endOk, newE, new1, freshL, Md.isNew, outV, pureV, pureX, pure1, AV.cells, AV.one,
            storable, laid, refless, refless1, vload, loadC, storeC, vnil, vfaddr, vextract, flatT, flatE, flatC, vconv, vmm, vidxA, viaddrA, vfield, vlen, elemsOf, dF32, dF64,
            dI64, dU8, dBool, dStr, esOk, elemsS, vsliceX, bnd, ownV, ownC, own1, ownT, isSl, nSl, endL, Md.isOwn, purge, purgeH, purgeB, purgeE, hasName, name1, List.any_cons,
            List.any_nil, Md.isWr, pureV.pureP, Option.map, reduceIte, Nat.reduceEqDiff, Nat.reduceAdd, Nat.reduceMul, Nat.reduceLT, Nat.reduceLeDiff, List.mapM_cons, List.mapM_nil,
            Option.pure_def, Option.bind_eq_bind, Option.bind_some, implies_true, forall_const, beq_self_eq_true, decide_true, decide_false, eq_self, Int.reduceEq, Int.reduceLE,
            Int.reduceLT, if_true, if_false, fc31_0, fc31_1, fc31_2, Int.reduceAdd, Int.reduceSub, Int.reduceMul, Int.reduceNeg, Int.reducePow, Nat.reducePow, Int.reduceToNat,
            Nat.reduceSub, List.replicate, Nat.reduceBEq, wAs, wA, wC, zipW, noDupN, grpE, beq_true, beq_false, g_impl_arePair, g_impl_MulTurns, g_impl_LessVectors,
            g_impl_InverseOf, grpC, en0, dc_en0] <;> first | rfl | (simp only [Nat.add_comm]; done)))
      | (cases h; refine h0 _ (Wk.cast (wk_norm (ks := [4, 6]) (ls := [4, 6, 22]) ?_) ?_); (simp only [normOk, optIn, blkIn, nameIn,
      grpA, vsliceS, grpS, grpD, grpF, grpL, eop, vop, bop, uop, fltop, convop, endOk, newE, new1, freshL, Md.isNew, outV, pureV, pureX, pure1, AV.cells, AV.one, storable, laid,
            refless, refless1, vload, loadC, storeC, vnil, vfaddr, vextract, flatT, flatE, flatC, vconv, vmm, vidxA, viaddrA, vfield, vlen, elemsOf, dF32, dF64, dI64, dU8, dBool,
            dStr, esOk, elemsS, vsliceX, bnd, ownV, ownC, own1, ownT, isSl, nSl, endL, Md.isOwn, purge, purgeH, purgeB, purgeE, hasName, name1, List.any_cons, List.any_nil, Md.isWr,
            pureV.pureP, Option.map, reduceIte, Nat.reduceEqDiff, Nat.reduceAdd, Nat.reduceMul, Nat.reduceLT, Nat.reduceLeDiff, List.mapM_cons, List.mapM_nil, Option.pure_def,
            Option.bind_eq_bind, Option.bind_some, implies_true, forall_const, beq_self_eq_true, decide_true, decide_false, eq_self, Int.reduceEq, Int.reduceLE, Int.reduceLT,
            if_true, if_false, fc31_0, fc31_1, fc31_2, Int.reduceAdd, Int.reduceSub, Int.reduceMul, Int.reduceNeg, Int.reducePow, Nat.reducePow, Int.reduceToNat, Nat.reduceSub,
            List.replicate, Nat.reduceBEq, wAs, wA, wC, zipW, noDupN, grpE, beq_true, beq_false, g_impl_arePair, g_impl_MulTurns, g_impl_LessVectors, g_impl_InverseOf, grpC, en0,
            dc_en0] <;> rfl); (simp only [normS, List.map_append, List.length_append, List.map_set, List.length_set, List.map_replicate, List.length_replicate,
      grpA, vsliceS, grpS, grpD, grpF, grpL, eop, vop, bop, uop, fltop, convop, endOk, newE, new1, freshL, Md.isNew, outV, pureV, pureX, pure1, AV.cells, AV.one, storable, laid,
            refless, refless1, vload, loadC, storeC, vnil, vfaddr, vextract, flatT, flatE, flatC, vconv, vmm, vidxA, viaddrA, vfield, vlen, elemsOf, dF32, dF64, dI64, dU8, dBool,
            dStr, esOk, elemsS, vsliceX, bnd, ownV, ownC, own1, ownT, isSl, nSl, endL, Md.isOwn, purge, purgeH, purgeB, purgeE, hasName, name1, List.any_cons, List.any_nil, Md.isWr,
            pureV.pureP, Option.map, reduceIte, Nat.reduceEqDiff, Nat.reduceAdd, Nat.reduceMul, Nat.reduceLT, Nat.reduceLeDiff, List.mapM_cons, List.mapM_nil, Option.pure_def,
            Option.bind_eq_bind, Option.bind_some, implies_true, forall_const, beq_self_eq_true, decide_true, decide_false, eq_self, Int.reduceEq, Int.reduceLE, Int.reduceLT,
            if_true, if_false, fc31_0, fc31_1, fc31_2, Int.reduceAdd, Int.reduceSub, Int.reduceMul, Int.reduceNeg, Int.reducePow, Nat.reducePow, Int.reduceToNat, Nat.reduceSub,
            List.replicate, Nat.reduceBEq, wAs, wA, wC, zipW, noDupN, grpE, beq_true, beq_false, g_impl_arePair, g_impl_MulTurns, g_impl_LessVectors, g_impl_InverseOf, grpC, en0,
            dc_en0] <;> first | rfl | (simp only [Nat.add_comm]; done)))
theorem s31 : ∀ vs r, g_impl_DifferenceOf vs = some r → SaysM Try.prog (.own [4]) 31 vs r := by
  intro vs r h
  unfold g_impl_DifferenceOf at h
  split at h
  · rename_i y0 y1 y2 w3 y4 y5 y6 w7
    cases hd_y3 : decL dc_en0 w3 with
    | none => rw [hd_y3] at h; cases h
    | some y3 =>
    rw [hd_y3] at h
    obtain rfl := decL_inv dc_en0_inv hd_y3
    clear hd_y3
    dsimp only at h
    cases hd_y7 : decL dc_en0 w7 with
    | none => rw [hd_y7] at h; cases h
    | some y7 =>
    rw [hd_y7] at h
    obtain rfl := decL_inv dc_en0_inv hd_y7
    clear hd_y7
    dsimp only at h
    split at h
    · rename_i hp
      cases h
      refine spec_of (m := (.own [4])) (tab := tabOf [(68, wM .any g_impl_arePair), (70, wM .any g_impl_MulTurns), (74, wM .any g_impl_LessVectors), (75, wM .any g_impl_InverseOf)]) (cp := cp31) (ic := ic31) (rvl := [(.c 4 (some 4)), (.t 5)]) hm (tabOk_cons (m := .any) s68 (tabOk_cons (m := .any) s70 (tabOk_cons (m := .any) s74 (tabOk_cons (m := .any) s75 tabOk_nil)))) Try.func31 rfl rfl rfl (by kernel_rfl) rfl (Nat.le_of_ble_eq_true rfl) (Nat.le_of_ble_eq_true rfl) ?_
      show eA _ _ _ _
      unfold ic31
      simp only [p_impl_DifferenceOf, Bool.and_eq_true, Bool.or_eq_true, decide_eq_true_eq, Bool.not_eq_true', decide_eq_false_iff_not] at hp
      simp only [
          hp, grpA, vsliceS, grpS, grpD, grpF, grpL, eop, vop, bop, uop, fltop, convop, endOk, newE, new1, freshL, Md.isNew, outV, pureV, pureX, pure1, AV.cells, AV.one, storable,
                laid, refless, refless1, vload, loadC, storeC, vnil, vfaddr, vextract, flatT, flatE, flatC, vconv, vmm, vidxA, viaddrA, vfield, vlen, elemsOf, dF32, dF64, dI64, dU8,
                dBool, dStr, esOk, elemsS, vsliceX, bnd, ownV, ownC, own1, ownT, isSl, nSl, endL, Md.isOwn, purge, purgeH, purgeB, purgeE, hasName, name1, List.any_cons,
                List.any_nil, Md.isWr, pureV.pureP, Option.map, reduceIte, Nat.reduceEqDiff, Nat.reduceAdd, Nat.reduceMul, Nat.reduceLT, Nat.reduceLeDiff, List.mapM_cons,
                List.mapM_nil, Option.pure_def, Option.bind_eq_bind, Option.bind_some, implies_true, forall_const, beq_self_eq_true, decide_true, decide_false, eq_self,
                Int.reduceEq, Int.reduceLE, Int.reduceLT, if_true, if_false, fc31_0, fc31_1, fc31_2, Int.reduceAdd, Int.reduceSub, Int.reduceMul, Int.reduceNeg, Int.reducePow,
                Nat.reducePow, Int.reduceToNat, Nat.reduceSub, List.replicate, Nat.reduceBEq, wAs, wA, wC, zipW, noDupN, grpE, beq_true, beq_false, g_impl_arePair, g_impl_MulTurns,
                g_impl_LessVectors, g_impl_InverseOf, grpC, en0, dc_en0]
      repeat' (first
        | ((first | (refine eGI_of (fun h => ?_) (fun h => ?_)) | (refine eCc_of (fun h => ?_) (fun h => ?_)) | (have h := True.intro; refine KW_refl ?_)) <;> (try simp only [Bool.not_eq_true', Bool.not_eq_false'] at h) <;> (try first | exact absurd (Eq.trans (Eq.symm h) (by assumption)) Bool.false_ne_true | exact absurd (Eq.trans (Eq.symm h) (by assumption)) (Ne.symm Bool.false_ne_true)) <;> (try simp only [h, reduceCtorEq, beq_true, beq_false, Int.reduceEq, Int.reduceLT, Int.reduceLE, true_or, or_true, Bool.not_eq_true', decide_eq_false_iff_not, Bool.not_true, Bool.not_false, Bool.false_or, Bool.true_or, Bool.true_and, Bool.false_and, Bool.and_eq_true, Bool.or_eq_true, if_true, if_false, reduceIte, Bool.false_eq_true, and_true, true_and, false_or, or_false, decide_eq_true_eq, not_false_eq_true, not_true_eq_false] at hp) <;> (first | (have h2 := h; simp only [decide_eq_true_eq, decide_eq_false_iff_not] at h2; (first | (replace h2 := eq_false h2) | (replace h2 := eq_true h2)); (try simp only [h2, reduceCtorEq, beq_true, beq_false, Int.reduceEq, Int.reduceLT, Int.reduceLE, true_or, or_true, Bool.not_eq_true', decide_eq_false_iff_not, Bool.not_true, Bool.not_false, Bool.false_or, Bool.true_or, Bool.true_and, Bool.false_and, Bool.and_eq_true, Bool.or_eq_true, if_true, if_false, reduceIte, Bool.false_eq_true, and_true, true_and, false_or, or_false, decide_eq_true_eq, not_false_eq_true, not_true_eq_false] at hp); replace hp := And.intro h2 hp) | (replace hp := And.intro h hp) | skip) <;> simp only [h,
          hp, grpA, vsliceS, grpS, grpD, grpF, grpL, eop, vop, bop, uop, fltop, convop, endOk, newE, new1, freshL, Md.isNew, outV, pureV, pureX, pure1, AV.cells, AV.one, storable,
                laid, refless, refless1, vload, loadC, storeC, vnil, vfaddr, vextract, flatT, flatE, flatC, vconv, vmm, vidxA, viaddrA, vfield, vlen, elemsOf, dF32, dF64, dI64, dU8,
                dBool, dStr, esOk, elemsS, vsliceX, bnd, ownV, ownC, own1, ownT, isSl, nSl, endL, Md.isOwn, purge, purgeH, purgeB, purgeE, hasName, name1, List.any_cons,
                List.any_nil, Md.isWr, pureV.pureP, Option.map, reduceIte, Nat.reduceEqDiff, Nat.reduceAdd, Nat.reduceMul, Nat.reduceLT, Nat.reduceLeDiff, List.mapM_cons,
                List.mapM_nil, Option.pure_def, Option.bind_eq_bind, Option.bind_some, implies_true, forall_const, beq_self_eq_true, decide_true, decide_false, eq_self,
                Int.reduceEq, Int.reduceLE, Int.reduceLT, if_true, if_false, fc31_0, fc31_1, fc31_2, Int.reduceAdd, Int.reduceSub, Int.reduceMul, Int.reduceNeg, Int.reducePow,
                Nat.reducePow, Int.reduceToNat, Nat.reduceSub, List.replicate, Nat.reduceBEq, wAs, wA, wC, zipW, noDupN, grpE, beq_true, beq_false, g_impl_arePair, g_impl_MulTurns,
                g_impl_LessVectors, g_impl_InverseOf, grpC, en0, dc_en0])
        | (refine eA_wk (wk_norm (ks := [2, 4, 6, 25, 26, 27]) (ls := [2, 4, 6, 22]) ?_) (eA_cast ?_ (sl31_0 (y0, y1, y2, y3) (y4, y5, y6, y7) _ _ _ _ _ (getD_some (d := default) (x := (l_impl_DifferenceOf_0 (y0, y1, y2, y3) (y4, y5, y6, y7) (Int.toNat (((List.length (y4, y5, y6, y7).2.2.2 : Nat) : Int) - 0) + 2) (List.replicate (Int.toNat ((List.length (y4, y5, y6, y7).2.2.2 : Nat) : Int)) (0, 0, 0, 0)) 0)) ?_) ?_)); (simp only [nilS, nilV, normOk, optIn, blkIn, nameIn, 
          hp, grpA, vsliceS, grpS, grpD, grpF, grpL, eop, vop, bop, uop, fltop, convop, endOk, newE, new1, freshL, Md.isNew, outV, pureV, pureX, pure1, AV.cells, AV.one, storable,
                laid, refless, refless1, vload, loadC, storeC, vnil, vfaddr, vextract, flatT, flatE, flatC, vconv, vmm, vidxA, viaddrA, vfield, vlen, elemsOf, dF32, dF64, dI64, dU8,
                dBool, dStr, esOk, elemsS, vsliceX, bnd, ownV, ownC, own1, ownT, isSl, nSl, endL, Md.isOwn, purge, purgeH, purgeB, purgeE, hasName, name1, List.any_cons,
                List.any_nil, Md.isWr, pureV.pureP, Option.map, reduceIte, Nat.reduceEqDiff, Nat.reduceAdd, Nat.reduceMul, Nat.reduceLT, Nat.reduceLeDiff, List.mapM_cons,
                List.mapM_nil, Option.pure_def, Option.bind_eq_bind, Option.bind_some, implies_true, forall_const, beq_self_eq_true, decide_true, decide_false, eq_self,
                Int.reduceEq, Int.reduceLE, Int.reduceLT, if_true, if_false, fc31_0, fc31_1, fc31_2, Int.reduceAdd, Int.reduceSub, Int.reduceMul, Int.reduceNeg, Int.reducePow,
                Nat.reducePow, Int.reduceToNat, Nat.reduceSub, List.replicate, Nat.reduceBEq, wAs, wA, wC, zipW, noDupN, grpE, beq_true, beq_false, g_impl_arePair, g_impl_MulTurns,
                g_impl_LessVectors, g_impl_InverseOf, grpC, en0, dc_en0] <;> rfl); (simp only [nilS, nilV, normS,  List.map_append, List.length_append, List.map_set, List.length_set, List.map_replicate, List.length_replicate, List.map_nil, List.map_cons,
          hp, grpA, vsliceS, grpS, grpD, grpF, grpL, eop, vop, bop, uop, fltop, convop, endOk, newE, new1, freshL, Md.isNew, outV, pureV, pureX, pure1, AV.cells, AV.one, storable,
                laid, refless, refless1, vload, loadC, storeC, vnil, vfaddr, vextract, flatT, flatE, flatC, vconv, vmm, vidxA, viaddrA, vfield, vlen, elemsOf, dF32, dF64, dI64, dU8,
                dBool, dStr, esOk, elemsS, vsliceX, bnd, ownV, ownC, own1, ownT, isSl, nSl, endL, Md.isOwn, purge, purgeH, purgeB, purgeE, hasName, name1, List.any_cons,
                List.any_nil, Md.isWr, pureV.pureP, Option.map, reduceIte, Nat.reduceEqDiff, Nat.reduceAdd, Nat.reduceMul, Nat.reduceLT, Nat.reduceLeDiff, List.mapM_cons,
                List.mapM_nil, Option.pure_def, Option.bind_eq_bind, Option.bind_some, implies_true, forall_const, beq_self_eq_true, decide_true, decide_false, eq_self,
                Int.reduceEq, Int.reduceLE, Int.reduceLT, if_true, if_false, fc31_0, fc31_1, fc31_2, Int.reduceAdd, Int.reduceSub, Int.reduceMul, Int.reduceNeg, Int.reducePow,
                Nat.reducePow, Int.reduceToNat, Nat.reduceSub, List.replicate, Nat.reduceBEq, wAs, wA, wC, zipW, noDupN, grpE, beq_true, beq_false, g_impl_arePair, g_impl_MulTurns,
                g_impl_LessVectors, g_impl_InverseOf, grpC, en0, dc_en0] <;> first | rfl | (simp only [Nat.add_comm]; done)); (simp only [hp]); (
        intro st2 hw; (try simp only [reduceCtorEq, beq_true, beq_false, Int.reduceEq, Int.reduceLT, Int.reduceLE, true_or, or_true, Bool.not_eq_true', decide_eq_false_iff_not, Bool.not_true, Bool.not_false, Bool.false_or, Bool.true_or, Bool.true_and, Bool.false_and, Bool.and_eq_true, Bool.or_eq_true, if_true, if_false, reduceIte, Bool.false_eq_true, and_true, true_and, false_or, or_false, decide_eq_true_eq, not_false_eq_true, not_true_eq_false] at hp); simp only [
          hp, grpA, vsliceS, grpS, grpD, grpF, grpL, eop, vop, bop, uop, fltop, convop, endOk, newE, new1, freshL, Md.isNew, outV, pureV, pureX, pure1, AV.cells, AV.one, storable,
                laid, refless, refless1, vload, loadC, storeC, vnil, vfaddr, vextract, flatT, flatE, flatC, vconv, vmm, vidxA, viaddrA, vfield, vlen, elemsOf, dF32, dF64, dI64, dU8,
                dBool, dStr, esOk, elemsS, vsliceX, bnd, ownV, ownC, own1, ownT, isSl, nSl, endL, Md.isOwn, purge, purgeH, purgeB, purgeE, hasName, name1, List.any_cons,
                List.any_nil, Md.isWr, pureV.pureP, Option.map, reduceIte, Nat.reduceEqDiff, Nat.reduceAdd, Nat.reduceMul, Nat.reduceLT, Nat.reduceLeDiff, List.mapM_cons,
                List.mapM_nil, Option.pure_def, Option.bind_eq_bind, Option.bind_some, implies_true, forall_const, beq_self_eq_true, decide_true, decide_false, eq_self,
                Int.reduceEq, Int.reduceLE, Int.reduceLT, if_true, if_false, fc31_0, fc31_1, fc31_2, Int.reduceAdd, Int.reduceSub, Int.reduceMul, Int.reduceNeg, Int.reducePow,
                Nat.reducePow, Int.reduceToNat, Nat.reduceSub, List.replicate, Nat.reduceBEq, wAs, wA, wC, zipW, noDupN, grpE, beq_true, beq_false, g_impl_arePair, g_impl_MulTurns,
                g_impl_LessVectors, g_impl_InverseOf, grpC, en0, dc_en0]; refine KW_of hw ?_; simp only [
          hp, grpA, vsliceS, grpS, grpD, grpF, grpL, eop, vop, bop, uop, fltop, convop, endOk, newE, new1, freshL, Md.isNew, outV, pureV, pureX, pure1, AV.cells, AV.one, storable,
                laid, refless, refless1, vload, loadC, storeC, vnil, vfaddr, vextract, flatT, flatE, flatC, vconv, vmm, vidxA, viaddrA, vfield, vlen, elemsOf, dF32, dF64, dI64, dU8,
                dBool, dStr, esOk, elemsS, vsliceX, bnd, ownV, ownC, own1, ownT, isSl, nSl, endL, Md.isOwn, purge, purgeH, purgeB, purgeE, hasName, name1, List.any_cons,
                List.any_nil, Md.isWr, pureV.pureP, Option.map, reduceIte, Nat.reduceEqDiff, Nat.reduceAdd, Nat.reduceMul, Nat.reduceLT, Nat.reduceLeDiff, List.mapM_cons,
                List.mapM_nil, Option.pure_def, Option.bind_eq_bind, Option.bind_some, implies_true, forall_const, beq_self_eq_true, decide_true, decide_false, eq_self,
                Int.reduceEq, Int.reduceLE, Int.reduceLT, if_true, if_false, fc31_0, fc31_1, fc31_2, Int.reduceAdd, Int.reduceSub, Int.reduceMul, Int.reduceNeg, Int.reducePow,
                Nat.reducePow, Int.reduceToNat, Nat.reduceSub, List.replicate, Nat.reduceBEq, wAs, wA, wC, zipW, noDupN, grpE, beq_true, beq_false, g_impl_arePair, g_impl_MulTurns,
                g_impl_LessVectors, g_impl_InverseOf, grpC, en0, dc_en0])))
      all_goals (try simp only [*, m_impl_DifferenceOf, Bool.and_true, Bool.true_and, Bool.and_false, Bool.false_and, Bool.or_true, Bool.true_or, Bool.or_false, Bool.false_or, Bool.not_true, Bool.not_false, Bool.false_eq_true, if_true, if_false, reduceIte, decide_true, decide_false])
      all_goals (try (simp_all; done))
    · cases h
  · cases h
def m_laws_sameFloat (x0 : Nat) (x1 : Nat) : Bool := (if (feq .f64 x0 x0) = true then (if (feq .f64 x1 x1) = true then (if (feq .f64 x0 0) = true then (if (feq .f64 x1 0) = true
      then ((flt .f64 0 (fdiv .f64 4607182418800017408 x0)) == (flt .f64 0 (fdiv .f64 4607182418800017408 x1))) else (feq .f64 x0 x1)) else (feq .f64 x0 x1)) else false) else (!(feq
      .f64 x1 x1)))
def g_laws_sameFloat : List AV → Option AV
  | [.flt .f64 y0, .flt .f64 y1] => some (.bool (m_laws_sameFloat y0 y1))
  | _ => none
def ic92 : ICode := (.seq (.reg [⟨(some 4), none, (.mov (.c (.bool false)))⟩] [0, 1]) (.seq (.seq (.reg [⟨(some 5), none, (.mov (.t 0))⟩, ⟨(some 6), none, (.mov (.t 0))⟩, ⟨(some 7),
      none, (.bin .neq false (.t 5) (.t 6))⟩, ⟨(some 8), none, (.mov (.t 7))⟩, ⟨(some 9), (some (8, false)), (.mov (.t 1))⟩, ⟨(some 10), (some (8, false)), (.mov (.t 1))⟩, ⟨(some
      11), (some (8, false)), (.bin .neq false (.t 9) (.t 10))⟩, ⟨(some 12), none, (.pick (.t 8) (.c (.bool true)) (.t 11))⟩] [0, 1, 12]) (.cond (.t 12) (.seq (.reg [⟨(some 13),
      none, (.mov (.t 0))⟩, ⟨(some 14), none, (.mov (.t 0))⟩, ⟨(some 15), none, (.bin .neq false (.t 13) (.t 14))⟩, ⟨(some 16), none, (.mov (.t 15))⟩, ⟨(some 17), (some (16, true)),
      (.mov (.t 1))⟩, ⟨(some 18), (some (16, true)), (.mov (.t 1))⟩, ⟨(some 19), (some (16, true)), (.bin .neq false (.t 17) (.t 18))⟩, ⟨(some 20), none, (.pick (.t 16) (.t 19) (.c
      (.bool false)))⟩, ⟨(some 4), none, (.mov (.t 20))⟩] [4]) .ret) .skip)) (.seq (.seq (.reg [⟨(some 21), none, (.mov (.t 0))⟩, ⟨(some 22), none, (.bin .eql false (.t 21) (.c
      (.flt .f64 0)))⟩, ⟨(some 23), none, (.mov (.t 22))⟩, ⟨(some 24), (some (23, true)), (.mov (.t 1))⟩, ⟨(some 25), (some (23, true)), (.bin .eql false (.t 24) (.c (.flt .f64
      0)))⟩, ⟨(some 26), none, (.pick (.t 23) (.t 25) (.c (.bool false)))⟩] [0, 1, 26]) (.cond (.t 26) (.seq (.reg [⟨(some 27), none, (.mov (.t 0))⟩, ⟨(some 28), none, (.bin .quo
      false (.c (.flt .f64 4607182418800017408)) (.t 27))⟩, ⟨(some 29), none, (.bin .gtr false (.t 28) (.c (.flt .f64 0)))⟩, ⟨(some 30), none, (.mov (.t 1))⟩, ⟨(some 31), none,
      (.bin .quo false (.c (.flt .f64 4607182418800017408)) (.t 30))⟩, ⟨(some 32), none, (.bin .gtr false (.t 31) (.c (.flt .f64 0)))⟩, ⟨(some 33), none, (.bin .eql true (.t 29) (.t
      32))⟩, ⟨(some 4), none, (.mov (.t 33))⟩] [4]) .ret) .skip)) (.seq (.reg [⟨(some 34), none, (.mov (.t 0))⟩, ⟨(some 35), none, (.mov (.t 1))⟩, ⟨(some 36), none, (.bin .eql false
      (.t 34) (.t 35))⟩, ⟨(some 4), none, (.mov (.t 36))⟩] [4]) .ret))))
def cp92 : CP := CP.mk [] [] [[0, 1], [0, 1, 12], [4], [0, 1, 26], [4], [4]] 37 [] []
theorem fc92_0 : IntKind.wrap .i64 1 = 1 := by decide
theorem fc92_1 : IntKind.wrap .i64 2 = 2 := by decide
theorem fc92_2 : IntKind.wrap .i64 3 = 3 := by decide
theorem s92 : ∀ vs r, g_laws_sameFloat vs = some r → SaysM Try.prog .any 92 vs r := by
  intro vs r h
  unfold g_laws_sameFloat at h
  split at h
  · rename_i y0 y1
    cases h
    refine spec_of (m := .any) (tab := tabOf []) (cp := cp92) (ic := ic92) (rvl := [(.t 4)]) hm tabOk_nil Try.func92 rfl rfl rfl (by kernel_rfl) rfl (Nat.le_of_ble_eq_true rfl) (Nat.le_of_ble_eq_true rfl) ?_
    show eA _ _ _ _
    unfold ic92
    simp only [
        grpA, vsliceS, grpS, grpD, grpF, grpL, eop, vop, bop, uop, fltop, convop, endOk, newE, new1, freshL, Md.isNew, outV, pureV, pureX, pure1, AV.cells, AV.one, storable, laid,
              refless, refless1, vload, loadC, storeC, vnil, vfaddr, vextract, flatT, flatE, flatC, vconv, vmm, vidxA, viaddrA, vfield, vlen, elemsOf, dF32, dF64, dI64, dU8, dBool,
              dStr, esOk, elemsS, vsliceX, bnd, ownV, ownC, own1, ownT, isSl, nSl, endL, Md.isOwn, purge, purgeH, purgeB, purgeE, hasName, name1, List.any_cons, List.any_nil,
              Md.isWr, pureV.pureP, Option.map, reduceIte, Nat.reduceEqDiff, Nat.reduceAdd, Nat.reduceMul, Nat.reduceLT, Nat.reduceLeDiff, List.mapM_cons, List.mapM_nil,
              Option.pure_def, Option.bind_eq_bind, Option.bind_some, implies_true, forall_const, beq_self_eq_true, decide_true, decide_false, eq_self, Int.reduceEq, Int.reduceLE,
              Int.reduceLT, if_true, if_false, fc92_0, fc92_1, fc92_2, Int.reduceAdd, Int.reduceSub, Int.reduceMul, Int.reduceNeg, Int.reducePow, Nat.reducePow, Int.reduceToNat,
              Nat.reduceSub, List.replicate, Nat.reduceBEq, wAs, wA, wC, zipW, noDupN, grpE, beq_true, beq_false, grpC, en0, dc_en0, ↓b_pick, ePk_true, ePk_false]
    repeat' (first
      | ((first | (refine eGI_of (fun h => ?_) (fun h => ?_)) | (refine eCc_of (fun h => ?_) (fun h => ?_)) | (refine ePk_of (fun h => ?_) (fun h => ?_))) <;> (try simp only [Bool.not_eq_true', Bool.not_eq_false'] at h) <;> (try first | exact absurd (Eq.trans (Eq.symm h) (by assumption)) Bool.false_ne_true | exact absurd (Eq.trans (Eq.symm h) (by assumption)) (Ne.symm Bool.false_ne_true)) <;> simp only [h,
        grpA, vsliceS, grpS, grpD, grpF, grpL, eop, vop, bop, uop, fltop, convop, endOk, newE, new1, freshL, Md.isNew, outV, pureV, pureX, pure1, AV.cells, AV.one, storable, laid,
              refless, refless1, vload, loadC, storeC, vnil, vfaddr, vextract, flatT, flatE, flatC, vconv, vmm, vidxA, viaddrA, vfield, vlen, elemsOf, dF32, dF64, dI64, dU8, dBool,
              dStr, esOk, elemsS, vsliceX, bnd, ownV, ownC, own1, ownT, isSl, nSl, endL, Md.isOwn, purge, purgeH, purgeB, purgeE, hasName, name1, List.any_cons, List.any_nil,
              Md.isWr, pureV.pureP, Option.map, reduceIte, Nat.reduceEqDiff, Nat.reduceAdd, Nat.reduceMul, Nat.reduceLT, Nat.reduceLeDiff, List.mapM_cons, List.mapM_nil,
              Option.pure_def, Option.bind_eq_bind, Option.bind_some, implies_true, forall_const, beq_self_eq_true, decide_true, decide_false, eq_self, Int.reduceEq, Int.reduceLE,
              Int.reduceLT, if_true, if_false, fc92_0, fc92_1, fc92_2, Int.reduceAdd, Int.reduceSub, Int.reduceMul, Int.reduceNeg, Int.reducePow, Nat.reducePow, Int.reduceToNat,
              Nat.reduceSub, List.replicate, Nat.reduceBEq, wAs, wA, wC, zipW, noDupN, grpE, beq_true, beq_false, grpC, en0, dc_en0, ↓b_pick, ePk_true, ePk_false]))
    all_goals (try simp only [*, m_laws_sameFloat, Bool.and_true, Bool.true_and, Bool.and_false, Bool.false_and, Bool.or_true, Bool.true_or, Bool.or_false, Bool.false_or, Bool.not_true, Bool.not_false, Bool.false_eq_true, if_true, if_false, reduceIte, decide_true, decide_false])
    all_goals (try (simp_all; done))
  · cases h
def m_laws_eqVector (x0 : (Nat × Nat × Nat)) (x1 : (Nat × Nat × Nat)) : Bool := (if (m_laws_sameFloat (widen x0.1) (widen x1.1)) = true then (if (m_laws_sameFloat (widen x0.2.1)
      (widen x1.2.1)) = true then (if (m_laws_sameFloat (widen x0.2.2) (widen x1.2.2)) = true then true else false) else false) else false)
def g_laws_eqVector : List AV → Option AV
  | [.agg [.flt .f32 y0, .flt .f32 y1, .flt .f32 y2], .agg [.flt .f32 y3, .flt .f32 y4, .flt .f32 y5]] => some (.bool (m_laws_eqVector (y0,
      y1, y2) (y3, y4, y5)))
  | _ => none
def ic71 : ICode := (.seq (.reg [⟨(some 2), none, (.box 3 (.t 0))⟩, ⟨(some 3), none, (.box 3 (.t 1))⟩, ⟨(some 4), none, (.mov (.c (.bool false)))⟩] [2, 3]) (.seq (.seq (.reg [⟨(some
      5), none, (.faddr 0 (.t 2))⟩, ⟨(some 6), none, (.load none (.t 5))⟩, ⟨(some 7), none, (.conv (.flt .f64) (.t 6))⟩, ⟨(some 8), none, (.faddr 0 (.t 3))⟩, ⟨(some 9), none, (.load
      none (.t 8))⟩, ⟨(some 10), none, (.conv (.flt .f64) (.t 9))⟩, ⟨(some 11), none, (.call (.fn 92) [(.t 7), (.t 10)] [])⟩, ⟨(some 12), none, (.un .not (.t 11))⟩] [2, 3, 12])
      (.cond (.t 12) (.seq (.reg [⟨(some 4), none, (.mov (.c (.bool false)))⟩] [4]) .ret) .skip)) (.seq (.seq (.reg [⟨(some 13), none, (.faddr 1 (.t 2))⟩, ⟨(some 14), none, (.load
      none (.t 13))⟩, ⟨(some 15), none, (.conv (.flt .f64) (.t 14))⟩, ⟨(some 16), none, (.faddr 1 (.t 3))⟩, ⟨(some 17), none, (.load none (.t 16))⟩, ⟨(some 18), none, (.conv (.flt
      .f64) (.t 17))⟩, ⟨(some 19), none, (.call (.fn 92) [(.t 15), (.t 18)] [])⟩, ⟨(some 20), none, (.un .not (.t 19))⟩] [2, 3, 20]) (.cond (.t 20) (.seq (.reg [⟨(some 4), none,
      (.mov (.c (.bool false)))⟩] [4]) .ret) .skip)) (.seq (.seq (.reg [⟨(some 21), none, (.faddr 2 (.t 2))⟩, ⟨(some 22), none, (.load none (.t 21))⟩, ⟨(some 23), none, (.conv (.flt
      .f64) (.t 22))⟩, ⟨(some 24), none, (.faddr 2 (.t 3))⟩, ⟨(some 25), none, (.load none (.t 24))⟩, ⟨(some 26), none, (.conv (.flt .f64) (.t 25))⟩, ⟨(some 27), none, (.call (.fn
      92) [(.t 23), (.t 26)] [])⟩, ⟨(some 28), none, (.un .not (.t 27))⟩] [28]) (.cond (.t 28) (.seq (.reg [⟨(some 4), none, (.mov (.c (.bool false)))⟩] [4]) .ret) .skip)) (.seq
      (.reg [⟨(some 4), none, (.mov (.c (.bool true)))⟩] [4]) .ret)))))
def cp71 : CP := CP.mk [] [] [[2, 3], [2, 3, 12], [4], [2, 3, 20], [4], [28], [4], [4]] 29 [] []
theorem fc71_0 : IntKind.wrap .i64 1 = 1 := by decide
theorem fc71_1 : IntKind.wrap .i64 2 = 2 := by decide
theorem fc71_2 : IntKind.wrap .i64 3 = 3 := by decide
theorem s71 : ∀ vs r, g_laws_eqVector vs = some r → SaysM Try.prog .any 71 vs r := by
  intro vs r h
  unfold g_laws_eqVector at h
  split at h
  · rename_i y0 y1 y2 y3 y4 y5
    cases h
    refine spec_of (m := .any) (tab := tabOf [(92, wM .any g_laws_sameFloat)]) (cp := cp71) (ic := ic71) (rvl := [(.t 4)]) hm (tabOk_cons (m := .any) s92 tabOk_nil) Try.func71 rfl rfl rfl (by kernel_rfl) rfl (Nat.le_of_ble_eq_true rfl) (Nat.le_of_ble_eq_true rfl) ?_
    show eA _ _ _ _
    unfold ic71
    simp only [
        grpA, vsliceS, grpS, grpD, grpF, grpL, eop, vop, bop, uop, fltop, convop, endOk, newE, new1, freshL, Md.isNew, outV, pureV, pureX, pure1, AV.cells, AV.one, storable, laid,
              refless, refless1, vload, loadC, storeC, vnil, vfaddr, vextract, flatT, flatE, flatC, vconv, vmm, vidxA, viaddrA, vfield, vlen, elemsOf, dF32, dF64, dI64, dU8, dBool,
              dStr, esOk, elemsS, vsliceX, bnd, ownV, ownC, own1, ownT, isSl, nSl, endL, Md.isOwn, purge, purgeH, purgeB, purgeE, hasName, name1, List.any_cons, List.any_nil,
              Md.isWr, pureV.pureP, Option.map, reduceIte, Nat.reduceEqDiff, Nat.reduceAdd, Nat.reduceMul, Nat.reduceLT, Nat.reduceLeDiff, List.mapM_cons, List.mapM_nil,
              Option.pure_def, Option.bind_eq_bind, Option.bind_some, implies_true, forall_const, beq_self_eq_true, decide_true, decide_false, eq_self, Int.reduceEq, Int.reduceLE,
              Int.reduceLT, if_true, if_false, fc71_0, fc71_1, fc71_2, Int.reduceAdd, Int.reduceSub, Int.reduceMul, Int.reduceNeg, Int.reducePow, Nat.reducePow, Int.reduceToNat,
              Nat.reduceSub, List.replicate, Nat.reduceBEq, wAs, wA, wC, zipW, noDupN, grpE, beq_true, beq_false, g_laws_sameFloat, grpC, en0, dc_en0]
    repeat' (first
      | ((first | (refine eGI_of (fun h => ?_) (fun h => ?_)) | (refine eCc_of (fun h => ?_) (fun h => ?_))) <;> (try simp only [Bool.not_eq_true', Bool.not_eq_false'] at h) <;> (try first | exact absurd (Eq.trans (Eq.symm h) (by assumption)) Bool.false_ne_true | exact absurd (Eq.trans (Eq.symm h) (by assumption)) (Ne.symm Bool.false_ne_true)) <;> simp only [h,
        grpA, vsliceS, grpS, grpD, grpF, grpL, eop, vop, bop, uop, fltop, convop, endOk, newE, new1, freshL, Md.isNew, outV, pureV, pureX, pure1, AV.cells, AV.one, storable, laid,
              refless, refless1, vload, loadC, storeC, vnil, vfaddr, vextract, flatT, flatE, flatC, vconv, vmm, vidxA, viaddrA, vfield, vlen, elemsOf, dF32, dF64, dI64, dU8, dBool,
              dStr, esOk, elemsS, vsliceX, bnd, ownV, ownC, own1, ownT, isSl, nSl, endL, Md.isOwn, purge, purgeH, purgeB, purgeE, hasName, name1, List.any_cons, List.any_nil,
              Md.isWr, pureV.pureP, Option.map, reduceIte, Nat.reduceEqDiff, Nat.reduceAdd, Nat.reduceMul, Nat.reduceLT, Nat.reduceLeDiff, List.mapM_cons, List.mapM_nil,
              Option.pure_def, Option.bind_eq_bind, Option.bind_some, implies_true, forall_const, beq_self_eq_true, decide_true, decide_false, eq_self, Int.reduceEq, Int.reduceLE,
              Int.reduceLT, if_true, if_false, fc71_0, fc71_1, fc71_2, Int.reduceAdd, Int.reduceSub, Int.reduceMul, Int.reduceNeg, Int.reducePow, Nat.reducePow, Int.reduceToNat,
              Nat.reduceSub, List.replicate, Nat.reduceBEq, wAs, wA, wC, zipW, noDupN, grpE, beq_true, beq_false, g_laws_sameFloat, grpC, en0, dc_en0]))
    all_goals (try simp only [*, m_laws_eqVector, Bool.and_true, Bool.true_and, Bool.and_false, Bool.false_and, Bool.or_true, Bool.true_or, Bool.or_false, Bool.false_or, Bool.not_true, Bool.not_false, Bool.false_eq_true, if_true, if_false, reduceIte, decide_true, decide_false])
    all_goals (try (simp_all; done))
  · cases h
def m_laws_eqTurn (x0 : (Nat × Nat × Nat × Nat)) (x1 : (Nat × Nat × Nat × Nat)) : Bool := (if (m_laws_sameFloat (widen x0.1) (widen x1.1)) = true then (if (m_laws_sameFloat (widen
      x0.2.1) (widen x1.2.1)) = true then (if (m_laws_sameFloat (widen x0.2.2.1) (widen x1.2.2.1)) = true then (if (m_laws_sameFloat (widen x0.2.2.2) (widen x1.2.2.2)) = true then
      true else false) else false) else false) else false)
def g_laws_eqTurn : List AV → Option AV
  | [.agg [.flt .f32 y0, .flt .f32 y1, .flt .f32 y2, .flt .f32 y3], .agg [.flt .f32 y4, .flt .f32 y5, .flt .f32 y6, .flt .f32 y7]] => some
      (.bool (m_laws_eqTurn (y0, y1, y2, y3) (y4, y5, y6, y7)))
  | _ => none
def ic78 : ICode := (.seq (.reg [⟨(some 2), none, (.box 4 (.t 0))⟩, ⟨(some 3), none, (.box 4 (.t 1))⟩, ⟨(some 4), none, (.mov (.c (.bool false)))⟩] [2, 3]) (.seq (.seq (.reg [⟨(some
      5), none, (.faddr 0 (.t 2))⟩, ⟨(some 6), none, (.load none (.t 5))⟩, ⟨(some 7), none, (.conv (.flt .f64) (.t 6))⟩, ⟨(some 8), none, (.faddr 0 (.t 3))⟩, ⟨(some 9), none, (.load
      none (.t 8))⟩, ⟨(some 10), none, (.conv (.flt .f64) (.t 9))⟩, ⟨(some 11), none, (.call (.fn 92) [(.t 7), (.t 10)] [])⟩, ⟨(some 12), none, (.un .not (.t 11))⟩] [2, 3, 12])
      (.cond (.t 12) (.seq (.reg [⟨(some 4), none, (.mov (.c (.bool false)))⟩] [4]) .ret) .skip)) (.seq (.seq (.reg [⟨(some 13), none, (.faddr 1 (.t 2))⟩, ⟨(some 14), none, (.load
      none (.t 13))⟩, ⟨(some 15), none, (.conv (.flt .f64) (.t 14))⟩, ⟨(some 16), none, (.faddr 1 (.t 3))⟩, ⟨(some 17), none, (.load none (.t 16))⟩, ⟨(some 18), none, (.conv (.flt
      .f64) (.t 17))⟩, ⟨(some 19), none, (.call (.fn 92) [(.t 15), (.t 18)] [])⟩, ⟨(some 20), none, (.un .not (.t 19))⟩] [2, 3, 20]) (.cond (.t 20) (.seq (.reg [⟨(some 4), none,
      (.mov (.c (.bool false)))⟩] [4]) .ret) .skip)) (.seq (.seq (.reg [⟨(some 21), none, (.faddr 2 (.t 2))⟩, ⟨(some 22), none, (.load none (.t 21))⟩, ⟨(some 23), none, (.conv (.flt
      .f64) (.t 22))⟩, ⟨(some 24), none, (.faddr 2 (.t 3))⟩, ⟨(some 25), none, (.load none (.t 24))⟩, ⟨(some 26), none, (.conv (.flt .f64) (.t 25))⟩, ⟨(some 27), none, (.call (.fn
      92) [(.t 23), (.t 26)] [])⟩, ⟨(some 28), none, (.un .not (.t 27))⟩] [2, 3, 28]) (.cond (.t 28) (.seq (.reg [⟨(some 4), none, (.mov (.c (.bool false)))⟩] [4]) .ret) .skip))
      (.seq (.seq (.reg [⟨(some 29), none, (.faddr 3 (.t 2))⟩, ⟨(some 30), none, (.load none (.t 29))⟩, ⟨(some 31), none, (.conv (.flt .f64) (.t 30))⟩, ⟨(some 32), none, (.faddr 3
      (.t 3))⟩, ⟨(some 33), none, (.load none (.t 32))⟩, ⟨(some 34), none, (.conv (.flt .f64) (.t 33))⟩, ⟨(some 35), none, (.call (.fn 92) [(.t 31), (.t 34)] [])⟩, ⟨(some 36), none,
      (.un .not (.t 35))⟩] [36]) (.cond (.t 36) (.seq (.reg [⟨(some 4), none, (.mov (.c (.bool false)))⟩] [4]) .ret) .skip)) (.seq (.reg [⟨(some 4), none, (.mov (.c (.bool true)))⟩]
      [4]) .ret))))))
def cp78 : CP := CP.mk [] [] [[2, 3], [2, 3, 12], [4], [2, 3, 20], [4], [2, 3, 28], [4], [36], [4], [4]] 37 [] []
theorem fc78_0 : IntKind.wrap .i64 1 = 1 := by decide
theorem fc78_1 : IntKind.wrap .i64 2 = 2 := by decide
theorem fc78_2 : IntKind.wrap .i64 3 = 3 := by decide
theorem s78 : ∀ vs r, g_laws_eqTurn vs = some r → SaysM Try.prog .any 78 vs r := by
  intro vs r h
  unfold g_laws_eqTurn at h
  split at h
  · rename_i y0 y1 y2 y3 y4 y5 y6 y7
    cases h
    refine spec_of (m := .any) (tab := tabOf [(92, wM .any g_laws_sameFloat)]) (cp := cp78) (ic := ic78) (rvl := [(.t 4)]) hm (tabOk_cons (m := .any) s92 tabOk_nil) Try.func78 rfl rfl rfl (by kernel_rfl) rfl (Nat.le_of_ble_eq_true rfl) (Nat.le_of_ble_eq_true rfl) ?_
    show eA _ _ _ _
    unfold ic78
    simp only [
        grpA, vsliceS, grpS, grpD, grpF, grpL, eop, vop, bop, uop, fltop, convop, endOk, newE, new1, freshL, Md.isNew, outV, pureV, pureX, pure1, AV.cells, AV.one, storable, laid,
              refless, refless1, vload, loadC, storeC, vnil, vfaddr, vextract, flatT, flatE, flatC, vconv, vmm, vidxA, viaddrA, vfield, vlen, elemsOf, dF32, dF64, dI64, dU8, dBool,
              dStr, esOk, elemsS, vsliceX, bnd, ownV, ownC, own1, ownT, isSl, nSl, endL, Md.isOwn, purge, purgeH, purgeB, purgeE, hasName, name1, List.any_cons, List.any_nil,
              Md.isWr, pureV.pureP, Option.map, reduceIte, Nat.reduceEqDiff, Nat.reduceAdd, Nat.reduceMul, Nat.reduceLT, Nat.reduceLeDiff, List.mapM_cons, List.mapM_nil,
              Option.pure_def, Option.bind_eq_bind, Option.bind_some, implies_true, forall_const, beq_self_eq_true, decide_true, decide_false, eq_self, Int.reduceEq, Int.reduceLE,
              Int.reduceLT, if_true, if_false, fc78_0, fc78_1, fc78_2, Int.reduceAdd, Int.reduceSub, Int.reduceMul, Int.reduceNeg, Int.reducePow, Nat.reducePow, Int.reduceToNat,
              Nat.reduceSub, List.replicate, Nat.reduceBEq, wAs, wA, wC, zipW, noDupN, grpE, beq_true, beq_false, g_laws_sameFloat, grpC, en0, dc_en0]
    repeat' (first
      | ((first | (refine eGI_of (fun h => ?_) (fun h => ?_)) | (refine eCc_of (fun h => ?_) (fun h => ?_))) <;> (try simp only [Bool.not_eq_true', Bool.not_eq_false'] at h) <;> (try first | exact absurd (Eq.trans (Eq.symm h) (by assumption)) Bool.false_ne_true | exact absurd (Eq.trans (Eq.symm h) (by assumption)) (Ne.symm Bool.false_ne_true)) <;> simp only [h,
        grpA, vsliceS, grpS, grpD, grpF, grpL, eop, vop, bop, uop, fltop, convop, endOk, newE, new1, freshL, Md.isNew, outV, pureV, pureX, pure1, AV.cells, AV.one, storable, laid,
              refless, refless1, vload, loadC, storeC, vnil, vfaddr, vextract, flatT, flatE, flatC, vconv, vmm, vidxA, viaddrA, vfield, vlen, elemsOf, dF32, dF64, dI64, dU8, dBool,
              dStr, esOk, elemsS, vsliceX, bnd, ownV, ownC, own1, ownT, isSl, nSl, endL, Md.isOwn, purge, purgeH, purgeB, purgeE, hasName, name1, List.any_cons, List.any_nil,
              Md.isWr, pureV.pureP, Option.map, reduceIte, Nat.reduceEqDiff, Nat.reduceAdd, Nat.reduceMul, Nat.reduceLT, Nat.reduceLeDiff, List.mapM_cons, List.mapM_nil,
              Option.pure_def, Option.bind_eq_bind, Option.bind_some, implies_true, forall_const, beq_self_eq_true, decide_true, decide_false, eq_self, Int.reduceEq, Int.reduceLE,
              Int.reduceLT, if_true, if_false, fc78_0, fc78_1, fc78_2, Int.reduceAdd, Int.reduceSub, Int.reduceMul, Int.reduceNeg, Int.reducePow, Nat.reducePow, Int.reduceToNat,
              Nat.reduceSub, List.replicate, Nat.reduceBEq, wAs, wA, wC, zipW, noDupN, grpE, beq_true, beq_false, g_laws_sameFloat, grpC, en0, dc_en0]))
    all_goals (try simp only [*, m_laws_eqTurn, Bool.and_true, Bool.true_and, Bool.and_false, Bool.false_and, Bool.or_true, Bool.true_or, Bool.or_false, Bool.false_or, Bool.not_true, Bool.not_false, Bool.false_eq_true, if_true, if_false, reduceIte, decide_true, decide_false])
    all_goals (try (simp_all; done))
  · cases h
def l_laws_eqTurnS_0 (x0 : (List (Nat × Nat × Nat × Nat))) (x1 : (List (Nat × Nat × Nat × Nat))) : Nat → Int → Option (Bool × Bool × Unit)
  | 0, _ => none
  | n + 1, z0_0 => (if (decide (z0_0 < ((List.length x0 : Nat) : Int))) = true then (need (inB z0_0 (List.length x0)) (need (inB z0_0 (List.length x1)) (if (m_laws_eqTurn (atI x0
        z0_0) (atI x1 z0_0)) = true then (l_laws_eqTurnS_0 x0 x1 n (IntKind.wrap .i64 (z0_0 + 1))) else (some (true, false, default))))) else (some (false, default, ())))
def m_laws_eqTurnS (x0 : (List (Nat × Nat × Nat × Nat))) (x1 : (List (Nat × Nat × Nat × Nat))) : Bool := (if (decide (((List.length x0 : Nat) : Int) = ((List.length x1 : Nat) :
      Int))) = true then (if (Option.getD (l_laws_eqTurnS_0 x0 x1 (Int.toNat (((List.length x0 : Nat) : Int) - 0) + 2) 0) default).1 = true then (Option.getD (l_laws_eqTurnS_0 x0 x1
      (Int.toNat (((List.length x0 : Nat) : Int) - 0) + 2) 0) default).2.1 else true) else false)
def p_laws_eqTurnS (x0 : (List (Nat × Nat × Nat × Nat))) (x1 : (List (Nat × Nat × Nat × Nat))) : Bool := (!(decide (((List.length x0 : Nat) : Int) = ((List.length x1 : Nat) : Int)))
      || (Option.isSome (l_laws_eqTurnS_0 x0 x1 (Int.toNat (((List.length x0 : Nat) : Int) - 0) + 2) 0)))
def g_laws_eqTurnS : List AV → Option AV
  | [.sl w0, .sl w1] => (match decL dc_en0 w0 with | some y0 => ((match decL dc_en0 w1 with | some y1 => (if p_laws_eqTurnS y0 y1 = true then some (.bool (m_laws_eqTurnS y0 y1)) else none) | none => none)) | none => none)
  | _ => none
def lb37_0 : ICode := (.seq (.seq (.reg [⟨(some 11), none, (.mov (.t 5))⟩, ⟨(some 12), none, (.mov (.t 0))⟩, ⟨(some 13), none, (.len false (.t 12))⟩, ⟨(some 14), none, (.bin .lss
      false (.t 11) (.t 13))⟩] [0, 1, 5, 14]) (.cond (.t 14) .skip (.exit 0))) (.seq (.block 1 (.seq (.reg [⟨(some 17), none, (.mov (.t 0))⟩, ⟨(some 18), none, (.mov (.t 5))⟩,
      ⟨(some 19), none, (.iaddrS 4 (.t 17) (.t 18))⟩, ⟨(some 20), none, (.load (some 4) (.t 19))⟩, ⟨(some 21), none, (.mov (.t 1))⟩, ⟨(some 22), none, (.mov (.t 5))⟩, ⟨(some 23),
      none, (.iaddrS 4 (.t 21) (.t 22))⟩, ⟨(some 24), none, (.load (some 4) (.t 23))⟩, ⟨(some 25), none, (.call (.fn 78) [(.t 20), (.t 24)] [])⟩, ⟨(some 26), none, (.un .not (.t
      25))⟩] [0, 1, 5, 26]) (.cond (.t 26) (.seq (.reg [⟨(some 4), none, (.mov (.c (.bool false)))⟩] [4]) .ret) .skip))) (.reg [⟨(some 15), none, (.mov (.t 5))⟩, ⟨(some 16), none,
      (.bin .add false (.t 15) (.c (.int .i64 1)))⟩, ⟨(some 5), none, (.mov (.t 16))⟩] [0, 1, 5])))
def ic37 : ICode := (.seq (.reg [⟨(some 4), none, (.mov (.c (.bool false)))⟩] [0, 1]) (.seq (.seq (.reg [⟨(some 6), none, (.mov (.t 0))⟩, ⟨(some 7), none, (.len false (.t 6))⟩,
      ⟨(some 8), none, (.mov (.t 1))⟩, ⟨(some 9), none, (.len false (.t 8))⟩, ⟨(some 10), none, (.bin .neq false (.t 7) (.t 9))⟩] [0, 1, 10]) (.cond (.t 10) (.seq (.reg [⟨(some 4),
      none, (.mov (.c (.bool false)))⟩] [4]) .ret) .skip)) (.seq (.seq (.reg [⟨(some 5), none, (.mov (.c (.int .i64 0)))⟩] [0, 1, 5]) (.block 0 (.loop lb37_0))) (.seq (.reg [⟨(some
      4), none, (.mov (.c (.bool true)))⟩] [4]) .ret))))
def cp37 : CP := CP.mk [] [] [[0, 1], [0, 1, 10], [4], [0, 1, 5], [0, 1, 5, 14], [0, 1, 5], [0, 1, 5, 26], [4], [4]] 27 [] []
theorem fc37_0 : IntKind.wrap .i64 1 = 1 := by decide
theorem fc37_1 : IntKind.wrap .i64 2 = 2 := by decide
theorem fc37_2 : IntKind.wrap .i64 3 = 3 := by decide
theorem sl37_0 (x0 : (List (Nat × Nat × Nat × Nat))) (x1 : (List (Nat × Nat × Nat × Nat))) : ∀ (n : Nat) (z0_0 : Int) (o : (Bool × Bool × Unit)) (K : IExit → St → Prop),
      l_laws_eqTurnS_0 x0 x1 n z0_0 = some o → (∀ st, o.1 = true → outM .any st [(.t 4)] = some (.bool o.2.1) → K .ret st) → (∀ st, o.1 = false → Wk st (⟨[], []⟩ : St) → K (.exit 0)
      st) → eA (tabOf [(78, wM .any g_laws_eqTurn)]) (.loop lb37_0) (⟨[(0, (.sl (List.map en0 x0))), (1, (.sl (List.map en0 x1))), (5, (.int .i64 z0_0))], []⟩ : St) K := by
  intro n
  induction n with
  | zero =>
    intro z0_0 o K h h0 h1
    simp only [l_laws_eqTurnS_0, reduceCtorEq] at h
  | succ n ih =>
    intro z0_0 o K h h0 h1
    refine eA_loop ?_
    unfold lb37_0
    unfold l_laws_eqTurnS_0 at h
    (try simp only [need_iff] at h)
    simp only [
      need_iff, h, grpA, vsliceS, grpS, grpD, grpF, grpL, eop, vop, bop, uop, fltop, convop, endOk, newE, new1, freshL, Md.isNew, outV, pureV, pureX, pure1, AV.cells, AV.one,
            storable, laid, refless, refless1, vload, loadC, storeC, vnil, vfaddr, vextract, flatT, flatE, flatC, vconv, vmm, vidxA, viaddrA, vfield, vlen, elemsOf, dF32, dF64,
            dI64, dU8, dBool, dStr, esOk, elemsS, vsliceX, bnd, ownV, ownC, own1, ownT, isSl, nSl, endL, Md.isOwn, purge, purgeH, purgeB, purgeE, hasName, name1, List.any_cons,
            List.any_nil, Md.isWr, pureV.pureP, Option.map, reduceIte, Nat.reduceEqDiff, Nat.reduceAdd, Nat.reduceMul, Nat.reduceLT, Nat.reduceLeDiff, List.mapM_cons, List.mapM_nil,
            Option.pure_def, Option.bind_eq_bind, Option.bind_some, implies_true, forall_const, beq_self_eq_true, decide_true, decide_false, eq_self, Int.reduceEq, Int.reduceLE,
            Int.reduceLT, if_true, if_false, fc37_0, fc37_1, fc37_2, Int.reduceAdd, Int.reduceSub, Int.reduceMul, Int.reduceNeg, Int.reducePow, Nat.reducePow, Int.reduceToNat,
            Nat.reduceSub, List.replicate, Nat.reduceBEq, wAs, wA, wC, zipW, noDupN, grpE, beq_true, beq_false, g_laws_eqTurn, grpC, en0, dc_en0]
    repeat' (first
      | ((first | (refine eGI_of (fun hc => ?_) (fun hc => ?_)) | (refine eCc_of (fun hc => ?_) (fun hc => ?_)) | (have hc := True.intro; refine KW_refl ?_)) <;> (try simp only [Bool.not_eq_true', Bool.not_eq_false'] at hc) <;> (try simp only [hc, need_iff, reduceCtorEq, beq_true, beq_false, Int.reduceEq, Int.reduceLT, Int.reduceLE, true_or, or_true, Bool.not_eq_true', decide_eq_false_iff_not, Bool.not_true, Bool.not_false, Bool.false_or, Bool.true_or, Bool.true_and, Bool.false_and, Bool.and_eq_true, Bool.or_eq_true, if_true, if_false, reduceIte, Bool.false_eq_true, and_true, true_and, false_or, or_false, decide_eq_true_eq, not_false_eq_true, not_true_eq_false] at h) <;> (first | (have hc2 := hc; simp only [decide_eq_true_eq, decide_eq_false_iff_not] at hc2; (first | (replace hc2 := eq_false hc2) | (replace hc2 := eq_true hc2)); (try simp only [hc2, need_iff, reduceCtorEq, beq_true, beq_false, Int.reduceEq, Int.reduceLT, Int.reduceLE, true_or, or_true, Bool.not_eq_true', decide_eq_false_iff_not, Bool.not_true, Bool.not_false, Bool.false_or, Bool.true_or, Bool.true_and, Bool.false_and, Bool.and_eq_true, Bool.or_eq_true, if_true, if_false, reduceIte, Bool.false_eq_true, and_true, true_and, false_or, or_false, decide_eq_true_eq, not_false_eq_true, not_true_eq_false] at h); replace h := And.intro hc2 h) | (replace h := And.intro hc h) | skip) <;> simp only [hc,
      need_iff, h, grpA, vsliceS, grpS, grpD, grpF, grpL, eop, vop, bop, uop, fltop, convop, endOk, newE, new1, freshL, Md.isNew, outV, pureV, pureX, pure1, AV.cells, AV.one,
            storable, laid, refless, refless1, vload, loadC, storeC, vnil, vfaddr, vextract, flatT, flatE, flatC, vconv, vmm, vidxA, viaddrA, vfield, vlen, elemsOf, dF32, dF64,
            dI64, dU8, dBool, dStr, esOk, elemsS, vsliceX, bnd, ownV, ownC, own1, ownT, isSl, nSl, endL, Md.isOwn, purge, purgeH, purgeB, purgeE, hasName, name1, List.any_cons,
            List.any_nil, Md.isWr, pureV.pureP, Option.map, reduceIte, Nat.reduceEqDiff, Nat.reduceAdd, Nat.reduceMul, Nat.reduceLT, Nat.reduceLeDiff, List.mapM_cons, List.mapM_nil,
            Option.pure_def, Option.bind_eq_bind, Option.bind_some, implies_true, forall_const, beq_self_eq_true, decide_true, decide_false, eq_self, Int.reduceEq, Int.reduceLE,
            Int.reduceLT, if_true, if_false, fc37_0, fc37_1, fc37_2, Int.reduceAdd, Int.reduceSub, Int.reduceMul, Int.reduceNeg, Int.reducePow, Nat.reducePow, Int.reduceToNat,
            Nat.reduceSub, List.replicate, Nat.reduceBEq, wAs, wA, wC, zipW, noDupN, grpE, beq_true, beq_false, g_laws_eqTurn, grpC, en0, dc_en0]))
    all_goals (repeat (replace h := And.right h))
    all_goals first
      | (refine eA_wk (wk_norm (ks := [0, 1, 5]) (ls := []) ?_) (eA_cast ?_ (ih _ _ _ h h0 h1)); (simp only [normOk, optIn, blkIn, nameIn,
      need_iff, h, grpA, vsliceS, grpS, grpD, grpF, grpL, eop, vop, bop, uop, fltop, convop, endOk, newE, new1, freshL, Md.isNew, outV, pureV, pureX, pure1, AV.cells, AV.one,
            storable, laid, refless, refless1, vload, loadC, storeC, vnil, vfaddr, vextract, flatT, flatE, flatC, vconv, vmm, vidxA, viaddrA, vfield, vlen, elemsOf, dF32, dF64,
            dI64, dU8, dBool, dStr, esOk, elemsS, vsliceX, bnd, ownV, ownC, own1, ownT, isSl, nSl, endL, Md.isOwn, purge, purgeH, purgeB, purgeE, hasName, name1, List.any_cons,
            List.any_nil, Md.isWr, pureV.pureP, Option.map, reduceIte, Nat.reduceEqDiff, Nat.reduceAdd, Nat.reduceMul, Nat.reduceLT, Nat.reduceLeDiff, List.mapM_cons, List.mapM_nil,
            Option.pure_def, Option.bind_eq_bind, Option.bind_some, implies_true, forall_const, beq_self_eq_true, decide_true, decide_false, eq_self, Int.reduceEq, Int.reduceLE,
            Int.reduceLT, if_true, if_false, fc37_0, fc37_1, fc37_2, Int.reduceAdd, Int.reduceSub, Int.reduceMul, Int.reduceNeg, Int.reducePow, Nat.reducePow, Int.reduceToNat,
            Nat.reduceSub, List.replicate, Nat.reduceBEq, wAs, wA, wC, zipW, noDupN, grpE, beq_true, beq_false, g_laws_eqTurn, grpC, en0, dc_en0] <;> rfl); (simp only [normS, List.map_append, List.length_append, List.map_set, List.length_set, List.map_replicate, List.length_replicate, List.map_nil, List.map_cons,
      need_iff, h, grpA, vsliceS, grpS, grpD, grpF, grpL, eop, vop, bop, uop, fltop, convop, endOk, newE, new1, freshL, Md.isNew, outV, pureV, pureX, pure1, AV.cells, AV.one,
            storable, laid, refless, refless1, vload, loadC, storeC, vnil, vfaddr, vextract, flatT, flatE, flatC, vconv, vmm, vidxA, viaddrA, vfield, vlen, elemsOf, dF32, dF64,
            dI64, dU8, dBool, dStr, esOk, elemsS, vsliceX, bnd, ownV, ownC, own1, ownT, isSl, nSl, endL, Md.isOwn, purge, purgeH, purgeB, purgeE, hasName, name1, List.any_cons,
            List.any_nil, Md.isWr, pureV.pureP, Option.map, reduceIte, Nat.reduceEqDiff, Nat.reduceAdd, Nat.reduceMul, Nat.reduceLT, Nat.reduceLeDiff, List.mapM_cons, List.mapM_nil,
            Option.pure_def, Option.bind_eq_bind, Option.bind_some, implies_true, forall_const, beq_self_eq_true, decide_true, decide_false, eq_self, Int.reduceEq, Int.reduceLE,
            Int.reduceLT, if_true, if_false, fc37_0, fc37_1, fc37_2, Int.reduceAdd, Int.reduceSub, Int.reduceMul, Int.reduceNeg, Int.reducePow, Nat.reducePow, Int.reduceToNat,
            Nat.reduceSub, List.replicate, Nat.reduceBEq, wAs, wA, wC, zipW, noDupN, grpE, beq_true, beq_false, g_laws_eqTurn, grpC, en0, dc_en0] <;> first | rfl | (simp only [Nat.add_comm]; done)))
      | (cases h; refine h0 _ rfl ?_; simp only [
      grpA, vsliceS, grpS, grpD, grpF, grpL, eop, vop, bop, uop, fltop, convop, endOk, newE, new1, freshL, Md.isNew, outV, pureV, pureX, pure1, AV.cells, AV.one, storable, laid,
            refless, refless1, vload, loadC, storeC, vnil, vfaddr, vextract, flatT, flatE, flatC, vconv, vmm, vidxA, viaddrA, vfield, vlen, elemsOf, dF32, dF64, dI64, dU8, dBool,
            dStr, esOk, elemsS, vsliceX, bnd, ownV, ownC, own1, ownT, isSl, nSl, endL, Md.isOwn, purge, purgeH, purgeB, purgeE, hasName, name1, List.any_cons, List.any_nil, Md.isWr,
            pureV.pureP, Option.map, reduceIte, Nat.reduceEqDiff, Nat.reduceAdd, Nat.reduceMul, Nat.reduceLT, Nat.reduceLeDiff, List.mapM_cons, List.mapM_nil, Option.pure_def,
            Option.bind_eq_bind, Option.bind_some, implies_true, forall_const, beq_self_eq_true, decide_true, decide_false, eq_self, Int.reduceEq, Int.reduceLE, Int.reduceLT,
            if_true, if_false, fc37_0, fc37_1, fc37_2, Int.reduceAdd, Int.reduceSub, Int.reduceMul, Int.reduceNeg, Int.reducePow, Nat.reducePow, Int.reduceToNat, Nat.reduceSub,
            List.replicate, Nat.reduceBEq, wAs, wA, wC, zipW, noDupN, grpE, beq_true, beq_false, g_laws_eqTurn, grpC, en0, dc_en0])
      | (cases h; refine h1 _ rfl (Wk.cast (wk_norm (ks := []) (ls := []) ?_) ?_); (simp only [normOk, optIn, blkIn, nameIn,
      grpA, vsliceS, grpS, grpD, grpF, grpL, eop, vop, bop, uop, fltop, convop, endOk, newE, new1, freshL, Md.isNew, outV, pureV, pureX, pure1, AV.cells, AV.one, storable, laid,
            refless, refless1, vload, loadC, storeC, vnil, vfaddr, vextract, flatT, flatE, flatC, vconv, vmm, vidxA, viaddrA, vfield, vlen, elemsOf, dF32, dF64, dI64, dU8, dBool,
            dStr, esOk, elemsS, vsliceX, bnd, ownV, ownC, own1, ownT, isSl, nSl, endL, Md.isOwn, purge, purgeH, purgeB, purgeE, hasName, name1, List.any_cons, List.any_nil, Md.isWr,
            pureV.pureP, Option.map, reduceIte, Nat.reduceEqDiff, Nat.reduceAdd, Nat.reduceMul, Nat.reduceLT, Nat.reduceLeDiff, List.mapM_cons, List.mapM_nil, Option.pure_def,
            Option.bind_eq_bind, Option.bind_some, implies_true, forall_const, beq_self_eq_true, decide_true, decide_false, eq_self, Int.reduceEq, Int.reduceLE, Int.reduceLT,
            if_true, if_false, fc37_0, fc37_1, fc37_2, Int.reduceAdd, Int.reduceSub, Int.reduceMul, Int.reduceNeg, Int.reducePow, Nat.reducePow, Int.reduceToNat, Nat.reduceSub,
            List.replicate, Nat.reduceBEq, wAs, wA, wC, zipW, noDupN, grpE, beq_true, beq_false, g_laws_eqTurn, grpC, en0, dc_en0] <;> rfl); (simp only [normS, List.map_append, List.length_append, List.map_set, List.length_set, List.map_replicate, List.length_replicate,
      grpA, vsliceS, grpS, grpD, grpF, grpL, eop, vop, bop, uop, fltop, convop, endOk, newE, new1, freshL, Md.isNew, outV, pureV, pureX, pure1, AV.cells, AV.one, storable, laid,
            refless, refless1, vload, loadC, storeC, vnil, vfaddr, vextract, flatT, flatE, flatC, vconv, vmm, vidxA, viaddrA, vfield, vlen, elemsOf, dF32, dF64, dI64, dU8, dBool,
            dStr, esOk, elemsS, vsliceX, bnd, ownV, ownC, own1, ownT, isSl, nSl, endL, Md.isOwn, purge, purgeH, purgeB, purgeE, hasName, name1, List.any_cons, List.any_nil, Md.isWr,
            pureV.pureP, Option.map, reduceIte, Nat.reduceEqDiff, Nat.reduceAdd, Nat.reduceMul, Nat.reduceLT, Nat.reduceLeDiff, List.mapM_cons, List.mapM_nil, Option.pure_def,
            Option.bind_eq_bind, Option.bind_some, implies_true, forall_const, beq_self_eq_true, decide_true, decide_false, eq_self, Int.reduceEq, Int.reduceLE, Int.reduceLT,
            if_true, if_false, fc37_0, fc37_1, fc37_2, Int.reduceAdd, Int.reduceSub, Int.reduceMul, Int.reduceNeg, Int.reducePow, Nat.reducePow, Int.reduceToNat, Nat.reduceSub,
            List.replicate, Nat.reduceBEq, wAs, wA, wC, zipW, noDupN, grpE, beq_true, beq_false, g_laws_eqTurn, grpC, en0, dc_en0] <;> first | rfl | (simp only [Nat.add_comm]; done)))
theorem s37 : ∀ vs r, g_laws_eqTurnS vs = some r → SaysM Try.prog .any 37 vs r := by
  intro vs r h
  unfold g_laws_eqTurnS at h
  split at h
  · rename_i w0 w1
    cases hd_y0 : decL dc_en0 w0 with
    | none => rw [hd_y0] at h; cases h
    | some y0 =>
    rw [hd_y0] at h
    obtain rfl := decL_inv dc_en0_inv hd_y0
    clear hd_y0
    dsimp only at h
    cases hd_y1 : decL dc_en0 w1 with
    | none => rw [hd_y1] at h; cases h
    | some y1 =>
    rw [hd_y1] at h
    obtain rfl := decL_inv dc_en0_inv hd_y1
    clear hd_y1
    dsimp only at h
    split at h
    · rename_i hp
      cases h
      refine spec_of (m := .any) (tab := tabOf [(78, wM .any g_laws_eqTurn)]) (cp := cp37) (ic := ic37) (rvl := [(.t 4)]) hm (tabOk_cons (m := .any) s78 tabOk_nil) Try.func37 rfl rfl rfl (by kernel_rfl) rfl (Nat.le_of_ble_eq_true rfl) (Nat.le_of_ble_eq_true rfl) ?_
      show eA _ _ _ _
      unfold ic37
      simp only [p_laws_eqTurnS, Bool.and_eq_true, Bool.or_eq_true, decide_eq_true_eq, Bool.not_eq_true', decide_eq_false_iff_not] at hp
      simp only [
          hp, grpA, vsliceS, grpS, grpD, grpF, grpL, eop, vop, bop, uop, fltop, convop, endOk, newE, new1, freshL, Md.isNew, outV, pureV, pureX, pure1, AV.cells, AV.one, storable,
                laid, refless, refless1, vload, loadC, storeC, vnil, vfaddr, vextract, flatT, flatE, flatC, vconv, vmm, vidxA, viaddrA, vfield, vlen, elemsOf, dF32, dF64, dI64, dU8,
                dBool, dStr, esOk, elemsS, vsliceX, bnd, ownV, ownC, own1, ownT, isSl, nSl, endL, Md.isOwn, purge, purgeH, purgeB, purgeE, hasName, name1, List.any_cons,
                List.any_nil, Md.isWr, pureV.pureP, Option.map, reduceIte, Nat.reduceEqDiff, Nat.reduceAdd, Nat.reduceMul, Nat.reduceLT, Nat.reduceLeDiff, List.mapM_cons,
                List.mapM_nil, Option.pure_def, Option.bind_eq_bind, Option.bind_some, implies_true, forall_const, beq_self_eq_true, decide_true, decide_false, eq_self,
                Int.reduceEq, Int.reduceLE, Int.reduceLT, if_true, if_false, fc37_0, fc37_1, fc37_2, Int.reduceAdd, Int.reduceSub, Int.reduceMul, Int.reduceNeg, Int.reducePow,
                Nat.reducePow, Int.reduceToNat, Nat.reduceSub, List.replicate, Nat.reduceBEq, wAs, wA, wC, zipW, noDupN, grpE, beq_true, beq_false, g_laws_eqTurn, grpC, en0, dc_en0]
      repeat' (first
        | ((first | (refine eGI_of (fun h => ?_) (fun h => ?_)) | (refine eCc_of (fun h => ?_) (fun h => ?_)) | (have h := True.intro; refine KW_refl ?_)) <;> (try simp only [Bool.not_eq_true', Bool.not_eq_false'] at h) <;> (try first | exact absurd (Eq.trans (Eq.symm h) (by assumption)) Bool.false_ne_true | exact absurd (Eq.trans (Eq.symm h) (by assumption)) (Ne.symm Bool.false_ne_true)) <;> (try simp only [h, reduceCtorEq, beq_true, beq_false, Int.reduceEq, Int.reduceLT, Int.reduceLE, true_or, or_true, Bool.not_eq_true', decide_eq_false_iff_not, Bool.not_true, Bool.not_false, Bool.false_or, Bool.true_or, Bool.true_and, Bool.false_and, Bool.and_eq_true, Bool.or_eq_true, if_true, if_false, reduceIte, Bool.false_eq_true, and_true, true_and, false_or, or_false, decide_eq_true_eq, not_false_eq_true, not_true_eq_false] at hp) <;> (first | (have h2 := h; simp only [decide_eq_true_eq, decide_eq_false_iff_not] at h2; (first | (replace h2 := eq_false h2) | (replace h2 := eq_true h2)); (try simp only [h2, reduceCtorEq, beq_true, beq_false, Int.reduceEq, Int.reduceLT, Int.reduceLE, true_or, or_true, Bool.not_eq_true', decide_eq_false_iff_not, Bool.not_true, Bool.not_false, Bool.false_or, Bool.true_or, Bool.true_and, Bool.false_and, Bool.and_eq_true, Bool.or_eq_true, if_true, if_false, reduceIte, Bool.false_eq_true, and_true, true_and, false_or, or_false, decide_eq_true_eq, not_false_eq_true, not_true_eq_false] at hp); replace hp := And.intro h2 hp) | (replace hp := And.intro h hp) | skip) <;> simp only [h,
          hp, grpA, vsliceS, grpS, grpD, grpF, grpL, eop, vop, bop, uop, fltop, convop, endOk, newE, new1, freshL, Md.isNew, outV, pureV, pureX, pure1, AV.cells, AV.one, storable,
                laid, refless, refless1, vload, loadC, storeC, vnil, vfaddr, vextract, flatT, flatE, flatC, vconv, vmm, vidxA, viaddrA, vfield, vlen, elemsOf, dF32, dF64, dI64, dU8,
                dBool, dStr, esOk, elemsS, vsliceX, bnd, ownV, ownC, own1, ownT, isSl, nSl, endL, Md.isOwn, purge, purgeH, purgeB, purgeE, hasName, name1, List.any_cons,
                List.any_nil, Md.isWr, pureV.pureP, Option.map, reduceIte, Nat.reduceEqDiff, Nat.reduceAdd, Nat.reduceMul, Nat.reduceLT, Nat.reduceLeDiff, List.mapM_cons,
                List.mapM_nil, Option.pure_def, Option.bind_eq_bind, Option.bind_some, implies_true, forall_const, beq_self_eq_true, decide_true, decide_false, eq_self,
                Int.reduceEq, Int.reduceLE, Int.reduceLT, if_true, if_false, fc37_0, fc37_1, fc37_2, Int.reduceAdd, Int.reduceSub, Int.reduceMul, Int.reduceNeg, Int.reducePow,
                Nat.reducePow, Int.reduceToNat, Nat.reduceSub, List.replicate, Nat.reduceBEq, wAs, wA, wC, zipW, noDupN, grpE, beq_true, beq_false, g_laws_eqTurn, grpC, en0, dc_en0])
        | (refine eA_wk (wk_norm (ks := [0, 1, 5]) (ls := []) ?_) (eA_cast ?_ (sl37_0 y0 y1 _ _ _ _ (getD_some (d := default) (x := (l_laws_eqTurnS_0 y0 y1 (Int.toNat (((List.length y0 : Nat) : Int) - 0) + 2) 0)) ?_) ?_ ?_)); (simp only [nilS, nilV, normOk, optIn, blkIn, nameIn, 
          hp, grpA, vsliceS, grpS, grpD, grpF, grpL, eop, vop, bop, uop, fltop, convop, endOk, newE, new1, freshL, Md.isNew, outV, pureV, pureX, pure1, AV.cells, AV.one, storable,
                laid, refless, refless1, vload, loadC, storeC, vnil, vfaddr, vextract, flatT, flatE, flatC, vconv, vmm, vidxA, viaddrA, vfield, vlen, elemsOf, dF32, dF64, dI64, dU8,
                dBool, dStr, esOk, elemsS, vsliceX, bnd, ownV, ownC, own1, ownT, isSl, nSl, endL, Md.isOwn, purge, purgeH, purgeB, purgeE, hasName, name1, List.any_cons,
                List.any_nil, Md.isWr, pureV.pureP, Option.map, reduceIte, Nat.reduceEqDiff, Nat.reduceAdd, Nat.reduceMul, Nat.reduceLT, Nat.reduceLeDiff, List.mapM_cons,
                List.mapM_nil, Option.pure_def, Option.bind_eq_bind, Option.bind_some, implies_true, forall_const, beq_self_eq_true, decide_true, decide_false, eq_self,
                Int.reduceEq, Int.reduceLE, Int.reduceLT, if_true, if_false, fc37_0, fc37_1, fc37_2, Int.reduceAdd, Int.reduceSub, Int.reduceMul, Int.reduceNeg, Int.reducePow,
                Nat.reducePow, Int.reduceToNat, Nat.reduceSub, List.replicate, Nat.reduceBEq, wAs, wA, wC, zipW, noDupN, grpE, beq_true, beq_false, g_laws_eqTurn, grpC, en0, dc_en0] <;> rfl); (simp only [nilS, nilV, normS,  List.map_append, List.length_append, List.map_set, List.length_set, List.map_replicate, List.length_replicate, List.map_nil, List.map_cons,
          hp, grpA, vsliceS, grpS, grpD, grpF, grpL, eop, vop, bop, uop, fltop, convop, endOk, newE, new1, freshL, Md.isNew, outV, pureV, pureX, pure1, AV.cells, AV.one, storable,
                laid, refless, refless1, vload, loadC, storeC, vnil, vfaddr, vextract, flatT, flatE, flatC, vconv, vmm, vidxA, viaddrA, vfield, vlen, elemsOf, dF32, dF64, dI64, dU8,
                dBool, dStr, esOk, elemsS, vsliceX, bnd, ownV, ownC, own1, ownT, isSl, nSl, endL, Md.isOwn, purge, purgeH, purgeB, purgeE, hasName, name1, List.any_cons,
                List.any_nil, Md.isWr, pureV.pureP, Option.map, reduceIte, Nat.reduceEqDiff, Nat.reduceAdd, Nat.reduceMul, Nat.reduceLT, Nat.reduceLeDiff, List.mapM_cons,
                List.mapM_nil, Option.pure_def, Option.bind_eq_bind, Option.bind_some, implies_true, forall_const, beq_self_eq_true, decide_true, decide_false, eq_self,
                Int.reduceEq, Int.reduceLE, Int.reduceLT, if_true, if_false, fc37_0, fc37_1, fc37_2, Int.reduceAdd, Int.reduceSub, Int.reduceMul, Int.reduceNeg, Int.reducePow,
                Nat.reducePow, Int.reduceToNat, Nat.reduceSub, List.replicate, Nat.reduceBEq, wAs, wA, wC, zipW, noDupN, grpE, beq_true, beq_false, g_laws_eqTurn, grpC, en0, dc_en0] <;> first | rfl | (simp only [Nat.add_comm]; done)); (simp only [hp]); (
        intro st2 ht hw; simp only [Kq_ret, Kb_ret, Kl_ret, ret_ok]; first | exact h0 _ hw | exact h0 _ rfl hw | exact h1 _ rfl hw | exact h0 _ ht hw | exact h1 _ ht hw | (simp only [ht, need_iff, reduceCtorEq, beq_true, beq_false, Int.reduceEq, Int.reduceLT, Int.reduceLE, true_or, or_true, Bool.not_eq_true', decide_eq_false_iff_not, Bool.not_true, Bool.not_false, Bool.false_or, Bool.true_or, Bool.true_and, Bool.false_and, Bool.and_eq_true, Bool.or_eq_true, if_true, if_false, reduceIte, Bool.false_eq_true, and_true, true_and, false_or, or_false, decide_eq_true_eq, not_false_eq_true, not_true_eq_false] at h; (repeat (replace h := And.right h)); cases h; first | exact h0 _ hw | exact h0 _ rfl hw | exact h1 _ rfl hw) | refine ⟨_, hw, ?_⟩); rotate_left; (
        intro st2 ht hw; (try simp only [ht, reduceCtorEq, beq_true, beq_false, Int.reduceEq, Int.reduceLT, Int.reduceLE, true_or, or_true, Bool.not_eq_true', decide_eq_false_iff_not, Bool.not_true, Bool.not_false, Bool.false_or, Bool.true_or, Bool.true_and, Bool.false_and, Bool.and_eq_true, Bool.or_eq_true, if_true, if_false, reduceIte, Bool.false_eq_true, and_true, true_and, false_or, or_false, decide_eq_true_eq, not_false_eq_true, not_true_eq_false] at hp); simp only [
          hp, grpA, vsliceS, grpS, grpD, grpF, grpL, eop, vop, bop, uop, fltop, convop, endOk, newE, new1, freshL, Md.isNew, outV, pureV, pureX, pure1, AV.cells, AV.one, storable,
                laid, refless, refless1, vload, loadC, storeC, vnil, vfaddr, vextract, flatT, flatE, flatC, vconv, vmm, vidxA, viaddrA, vfield, vlen, elemsOf, dF32, dF64, dI64, dU8,
                dBool, dStr, esOk, elemsS, vsliceX, bnd, ownV, ownC, own1, ownT, isSl, nSl, endL, Md.isOwn, purge, purgeH, purgeB, purgeE, hasName, name1, List.any_cons,
                List.any_nil, Md.isWr, pureV.pureP, Option.map, reduceIte, Nat.reduceEqDiff, Nat.reduceAdd, Nat.reduceMul, Nat.reduceLT, Nat.reduceLeDiff, List.mapM_cons,
                List.mapM_nil, Option.pure_def, Option.bind_eq_bind, Option.bind_some, implies_true, forall_const, beq_self_eq_true, decide_true, decide_false, eq_self,
                Int.reduceEq, Int.reduceLE, Int.reduceLT, if_true, if_false, fc37_0, fc37_1, fc37_2, Int.reduceAdd, Int.reduceSub, Int.reduceMul, Int.reduceNeg, Int.reducePow,
                Nat.reducePow, Int.reduceToNat, Nat.reduceSub, List.replicate, Nat.reduceBEq, wAs, wA, wC, zipW, noDupN, grpE, beq_true, beq_false, g_laws_eqTurn, grpC, en0, dc_en0]; refine KW_of hw ?_; simp only [ht, 
          hp, grpA, vsliceS, grpS, grpD, grpF, grpL, eop, vop, bop, uop, fltop, convop, endOk, newE, new1, freshL, Md.isNew, outV, pureV, pureX, pure1, AV.cells, AV.one, storable,
                laid, refless, refless1, vload, loadC, storeC, vnil, vfaddr, vextract, flatT, flatE, flatC, vconv, vmm, vidxA, viaddrA, vfield, vlen, elemsOf, dF32, dF64, dI64, dU8,
                dBool, dStr, esOk, elemsS, vsliceX, bnd, ownV, ownC, own1, ownT, isSl, nSl, endL, Md.isOwn, purge, purgeH, purgeB, purgeE, hasName, name1, List.any_cons,
                List.any_nil, Md.isWr, pureV.pureP, Option.map, reduceIte, Nat.reduceEqDiff, Nat.reduceAdd, Nat.reduceMul, Nat.reduceLT, Nat.reduceLeDiff, List.mapM_cons,
                List.mapM_nil, Option.pure_def, Option.bind_eq_bind, Option.bind_some, implies_true, forall_const, beq_self_eq_true, decide_true, decide_false, eq_self,
                Int.reduceEq, Int.reduceLE, Int.reduceLT, if_true, if_false, fc37_0, fc37_1, fc37_2, Int.reduceAdd, Int.reduceSub, Int.reduceMul, Int.reduceNeg, Int.reducePow,
                Nat.reducePow, Int.reduceToNat, Nat.reduceSub, List.replicate, Nat.reduceBEq, wAs, wA, wC, zipW, noDupN, grpE, beq_true, beq_false, g_laws_eqTurn, grpC, en0, dc_en0])))
      all_goals (try simp only [*, m_laws_eqTurnS, Bool.and_true, Bool.true_and, Bool.and_false, Bool.false_and, Bool.or_true, Bool.true_or, Bool.or_false, Bool.false_or, Bool.not_true, Bool.not_false, Bool.false_eq_true, if_true, if_false, reduceIte, decide_true, decide_false])
      all_goals (try (simp_all; done))
    · cases h
  · cases h
def m_laws_eqPose (x0 : (Nat × Nat × Nat × (List (Nat × Nat × Nat × Nat)))) (x1 : (Nat × Nat × Nat × (List (Nat × Nat × Nat × Nat)))) : Bool := (if (m_laws_eqVector (x0.1, x0.2.1,
      x0.2.2.1) (x1.1, x1.2.1, x1.2.2.1)) = true then (if (m_laws_eqTurnS x0.2.2.2 x1.2.2.2) = true then true else false) else false)
def p_laws_eqPose (x0 : (Nat × Nat × Nat × (List (Nat × Nat × Nat × Nat)))) (x1 : (Nat × Nat × Nat × (List (Nat × Nat × Nat × Nat)))) : Bool := (!(m_laws_eqVector (x0.1, x0.2.1,
      x0.2.2.1) (x1.1, x1.2.1, x1.2.2.1)) || (p_laws_eqTurnS x0.2.2.2 x1.2.2.2))
def g_laws_eqPose : List AV → Option AV
  | [.agg [.flt .f32 y0, .flt .f32 y1, .flt .f32 y2, .sl w3], .agg [.flt .f32 y4, .flt .f32 y5, .flt .f32 y6, .sl w7]] => (match decL dc_en0 w3 with | some y3 => ((match decL dc_en0 w7 with | some y7 => (if p_laws_eqPose (y0, y1, y2, y3) (y4, y5, y6, y7) = true then some (.bool (m_laws_eqPose (y0, y1, y2, y3) (y4, y5, y6, y7))) else none) | none => none)) | none => none)
  | _ => none
def ic27 : ICode := (.seq (.reg [⟨(some 2), none, (.box 4 (.t 0))⟩, ⟨(some 3), none, (.box 4 (.t 1))⟩, ⟨(some 4), none, (.mov (.c (.bool false)))⟩] [2, 3]) (.seq (.seq (.reg [⟨(some
      5), none, (.faddr 0 (.t 2))⟩, ⟨(some 6), none, (.load (some 3) (.t 5))⟩, ⟨(some 7), none, (.faddr 0 (.t 3))⟩, ⟨(some 8), none, (.load (some 3) (.t 7))⟩, ⟨(some 9), none,
      (.call (.fn 71) [(.t 6), (.t 8)] [])⟩, ⟨(some 10), none, (.un .not (.t 9))⟩] [2, 3, 10]) (.cond (.t 10) (.seq (.reg [⟨(some 4), none, (.mov (.c (.bool false)))⟩] [4]) .ret)
      .skip)) (.seq (.seq (.reg [⟨(some 11), none, (.faddr 3 (.t 2))⟩, ⟨(some 12), none, (.load none (.t 11))⟩, ⟨(some 13), none, (.faddr 3 (.t 3))⟩, ⟨(some 14), none, (.load none
      (.t 13))⟩, ⟨(some 15), none, (.call (.fn 37) [(.t 12), (.t 14)] [])⟩, ⟨(some 16), none, (.un .not (.t 15))⟩] [16]) (.cond (.t 16) (.seq (.reg [⟨(some 4), none, (.mov (.c
      (.bool false)))⟩] [4]) .ret) .skip)) (.seq (.reg [⟨(some 4), none, (.mov (.c (.bool true)))⟩] [4]) .ret))))
def cp27 : CP := CP.mk [] [] [[2, 3], [2, 3, 10], [4], [16], [4], [4]] 17 [] []
theorem fc27_0 : IntKind.wrap .i64 1 = 1 := by decide
theorem fc27_1 : IntKind.wrap .i64 2 = 2 := by decide
theorem fc27_2 : IntKind.wrap .i64 3 = 3 := by decide
theorem s27 : ∀ vs r, g_laws_eqPose vs = some r → SaysM Try.prog .any 27 vs r := by
  intro vs r h
  unfold g_laws_eqPose at h
  split at h
  · rename_i y0 y1 y2 w3 y4 y5 y6 w7
    cases hd_y3 : decL dc_en0 w3 with
    | none => rw [hd_y3] at h; cases h
    | some y3 =>
    rw [hd_y3] at h
    obtain rfl := decL_inv dc_en0_inv hd_y3
    clear hd_y3
    dsimp only at h
    cases hd_y7 : decL dc_en0 w7 with
    | none => rw [hd_y7] at h; cases h
    | some y7 =>
    rw [hd_y7] at h
    obtain rfl := decL_inv dc_en0_inv hd_y7
    clear hd_y7
    dsimp only at h
    split at h
    · rename_i hp
      cases h
      refine spec_of (m := .any) (tab := tabOf [(37, wM .any g_laws_eqTurnS), (71, wM .any g_laws_eqVector)]) (cp := cp27) (ic := ic27) (rvl := [(.t 4)]) hm (tabOk_cons (m := .any) s37 (tabOk_cons (m := .any) s71 tabOk_nil)) Try.func27 rfl rfl rfl (by kernel_rfl) rfl (Nat.le_of_ble_eq_true rfl) (Nat.le_of_ble_eq_true rfl) ?_
      show eA _ _ _ _
      unfold ic27
      simp only [p_laws_eqPose, Bool.and_eq_true, Bool.or_eq_true, decide_eq_true_eq, Bool.not_eq_true', decide_eq_false_iff_not] at hp
      simp only [
          hp, grpA, vsliceS, grpS, grpD, grpF, grpL, eop, vop, bop, uop, fltop, convop, endOk, newE, new1, freshL, Md.isNew, outV, pureV, pureX, pure1, AV.cells, AV.one, storable,
                laid, refless, refless1, vload, loadC, storeC, vnil, vfaddr, vextract, flatT, flatE, flatC, vconv, vmm, vidxA, viaddrA, vfield, vlen, elemsOf, dF32, dF64, dI64, dU8,
                dBool, dStr, esOk, elemsS, vsliceX, bnd, ownV, ownC, own1, ownT, isSl, nSl, endL, Md.isOwn, purge, purgeH, purgeB, purgeE, hasName, name1, List.any_cons,
                List.any_nil, Md.isWr, pureV.pureP, Option.map, reduceIte, Nat.reduceEqDiff, Nat.reduceAdd, Nat.reduceMul, Nat.reduceLT, Nat.reduceLeDiff, List.mapM_cons,
                List.mapM_nil, Option.pure_def, Option.bind_eq_bind, Option.bind_some, implies_true, forall_const, beq_self_eq_true, decide_true, decide_false, eq_self,
                Int.reduceEq, Int.reduceLE, Int.reduceLT, if_true, if_false, fc27_0, fc27_1, fc27_2, Int.reduceAdd, Int.reduceSub, Int.reduceMul, Int.reduceNeg, Int.reducePow,
                Nat.reducePow, Int.reduceToNat, Nat.reduceSub, List.replicate, Nat.reduceBEq, wAs, wA, wC, zipW, noDupN, grpE, beq_true, beq_false, g_laws_eqTurnS, g_laws_eqVector,
                grpC, en0, dc_en0]
      repeat' (first
        | ((first | (refine eGI_of (fun h => ?_) (fun h => ?_)) | (refine eCc_of (fun h => ?_) (fun h => ?_))) <;> (try simp only [Bool.not_eq_true', Bool.not_eq_false'] at h) <;> (try first | exact absurd (Eq.trans (Eq.symm h) (by assumption)) Bool.false_ne_true | exact absurd (Eq.trans (Eq.symm h) (by assumption)) (Ne.symm Bool.false_ne_true)) <;> (try simp only [h, reduceCtorEq, beq_true, beq_false, Int.reduceEq, Int.reduceLT, Int.reduceLE, true_or, or_true, Bool.not_eq_true', decide_eq_false_iff_not, Bool.not_true, Bool.not_false, Bool.false_or, Bool.true_or, Bool.true_and, Bool.false_and, Bool.and_eq_true, Bool.or_eq_true, if_true, if_false, reduceIte, Bool.false_eq_true, and_true, true_and, false_or, or_false, decide_eq_true_eq, not_false_eq_true, not_true_eq_false] at hp) <;> (first | (have h2 := h; simp only [decide_eq_true_eq, decide_eq_false_iff_not] at h2; (first | (replace h2 := eq_false h2) | (replace h2 := eq_true h2)); (try simp only [h2, reduceCtorEq, beq_true, beq_false, Int.reduceEq, Int.reduceLT, Int.reduceLE, true_or, or_true, Bool.not_eq_true', decide_eq_false_iff_not, Bool.not_true, Bool.not_false, Bool.false_or, Bool.true_or, Bool.true_and, Bool.false_and, Bool.and_eq_true, Bool.or_eq_true, if_true, if_false, reduceIte, Bool.false_eq_true, and_true, true_and, false_or, or_false, decide_eq_true_eq, not_false_eq_true, not_true_eq_false] at hp); replace hp := And.intro h2 hp) | (replace hp := And.intro h hp) | skip) <;> simp only [h,
          hp, grpA, vsliceS, grpS, grpD, grpF, grpL, eop, vop, bop, uop, fltop, convop, endOk, newE, new1, freshL, Md.isNew, outV, pureV, pureX, pure1, AV.cells, AV.one, storable,
                laid, refless, refless1, vload, loadC, storeC, vnil, vfaddr, vextract, flatT, flatE, flatC, vconv, vmm, vidxA, viaddrA, vfield, vlen, elemsOf, dF32, dF64, dI64, dU8,
                dBool, dStr, esOk, elemsS, vsliceX, bnd, ownV, ownC, own1, ownT, isSl, nSl, endL, Md.isOwn, purge, purgeH, purgeB, purgeE, hasName, name1, List.any_cons,
                List.any_nil, Md.isWr, pureV.pureP, Option.map, reduceIte, Nat.reduceEqDiff, Nat.reduceAdd, Nat.reduceMul, Nat.reduceLT, Nat.reduceLeDiff, List.mapM_cons,
                List.mapM_nil, Option.pure_def, Option.bind_eq_bind, Option.bind_some, implies_true, forall_const, beq_self_eq_true, decide_true, decide_false, eq_self,
                Int.reduceEq, Int.reduceLE, Int.reduceLT, if_true, if_false, fc27_0, fc27_1, fc27_2, Int.reduceAdd, Int.reduceSub, Int.reduceMul, Int.reduceNeg, Int.reducePow,
                Nat.reducePow, Int.reduceToNat, Nat.reduceSub, List.replicate, Nat.reduceBEq, wAs, wA, wC, zipW, noDupN, grpE, beq_true, beq_false, g_laws_eqTurnS, g_laws_eqVector,
                grpC, en0, dc_en0]))
      all_goals (try simp only [*, m_laws_eqPose, Bool.and_true, Bool.true_and, Bool.and_false, Bool.false_and, Bool.or_true, Bool.true_or, Bool.or_false, Bool.false_or, Bool.not_true, Bool.not_false, Bool.false_eq_true, if_true, if_false, reduceIte, decide_true, decide_false])
      all_goals (try (simp_all; done))
    · cases h
  · cases h
def l_laws_markTurnS_0 : Nat → (List (Nat × Nat × Nat × Nat)) → Int → Int → Option (Int × (List (Nat × Nat × Nat × Nat)))
  | 0, _, _, _ => none
  | n + 1, z0_0, z0_1, z0_2 => (if (decide (z0_2 < (((List.length z0_0) : Nat) : Int))) = true then (need (inB z0_2 (List.length z0_0)) (l_laws_markTurnS_0 n (List.set z0_0
        (Int.toNat z0_2) ((ofInt .f32 z0_1), (ofInt .f32 (IntKind.wrap .i64 (z0_1 + 1))), (ofInt .f32 (IntKind.wrap .i64 ((IntKind.wrap .i64 (z0_1 + 1)) + 1))), (ofInt .f32
        (IntKind.wrap .i64 ((IntKind.wrap .i64 ((IntKind.wrap .i64 (z0_1 + 1)) + 1)) + 1))))) (IntKind.wrap .i64 ((IntKind.wrap .i64 ((IntKind.wrap .i64 ((IntKind.wrap .i64 (z0_1 +
        1)) + 1)) + 1)) + 1)) (IntKind.wrap .i64 (z0_2 + 1)))) else (some (z0_1, z0_0)))
def m_laws_markTurnS (x0 : (List (Nat × Nat × Nat × Nat))) (x1 : Int) : (Int × (List (Nat × Nat × Nat × Nat))) := (Option.getD (l_laws_markTurnS_0 (Int.toNat ((((List.length x0) :
      Nat) : Int) - 0) + 2) x0 x1 0) default)
def p_laws_markTurnS (x0 : (List (Nat × Nat × Nat × Nat))) (x1 : Int) : Bool := ((Option.isSome (l_laws_markTurnS_0 (Int.toNat ((((List.length x0) : Nat) : Int) - 0) + 2) x0 x1 0))
      && (decide (List.length (Option.getD (l_laws_markTurnS_0 (Int.toNat ((((List.length x0) : Nat) : Int) - 0) + 2) x0 x1 0) default).2 = List.length x0)))
def g_laws_markTurnS : List AV → Option (AV × Md)
  | [.sl w0, .int .i64 y1] => (match decL dc_en0 w0 with | some y0 => (if p_laws_markTurnS y0 y1 = true then some ((.int .i64 (m_laws_markTurnS y0 y1).1), .wr [4] [List.map en0 (m_laws_markTurnS y0 y1).2]) else none) | none => none)
  | _ => none
def lb38_0 : ICode := (.seq (.seq (.reg [⟨(some 6), none, (.mov (.t 5))⟩, ⟨(some 7), none, (.mov (.t 0))⟩, ⟨(some 8), none, (.len false (.t 7))⟩, ⟨(some 9), none, (.bin .lss false
      (.t 6) (.t 8))⟩] [0, 1, 5, 9]) (.cond (.t 9) .skip (.exit 0))) (.seq (.block 1 (.seq (.reg [⟨(some 12), none, (.mov (.t 0))⟩, ⟨(some 13), none, (.mov (.t 5))⟩, ⟨(some 14),
      none, (.mov (.t 1))⟩, ⟨(some 15), none, (.conv (.flt .f32) (.t 14))⟩, ⟨(some 16), none, (.iaddrS 4 (.t 12) (.t 13))⟩, ⟨(some 17), none, (.faddr 0 (.t 16))⟩, ⟨none, none,
      (.store 1 (.t 17) (.t 15))⟩] [0, 1, 5]) (.seq (.reg [⟨(some 18), none, (.mov (.t 1))⟩, ⟨(some 19), none, (.bin .add false (.t 18) (.c (.int .i64 1)))⟩, ⟨(some 1), none, (.mov
      (.t 19))⟩] [0, 1, 5]) (.seq (.reg [⟨(some 20), none, (.mov (.t 0))⟩, ⟨(some 21), none, (.mov (.t 5))⟩, ⟨(some 22), none, (.mov (.t 1))⟩, ⟨(some 23), none, (.conv (.flt .f32)
      (.t 22))⟩, ⟨(some 24), none, (.iaddrS 4 (.t 20) (.t 21))⟩, ⟨(some 25), none, (.faddr 1 (.t 24))⟩, ⟨none, none, (.store 1 (.t 25) (.t 23))⟩] [0, 1, 5]) (.seq (.reg [⟨(some 26),
      none, (.mov (.t 1))⟩, ⟨(some 27), none, (.bin .add false (.t 26) (.c (.int .i64 1)))⟩, ⟨(some 1), none, (.mov (.t 27))⟩] [0, 1, 5]) (.seq (.reg [⟨(some 28), none, (.mov (.t
      0))⟩, ⟨(some 29), none, (.mov (.t 5))⟩, ⟨(some 30), none, (.mov (.t 1))⟩, ⟨(some 31), none, (.conv (.flt .f32) (.t 30))⟩, ⟨(some 32), none, (.iaddrS 4 (.t 28) (.t 29))⟩,
      ⟨(some 33), none, (.faddr 2 (.t 32))⟩, ⟨none, none, (.store 1 (.t 33) (.t 31))⟩] [0, 1, 5]) (.seq (.reg [⟨(some 34), none, (.mov (.t 1))⟩, ⟨(some 35), none, (.bin .add false
      (.t 34) (.c (.int .i64 1)))⟩, ⟨(some 1), none, (.mov (.t 35))⟩] [0, 1, 5]) (.seq (.reg [⟨(some 36), none, (.mov (.t 0))⟩, ⟨(some 37), none, (.mov (.t 5))⟩, ⟨(some 38), none,
      (.mov (.t 1))⟩, ⟨(some 39), none, (.conv (.flt .f32) (.t 38))⟩, ⟨(some 40), none, (.iaddrS 4 (.t 36) (.t 37))⟩, ⟨(some 41), none, (.faddr 3 (.t 40))⟩, ⟨none, none, (.store 1
      (.t 41) (.t 39))⟩] [0, 1, 5]) (.reg [⟨(some 42), none, (.mov (.t 1))⟩, ⟨(some 43), none, (.bin .add false (.t 42) (.c (.int .i64 1)))⟩, ⟨(some 1), none, (.mov (.t 43))⟩] [0,
      1, 5]))))))))) (.reg [⟨(some 10), none, (.mov (.t 5))⟩, ⟨(some 11), none, (.bin .add false (.t 10) (.c (.int .i64 1)))⟩, ⟨(some 5), none, (.mov (.t 11))⟩] [0, 1, 5])))
def ic38 : ICode := (.seq (.reg [⟨(some 4), none, (.mov (.c (.int .i64 0)))⟩] [0, 1]) (.seq (.seq (.reg [⟨(some 5), none, (.mov (.c (.int .i64 0)))⟩] [0, 1, 5]) (.block 0 (.loop
      lb38_0))) (.seq (.reg [⟨(some 44), none, (.mov (.t 1))⟩, ⟨(some 4), none, (.mov (.t 44))⟩] [0, 4]) .ret)))
def cp38 : CP := CP.mk [] [] [[0, 1], [0, 1, 5], [0, 1, 5, 9], [0, 1, 5], [0, 1, 5], [0, 1, 5], [0, 1, 5], [0, 1, 5], [0, 1, 5], [0, 1, 5], [0, 1, 5], [0, 1, 5], [0, 4]] 45 [] []
theorem fc38_0 : IntKind.wrap .i64 1 = 1 := by decide
theorem fc38_1 : IntKind.wrap .i64 2 = 2 := by decide
theorem fc38_2 : IntKind.wrap .i64 3 = 3 := by decide
theorem sl38_0 : ∀ (n : Nat) (z0_0 : (List (Nat × Nat × Nat × Nat))) (z0_1 : Int) (z0_2 : Int) (o : (Int × (List (Nat × Nat × Nat × Nat)))) (K : IExit → St → Prop),
      l_laws_markTurnS_0 n z0_0 z0_1 z0_2 = some o → (∀ st, Wk st (⟨[(0, (.lsl 1000000 0 (List.length o.2))), (1, (.int .i64 o.1))], [(1000000, (some ⟨4, true, (List.map en0
      o.2)⟩))]⟩ : St) → K (.exit 0) st) → eA (tabOf []) (.loop lb38_0) (⟨[(0, (.lsl 1000000 0 (List.length z0_0))), (1, (.int .i64 z0_1)), (5, (.int .i64 z0_2))], [(1000000, (some
      ⟨4, true, (List.map en0 z0_0)⟩))]⟩ : St) K := by
  intro n
  induction n with
  | zero =>
    intro z0_0 z0_1 z0_2 o K h h0
    simp only [l_laws_markTurnS_0, reduceCtorEq] at h
  | succ n ih =>
    intro z0_0 z0_1 z0_2 o K h h0
    refine eA_loop ?_
    unfold lb38_0
    unfold l_laws_markTurnS_0 at h
    (try simp only [need_iff] at h)
    simp only [
      need_iff, h, grpA, vsliceS, grpS, grpD, grpF, grpL, eop, vop, bop, uop, fltop, convop, endOk, newE, new1, freshL, Md.isNew, outV, pureV, pureX, pure1, AV.cells, AV.one,
            storable, laid, refless, refless1, vload, loadC, storeC, vnil, vfaddr, vextract, flatT, flatE, flatC, vconv, vmm, vidxA, viaddrA, vfield, vlen, elemsOf, dF32, dF64,
            dI64, dU8, dBool, dStr, esOk, elemsS, vsliceX, bnd, ownV, ownC, own1, ownT, isSl, nSl, endL, Md.isOwn, purge, purgeH, purgeB, purgeE, hasName, name1, List.any_cons,
            List.any_nil, Md.isWr, pureV.pureP, Option.map, reduceIte, Nat.reduceEqDiff, Nat.reduceAdd, Nat.reduceMul, Nat.reduceLT, Nat.reduceLeDiff, List.mapM_cons, List.mapM_nil,
            Option.pure_def, Option.bind_eq_bind, Option.bind_some, implies_true, forall_const, beq_self_eq_true, decide_true, decide_false, eq_self, Int.reduceEq, Int.reduceLE,
            Int.reduceLT, if_true, if_false, fc38_0, fc38_1, fc38_2, Int.reduceAdd, Int.reduceSub, Int.reduceMul, Int.reduceNeg, Int.reducePow, Nat.reducePow, Int.reduceToNat,
            Nat.reduceSub, List.replicate, Nat.reduceBEq, wAs, wA, wC, zipW, noDupN, grpE, beq_true, beq_false, grpC, en0, dc_en0]
    repeat' (first
      | ((first | (refine eGI_of (fun hc => ?_) (fun hc => ?_)) | (refine eCc_of (fun hc => ?_) (fun hc => ?_)) | (have hc := True.intro; refine KW_refl ?_)) <;> (try simp only [Bool.not_eq_true', Bool.not_eq_false'] at hc) <;> (try simp only [hc, need_iff, reduceCtorEq, beq_true, beq_false, Int.reduceEq, Int.reduceLT, Int.reduceLE, true_or, or_true, Bool.not_eq_true', decide_eq_false_iff_not, Bool.not_true, Bool.not_false, Bool.false_or, Bool.true_or, Bool.true_and, Bool.false_and, Bool.and_eq_true, Bool.or_eq_true, if_true, if_false, reduceIte, Bool.false_eq_true, and_true, true_and, false_or, or_false, decide_eq_true_eq, not_false_eq_true, not_true_eq_false] at h) <;> (first | (have hc2 := hc; simp only [decide_eq_true_eq, decide_eq_false_iff_not] at hc2; (first | (replace hc2 := eq_false hc2) | (replace hc2 := eq_true hc2)); (try simp only [hc2, need_iff, reduceCtorEq, beq_true, beq_false, Int.reduceEq, Int.reduceLT, Int.reduceLE, true_or, or_true, Bool.not_eq_true', decide_eq_false_iff_not, Bool.not_true, Bool.not_false, Bool.false_or, Bool.true_or, Bool.true_and, Bool.false_and, Bool.and_eq_true, Bool.or_eq_true, if_true, if_false, reduceIte, Bool.false_eq_true, and_true, true_and, false_or, or_false, decide_eq_true_eq, not_false_eq_true, not_true_eq_false] at h); replace h := And.intro hc2 h) | (replace h := And.intro hc h) | skip) <;> simp only [hc,
      need_iff, h, grpA, vsliceS, grpS, grpD, grpF, grpL, eop, vop, bop, uop, fltop, convop, endOk, newE, new1, freshL, Md.isNew, outV, pureV, pureX, pure1, AV.cells, AV.one,
            storable, laid, refless, refless1, vload, loadC, storeC, vnil, vfaddr, vextract, flatT, flatE, flatC, vconv, vmm, vidxA, viaddrA, vfield, vlen, elemsOf, dF32, dF64,
            dI64, dU8, dBool, dStr, esOk, elemsS, vsliceX, bnd, ownV, ownC, own1, ownT, isSl, nSl, endL, Md.isOwn, purge, purgeH, purgeB, purgeE, hasName, name1, List.any_cons,
            List.any_nil, Md.isWr, pureV.pureP, Option.map, reduceIte, Nat.reduceEqDiff, Nat.reduceAdd, Nat.reduceMul, Nat.reduceLT, Nat.reduceLeDiff, List.mapM_cons, List.mapM_nil,
            Option.pure_def, Option.bind_eq_bind, Option.bind_some, implies_true, forall_const, beq_self_eq_true, decide_true, decide_false, eq_self, Int.reduceEq, Int.reduceLE,
            Int.reduceLT, if_true, if_false, fc38_0, fc38_1, fc38_2, Int.reduceAdd, Int.reduceSub, Int.reduceMul, Int.reduceNeg, Int.reducePow, Nat.reducePow, Int.reduceToNat,
            Nat.reduceSub, List.replicate, Nat.reduceBEq, wAs, wA, wC, zipW, noDupN, grpE, beq_true, beq_false, grpC, en0, dc_en0]))
    all_goals (repeat (replace h := And.right h))
    all_goals first
      | (refine eA_wk (wk_norm (ks := [0, 1, 5]) (ls := [1000000]) ?_) (eA_cast ?_ (ih _ _ _ _ _ h h0)); (simp only [normOk, optIn, blkIn, nameIn,
      need_iff, h, grpA, vsliceS, grpS, grpD, grpF, grpL, eop, vop, bop, uop, fltop, convop, endOk, newE, new1, freshL, Md.isNew, outV, pureV, pureX, pure1, AV.cells, AV.one,
            storable, laid, refless, refless1, vload, loadC, storeC, vnil, vfaddr, vextract, flatT, flatE, flatC, vconv, vmm, vidxA, viaddrA, vfield, vlen, elemsOf, dF32, dF64,
            dI64, dU8, dBool, dStr, esOk, elemsS, vsliceX, bnd, ownV, ownC, own1, ownT, isSl, nSl, endL, Md.isOwn, purge, purgeH, purgeB, purgeE, hasName, name1, List.any_cons,
            List.any_nil, Md.isWr, pureV.pureP, Option.map, reduceIte, Nat.reduceEqDiff, Nat.reduceAdd, Nat.reduceMul, Nat.reduceLT, Nat.reduceLeDiff, List.mapM_cons, List.mapM_nil,
            Option.pure_def, Option.bind_eq_bind, Option.bind_some, implies_true, forall_const, beq_self_eq_true, decide_true, decide_false, eq_self, Int.reduceEq, Int.reduceLE,
            Int.reduceLT, if_true, if_false, fc38_0, fc38_1, fc38_2, Int.reduceAdd, Int.reduceSub, Int.reduceMul, Int.reduceNeg, Int.reducePow, Nat.reducePow, Int.reduceToNat,
            Nat.reduceSub, List.replicate, Nat.reduceBEq, wAs, wA, wC, zipW, noDupN, grpE, beq_true, beq_false, grpC, en0, dc_en0] <;> rfl); (simp only [normS, List.map_append, List.length_append, List.map_set, List.length_set, List.map_replicate, List.length_replicate, List.map_nil, List.map_cons,
      need_iff, h, grpA, vsliceS, grpS, grpD, grpF, grpL, eop, vop, bop, uop, fltop, convop, endOk, newE, new1, freshL, Md.isNew, outV, pureV, pureX, pure1, AV.cells, AV.one,
            storable, laid, refless, refless1, vload, loadC, storeC, vnil, vfaddr, vextract, flatT, flatE, flatC, vconv, vmm, vidxA, viaddrA, vfield, vlen, elemsOf, dF32, dF64,
            dI64, dU8, dBool, dStr, esOk, elemsS, vsliceX, bnd, ownV, ownC, own1, ownT, isSl, nSl, endL, Md.isOwn, purge, purgeH, purgeB, purgeE, hasName, name1, List.any_cons,
            List.any_nil, Md.isWr, pureV.pureP, Option.map, reduceIte, Nat.reduceEqDiff, Nat.reduceAdd, Nat.reduceMul, Nat.reduceLT, Nat.reduceLeDiff, List.mapM_cons, List.mapM_nil,
            Option.pure_def, Option.bind_eq_bind, Option.bind_some, implies_true, forall_const, beq_self_eq_true, decide_true, decide_false, eq_self, Int.reduceEq, Int.reduceLE,
            Int.reduceLT, if_true, if_false, fc38_0, fc38_1, fc38_2, Int.reduceAdd, Int.reduceSub, Int.reduceMul, Int.reduceNeg, Int.reducePow, Nat.reducePow, Int.reduceToNat,
            Nat.reduceSub, List.replicate, Nat.reduceBEq, wAs, wA, wC, zipW, noDupN, grpE, beq_true, beq_false, grpC, en0, dc_en0] <;> first | rfl | (simp only [Nat.add_comm]; done)))
      | (cases h; refine h0 _ (Wk.cast (wk_norm (ks := [0, 1]) (ls := [1000000]) ?_) ?_); (simp only [normOk, optIn, blkIn, nameIn,
      grpA, vsliceS, grpS, grpD, grpF, grpL, eop, vop, bop, uop, fltop, convop, endOk, newE, new1, freshL, Md.isNew, outV, pureV, pureX, pure1, AV.cells, AV.one, storable, laid,
            refless, refless1, vload, loadC, storeC, vnil, vfaddr, vextract, flatT, flatE, flatC, vconv, vmm, vidxA, viaddrA, vfield, vlen, elemsOf, dF32, dF64, dI64, dU8, dBool,
            dStr, esOk, elemsS, vsliceX, bnd, ownV, ownC, own1, ownT, isSl, nSl, endL, Md.isOwn, purge, purgeH, purgeB, purgeE, hasName, name1, List.any_cons, List.any_nil, Md.isWr,
            pureV.pureP, Option.map, reduceIte, Nat.reduceEqDiff, Nat.reduceAdd, Nat.reduceMul, Nat.reduceLT, Nat.reduceLeDiff, List.mapM_cons, List.mapM_nil, Option.pure_def,
            Option.bind_eq_bind, Option.bind_some, implies_true, forall_const, beq_self_eq_true, decide_true, decide_false, eq_self, Int.reduceEq, Int.reduceLE, Int.reduceLT,
            if_true, if_false, fc38_0, fc38_1, fc38_2, Int.reduceAdd, Int.reduceSub, Int.reduceMul, Int.reduceNeg, Int.reducePow, Nat.reducePow, Int.reduceToNat, Nat.reduceSub,
            List.replicate, Nat.reduceBEq, wAs, wA, wC, zipW, noDupN, grpE, beq_true, beq_false, grpC, en0, dc_en0] <;> rfl); (simp only [normS, List.map_append, List.length_append, List.map_set, List.length_set, List.map_replicate, List.length_replicate,
      grpA, vsliceS, grpS, grpD, grpF, grpL, eop, vop, bop, uop, fltop, convop, endOk, newE, new1, freshL, Md.isNew, outV, pureV, pureX, pure1, AV.cells, AV.one, storable, laid,
            refless, refless1, vload, loadC, storeC, vnil, vfaddr, vextract, flatT, flatE, flatC, vconv, vmm, vidxA, viaddrA, vfield, vlen, elemsOf, dF32, dF64, dI64, dU8, dBool,
            dStr, esOk, elemsS, vsliceX, bnd, ownV, ownC, own1, ownT, isSl, nSl, endL, Md.isOwn, purge, purgeH, purgeB, purgeE, hasName, name1, List.any_cons, List.any_nil, Md.isWr,
            pureV.pureP, Option.map, reduceIte, Nat.reduceEqDiff, Nat.reduceAdd, Nat.reduceMul, Nat.reduceLT, Nat.reduceLeDiff, List.mapM_cons, List.mapM_nil, Option.pure_def,
            Option.bind_eq_bind, Option.bind_some, implies_true, forall_const, beq_self_eq_true, decide_true, decide_false, eq_self, Int.reduceEq, Int.reduceLE, Int.reduceLT,
            if_true, if_false, fc38_0, fc38_1, fc38_2, Int.reduceAdd, Int.reduceSub, Int.reduceMul, Int.reduceNeg, Int.reducePow, Nat.reducePow, Int.reduceToNat, Nat.reduceSub,
            List.replicate, Nat.reduceBEq, wAs, wA, wC, zipW, noDupN, grpE, beq_true, beq_false, grpC, en0, dc_en0] <;> first | rfl | (simp only [Nat.add_comm]; done)))
theorem s38 : ∀ vs r m, g_laws_markTurnS vs = some (r, m) → SaysX Try.prog m 38 vs r := by
  intro vs r m h
  unfold g_laws_markTurnS at h
  split at h
  · rename_i w0 y1
    cases hd_y0 : decL dc_en0 w0 with
    | none => rw [hd_y0] at h; cases h
    | some y0 =>
    rw [hd_y0] at h
    obtain rfl := decL_inv dc_en0_inv hd_y0
    clear hd_y0
    dsimp only at h
    split at h
    · rename_i hp
      cases h
      have hz : zipW [(1000000, ⟨4, true, List.map en0 y0⟩)] [List.map en0 (m_laws_markTurnS y0 y1).2] = some [(1000000, ⟨4, true, List.map en0 (m_laws_markTurnS y0 y1).2⟩)] := by simp only [zipW, List.map_cons, List.map_nil, List.length_map, m_laws_markTurnS, p_laws_markTurnS, Bool.and_eq_true, decide_eq_true_eq] at hp ⊢; simp only [hp, if_true]
      refine spec_ofW (tab := tabOf []) (cp := cp38) (ic := ic38) (rvl := [(.t 4)]) (H := [(1000000, ⟨4, true, List.map en0 y0⟩)]) (H' := [(1000000, ⟨4, true, List.map en0 (m_laws_markTurnS y0 y1).2⟩)]) hm tabOk_nil Try.func38 rfl rfl rfl (by kernel_rfl) rfl (Nat.le_of_ble_eq_true rfl) (Nat.le_of_ble_eq_true rfl) (by rfl) hz (by rfl) (by rfl) (by rfl) ?_
      show eA _ _ _ _
      unfold ic38
      simp only [p_laws_markTurnS, Bool.and_eq_true, Bool.or_eq_true, decide_eq_true_eq, Bool.not_eq_true', decide_eq_false_iff_not] at hp
      simp only [
          hp, grpA, vsliceS, grpS, grpD, grpF, grpL, eop, vop, bop, uop, fltop, convop, endOk, newE, new1, freshL, Md.isNew, outV, pureV, pureX, pure1, AV.cells, AV.one, storable,
                laid, refless, refless1, vload, loadC, storeC, vnil, vfaddr, vextract, flatT, flatE, flatC, vconv, vmm, vidxA, viaddrA, vfield, vlen, elemsOf, dF32, dF64, dI64, dU8,
                dBool, dStr, esOk, elemsS, vsliceX, bnd, ownV, ownC, own1, ownT, isSl, nSl, endL, Md.isOwn, purge, purgeH, purgeB, purgeE, hasName, name1, List.any_cons,
                List.any_nil, Md.isWr, pureV.pureP, Option.map, reduceIte, Nat.reduceEqDiff, Nat.reduceAdd, Nat.reduceMul, Nat.reduceLT, Nat.reduceLeDiff, List.mapM_cons,
                List.mapM_nil, Option.pure_def, Option.bind_eq_bind, Option.bind_some, implies_true, forall_const, beq_self_eq_true, decide_true, decide_false, eq_self,
                Int.reduceEq, Int.reduceLE, Int.reduceLT, if_true, if_false, fc38_0, fc38_1, fc38_2, Int.reduceAdd, Int.reduceSub, Int.reduceMul, Int.reduceNeg, Int.reducePow,
                Nat.reducePow, Int.reduceToNat, Nat.reduceSub, List.replicate, Nat.reduceBEq, wAs, wA, wC, zipW, noDupN, grpE, beq_true, beq_false, grpC, en0, dc_en0, startW, hpIs]
      repeat' (first
        | ((first | (refine eGI_of (fun h => ?_) (fun h => ?_)) | (refine eCc_of (fun h => ?_) (fun h => ?_)) | (have h := True.intro; refine KW_refl ?_)) <;> (try simp only [Bool.not_eq_true', Bool.not_eq_false'] at h) <;> (try first | exact absurd (Eq.trans (Eq.symm h) (by assumption)) Bool.false_ne_true | exact absurd (Eq.trans (Eq.symm h) (by assumption)) (Ne.symm Bool.false_ne_true)) <;> (try simp only [h, reduceCtorEq, beq_true, beq_false, Int.reduceEq, Int.reduceLT, Int.reduceLE, true_or, or_true, Bool.not_eq_true', decide_eq_false_iff_not, Bool.not_true, Bool.not_false, Bool.false_or, Bool.true_or, Bool.true_and, Bool.false_and, Bool.and_eq_true, Bool.or_eq_true, if_true, if_false, reduceIte, Bool.false_eq_true, and_true, true_and, false_or, or_false, decide_eq_true_eq, not_false_eq_true, not_true_eq_false] at hp) <;> (first | (have h2 := h; simp only [decide_eq_true_eq, decide_eq_false_iff_not] at h2; (first | (replace h2 := eq_false h2) | (replace h2 := eq_true h2)); (try simp only [h2, reduceCtorEq, beq_true, beq_false, Int.reduceEq, Int.reduceLT, Int.reduceLE, true_or, or_true, Bool.not_eq_true', decide_eq_false_iff_not, Bool.not_true, Bool.not_false, Bool.false_or, Bool.true_or, Bool.true_and, Bool.false_and, Bool.and_eq_true, Bool.or_eq_true, if_true, if_false, reduceIte, Bool.false_eq_true, and_true, true_and, false_or, or_false, decide_eq_true_eq, not_false_eq_true, not_true_eq_false] at hp); replace hp := And.intro h2 hp) | (replace hp := And.intro h hp) | skip) <;> simp only [h,
          hp, grpA, vsliceS, grpS, grpD, grpF, grpL, eop, vop, bop, uop, fltop, convop, endOk, newE, new1, freshL, Md.isNew, outV, pureV, pureX, pure1, AV.cells, AV.one, storable,
                laid, refless, refless1, vload, loadC, storeC, vnil, vfaddr, vextract, flatT, flatE, flatC, vconv, vmm, vidxA, viaddrA, vfield, vlen, elemsOf, dF32, dF64, dI64, dU8,
                dBool, dStr, esOk, elemsS, vsliceX, bnd, ownV, ownC, own1, ownT, isSl, nSl, endL, Md.isOwn, purge, purgeH, purgeB, purgeE, hasName, name1, List.any_cons,
                List.any_nil, Md.isWr, pureV.pureP, Option.map, reduceIte, Nat.reduceEqDiff, Nat.reduceAdd, Nat.reduceMul, Nat.reduceLT, Nat.reduceLeDiff, List.mapM_cons,
                List.mapM_nil, Option.pure_def, Option.bind_eq_bind, Option.bind_some, implies_true, forall_const, beq_self_eq_true, decide_true, decide_false, eq_self,
                Int.reduceEq, Int.reduceLE, Int.reduceLT, if_true, if_false, fc38_0, fc38_1, fc38_2, Int.reduceAdd, Int.reduceSub, Int.reduceMul, Int.reduceNeg, Int.reducePow,
                Nat.reducePow, Int.reduceToNat, Nat.reduceSub, List.replicate, Nat.reduceBEq, wAs, wA, wC, zipW, noDupN, grpE, beq_true, beq_false, grpC, en0, dc_en0, startW, hpIs])
        | (refine eA_wk (wk_norm (ks := [0, 1, 5]) (ls := [1000000]) ?_) (eA_cast ?_ (sl38_0 _ _ _ _ _ _ (getD_some (d := default) (x := (l_laws_markTurnS_0 (Int.toNat ((((List.length y0) : Nat) : Int) - 0) + 2) y0 y1 0)) ?_) ?_)); (simp only [nilS, nilV, normOk, optIn, blkIn, nameIn, 
          hp, grpA, vsliceS, grpS, grpD, grpF, grpL, eop, vop, bop, uop, fltop, convop, endOk, newE, new1, freshL, Md.isNew, outV, pureV, pureX, pure1, AV.cells, AV.one, storable,
                laid, refless, refless1, vload, loadC, storeC, vnil, vfaddr, vextract, flatT, flatE, flatC, vconv, vmm, vidxA, viaddrA, vfield, vlen, elemsOf, dF32, dF64, dI64, dU8,
                dBool, dStr, esOk, elemsS, vsliceX, bnd, ownV, ownC, own1, ownT, isSl, nSl, endL, Md.isOwn, purge, purgeH, purgeB, purgeE, hasName, name1, List.any_cons,
                List.any_nil, Md.isWr, pureV.pureP, Option.map, reduceIte, Nat.reduceEqDiff, Nat.reduceAdd, Nat.reduceMul, Nat.reduceLT, Nat.reduceLeDiff, List.mapM_cons,
                List.mapM_nil, Option.pure_def, Option.bind_eq_bind, Option.bind_some, implies_true, forall_const, beq_self_eq_true, decide_true, decide_false, eq_self,
                Int.reduceEq, Int.reduceLE, Int.reduceLT, if_true, if_false, fc38_0, fc38_1, fc38_2, Int.reduceAdd, Int.reduceSub, Int.reduceMul, Int.reduceNeg, Int.reducePow,
                Nat.reducePow, Int.reduceToNat, Nat.reduceSub, List.replicate, Nat.reduceBEq, wAs, wA, wC, zipW, noDupN, grpE, beq_true, beq_false, grpC, en0, dc_en0, startW, hpIs] <;> rfl); (simp only [nilS, nilV, normS,  List.map_append, List.length_append, List.map_set, List.length_set, List.map_replicate, List.length_replicate, List.map_nil, List.map_cons,
          hp, grpA, vsliceS, grpS, grpD, grpF, grpL, eop, vop, bop, uop, fltop, convop, endOk, newE, new1, freshL, Md.isNew, outV, pureV, pureX, pure1, AV.cells, AV.one, storable,
                laid, refless, refless1, vload, loadC, storeC, vnil, vfaddr, vextract, flatT, flatE, flatC, vconv, vmm, vidxA, viaddrA, vfield, vlen, elemsOf, dF32, dF64, dI64, dU8,
                dBool, dStr, esOk, elemsS, vsliceX, bnd, ownV, ownC, own1, ownT, isSl, nSl, endL, Md.isOwn, purge, purgeH, purgeB, purgeE, hasName, name1, List.any_cons,
                List.any_nil, Md.isWr, pureV.pureP, Option.map, reduceIte, Nat.reduceEqDiff, Nat.reduceAdd, Nat.reduceMul, Nat.reduceLT, Nat.reduceLeDiff, List.mapM_cons,
                List.mapM_nil, Option.pure_def, Option.bind_eq_bind, Option.bind_some, implies_true, forall_const, beq_self_eq_true, decide_true, decide_false, eq_self,
                Int.reduceEq, Int.reduceLE, Int.reduceLT, if_true, if_false, fc38_0, fc38_1, fc38_2, Int.reduceAdd, Int.reduceSub, Int.reduceMul, Int.reduceNeg, Int.reducePow,
                Nat.reducePow, Int.reduceToNat, Nat.reduceSub, List.replicate, Nat.reduceBEq, wAs, wA, wC, zipW, noDupN, grpE, beq_true, beq_false, grpC, en0, dc_en0, startW, hpIs] <;> first | rfl | (simp only [Nat.add_comm]; done)); (simp only [hp]); (
        intro st2 hw; (try simp only [reduceCtorEq, beq_true, beq_false, Int.reduceEq, Int.reduceLT, Int.reduceLE, true_or, or_true, Bool.not_eq_true', decide_eq_false_iff_not, Bool.not_true, Bool.not_false, Bool.false_or, Bool.true_or, Bool.true_and, Bool.false_and, Bool.and_eq_true, Bool.or_eq_true, if_true, if_false, reduceIte, Bool.false_eq_true, and_true, true_and, false_or, or_false, decide_eq_true_eq, not_false_eq_true, not_true_eq_false] at hp); simp only [
          hp, grpA, vsliceS, grpS, grpD, grpF, grpL, eop, vop, bop, uop, fltop, convop, endOk, newE, new1, freshL, Md.isNew, outV, pureV, pureX, pure1, AV.cells, AV.one, storable,
                laid, refless, refless1, vload, loadC, storeC, vnil, vfaddr, vextract, flatT, flatE, flatC, vconv, vmm, vidxA, viaddrA, vfield, vlen, elemsOf, dF32, dF64, dI64, dU8,
                dBool, dStr, esOk, elemsS, vsliceX, bnd, ownV, ownC, own1, ownT, isSl, nSl, endL, Md.isOwn, purge, purgeH, purgeB, purgeE, hasName, name1, List.any_cons,
                List.any_nil, Md.isWr, pureV.pureP, Option.map, reduceIte, Nat.reduceEqDiff, Nat.reduceAdd, Nat.reduceMul, Nat.reduceLT, Nat.reduceLeDiff, List.mapM_cons,
                List.mapM_nil, Option.pure_def, Option.bind_eq_bind, Option.bind_some, implies_true, forall_const, beq_self_eq_true, decide_true, decide_false, eq_self,
                Int.reduceEq, Int.reduceLE, Int.reduceLT, if_true, if_false, fc38_0, fc38_1, fc38_2, Int.reduceAdd, Int.reduceSub, Int.reduceMul, Int.reduceNeg, Int.reducePow,
                Nat.reducePow, Int.reduceToNat, Nat.reduceSub, List.replicate, Nat.reduceBEq, wAs, wA, wC, zipW, noDupN, grpE, beq_true, beq_false, grpC, en0, dc_en0, startW, hpIs]; refine KW_of hw ?_; simp only [
          hp, grpA, vsliceS, grpS, grpD, grpF, grpL, eop, vop, bop, uop, fltop, convop, endOk, newE, new1, freshL, Md.isNew, outV, pureV, pureX, pure1, AV.cells, AV.one, storable,
                laid, refless, refless1, vload, loadC, storeC, vnil, vfaddr, vextract, flatT, flatE, flatC, vconv, vmm, vidxA, viaddrA, vfield, vlen, elemsOf, dF32, dF64, dI64, dU8,
                dBool, dStr, esOk, elemsS, vsliceX, bnd, ownV, ownC, own1, ownT, isSl, nSl, endL, Md.isOwn, purge, purgeH, purgeB, purgeE, hasName, name1, List.any_cons,
                List.any_nil, Md.isWr, pureV.pureP, Option.map, reduceIte, Nat.reduceEqDiff, Nat.reduceAdd, Nat.reduceMul, Nat.reduceLT, Nat.reduceLeDiff, List.mapM_cons,
                List.mapM_nil, Option.pure_def, Option.bind_eq_bind, Option.bind_some, implies_true, forall_const, beq_self_eq_true, decide_true, decide_false, eq_self,
                Int.reduceEq, Int.reduceLE, Int.reduceLT, if_true, if_false, fc38_0, fc38_1, fc38_2, Int.reduceAdd, Int.reduceSub, Int.reduceMul, Int.reduceNeg, Int.reducePow,
                Nat.reducePow, Int.reduceToNat, Nat.reduceSub, List.replicate, Nat.reduceBEq, wAs, wA, wC, zipW, noDupN, grpE, beq_true, beq_false, grpC, en0, dc_en0, startW, hpIs])))
      all_goals (try simp only [*, m_laws_markTurnS, Bool.and_true, Bool.true_and, Bool.and_false, Bool.false_and, Bool.or_true, Bool.true_or, Bool.or_false, Bool.false_or, Bool.not_true, Bool.not_false, Bool.false_eq_true, if_true, if_false, reduceIte, decide_true, decide_false])
      all_goals (try (simp_all; done))
    · cases h
  · cases h
def m_laws_markPose (x0 : (Nat × Nat × Nat × (List (Nat × Nat × Nat × Nat)))) (x1 : Int) : (Int × (List (Nat × Nat × Nat × Nat))) := (m_laws_markTurnS x0.2.2.2 x1)
def p_laws_markPose (x0 : (Nat × Nat × Nat × (List (Nat × Nat × Nat × Nat)))) (x1 : Int) : Bool := ((p_laws_markTurnS x0.2.2.2 x1) && ((decide (List.length (m_laws_markTurnS
      x0.2.2.2 x1).2 = (List.length x0.2.2.2))) && (decide (List.length (m_laws_markTurnS x0.2.2.2 x1).2 = List.length x0.2.2.2))))
def g_laws_markPose : List AV → Option (AV × Md)
  | [.agg [.flt .f32 y0, .flt .f32 y1, .flt .f32 y2, .sl w3], .int .i64 y4] => (match decL dc_en0 w3 with | some y3 => (if p_laws_markPose (y0, y1, y2, y3) y4 = true then some ((.int .i64 (m_laws_markPose (y0, y1, y2, y3) y4).1), .wr [4] [List.map en0 (m_laws_markPose (y0, y1, y2, y3) y4).2]) else none) | none => none)
  | _ => none
def ic28 : ICode := (.seq (.reg [⟨(some 2), none, (.box 4 (.t 0))⟩, ⟨(some 4), none, (.mov (.c (.int .i64 0)))⟩] [0, 1, 2]) (.seq (.reg [⟨(some 5), none, (.faddr 3 (.t 2))⟩, ⟨(some
      6), none, (.load none (.t 5))⟩, ⟨(some 7), none, (.mov (.t 1))⟩, ⟨(some 8), none, (.callM 38 [(.t 6), (.t 7)])⟩, ⟨(some 1), none, (.mov (.t 8))⟩] [0, 1]) (.seq (.reg [⟨(some
      9), none, (.mov (.t 1))⟩, ⟨(some 4), none, (.mov (.t 9))⟩] [0, 4]) .ret)))
def cp28 : CP := CP.mk [] [38] [[0, 1, 2], [0, 1], [0, 4]] 10 [] []
theorem fc28_0 : IntKind.wrap .i64 1 = 1 := by decide
theorem fc28_1 : IntKind.wrap .i64 2 = 2 := by decide
theorem fc28_2 : IntKind.wrap .i64 3 = 3 := by decide
theorem s28 : ∀ vs r m, g_laws_markPose vs = some (r, m) → SaysX Try.prog m 28 vs r := by
  intro vs r m h
  unfold g_laws_markPose at h
  split at h
  · rename_i y0 y1 y2 w3 y4
    cases hd_y3 : decL dc_en0 w3 with
    | none => rw [hd_y3] at h; cases h
    | some y3 =>
    rw [hd_y3] at h
    obtain rfl := decL_inv dc_en0_inv hd_y3
    clear hd_y3
    dsimp only at h
    split at h
    · rename_i hp
      cases h
      have hz : zipW [(1003000, ⟨4, true, List.map en0 (y0, y1, y2, y3).2.2.2⟩)] [List.map en0 (m_laws_markPose (y0, y1, y2, y3) y4).2] = some [(1003000, ⟨4, true, List.map en0 (m_laws_markPose (y0, y1, y2, y3) y4).2⟩)] := by simp only [zipW, List.map_cons, List.map_nil, List.length_map, m_laws_markPose, p_laws_markPose, Bool.and_eq_true, decide_eq_true_eq] at hp ⊢; simp only [hp, if_true]
      refine spec_ofW (tab := tabOf [(38, g_laws_markTurnS)]) (cp := cp28) (ic := ic28) (rvl := [(.t 4)]) (H := [(1003000, ⟨4, true, List.map en0 (y0, y1, y2, y3).2.2.2⟩)]) (H' := [(1003000, ⟨4, true, List.map en0 (m_laws_markPose (y0, y1, y2, y3) y4).2⟩)]) hm (tabOk_consW s38 tabOk_nil) Try.func28 rfl rfl rfl (by kernel_rfl) rfl (Nat.le_of_ble_eq_true rfl) (Nat.le_of_ble_eq_true rfl) (by rfl) hz (by rfl) (by rfl) (by rfl) ?_
      show eA _ _ _ _
      unfold ic28
      simp only [p_laws_markPose, Bool.and_eq_true, Bool.or_eq_true, decide_eq_true_eq, Bool.not_eq_true', decide_eq_false_iff_not] at hp
      simp only [
          hp, grpA, vsliceS, grpS, grpD, grpF, grpL, eop, vop, bop, uop, fltop, convop, endOk, newE, new1, freshL, Md.isNew, outV, pureV, pureX, pure1, AV.cells, AV.one, storable,
                laid, refless, refless1, vload, loadC, storeC, vnil, vfaddr, vextract, flatT, flatE, flatC, vconv, vmm, vidxA, viaddrA, vfield, vlen, elemsOf, dF32, dF64, dI64, dU8,
                dBool, dStr, esOk, elemsS, vsliceX, bnd, ownV, ownC, own1, ownT, isSl, nSl, endL, Md.isOwn, purge, purgeH, purgeB, purgeE, hasName, name1, List.any_cons,
                List.any_nil, Md.isWr, pureV.pureP, Option.map, reduceIte, Nat.reduceEqDiff, Nat.reduceAdd, Nat.reduceMul, Nat.reduceLT, Nat.reduceLeDiff, List.mapM_cons,
                List.mapM_nil, Option.pure_def, Option.bind_eq_bind, Option.bind_some, implies_true, forall_const, beq_self_eq_true, decide_true, decide_false, eq_self,
                Int.reduceEq, Int.reduceLE, Int.reduceLT, if_true, if_false, fc28_0, fc28_1, fc28_2, Int.reduceAdd, Int.reduceSub, Int.reduceMul, Int.reduceNeg, Int.reducePow,
                Nat.reducePow, Int.reduceToNat, Nat.reduceSub, List.replicate, Nat.reduceBEq, wAs, wA, wC, zipW, noDupN, grpE, beq_true, beq_false, g_laws_markTurnS, grpC, en0,
                dc_en0, startW, hpIs]
      repeat' (first
        | ((first | (refine eGI_of (fun h => ?_) (fun h => ?_)) | (refine eCc_of (fun h => ?_) (fun h => ?_))) <;> (try simp only [Bool.not_eq_true', Bool.not_eq_false'] at h) <;> (try first | exact absurd (Eq.trans (Eq.symm h) (by assumption)) Bool.false_ne_true | exact absurd (Eq.trans (Eq.symm h) (by assumption)) (Ne.symm Bool.false_ne_true)) <;> (try simp only [h, reduceCtorEq, beq_true, beq_false, Int.reduceEq, Int.reduceLT, Int.reduceLE, true_or, or_true, Bool.not_eq_true', decide_eq_false_iff_not, Bool.not_true, Bool.not_false, Bool.false_or, Bool.true_or, Bool.true_and, Bool.false_and, Bool.and_eq_true, Bool.or_eq_true, if_true, if_false, reduceIte, Bool.false_eq_true, and_true, true_and, false_or, or_false, decide_eq_true_eq, not_false_eq_true, not_true_eq_false] at hp) <;> (first | (have h2 := h; simp only [decide_eq_true_eq, decide_eq_false_iff_not] at h2; (first | (replace h2 := eq_false h2) | (replace h2 := eq_true h2)); (try simp only [h2, reduceCtorEq, beq_true, beq_false, Int.reduceEq, Int.reduceLT, Int.reduceLE, true_or, or_true, Bool.not_eq_true', decide_eq_false_iff_not, Bool.not_true, Bool.not_false, Bool.false_or, Bool.true_or, Bool.true_and, Bool.false_and, Bool.and_eq_true, Bool.or_eq_true, if_true, if_false, reduceIte, Bool.false_eq_true, and_true, true_and, false_or, or_false, decide_eq_true_eq, not_false_eq_true, not_true_eq_false] at hp); replace hp := And.intro h2 hp) | (replace hp := And.intro h hp) | skip) <;> simp only [h,
          hp, grpA, vsliceS, grpS, grpD, grpF, grpL, eop, vop, bop, uop, fltop, convop, endOk, newE, new1, freshL, Md.isNew, outV, pureV, pureX, pure1, AV.cells, AV.one, storable,
                laid, refless, refless1, vload, loadC, storeC, vnil, vfaddr, vextract, flatT, flatE, flatC, vconv, vmm, vidxA, viaddrA, vfield, vlen, elemsOf, dF32, dF64, dI64, dU8,
                dBool, dStr, esOk, elemsS, vsliceX, bnd, ownV, ownC, own1, ownT, isSl, nSl, endL, Md.isOwn, purge, purgeH, purgeB, purgeE, hasName, name1, List.any_cons,
                List.any_nil, Md.isWr, pureV.pureP, Option.map, reduceIte, Nat.reduceEqDiff, Nat.reduceAdd, Nat.reduceMul, Nat.reduceLT, Nat.reduceLeDiff, List.mapM_cons,
                List.mapM_nil, Option.pure_def, Option.bind_eq_bind, Option.bind_some, implies_true, forall_const, beq_self_eq_true, decide_true, decide_false, eq_self,
                Int.reduceEq, Int.reduceLE, Int.reduceLT, if_true, if_false, fc28_0, fc28_1, fc28_2, Int.reduceAdd, Int.reduceSub, Int.reduceMul, Int.reduceNeg, Int.reducePow,
                Nat.reducePow, Int.reduceToNat, Nat.reduceSub, List.replicate, Nat.reduceBEq, wAs, wA, wC, zipW, noDupN, grpE, beq_true, beq_false, g_laws_markTurnS, grpC, en0,
                dc_en0, startW, hpIs]))
      all_goals (try simp only [*, m_laws_markPose, Bool.and_true, Bool.true_and, Bool.and_false, Bool.false_and, Bool.or_true, Bool.true_or, Bool.or_false, Bool.false_or, Bool.not_true, Bool.not_false, Bool.false_eq_true, if_true, if_false, reduceIte, decide_true, decide_false])
      all_goals (try (simp_all; done))
    · cases h
  · cases h
def l_laws_heldTurnS_0 (x0 : (List (Nat × Nat × Nat × Nat))) : Nat → Int → Int → Option (Bool × Int × Int)
  | 0, _, _ => none
  | n + 1, z0_0, z0_1 => (if (decide (z0_1 < ((List.length x0 : Nat) : Int))) = true then (need (inB z0_1 (List.length x0)) (if (feq .f32 (atI x0 z0_1).1 (ofInt .f32 z0_0)) = true
        then (if (feq .f32 (atI x0 z0_1).2.1 (ofInt .f32 (IntKind.wrap .i64 (z0_0 + 1)))) = true then (if (feq .f32 (atI x0 z0_1).2.2.1 (ofInt .f32 (IntKind.wrap .i64 ((IntKind.wrap
        .i64 (z0_0 + 1)) + 1)))) = true then (if (feq .f32 (atI x0 z0_1).2.2.2 (ofInt .f32 (IntKind.wrap .i64 ((IntKind.wrap .i64 ((IntKind.wrap .i64 (z0_0 + 1)) + 1)) + 1)))) =
        true then (l_laws_heldTurnS_0 x0 n (IntKind.wrap .i64 ((IntKind.wrap .i64 ((IntKind.wrap .i64 ((IntKind.wrap .i64 (z0_0 + 1)) + 1)) + 1)) + 1)) (IntKind.wrap .i64 (z0_1 +
        1))) else (some (true, (-1), default))) else (some (true, (-1), default))) else (some (true, (-1), default))) else (some (true, (-1), default)))) else (some (false, default,
        z0_0)))
def m_laws_heldTurnS (x0 : (List (Nat × Nat × Nat × Nat))) (x1 : Int) : Int := (if (Option.getD (l_laws_heldTurnS_0 x0 (Int.toNat (((List.length x0 : Nat) : Int) - 0) + 2) x1 0)
      default).1 = true then (Option.getD (l_laws_heldTurnS_0 x0 (Int.toNat (((List.length x0 : Nat) : Int) - 0) + 2) x1 0) default).2.1 else (Option.getD (l_laws_heldTurnS_0 x0
      (Int.toNat (((List.length x0 : Nat) : Int) - 0) + 2) x1 0) default).2.2)
def p_laws_heldTurnS (x0 : (List (Nat × Nat × Nat × Nat))) (x1 : Int) : Bool := (Option.isSome (l_laws_heldTurnS_0 x0 (Int.toNat (((List.length x0 : Nat) : Int) - 0) + 2) x1 0))
def g_laws_heldTurnS : List AV → Option AV
  | [.sl w0, .int .i64 y1] => (match decL dc_en0 w0 with | some y0 => (if p_laws_heldTurnS y0 y1 = true then some (.int .i64 (m_laws_heldTurnS y0 y1)) else none) | none => none)
  | _ => none
end Go.Proofs
