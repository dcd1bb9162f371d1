/- What functions that FnExactLimitCone reaches compute, and that the program's and the reference's answers are the same. No conditions. -/
import Derived.Test.YtlpbpdjledpfbacLimitConeY0
set_option maxRecDepth 100000
set_option maxHeartbeats 4000000
set_option linter.all false
namespace Go.Proofs
open Go.Ab
theorem s126 : ∀ vs r, g_impl_turnOf vs = some r → SaysM Try.prog .any 126 vs r := by
  intro vs r h
  unfold g_impl_turnOf at h
  split at h
  · rename_i y0 y1 y2 y3
    cases h
    refine spec_of (m := .any) (tab := tabOf []) (cp := cp126) (ic := ic126) (rvl := [(.c 4 (some 4))]) hm tabOk_nil Try.func126 rfl rfl rfl (by kernel_rfl) rfl (Nat.le_of_ble_eq_true rfl) (Nat.le_of_ble_eq_true rfl) ?_
    show eA _ _ _ _
    unfold ic126
    simp only [
        grpA, vsliceS, grpS, grpD, grpF, grpL, eop, vop, bop, uop, fltop, convop, endOk, newE, new1, freshL, Md.isNew, outV, pureV, pureX, pure1, AV.cells, AV.one, storable, laid,
              refless, refless1, vload, loadC, storeC, vnil, vfaddr, vextract, flatT, flatE, flatC, vconv, vmm, vidxA, viaddrA, vfield, vlen, elemsOf, dF32, dF64, dI64, dU8, dBool,
              dStr, esOk, elemsS, vsliceX, bnd, ownV, ownC, own1, ownT, isSl, nSl, endL, Md.isOwn, purge, purgeH, purgeB, purgeE, hasName, name1, List.any_cons, List.any_nil,
              Md.isWr, pureV.pureP, Option.map, reduceIte, Nat.reduceEqDiff, Nat.reduceAdd, Nat.reduceMul, Nat.reduceLT, Nat.reduceLeDiff, List.mapM_cons, List.mapM_nil,
              Option.pure_def, Option.bind_eq_bind, Option.bind_some, implies_true, forall_const, beq_self_eq_true, decide_true, decide_false, eq_self, Int.reduceEq, Int.reduceLE,
              Int.reduceLT, if_true, if_false, fc126_0, fc126_1, fc126_2, fc126_3, fc126_4, fc126_5, fc126_6, fc126_7, fc126_8, fc126_9, fc126_10, fc126_11, fc126_12, fc126_13,
              fc126_14, fc126_15, fc126_16, fc126_17, fc126_18, fc126_19, fc126_20, fc126_21, fc126_22, fc126_23, fc126_24, fc126_25, Int.reduceAdd, Int.reduceSub, Int.reduceMul,
              Int.reduceNeg, Int.reducePow, Nat.reducePow, Int.reduceToNat, Nat.reduceSub, List.replicate, Nat.reduceBEq, wAs, wA, wC, zipW, noDupN, grpE]
    repeat' (first
      | ((first | (refine eGI_of (fun h => ?_) (fun h => ?_)) | (refine eCc_of (fun h => ?_) (fun h => ?_))) <;> (try simp only [Bool.not_eq_true', Bool.not_eq_false'] at h) <;> simp only [h,
        grpA, vsliceS, grpS, grpD, grpF, grpL, eop, vop, bop, uop, fltop, convop, endOk, newE, new1, freshL, Md.isNew, outV, pureV, pureX, pure1, AV.cells, AV.one, storable, laid,
              refless, refless1, vload, loadC, storeC, vnil, vfaddr, vextract, flatT, flatE, flatC, vconv, vmm, vidxA, viaddrA, vfield, vlen, elemsOf, dF32, dF64, dI64, dU8, dBool,
              dStr, esOk, elemsS, vsliceX, bnd, ownV, ownC, own1, ownT, isSl, nSl, endL, Md.isOwn, purge, purgeH, purgeB, purgeE, hasName, name1, List.any_cons, List.any_nil,
              Md.isWr, pureV.pureP, Option.map, reduceIte, Nat.reduceEqDiff, Nat.reduceAdd, Nat.reduceMul, Nat.reduceLT, Nat.reduceLeDiff, List.mapM_cons, List.mapM_nil,
              Option.pure_def, Option.bind_eq_bind, Option.bind_some, implies_true, forall_const, beq_self_eq_true, decide_true, decide_false, eq_self, Int.reduceEq, Int.reduceLE,
              Int.reduceLT, if_true, if_false, fc126_0, fc126_1, fc126_2, fc126_3, fc126_4, fc126_5, fc126_6, fc126_7, fc126_8, fc126_9, fc126_10, fc126_11, fc126_12, fc126_13,
              fc126_14, fc126_15, fc126_16, fc126_17, fc126_18, fc126_19, fc126_20, fc126_21, fc126_22, fc126_23, fc126_24, fc126_25, Int.reduceAdd, Int.reduceSub, Int.reduceMul,
              Int.reduceNeg, Int.reducePow, Nat.reducePow, Int.reduceToNat, Nat.reduceSub, List.replicate, Nat.reduceBEq, wAs, wA, wC, zipW, noDupN, grpE]))
    all_goals (try simp only [*, m_impl_turnOf, Bool.and_true, Bool.true_and, Bool.and_false, Bool.false_and, Bool.or_true, Bool.true_or, Bool.or_false, Bool.false_or, Bool.not_true, Bool.not_false, Bool.false_eq_true, if_true, if_false, reduceIte, decide_true, decide_false])
    all_goals (try (simp_all; done))
  · cases h
def m_impl_InnerOfTurns (x0 : (Nat × Nat × Nat × Nat)) (x1 : (Nat × Nat × Nat × Nat)) : Nat := (fadd .f32 (fadd .f32 (fadd .f32 (fmul .f32 x0.1 x1.1) (fmul .f32 x0.2.1 x1.2.1))
      (fmul .f32 x0.2.2.1 x1.2.2.1)) (fmul .f32 x0.2.2.2 x1.2.2.2))
def g_impl_InnerOfTurns : List AV → Option AV
  | [.agg [.flt .f32 y0, .flt .f32 y1, .flt .f32 y2, .flt .f32 y3], .agg [.flt .f32 y4, .flt .f32 y5, .flt .f32 y6, .flt .f32 y7]] =>
      some (.flt .f32 (m_impl_InnerOfTurns (y0, y1, y2, y3) (y4, y5, y6, y7)))
  | _ => none
def ic184 : ICode := (.seq (.reg [⟨(some 2), none, (.box 4 (.t 0))⟩, ⟨(some 3), none, (.box 4 (.t 1))⟩, ⟨(some 4), none, (.mov (.c (.flt .f32 0)))⟩] [2, 3]) (.seq (.reg [⟨(some 5),
      none, (.faddr 0 (.t 2))⟩, ⟨(some 6), none, (.load none (.t 5))⟩, ⟨(some 7), none, (.faddr 0 (.t 3))⟩, ⟨(some 8), none, (.load none (.t 7))⟩, ⟨(some 9), none, (.bin .mul false
      (.t 6) (.t 8))⟩, ⟨(some 10), none, (.faddr 1 (.t 2))⟩, ⟨(some 11), none, (.load none (.t 10))⟩, ⟨(some 12), none, (.faddr 1 (.t 3))⟩, ⟨(some 13), none, (.load none (.t 12))⟩,
      ⟨(some 14), none, (.bin .mul false (.t 11) (.t 13))⟩, ⟨(some 15), none, (.bin .add false (.t 9) (.t 14))⟩, ⟨(some 16), none, (.faddr 2 (.t 2))⟩, ⟨(some 17), none, (.load none
      (.t 16))⟩, ⟨(some 18), none, (.faddr 2 (.t 3))⟩, ⟨(some 19), none, (.load none (.t 18))⟩, ⟨(some 20), none, (.bin .mul false (.t 17) (.t 19))⟩, ⟨(some 21), none, (.bin .add
      false (.t 15) (.t 20))⟩, ⟨(some 22), none, (.faddr 3 (.t 2))⟩, ⟨(some 23), none, (.load none (.t 22))⟩, ⟨(some 24), none, (.faddr 3 (.t 3))⟩, ⟨(some 25), none, (.load none (.t
      24))⟩, ⟨(some 26), none, (.bin .mul false (.t 23) (.t 25))⟩, ⟨(some 27), none, (.bin .add false (.t 21) (.t 26))⟩, ⟨(some 4), none, (.mov (.t 27))⟩] [4]) .ret))
def cp184 : CP := CP.mk [] [] [[2, 3], [4]] 28 [] []
theorem fc184_0 : IntKind.wrap .i64 (-1) = (-1) := by decide
theorem fc184_1 : IntKind.wrap .i64 0 = 0 := by decide
theorem fc184_2 : IntKind.wrap .i64 1 = 1 := by decide
theorem fc184_3 : IntKind.wrap .i64 10 = 10 := by decide
theorem fc184_4 : IntKind.wrap .i64 11 = 11 := by decide
theorem fc184_5 : IntKind.wrap .i64 110 = 110 := by decide
theorem fc184_6 : IntKind.wrap .i64 12 = 12 := by decide
theorem fc184_7 : IntKind.wrap .i64 13 = 13 := by decide
theorem fc184_8 : IntKind.wrap .i64 14 = 14 := by decide
theorem fc184_9 : IntKind.wrap .i64 15 = 15 := by decide
theorem fc184_10 : IntKind.wrap .i64 156 = 156 := by decide
theorem fc184_11 : IntKind.wrap .i64 16 = 16 := by decide
theorem fc184_12 : IntKind.wrap .i64 17 = 17 := by decide
theorem fc184_13 : IntKind.wrap .i64 2 = 2 := by decide
theorem fc184_14 : IntKind.wrap .i64 20 = 20 := by decide
theorem fc184_15 : IntKind.wrap .i64 210 = 210 := by decide
theorem fc184_16 : IntKind.wrap .i64 272 = 272 := by decide
theorem fc184_17 : IntKind.wrap .i64 3 = 3 := by decide
theorem fc184_18 : IntKind.wrap .i64 4 = 4 := by decide
theorem fc184_19 : IntKind.wrap .i64 42 = 42 := by decide
theorem fc184_20 : IntKind.wrap .i64 5 = 5 := by decide
theorem fc184_21 : IntKind.wrap .i64 6 = 6 := by decide
theorem fc184_22 : IntKind.wrap .i64 7 = 7 := by decide
theorem fc184_23 : IntKind.wrap .i64 72 = 72 := by decide
theorem fc184_24 : IntKind.wrap .i64 8 = 8 := by decide
theorem fc184_25 : IntKind.wrap .i64 9 = 9 := by decide
theorem s184 : ∀ vs r, g_impl_InnerOfTurns vs = some r → SaysM Try.prog .any 184 vs r := by
  intro vs r h
  unfold g_impl_InnerOfTurns at h
  split at h
  · rename_i y0 y1 y2 y3 y4 y5 y6 y7
    cases h
    refine spec_of (m := .any) (tab := tabOf []) (cp := cp184) (ic := ic184) (rvl := [(.t 4)]) hm tabOk_nil Try.func184 rfl rfl rfl (by kernel_rfl) rfl (Nat.le_of_ble_eq_true rfl) (Nat.le_of_ble_eq_true rfl) ?_
    show eA _ _ _ _
    unfold ic184
    simp only [
        grpA, vsliceS, grpS, grpD, grpF, grpL, eop, vop, bop, uop, fltop, convop, endOk, newE, new1, freshL, Md.isNew, outV, pureV, pureX, pure1, AV.cells, AV.one, storable, laid,
              refless, refless1, vload, loadC, storeC, vnil, vfaddr, vextract, flatT, flatE, flatC, vconv, vmm, vidxA, viaddrA, vfield, vlen, elemsOf, dF32, dF64, dI64, dU8, dBool,
              dStr, esOk, elemsS, vsliceX, bnd, ownV, ownC, own1, ownT, isSl, nSl, endL, Md.isOwn, purge, purgeH, purgeB, purgeE, hasName, name1, List.any_cons, List.any_nil,
              Md.isWr, pureV.pureP, Option.map, reduceIte, Nat.reduceEqDiff, Nat.reduceAdd, Nat.reduceMul, Nat.reduceLT, Nat.reduceLeDiff, List.mapM_cons, List.mapM_nil,
              Option.pure_def, Option.bind_eq_bind, Option.bind_some, implies_true, forall_const, beq_self_eq_true, decide_true, decide_false, eq_self, Int.reduceEq, Int.reduceLE,
              Int.reduceLT, if_true, if_false, fc184_0, fc184_1, fc184_2, fc184_3, fc184_4, fc184_5, fc184_6, fc184_7, fc184_8, fc184_9, fc184_10, fc184_11, fc184_12, fc184_13,
              fc184_14, fc184_15, fc184_16, fc184_17, fc184_18, fc184_19, fc184_20, fc184_21, fc184_22, fc184_23, fc184_24, fc184_25, Int.reduceAdd, Int.reduceSub, Int.reduceMul,
              Int.reduceNeg, Int.reducePow, Nat.reducePow, Int.reduceToNat, Nat.reduceSub, List.replicate, Nat.reduceBEq, wAs, wA, wC, zipW, noDupN, grpE]
    repeat' (first
      | ((first | (refine eGI_of (fun h => ?_) (fun h => ?_)) | (refine eCc_of (fun h => ?_) (fun h => ?_))) <;> (try simp only [Bool.not_eq_true', Bool.not_eq_false'] at h) <;> simp only [h,
        grpA, vsliceS, grpS, grpD, grpF, grpL, eop, vop, bop, uop, fltop, convop, endOk, newE, new1, freshL, Md.isNew, outV, pureV, pureX, pure1, AV.cells, AV.one, storable, laid,
              refless, refless1, vload, loadC, storeC, vnil, vfaddr, vextract, flatT, flatE, flatC, vconv, vmm, vidxA, viaddrA, vfield, vlen, elemsOf, dF32, dF64, dI64, dU8, dBool,
              dStr, esOk, elemsS, vsliceX, bnd, ownV, ownC, own1, ownT, isSl, nSl, endL, Md.isOwn, purge, purgeH, purgeB, purgeE, hasName, name1, List.any_cons, List.any_nil,
              Md.isWr, pureV.pureP, Option.map, reduceIte, Nat.reduceEqDiff, Nat.reduceAdd, Nat.reduceMul, Nat.reduceLT, Nat.reduceLeDiff, List.mapM_cons, List.mapM_nil,
              Option.pure_def, Option.bind_eq_bind, Option.bind_some, implies_true, forall_const, beq_self_eq_true, decide_true, decide_false, eq_self, Int.reduceEq, Int.reduceLE,
              Int.reduceLT, if_true, if_false, fc184_0, fc184_1, fc184_2, fc184_3, fc184_4, fc184_5, fc184_6, fc184_7, fc184_8, fc184_9, fc184_10, fc184_11, fc184_12, fc184_13,
              fc184_14, fc184_15, fc184_16, fc184_17, fc184_18, fc184_19, fc184_20, fc184_21, fc184_22, fc184_23, fc184_24, fc184_25, Int.reduceAdd, Int.reduceSub, Int.reduceMul,
              Int.reduceNeg, Int.reducePow, Nat.reducePow, Int.reduceToNat, Nat.reduceSub, List.replicate, Nat.reduceBEq, wAs, wA, wC, zipW, noDupN, grpE]))
    all_goals (try simp only [*, m_impl_InnerOfTurns, Bool.and_true, Bool.true_and, Bool.and_false, Bool.false_and, Bool.or_true, Bool.true_or, Bool.or_false, Bool.false_or, Bool.not_true, Bool.not_false, Bool.false_eq_true, if_true, if_false, reduceIte, decide_true, decide_false])
    all_goals (try (simp_all; done))
  · cases h
def m_impl_RootNumber (x0 : Nat) : Nat := (narrow (m_math_Sqrt (widen x0)))
def p_impl_RootNumber (x0 : Nat) : Bool := (narrowOk (m_math_Sqrt (widen x0)))
def g_impl_RootNumber : List AV → Option AV
  | [.flt .f32 y0] => if p_impl_RootNumber y0 = true then some (.flt .f32 (m_impl_RootNumber y0)) else none
  | _ => none
def ic196 : ICode := (.seq (.reg [⟨(some 2), none, (.mov (.c (.flt .f32 0)))⟩] [0]) (.seq (.reg [⟨(some 3), none, (.mov (.t 0))⟩, ⟨(some 4), none, (.conv (.flt .f64) (.t 3))⟩,
      ⟨(some 5), none, (.call (.fn 72) [(.t 4)] [])⟩, ⟨(some 6), none, (.conv (.flt .f32) (.t 5))⟩, ⟨(some 2), none, (.mov (.t 6))⟩] [2]) .ret))
def cp196 : CP := CP.mk [] [] [[0], [2]] 7 [] []
theorem fc196_0 : IntKind.wrap .i64 (-1) = (-1) := by decide
theorem fc196_1 : IntKind.wrap .i64 0 = 0 := by decide
theorem fc196_2 : IntKind.wrap .i64 1 = 1 := by decide
theorem fc196_3 : IntKind.wrap .i64 10 = 10 := by decide
theorem fc196_4 : IntKind.wrap .i64 11 = 11 := by decide
theorem fc196_5 : IntKind.wrap .i64 110 = 110 := by decide
theorem fc196_6 : IntKind.wrap .i64 12 = 12 := by decide
theorem fc196_7 : IntKind.wrap .i64 13 = 13 := by decide
theorem fc196_8 : IntKind.wrap .i64 14 = 14 := by decide
theorem fc196_9 : IntKind.wrap .i64 15 = 15 := by decide
theorem fc196_10 : IntKind.wrap .i64 156 = 156 := by decide
theorem fc196_11 : IntKind.wrap .i64 16 = 16 := by decide
theorem fc196_12 : IntKind.wrap .i64 17 = 17 := by decide
theorem fc196_13 : IntKind.wrap .i64 2 = 2 := by decide
theorem fc196_14 : IntKind.wrap .i64 20 = 20 := by decide
theorem fc196_15 : IntKind.wrap .i64 210 = 210 := by decide
theorem fc196_16 : IntKind.wrap .i64 272 = 272 := by decide
theorem fc196_17 : IntKind.wrap .i64 3 = 3 := by decide
theorem fc196_18 : IntKind.wrap .i64 4 = 4 := by decide
theorem fc196_19 : IntKind.wrap .i64 42 = 42 := by decide
theorem fc196_20 : IntKind.wrap .i64 5 = 5 := by decide
theorem fc196_21 : IntKind.wrap .i64 6 = 6 := by decide
theorem fc196_22 : IntKind.wrap .i64 7 = 7 := by decide
theorem fc196_23 : IntKind.wrap .i64 72 = 72 := by decide
theorem fc196_24 : IntKind.wrap .i64 8 = 8 := by decide
theorem fc196_25 : IntKind.wrap .i64 9 = 9 := by decide
theorem s196 : ∀ vs r, g_impl_RootNumber vs = some r → SaysM Try.prog .any 196 vs r := by
  intro vs r h
  unfold g_impl_RootNumber at h
  split at h
  · rename_i y0
    split at h
    · rename_i hp
      cases h
      refine spec_of (m := .any) (tab := tabOf [(72, wM .any g_math_Sqrt)]) (cp := cp196) (ic := ic196) (rvl := [(.t 2)]) hm (tabOk_cons (m := .any) s72 tabOk_nil) Try.func196 rfl rfl rfl (by kernel_rfl) rfl (Nat.le_of_ble_eq_true rfl) (Nat.le_of_ble_eq_true rfl) ?_
      show eA _ _ _ _
      unfold ic196
      simp only [p_impl_RootNumber, Bool.and_eq_true, Bool.or_eq_true, decide_eq_true_eq, Bool.not_eq_true', decide_eq_false_iff_not] at hp
      simp only [
          hp, grpA, vsliceS, grpS, grpD, grpF, grpL, eop, vop, bop, uop, fltop, convop, endOk, newE, new1, freshL, Md.isNew, outV, pureV, pureX, pure1, AV.cells, AV.one, storable,
                laid, refless, refless1, vload, loadC, storeC, vnil, vfaddr, vextract, flatT, flatE, flatC, vconv, vmm, vidxA, viaddrA, vfield, vlen, elemsOf, dF32, dF64, dI64, dU8,
                dBool, dStr, esOk, elemsS, vsliceX, bnd, ownV, ownC, own1, ownT, isSl, nSl, endL, Md.isOwn, purge, purgeH, purgeB, purgeE, hasName, name1, List.any_cons,
                List.any_nil, Md.isWr, pureV.pureP, Option.map, reduceIte, Nat.reduceEqDiff, Nat.reduceAdd, Nat.reduceMul, Nat.reduceLT, Nat.reduceLeDiff, List.mapM_cons,
                List.mapM_nil, Option.pure_def, Option.bind_eq_bind, Option.bind_some, implies_true, forall_const, beq_self_eq_true, decide_true, decide_false, eq_self,
                Int.reduceEq, Int.reduceLE, Int.reduceLT, if_true, if_false, fc196_0, fc196_1, fc196_2, fc196_3, fc196_4, fc196_5, fc196_6, fc196_7, fc196_8, fc196_9, fc196_10,
                fc196_11, fc196_12, fc196_13, fc196_14, fc196_15, fc196_16, fc196_17, fc196_18, fc196_19, fc196_20, fc196_21, fc196_22, fc196_23, fc196_24, fc196_25, Int.reduceAdd,
                Int.reduceSub, Int.reduceMul, Int.reduceNeg, Int.reducePow, Nat.reducePow, Int.reduceToNat, Nat.reduceSub, List.replicate, Nat.reduceBEq, wAs, wA, wC, zipW, noDupN,
                grpE, g_math_Sqrt]
      repeat' (first
        | ((first | (refine eGI_of (fun h => ?_) (fun h => ?_)) | (refine eCc_of (fun h => ?_) (fun h => ?_))) <;> (try simp only [Bool.not_eq_true', Bool.not_eq_false'] at h) <;> (try simp only [h, reduceCtorEq, Bool.not_eq_true', decide_eq_false_iff_not, Bool.not_true, Bool.not_false, Bool.false_or, Bool.true_or, Bool.true_and, Bool.false_and, Bool.and_eq_true, Bool.or_eq_true, if_true, if_false, reduceIte, Bool.false_eq_true, and_true, true_and, false_or, or_false, decide_eq_true_eq, not_false_eq_true, not_true_eq_false] at hp) <;> (try (have h2 := h; simp only [decide_eq_true_eq, decide_eq_false_iff_not] at h2; (first | (replace h2 := eq_false h2) | (replace h2 := eq_true h2)); simp only [h2, if_true, if_false, false_or, true_or, or_true, or_false, and_true, true_and, not_false_eq_true, not_true_eq_false] at hp)) <;> simp only [h,
          hp, grpA, vsliceS, grpS, grpD, grpF, grpL, eop, vop, bop, uop, fltop, convop, endOk, newE, new1, freshL, Md.isNew, outV, pureV, pureX, pure1, AV.cells, AV.one, storable,
                laid, refless, refless1, vload, loadC, storeC, vnil, vfaddr, vextract, flatT, flatE, flatC, vconv, vmm, vidxA, viaddrA, vfield, vlen, elemsOf, dF32, dF64, dI64, dU8,
                dBool, dStr, esOk, elemsS, vsliceX, bnd, ownV, ownC, own1, ownT, isSl, nSl, endL, Md.isOwn, purge, purgeH, purgeB, purgeE, hasName, name1, List.any_cons,
                List.any_nil, Md.isWr, pureV.pureP, Option.map, reduceIte, Nat.reduceEqDiff, Nat.reduceAdd, Nat.reduceMul, Nat.reduceLT, Nat.reduceLeDiff, List.mapM_cons,
                List.mapM_nil, Option.pure_def, Option.bind_eq_bind, Option.bind_some, implies_true, forall_const, beq_self_eq_true, decide_true, decide_false, eq_self,
                Int.reduceEq, Int.reduceLE, Int.reduceLT, if_true, if_false, fc196_0, fc196_1, fc196_2, fc196_3, fc196_4, fc196_5, fc196_6, fc196_7, fc196_8, fc196_9, fc196_10,
                fc196_11, fc196_12, fc196_13, fc196_14, fc196_15, fc196_16, fc196_17, fc196_18, fc196_19, fc196_20, fc196_21, fc196_22, fc196_23, fc196_24, fc196_25, Int.reduceAdd,
                Int.reduceSub, Int.reduceMul, Int.reduceNeg, Int.reducePow, Nat.reducePow, Int.reduceToNat, Nat.reduceSub, List.replicate, Nat.reduceBEq, wAs, wA, wC, zipW, noDupN,
                grpE, g_math_Sqrt]))
      all_goals (try simp only [*, m_impl_RootNumber, Bool.and_true, Bool.true_and, Bool.and_false, Bool.false_and, Bool.or_true, Bool.true_or, Bool.or_false, Bool.false_or, Bool.not_true, Bool.not_false, Bool.false_eq_true, if_true, if_false, reduceIte, decide_true, decide_false])
      all_goals (try (simp_all; done))
    · cases h
  · cases h
def m_impl_LengthOfTurn (x0 : (Nat × Nat × Nat × Nat)) : Nat := (m_impl_RootNumber (m_impl_InnerOfTurns x0 x0))
def p_impl_LengthOfTurn (x0 : (Nat × Nat × Nat × Nat)) : Bool := (p_impl_RootNumber (m_impl_InnerOfTurns x0 x0))
def g_impl_LengthOfTurn : List AV → Option AV
  | [.agg [.flt .f32 y0, .flt .f32 y1, .flt .f32 y2, .flt .f32 y3]] => if p_impl_LengthOfTurn (y0, y1, y2, y3) = true then some (.flt
      .f32 (m_impl_LengthOfTurn (y0, y1, y2, y3))) else none
  | _ => none
def ic173 : ICode := (.seq (.reg [⟨(some 1), none, (.box 4 (.t 0))⟩, ⟨(some 2), none, (.mov (.c (.flt .f32 0)))⟩] [1]) (.seq (.reg [⟨(some 3), none, (.load (some 4) (.t 1))⟩, ⟨(some
      4), none, (.load (some 4) (.t 1))⟩, ⟨(some 5), none, (.call (.fn 184) [(.t 3), (.t 4)] [])⟩, ⟨(some 6), none, (.call (.fn 196) [(.t 5)] [])⟩, ⟨(some 2), none, (.mov (.t 6))⟩]
      [2]) .ret))
def cp173 : CP := CP.mk [] [] [[1], [2]] 7 [] []
theorem fc173_0 : IntKind.wrap .i64 (-1) = (-1) := by decide
theorem fc173_1 : IntKind.wrap .i64 0 = 0 := by decide
theorem fc173_2 : IntKind.wrap .i64 1 = 1 := by decide
theorem fc173_3 : IntKind.wrap .i64 10 = 10 := by decide
theorem fc173_4 : IntKind.wrap .i64 11 = 11 := by decide
theorem fc173_5 : IntKind.wrap .i64 110 = 110 := by decide
theorem fc173_6 : IntKind.wrap .i64 12 = 12 := by decide
theorem fc173_7 : IntKind.wrap .i64 13 = 13 := by decide
theorem fc173_8 : IntKind.wrap .i64 14 = 14 := by decide
theorem fc173_9 : IntKind.wrap .i64 15 = 15 := by decide
theorem fc173_10 : IntKind.wrap .i64 156 = 156 := by decide
theorem fc173_11 : IntKind.wrap .i64 16 = 16 := by decide
theorem fc173_12 : IntKind.wrap .i64 17 = 17 := by decide
theorem fc173_13 : IntKind.wrap .i64 2 = 2 := by decide
theorem fc173_14 : IntKind.wrap .i64 20 = 20 := by decide
theorem fc173_15 : IntKind.wrap .i64 210 = 210 := by decide
theorem fc173_16 : IntKind.wrap .i64 272 = 272 := by decide
theorem fc173_17 : IntKind.wrap .i64 3 = 3 := by decide
theorem fc173_18 : IntKind.wrap .i64 4 = 4 := by decide
theorem fc173_19 : IntKind.wrap .i64 42 = 42 := by decide
theorem fc173_20 : IntKind.wrap .i64 5 = 5 := by decide
theorem fc173_21 : IntKind.wrap .i64 6 = 6 := by decide
theorem fc173_22 : IntKind.wrap .i64 7 = 7 := by decide
theorem fc173_23 : IntKind.wrap .i64 72 = 72 := by decide
theorem fc173_24 : IntKind.wrap .i64 8 = 8 := by decide
theorem fc173_25 : IntKind.wrap .i64 9 = 9 := by decide
theorem s173 : ∀ vs r, g_impl_LengthOfTurn vs = some r → SaysM Try.prog .any 173 vs r := by
  intro vs r h
  unfold g_impl_LengthOfTurn at h
  split at h
  · rename_i y0 y1 y2 y3
    split at h
    · rename_i hp
      cases h
      refine spec_of (m := .any) (tab := tabOf [(184, wM .any g_impl_InnerOfTurns), (196, wM .any g_impl_RootNumber)]) (cp := cp173) (ic := ic173) (rvl := [(.t 2)]) hm (tabOk_cons (m := .any) s184 (tabOk_cons (m := .any) s196 tabOk_nil)) Try.func173 rfl rfl rfl (by kernel_rfl) rfl (Nat.le_of_ble_eq_true rfl) (Nat.le_of_ble_eq_true rfl) ?_
      show eA _ _ _ _
      unfold ic173
      simp only [p_impl_LengthOfTurn, Bool.and_eq_true, Bool.or_eq_true, decide_eq_true_eq, Bool.not_eq_true', decide_eq_false_iff_not] at hp
      simp only [
          hp, grpA, vsliceS, grpS, grpD, grpF, grpL, eop, vop, bop, uop, fltop, convop, endOk, newE, new1, freshL, Md.isNew, outV, pureV, pureX, pure1, AV.cells, AV.one, storable,
                laid, refless, refless1, vload, loadC, storeC, vnil, vfaddr, vextract, flatT, flatE, flatC, vconv, vmm, vidxA, viaddrA, vfield, vlen, elemsOf, dF32, dF64, dI64, dU8,
                dBool, dStr, esOk, elemsS, vsliceX, bnd, ownV, ownC, own1, ownT, isSl, nSl, endL, Md.isOwn, purge, purgeH, purgeB, purgeE, hasName, name1, List.any_cons,
                List.any_nil, Md.isWr, pureV.pureP, Option.map, reduceIte, Nat.reduceEqDiff, Nat.reduceAdd, Nat.reduceMul, Nat.reduceLT, Nat.reduceLeDiff, List.mapM_cons,
                List.mapM_nil, Option.pure_def, Option.bind_eq_bind, Option.bind_some, implies_true, forall_const, beq_self_eq_true, decide_true, decide_false, eq_self,
                Int.reduceEq, Int.reduceLE, Int.reduceLT, if_true, if_false, fc173_0, fc173_1, fc173_2, fc173_3, fc173_4, fc173_5, fc173_6, fc173_7, fc173_8, fc173_9, fc173_10,
                fc173_11, fc173_12, fc173_13, fc173_14, fc173_15, fc173_16, fc173_17, fc173_18, fc173_19, fc173_20, fc173_21, fc173_22, fc173_23, fc173_24, fc173_25, Int.reduceAdd,
                Int.reduceSub, Int.reduceMul, Int.reduceNeg, Int.reducePow, Nat.reducePow, Int.reduceToNat, Nat.reduceSub, List.replicate, Nat.reduceBEq, wAs, wA, wC, zipW, noDupN,
                grpE, g_impl_InnerOfTurns, g_impl_RootNumber]
      repeat' (first
        | ((first | (refine eGI_of (fun h => ?_) (fun h => ?_)) | (refine eCc_of (fun h => ?_) (fun h => ?_))) <;> (try simp only [Bool.not_eq_true', Bool.not_eq_false'] at h) <;> (try simp only [h, reduceCtorEq, Bool.not_eq_true', decide_eq_false_iff_not, Bool.not_true, Bool.not_false, Bool.false_or, Bool.true_or, Bool.true_and, Bool.false_and, Bool.and_eq_true, Bool.or_eq_true, if_true, if_false, reduceIte, Bool.false_eq_true, and_true, true_and, false_or, or_false, decide_eq_true_eq, not_false_eq_true, not_true_eq_false] at hp) <;> (try (have h2 := h; simp only [decide_eq_true_eq, decide_eq_false_iff_not] at h2; (first | (replace h2 := eq_false h2) | (replace h2 := eq_true h2)); simp only [h2, if_true, if_false, false_or, true_or, or_true, or_false, and_true, true_and, not_false_eq_true, not_true_eq_false] at hp)) <;> simp only [h,
          hp, grpA, vsliceS, grpS, grpD, grpF, grpL, eop, vop, bop, uop, fltop, convop, endOk, newE, new1, freshL, Md.isNew, outV, pureV, pureX, pure1, AV.cells, AV.one, storable,
                laid, refless, refless1, vload, loadC, storeC, vnil, vfaddr, vextract, flatT, flatE, flatC, vconv, vmm, vidxA, viaddrA, vfield, vlen, elemsOf, dF32, dF64, dI64, dU8,
                dBool, dStr, esOk, elemsS, vsliceX, bnd, ownV, ownC, own1, ownT, isSl, nSl, endL, Md.isOwn, purge, purgeH, purgeB, purgeE, hasName, name1, List.any_cons,
                List.any_nil, Md.isWr, pureV.pureP, Option.map, reduceIte, Nat.reduceEqDiff, Nat.reduceAdd, Nat.reduceMul, Nat.reduceLT, Nat.reduceLeDiff, List.mapM_cons,
                List.mapM_nil, Option.pure_def, Option.bind_eq_bind, Option.bind_some, implies_true, forall_const, beq_self_eq_true, decide_true, decide_false, eq_self,
                Int.reduceEq, Int.reduceLE, Int.reduceLT, if_true, if_false, fc173_0, fc173_1, fc173_2, fc173_3, fc173_4, fc173_5, fc173_6, fc173_7, fc173_8, fc173_9, fc173_10,
                fc173_11, fc173_12, fc173_13, fc173_14, fc173_15, fc173_16, fc173_17, fc173_18, fc173_19, fc173_20, fc173_21, fc173_22, fc173_23, fc173_24, fc173_25, Int.reduceAdd,
                Int.reduceSub, Int.reduceMul, Int.reduceNeg, Int.reducePow, Nat.reducePow, Int.reduceToNat, Nat.reduceSub, List.replicate, Nat.reduceBEq, wAs, wA, wC, zipW, noDupN,
                grpE, g_impl_InnerOfTurns, g_impl_RootNumber]))
      all_goals (try simp only [*, m_impl_LengthOfTurn, Bool.and_true, Bool.true_and, Bool.and_false, Bool.false_and, Bool.or_true, Bool.true_or, Bool.or_false, Bool.false_or, Bool.not_true, Bool.not_false, Bool.false_eq_true, if_true, if_false, reduceIte, decide_true, decide_false])
      all_goals (try (simp_all; done))
    · cases h
  · cases h
def m_impl_IsFinite (x0 : Nat) : Bool := (feq .f32 (fsub .f32 x0 x0) 0)
def g_impl_IsFinite : List AV → Option AV
  | [.flt .f32 y0] => some (.bool (m_impl_IsFinite y0))
  | _ => none
def ic70 : ICode := (.seq (.reg [⟨(some 2), none, (.mov (.c (.bool false)))⟩] [0]) (.seq (.reg [⟨(some 3), none, (.mov (.t 0))⟩, ⟨(some 4), none, (.mov (.t 0))⟩, ⟨(some 5), none,
      (.bin .sub false (.t 3) (.t 4))⟩, ⟨(some 6), none, (.bin .eql false (.t 5) (.c (.flt .f32 0)))⟩, ⟨(some 2), none, (.mov (.t 6))⟩] [2]) .ret))
def cp70 : CP := CP.mk [] [] [[0], [2]] 7 [] []
theorem fc70_0 : IntKind.wrap .i64 (-1) = (-1) := by decide
theorem fc70_1 : IntKind.wrap .i64 0 = 0 := by decide
theorem fc70_2 : IntKind.wrap .i64 1 = 1 := by decide
theorem fc70_3 : IntKind.wrap .i64 10 = 10 := by decide
theorem fc70_4 : IntKind.wrap .i64 11 = 11 := by decide
theorem fc70_5 : IntKind.wrap .i64 110 = 110 := by decide
theorem fc70_6 : IntKind.wrap .i64 12 = 12 := by decide
theorem fc70_7 : IntKind.wrap .i64 13 = 13 := by decide
theorem fc70_8 : IntKind.wrap .i64 14 = 14 := by decide
theorem fc70_9 : IntKind.wrap .i64 15 = 15 := by decide
theorem fc70_10 : IntKind.wrap .i64 156 = 156 := by decide
theorem fc70_11 : IntKind.wrap .i64 16 = 16 := by decide
theorem fc70_12 : IntKind.wrap .i64 17 = 17 := by decide
theorem fc70_13 : IntKind.wrap .i64 2 = 2 := by decide
theorem fc70_14 : IntKind.wrap .i64 20 = 20 := by decide
theorem fc70_15 : IntKind.wrap .i64 210 = 210 := by decide
theorem fc70_16 : IntKind.wrap .i64 272 = 272 := by decide
theorem fc70_17 : IntKind.wrap .i64 3 = 3 := by decide
theorem fc70_18 : IntKind.wrap .i64 4 = 4 := by decide
theorem fc70_19 : IntKind.wrap .i64 42 = 42 := by decide
theorem fc70_20 : IntKind.wrap .i64 5 = 5 := by decide
theorem fc70_21 : IntKind.wrap .i64 6 = 6 := by decide
theorem fc70_22 : IntKind.wrap .i64 7 = 7 := by decide
theorem fc70_23 : IntKind.wrap .i64 72 = 72 := by decide
theorem fc70_24 : IntKind.wrap .i64 8 = 8 := by decide
theorem fc70_25 : IntKind.wrap .i64 9 = 9 := by decide
theorem s70 : ∀ vs r, g_impl_IsFinite vs = some r → SaysM Try.prog .any 70 vs r := by
  intro vs r h
  unfold g_impl_IsFinite at h
  split at h
  · rename_i y0
    cases h
    refine spec_of (m := .any) (tab := tabOf []) (cp := cp70) (ic := ic70) (rvl := [(.t 2)]) hm tabOk_nil Try.func70 rfl rfl rfl (by kernel_rfl) rfl (Nat.le_of_ble_eq_true rfl) (Nat.le_of_ble_eq_true rfl) ?_
    show eA _ _ _ _
    unfold ic70
    simp only [
        grpA, vsliceS, grpS, grpD, grpF, grpL, eop, vop, bop, uop, fltop, convop, endOk, newE, new1, freshL, Md.isNew, outV, pureV, pureX, pure1, AV.cells, AV.one, storable, laid,
              refless, refless1, vload, loadC, storeC, vnil, vfaddr, vextract, flatT, flatE, flatC, vconv, vmm, vidxA, viaddrA, vfield, vlen, elemsOf, dF32, dF64, dI64, dU8, dBool,
              dStr, esOk, elemsS, vsliceX, bnd, ownV, ownC, own1, ownT, isSl, nSl, endL, Md.isOwn, purge, purgeH, purgeB, purgeE, hasName, name1, List.any_cons, List.any_nil,
              Md.isWr, pureV.pureP, Option.map, reduceIte, Nat.reduceEqDiff, Nat.reduceAdd, Nat.reduceMul, Nat.reduceLT, Nat.reduceLeDiff, List.mapM_cons, List.mapM_nil,
              Option.pure_def, Option.bind_eq_bind, Option.bind_some, implies_true, forall_const, beq_self_eq_true, decide_true, decide_false, eq_self, Int.reduceEq, Int.reduceLE,
              Int.reduceLT, if_true, if_false, fc70_0, fc70_1, fc70_2, fc70_3, fc70_4, fc70_5, fc70_6, fc70_7, fc70_8, fc70_9, fc70_10, fc70_11, fc70_12, fc70_13, fc70_14, fc70_15,
              fc70_16, fc70_17, fc70_18, fc70_19, fc70_20, fc70_21, fc70_22, fc70_23, fc70_24, fc70_25, Int.reduceAdd, Int.reduceSub, Int.reduceMul, Int.reduceNeg, Int.reducePow,
              Nat.reducePow, Int.reduceToNat, Nat.reduceSub, List.replicate, Nat.reduceBEq, wAs, wA, wC, zipW, noDupN, grpE]
    repeat' (first
      | ((first | (refine eGI_of (fun h => ?_) (fun h => ?_)) | (refine eCc_of (fun h => ?_) (fun h => ?_))) <;> (try simp only [Bool.not_eq_true', Bool.not_eq_false'] at h) <;> simp only [h,
        grpA, vsliceS, grpS, grpD, grpF, grpL, eop, vop, bop, uop, fltop, convop, endOk, newE, new1, freshL, Md.isNew, outV, pureV, pureX, pure1, AV.cells, AV.one, storable, laid,
              refless, refless1, vload, loadC, storeC, vnil, vfaddr, vextract, flatT, flatE, flatC, vconv, vmm, vidxA, viaddrA, vfield, vlen, elemsOf, dF32, dF64, dI64, dU8, dBool,
              dStr, esOk, elemsS, vsliceX, bnd, ownV, ownC, own1, ownT, isSl, nSl, endL, Md.isOwn, purge, purgeH, purgeB, purgeE, hasName, name1, List.any_cons, List.any_nil,
              Md.isWr, pureV.pureP, Option.map, reduceIte, Nat.reduceEqDiff, Nat.reduceAdd, Nat.reduceMul, Nat.reduceLT, Nat.reduceLeDiff, List.mapM_cons, List.mapM_nil,
              Option.pure_def, Option.bind_eq_bind, Option.bind_some, implies_true, forall_const, beq_self_eq_true, decide_true, decide_false, eq_self, Int.reduceEq, Int.reduceLE,
              Int.reduceLT, if_true, if_false, fc70_0, fc70_1, fc70_2, fc70_3, fc70_4, fc70_5, fc70_6, fc70_7, fc70_8, fc70_9, fc70_10, fc70_11, fc70_12, fc70_13, fc70_14, fc70_15,
              fc70_16, fc70_17, fc70_18, fc70_19, fc70_20, fc70_21, fc70_22, fc70_23, fc70_24, fc70_25, Int.reduceAdd, Int.reduceSub, Int.reduceMul, Int.reduceNeg, Int.reducePow,
              Nat.reducePow, Int.reduceToNat, Nat.reduceSub, List.replicate, Nat.reduceBEq, wAs, wA, wC, zipW, noDupN, grpE]))
    all_goals (try simp only [*, m_impl_IsFinite, Bool.and_true, Bool.true_and, Bool.and_false, Bool.false_and, Bool.or_true, Bool.true_or, Bool.or_false, Bool.false_or, Bool.not_true, Bool.not_false, Bool.false_eq_true, if_true, if_false, reduceIte, decide_true, decide_false])
    all_goals (try (simp_all; done))
  · cases h
def m_impl_isLength (x0 : Nat) : Bool := (if (m_impl_IsFinite x0) = true then (!(feq .f32 x0 0)) else false)
def g_impl_isLength : List AV → Option AV
  | [.flt .f32 y0] => some (.bool (m_impl_isLength y0))
  | _ => none
def ic174 : ICode := (.seq (.reg [⟨(some 2), none, (.mov (.c (.bool false)))⟩] [0]) (.seq (.reg [⟨(some 3), none, (.mov (.t 0))⟩, ⟨(some 4), none, (.call (.fn 70) [(.t 3)] [])⟩,
      ⟨(some 5), none, (.mov (.t 4))⟩, ⟨(some 6), (some (5, true)), (.mov (.t 0))⟩, ⟨(some 7), (some (5, true)), (.bin .neq false (.t 6) (.c (.flt .f32 0)))⟩, ⟨(some 8), none,
      (.pick (.t 5) (.t 7) (.c (.bool false)))⟩, ⟨(some 2), none, (.mov (.t 8))⟩] [2]) .ret))
def cp174 : CP := CP.mk [] [] [[0], [2]] 9 [] []
theorem fc174_0 : IntKind.wrap .i64 (-1) = (-1) := by decide
theorem fc174_1 : IntKind.wrap .i64 0 = 0 := by decide
theorem fc174_2 : IntKind.wrap .i64 1 = 1 := by decide
theorem fc174_3 : IntKind.wrap .i64 10 = 10 := by decide
theorem fc174_4 : IntKind.wrap .i64 11 = 11 := by decide
theorem fc174_5 : IntKind.wrap .i64 110 = 110 := by decide
theorem fc174_6 : IntKind.wrap .i64 12 = 12 := by decide
theorem fc174_7 : IntKind.wrap .i64 13 = 13 := by decide
theorem fc174_8 : IntKind.wrap .i64 14 = 14 := by decide
theorem fc174_9 : IntKind.wrap .i64 15 = 15 := by decide
theorem fc174_10 : IntKind.wrap .i64 156 = 156 := by decide
theorem fc174_11 : IntKind.wrap .i64 16 = 16 := by decide
theorem fc174_12 : IntKind.wrap .i64 17 = 17 := by decide
theorem fc174_13 : IntKind.wrap .i64 2 = 2 := by decide
theorem fc174_14 : IntKind.wrap .i64 20 = 20 := by decide
theorem fc174_15 : IntKind.wrap .i64 210 = 210 := by decide
theorem fc174_16 : IntKind.wrap .i64 272 = 272 := by decide
theorem fc174_17 : IntKind.wrap .i64 3 = 3 := by decide
theorem fc174_18 : IntKind.wrap .i64 4 = 4 := by decide
theorem fc174_19 : IntKind.wrap .i64 42 = 42 := by decide
theorem fc174_20 : IntKind.wrap .i64 5 = 5 := by decide
theorem fc174_21 : IntKind.wrap .i64 6 = 6 := by decide
theorem fc174_22 : IntKind.wrap .i64 7 = 7 := by decide
theorem fc174_23 : IntKind.wrap .i64 72 = 72 := by decide
theorem fc174_24 : IntKind.wrap .i64 8 = 8 := by decide
theorem fc174_25 : IntKind.wrap .i64 9 = 9 := by decide
theorem s174 : ∀ vs r, g_impl_isLength vs = some r → SaysM Try.prog .any 174 vs r := by
  intro vs r h
  unfold g_impl_isLength at h
  split at h
  · rename_i y0
    cases h
    refine spec_of (m := .any) (tab := tabOf [(70, wM .any g_impl_IsFinite)]) (cp := cp174) (ic := ic174) (rvl := [(.t 2)]) hm (tabOk_cons (m := .any) s70 tabOk_nil) Try.func174 rfl rfl rfl (by kernel_rfl) rfl (Nat.le_of_ble_eq_true rfl) (Nat.le_of_ble_eq_true rfl) ?_
    show eA _ _ _ _
    unfold ic174
    simp only [
        grpA, vsliceS, grpS, grpD, grpF, grpL, eop, vop, bop, uop, fltop, convop, endOk, newE, new1, freshL, Md.isNew, outV, pureV, pureX, pure1, AV.cells, AV.one, storable, laid,
              refless, refless1, vload, loadC, storeC, vnil, vfaddr, vextract, flatT, flatE, flatC, vconv, vmm, vidxA, viaddrA, vfield, vlen, elemsOf, dF32, dF64, dI64, dU8, dBool,
              dStr, esOk, elemsS, vsliceX, bnd, ownV, ownC, own1, ownT, isSl, nSl, endL, Md.isOwn, purge, purgeH, purgeB, purgeE, hasName, name1, List.any_cons, List.any_nil,
              Md.isWr, pureV.pureP, Option.map, reduceIte, Nat.reduceEqDiff, Nat.reduceAdd, Nat.reduceMul, Nat.reduceLT, Nat.reduceLeDiff, List.mapM_cons, List.mapM_nil,
              Option.pure_def, Option.bind_eq_bind, Option.bind_some, implies_true, forall_const, beq_self_eq_true, decide_true, decide_false, eq_self, Int.reduceEq, Int.reduceLE,
              Int.reduceLT, if_true, if_false, fc174_0, fc174_1, fc174_2, fc174_3, fc174_4, fc174_5, fc174_6, fc174_7, fc174_8, fc174_9, fc174_10, fc174_11, fc174_12, fc174_13,
              fc174_14, fc174_15, fc174_16, fc174_17, fc174_18, fc174_19, fc174_20, fc174_21, fc174_22, fc174_23, fc174_24, fc174_25, Int.reduceAdd, Int.reduceSub, Int.reduceMul,
              Int.reduceNeg, Int.reducePow, Nat.reducePow, Int.reduceToNat, Nat.reduceSub, List.replicate, Nat.reduceBEq, wAs, wA, wC, zipW, noDupN, grpE, g_impl_IsFinite, ↓b_pick,
              ePk_true, ePk_false]
    repeat' (first
      | ((first | (refine eGI_of (fun h => ?_) (fun h => ?_)) | (refine eCc_of (fun h => ?_) (fun h => ?_)) | (refine ePk_of (fun h => ?_) (fun h => ?_))) <;> (try simp only [Bool.not_eq_true', Bool.not_eq_false'] at h) <;> simp only [h,
        grpA, vsliceS, grpS, grpD, grpF, grpL, eop, vop, bop, uop, fltop, convop, endOk, newE, new1, freshL, Md.isNew, outV, pureV, pureX, pure1, AV.cells, AV.one, storable, laid,
              refless, refless1, vload, loadC, storeC, vnil, vfaddr, vextract, flatT, flatE, flatC, vconv, vmm, vidxA, viaddrA, vfield, vlen, elemsOf, dF32, dF64, dI64, dU8, dBool,
              dStr, esOk, elemsS, vsliceX, bnd, ownV, ownC, own1, ownT, isSl, nSl, endL, Md.isOwn, purge, purgeH, purgeB, purgeE, hasName, name1, List.any_cons, List.any_nil,
              Md.isWr, pureV.pureP, Option.map, reduceIte, Nat.reduceEqDiff, Nat.reduceAdd, Nat.reduceMul, Nat.reduceLT, Nat.reduceLeDiff, List.mapM_cons, List.mapM_nil,
              Option.pure_def, Option.bind_eq_bind, Option.bind_some, implies_true, forall_const, beq_self_eq_true, decide_true, decide_false, eq_self, Int.reduceEq, Int.reduceLE,
              Int.reduceLT, if_true, if_false, fc174_0, fc174_1, fc174_2, fc174_3, fc174_4, fc174_5, fc174_6, fc174_7, fc174_8, fc174_9, fc174_10, fc174_11, fc174_12, fc174_13,
              fc174_14, fc174_15, fc174_16, fc174_17, fc174_18, fc174_19, fc174_20, fc174_21, fc174_22, fc174_23, fc174_24, fc174_25, Int.reduceAdd, Int.reduceSub, Int.reduceMul,
              Int.reduceNeg, Int.reducePow, Nat.reducePow, Int.reduceToNat, Nat.reduceSub, List.replicate, Nat.reduceBEq, wAs, wA, wC, zipW, noDupN, grpE, g_impl_IsFinite, ↓b_pick,
              ePk_true, ePk_false]))
    all_goals (try simp only [*, m_impl_isLength, Bool.and_true, Bool.true_and, Bool.and_false, Bool.false_and, Bool.or_true, Bool.true_or, Bool.or_false, Bool.false_or, Bool.not_true, Bool.not_false, Bool.false_eq_true, if_true, if_false, reduceIte, decide_true, decide_false])
    all_goals (try (simp_all; done))
  · cases h
def m_impl_NoTurn  : (Nat × Nat × Nat × Nat) := (1065353216, 0, 0, 0)
def g_impl_NoTurn : List AV → Option AV
  | [] => some (AV.agg [(.flt .f32 (m_impl_NoTurn).1), (.flt .f32 (m_impl_NoTurn).2.1), (.flt .f32 (m_impl_NoTurn).2.2.1), (.flt .f32
      (m_impl_NoTurn).2.2.2)])
  | _ => none
def ic111 : ICode := (.seq (.reg [⟨(some 0), none, (.alloc (.agg [(.flt .f32 0), (.flt .f32 0), (.flt .f32 0), (.flt .f32 0)]))⟩] [0]) (.seq (.reg [⟨(some 1), none, (.build [(.flt
      .f32 0), (.flt .f32 0), (.flt .f32 0), (.flt .f32 0)] [(0, 1, (.c (.flt .f32 1065353216)))])⟩, ⟨none, none, (.store 4 (.t 0) (.t 1))⟩] [0]) .ret))
def cp111 : CP := CP.mk [] [] [[0], [0]] 2 [] []
theorem fc111_0 : IntKind.wrap .i64 (-1) = (-1) := by decide
theorem fc111_1 : IntKind.wrap .i64 0 = 0 := by decide
theorem fc111_2 : IntKind.wrap .i64 1 = 1 := by decide
theorem fc111_3 : IntKind.wrap .i64 10 = 10 := by decide
theorem fc111_4 : IntKind.wrap .i64 11 = 11 := by decide
theorem fc111_5 : IntKind.wrap .i64 110 = 110 := by decide
theorem fc111_6 : IntKind.wrap .i64 12 = 12 := by decide
theorem fc111_7 : IntKind.wrap .i64 13 = 13 := by decide
theorem fc111_8 : IntKind.wrap .i64 14 = 14 := by decide
theorem fc111_9 : IntKind.wrap .i64 15 = 15 := by decide
theorem fc111_10 : IntKind.wrap .i64 156 = 156 := by decide
theorem fc111_11 : IntKind.wrap .i64 16 = 16 := by decide
theorem fc111_12 : IntKind.wrap .i64 17 = 17 := by decide
theorem fc111_13 : IntKind.wrap .i64 2 = 2 := by decide
theorem fc111_14 : IntKind.wrap .i64 20 = 20 := by decide
theorem fc111_15 : IntKind.wrap .i64 210 = 210 := by decide
theorem fc111_16 : IntKind.wrap .i64 272 = 272 := by decide
theorem fc111_17 : IntKind.wrap .i64 3 = 3 := by decide
theorem fc111_18 : IntKind.wrap .i64 4 = 4 := by decide
theorem fc111_19 : IntKind.wrap .i64 42 = 42 := by decide
theorem fc111_20 : IntKind.wrap .i64 5 = 5 := by decide
theorem fc111_21 : IntKind.wrap .i64 6 = 6 := by decide
theorem fc111_22 : IntKind.wrap .i64 7 = 7 := by decide
theorem fc111_23 : IntKind.wrap .i64 72 = 72 := by decide
theorem fc111_24 : IntKind.wrap .i64 8 = 8 := by decide
theorem fc111_25 : IntKind.wrap .i64 9 = 9 := by decide
theorem s111 : ∀ vs r, g_impl_NoTurn vs = some r → SaysM Try.prog .any 111 vs r := by
  intro vs r h
  unfold g_impl_NoTurn at h
  split at h
  · cases h
    refine spec_of (m := .any) (tab := tabOf []) (cp := cp111) (ic := ic111) (rvl := [(.c 0 (some 4))]) hm tabOk_nil Try.func111 rfl rfl rfl (by kernel_rfl) rfl (Nat.le_of_ble_eq_true rfl) (Nat.le_of_ble_eq_true rfl) ?_
    show eA _ _ _ _
    unfold ic111
    simp only [
        grpA, vsliceS, grpS, grpD, grpF, grpL, eop, vop, bop, uop, fltop, convop, endOk, newE, new1, freshL, Md.isNew, outV, pureV, pureX, pure1, AV.cells, AV.one, storable, laid,
              refless, refless1, vload, loadC, storeC, vnil, vfaddr, vextract, flatT, flatE, flatC, vconv, vmm, vidxA, viaddrA, vfield, vlen, elemsOf, dF32, dF64, dI64, dU8, dBool,
              dStr, esOk, elemsS, vsliceX, bnd, ownV, ownC, own1, ownT, isSl, nSl, endL, Md.isOwn, purge, purgeH, purgeB, purgeE, hasName, name1, List.any_cons, List.any_nil,
              Md.isWr, pureV.pureP, Option.map, reduceIte, Nat.reduceEqDiff, Nat.reduceAdd, Nat.reduceMul, Nat.reduceLT, Nat.reduceLeDiff, List.mapM_cons, List.mapM_nil,
              Option.pure_def, Option.bind_eq_bind, Option.bind_some, implies_true, forall_const, beq_self_eq_true, decide_true, decide_false, eq_self, Int.reduceEq, Int.reduceLE,
              Int.reduceLT, if_true, if_false, fc111_0, fc111_1, fc111_2, fc111_3, fc111_4, fc111_5, fc111_6, fc111_7, fc111_8, fc111_9, fc111_10, fc111_11, fc111_12, fc111_13,
              fc111_14, fc111_15, fc111_16, fc111_17, fc111_18, fc111_19, fc111_20, fc111_21, fc111_22, fc111_23, fc111_24, fc111_25, Int.reduceAdd, Int.reduceSub, Int.reduceMul,
              Int.reduceNeg, Int.reducePow, Nat.reducePow, Int.reduceToNat, Nat.reduceSub, List.replicate, Nat.reduceBEq, wAs, wA, wC, zipW, noDupN, grpE]
    repeat' (first
      | ((first | (refine eGI_of (fun h => ?_) (fun h => ?_)) | (refine eCc_of (fun h => ?_) (fun h => ?_))) <;> (try simp only [Bool.not_eq_true', Bool.not_eq_false'] at h) <;> simp only [h,
        grpA, vsliceS, grpS, grpD, grpF, grpL, eop, vop, bop, uop, fltop, convop, endOk, newE, new1, freshL, Md.isNew, outV, pureV, pureX, pure1, AV.cells, AV.one, storable, laid,
              refless, refless1, vload, loadC, storeC, vnil, vfaddr, vextract, flatT, flatE, flatC, vconv, vmm, vidxA, viaddrA, vfield, vlen, elemsOf, dF32, dF64, dI64, dU8, dBool,
              dStr, esOk, elemsS, vsliceX, bnd, ownV, ownC, own1, ownT, isSl, nSl, endL, Md.isOwn, purge, purgeH, purgeB, purgeE, hasName, name1, List.any_cons, List.any_nil,
              Md.isWr, pureV.pureP, Option.map, reduceIte, Nat.reduceEqDiff, Nat.reduceAdd, Nat.reduceMul, Nat.reduceLT, Nat.reduceLeDiff, List.mapM_cons, List.mapM_nil,
              Option.pure_def, Option.bind_eq_bind, Option.bind_some, implies_true, forall_const, beq_self_eq_true, decide_true, decide_false, eq_self, Int.reduceEq, Int.reduceLE,
              Int.reduceLT, if_true, if_false, fc111_0, fc111_1, fc111_2, fc111_3, fc111_4, fc111_5, fc111_6, fc111_7, fc111_8, fc111_9, fc111_10, fc111_11, fc111_12, fc111_13,
              fc111_14, fc111_15, fc111_16, fc111_17, fc111_18, fc111_19, fc111_20, fc111_21, fc111_22, fc111_23, fc111_24, fc111_25, Int.reduceAdd, Int.reduceSub, Int.reduceMul,
              Int.reduceNeg, Int.reducePow, Nat.reducePow, Int.reduceToNat, Nat.reduceSub, List.replicate, Nat.reduceBEq, wAs, wA, wC, zipW, noDupN, grpE]))
    all_goals (try simp only [*, m_impl_NoTurn, Bool.and_true, Bool.true_and, Bool.and_false, Bool.false_and, Bool.or_true, Bool.true_or, Bool.or_false, Bool.false_or, Bool.not_true, Bool.not_false, Bool.false_eq_true, if_true, if_false, reduceIte, decide_true, decide_false])
    all_goals (try (simp_all; done))
  · cases h
def m_impl_MendTurn (x0 : (Nat × Nat × Nat × Nat)) : (Nat × Nat × Nat × Nat) := (if (m_impl_isLength (m_impl_LengthOfTurn x0)) = true then ((fdiv .f32 x0.1 (m_impl_LengthOfTurn
      x0)), (fdiv .f32 x0.2.1 (m_impl_LengthOfTurn x0)), (fdiv .f32 x0.2.2.1 (m_impl_LengthOfTurn x0)), (fdiv .f32 x0.2.2.2 (m_impl_LengthOfTurn x0))) else (m_impl_NoTurn))
def p_impl_MendTurn (x0 : (Nat × Nat × Nat × Nat)) : Bool := (p_impl_LengthOfTurn x0)
def g_impl_MendTurn : List AV → Option AV
  | [.agg [.flt .f32 y0, .flt .f32 y1, .flt .f32 y2, .flt .f32 y3]] => if p_impl_MendTurn (y0, y1, y2, y3) = true then some (AV.agg [(.flt
      .f32 (m_impl_MendTurn (y0, y1, y2, y3)).1), (.flt .f32 (m_impl_MendTurn (y0, y1, y2, y3)).2.1), (.flt .f32 (m_impl_MendTurn (y0, y1, y2, y3)).2.2.1), (.flt .f32
      (m_impl_MendTurn (y0, y1, y2, y3)).2.2.2)]) else none
  | _ => none
def ic125 : ICode := (.seq (.reg [⟨(some 1), none, (.box 4 (.t 0))⟩, ⟨(some 2), none, (.alloc (.agg [(.flt .f32 0), (.flt .f32 0), (.flt .f32 0), (.flt .f32 0)]))⟩] [1, 2]) (.seq
      (.reg [⟨(some 4), none, (.load (some 4) (.t 1))⟩, ⟨(some 5), none, (.call (.fn 173) [(.t 4)] [])⟩, ⟨(some 3), none, (.mov (.t 5))⟩] [1, 2, 3]) (.seq (.seq (.reg [⟨(some 6),
      none, (.mov (.t 3))⟩, ⟨(some 7), none, (.call (.fn 174) [(.t 6)] [])⟩, ⟨(some 8), none, (.un .not (.t 7))⟩] [1, 2, 3, 8]) (.cond (.t 8) (.seq (.reg [⟨(some 9), none, (.call
      (.fn 111) [] [])⟩, ⟨none, none, (.store 4 (.t 2) (.t 9))⟩] [2]) .ret) .skip)) (.seq (.reg [⟨(some 10), none, (.faddr 0 (.t 1))⟩, ⟨(some 11), none, (.load none (.t 10))⟩,
      ⟨(some 12), none, (.mov (.t 3))⟩, ⟨(some 13), none, (.bin .quo false (.t 11) (.t 12))⟩, ⟨(some 14), none, (.faddr 1 (.t 1))⟩, ⟨(some 15), none, (.load none (.t 14))⟩, ⟨(some
      16), none, (.mov (.t 3))⟩, ⟨(some 17), none, (.bin .quo false (.t 15) (.t 16))⟩, ⟨(some 18), none, (.faddr 2 (.t 1))⟩, ⟨(some 19), none, (.load none (.t 18))⟩, ⟨(some 20),
      none, (.mov (.t 3))⟩, ⟨(some 21), none, (.bin .quo false (.t 19) (.t 20))⟩, ⟨(some 22), none, (.faddr 3 (.t 1))⟩, ⟨(some 23), none, (.load none (.t 22))⟩, ⟨(some 24), none,
      (.mov (.t 3))⟩, ⟨(some 25), none, (.bin .quo false (.t 23) (.t 24))⟩, ⟨(some 26), none, (.build [(.flt .f32 0), (.flt .f32 0), (.flt .f32 0), (.flt .f32 0)] [(0, 1, (.t 13)),
      (1, 1, (.t 17)), (2, 1, (.t 21)), (3, 1, (.t 25))])⟩, ⟨none, none, (.store 4 (.t 2) (.t 26))⟩] [2]) .ret))))
def cp125 : CP := CP.mk [] [] [[1, 2], [1, 2, 3], [1, 2, 3, 8], [2], [2]] 27 [] []
theorem fc125_0 : IntKind.wrap .i64 (-1) = (-1) := by decide
theorem fc125_1 : IntKind.wrap .i64 0 = 0 := by decide
theorem fc125_2 : IntKind.wrap .i64 1 = 1 := by decide
theorem fc125_3 : IntKind.wrap .i64 10 = 10 := by decide
theorem fc125_4 : IntKind.wrap .i64 11 = 11 := by decide
theorem fc125_5 : IntKind.wrap .i64 110 = 110 := by decide
theorem fc125_6 : IntKind.wrap .i64 12 = 12 := by decide
theorem fc125_7 : IntKind.wrap .i64 13 = 13 := by decide
theorem fc125_8 : IntKind.wrap .i64 14 = 14 := by decide
theorem fc125_9 : IntKind.wrap .i64 15 = 15 := by decide
theorem fc125_10 : IntKind.wrap .i64 156 = 156 := by decide
theorem fc125_11 : IntKind.wrap .i64 16 = 16 := by decide
theorem fc125_12 : IntKind.wrap .i64 17 = 17 := by decide
theorem fc125_13 : IntKind.wrap .i64 2 = 2 := by decide
theorem fc125_14 : IntKind.wrap .i64 20 = 20 := by decide
theorem fc125_15 : IntKind.wrap .i64 210 = 210 := by decide
theorem fc125_16 : IntKind.wrap .i64 272 = 272 := by decide
theorem fc125_17 : IntKind.wrap .i64 3 = 3 := by decide
theorem fc125_18 : IntKind.wrap .i64 4 = 4 := by decide
theorem fc125_19 : IntKind.wrap .i64 42 = 42 := by decide
theorem fc125_20 : IntKind.wrap .i64 5 = 5 := by decide
theorem fc125_21 : IntKind.wrap .i64 6 = 6 := by decide
theorem fc125_22 : IntKind.wrap .i64 7 = 7 := by decide
theorem fc125_23 : IntKind.wrap .i64 72 = 72 := by decide
theorem fc125_24 : IntKind.wrap .i64 8 = 8 := by decide
theorem fc125_25 : IntKind.wrap .i64 9 = 9 := by decide
theorem s125 : ∀ vs r, g_impl_MendTurn vs = some r → SaysM Try.prog .any 125 vs r := by
  intro vs r h
  unfold g_impl_MendTurn at h
  split at h
  · rename_i y0 y1 y2 y3
    split at h
    · rename_i hp
      cases h
      refine spec_of (m := .any) (tab := tabOf [(111, wM .any g_impl_NoTurn), (173, wM .any g_impl_LengthOfTurn), (174, wM .any g_impl_isLength)]) (cp := cp125) (ic := ic125) (rvl := [(.c 2 (some 4))]) hm (tabOk_cons (m := .any) s111 (tabOk_cons (m := .any) s173 (tabOk_cons (m := .any) s174 tabOk_nil))) Try.func125 rfl rfl rfl (by kernel_rfl) rfl (Nat.le_of_ble_eq_true rfl) (Nat.le_of_ble_eq_true rfl) ?_
      show eA _ _ _ _
      unfold ic125
      simp only [p_impl_MendTurn, Bool.and_eq_true, Bool.or_eq_true, decide_eq_true_eq, Bool.not_eq_true', decide_eq_false_iff_not] at hp
      simp only [
          hp, grpA, vsliceS, grpS, grpD, grpF, grpL, eop, vop, bop, uop, fltop, convop, endOk, newE, new1, freshL, Md.isNew, outV, pureV, pureX, pure1, AV.cells, AV.one, storable,
                laid, refless, refless1, vload, loadC, storeC, vnil, vfaddr, vextract, flatT, flatE, flatC, vconv, vmm, vidxA, viaddrA, vfield, vlen, elemsOf, dF32, dF64, dI64, dU8,
                dBool, dStr, esOk, elemsS, vsliceX, bnd, ownV, ownC, own1, ownT, isSl, nSl, endL, Md.isOwn, purge, purgeH, purgeB, purgeE, hasName, name1, List.any_cons,
                List.any_nil, Md.isWr, pureV.pureP, Option.map, reduceIte, Nat.reduceEqDiff, Nat.reduceAdd, Nat.reduceMul, Nat.reduceLT, Nat.reduceLeDiff, List.mapM_cons,
                List.mapM_nil, Option.pure_def, Option.bind_eq_bind, Option.bind_some, implies_true, forall_const, beq_self_eq_true, decide_true, decide_false, eq_self,
                Int.reduceEq, Int.reduceLE, Int.reduceLT, if_true, if_false, fc125_0, fc125_1, fc125_2, fc125_3, fc125_4, fc125_5, fc125_6, fc125_7, fc125_8, fc125_9, fc125_10,
                fc125_11, fc125_12, fc125_13, fc125_14, fc125_15, fc125_16, fc125_17, fc125_18, fc125_19, fc125_20, fc125_21, fc125_22, fc125_23, fc125_24, fc125_25, Int.reduceAdd,
                Int.reduceSub, Int.reduceMul, Int.reduceNeg, Int.reducePow, Nat.reducePow, Int.reduceToNat, Nat.reduceSub, List.replicate, Nat.reduceBEq, wAs, wA, wC, zipW, noDupN,
                grpE, g_impl_NoTurn, g_impl_LengthOfTurn, g_impl_isLength]
      repeat' (first
        | ((first | (refine eGI_of (fun h => ?_) (fun h => ?_)) | (refine eCc_of (fun h => ?_) (fun h => ?_))) <;> (try simp only [Bool.not_eq_true', Bool.not_eq_false'] at h) <;> (try simp only [h, reduceCtorEq, Bool.not_eq_true', decide_eq_false_iff_not, Bool.not_true, Bool.not_false, Bool.false_or, Bool.true_or, Bool.true_and, Bool.false_and, Bool.and_eq_true, Bool.or_eq_true, if_true, if_false, reduceIte, Bool.false_eq_true, and_true, true_and, false_or, or_false, decide_eq_true_eq, not_false_eq_true, not_true_eq_false] at hp) <;> (try (have h2 := h; simp only [decide_eq_true_eq, decide_eq_false_iff_not] at h2; (first | (replace h2 := eq_false h2) | (replace h2 := eq_true h2)); simp only [h2, if_true, if_false, false_or, true_or, or_true, or_false, and_true, true_and, not_false_eq_true, not_true_eq_false] at hp)) <;> simp only [h,
          hp, grpA, vsliceS, grpS, grpD, grpF, grpL, eop, vop, bop, uop, fltop, convop, endOk, newE, new1, freshL, Md.isNew, outV, pureV, pureX, pure1, AV.cells, AV.one, storable,
                laid, refless, refless1, vload, loadC, storeC, vnil, vfaddr, vextract, flatT, flatE, flatC, vconv, vmm, vidxA, viaddrA, vfield, vlen, elemsOf, dF32, dF64, dI64, dU8,
                dBool, dStr, esOk, elemsS, vsliceX, bnd, ownV, ownC, own1, ownT, isSl, nSl, endL, Md.isOwn, purge, purgeH, purgeB, purgeE, hasName, name1, List.any_cons,
                List.any_nil, Md.isWr, pureV.pureP, Option.map, reduceIte, Nat.reduceEqDiff, Nat.reduceAdd, Nat.reduceMul, Nat.reduceLT, Nat.reduceLeDiff, List.mapM_cons,
                List.mapM_nil, Option.pure_def, Option.bind_eq_bind, Option.bind_some, implies_true, forall_const, beq_self_eq_true, decide_true, decide_false, eq_self,
                Int.reduceEq, Int.reduceLE, Int.reduceLT, if_true, if_false, fc125_0, fc125_1, fc125_2, fc125_3, fc125_4, fc125_5, fc125_6, fc125_7, fc125_8, fc125_9, fc125_10,
                fc125_11, fc125_12, fc125_13, fc125_14, fc125_15, fc125_16, fc125_17, fc125_18, fc125_19, fc125_20, fc125_21, fc125_22, fc125_23, fc125_24, fc125_25, Int.reduceAdd,
                Int.reduceSub, Int.reduceMul, Int.reduceNeg, Int.reducePow, Nat.reducePow, Int.reduceToNat, Nat.reduceSub, List.replicate, Nat.reduceBEq, wAs, wA, wC, zipW, noDupN,
                grpE, g_impl_NoTurn, g_impl_LengthOfTurn, g_impl_isLength]))
      all_goals (try simp only [*, m_impl_MendTurn, Bool.and_true, Bool.true_and, Bool.and_false, Bool.false_and, Bool.or_true, Bool.true_or, Bool.or_false, Bool.false_or, Bool.not_true, Bool.not_false, Bool.false_eq_true, if_true, if_false, reduceIte, decide_true, decide_false])
      all_goals (try (simp_all; done))
    · cases h
  · cases h
def m_impl_InverseOf (x0 : (Nat × Nat × Nat × Nat)) : (Nat × Nat × Nat × Nat) := (x0.1, (fneg .f32 x0.2.1), (fneg .f32 x0.2.2.1), (fneg .f32 x0.2.2.2))
def g_impl_InverseOf : List AV → Option AV
  | [.agg [.flt .f32 y0, .flt .f32 y1, .flt .f32 y2, .flt .f32 y3]] => some (AV.agg [(.flt .f32 (m_impl_InverseOf (y0, y1, y2, y3)).1),
      (.flt .f32 (m_impl_InverseOf (y0, y1, y2, y3)).2.1), (.flt .f32 (m_impl_InverseOf (y0, y1, y2, y3)).2.2.1), (.flt .f32 (m_impl_InverseOf (y0, y1, y2, y3)).2.2.2)])
  | _ => none
def ic129 : ICode := (.seq (.reg [⟨(some 1), none, (.box 4 (.t 0))⟩, ⟨(some 2), none, (.alloc (.agg [(.flt .f32 0), (.flt .f32 0), (.flt .f32 0), (.flt .f32 0)]))⟩] [1, 2]) (.seq
      (.reg [⟨(some 3), none, (.faddr 0 (.t 1))⟩, ⟨(some 4), none, (.load none (.t 3))⟩, ⟨(some 5), none, (.faddr 1 (.t 1))⟩, ⟨(some 6), none, (.load none (.t 5))⟩, ⟨(some 7), none,
      (.un .neg (.t 6))⟩, ⟨(some 8), none, (.faddr 2 (.t 1))⟩, ⟨(some 9), none, (.load none (.t 8))⟩, ⟨(some 10), none, (.un .neg (.t 9))⟩, ⟨(some 11), none, (.faddr 3 (.t 1))⟩,
      ⟨(some 12), none, (.load none (.t 11))⟩, ⟨(some 13), none, (.un .neg (.t 12))⟩, ⟨(some 14), none, (.build [(.flt .f32 0), (.flt .f32 0), (.flt .f32 0), (.flt .f32 0)] [(0, 1,
      (.t 4)), (1, 1, (.t 7)), (2, 1, (.t 10)), (3, 1, (.t 13))])⟩, ⟨none, none, (.store 4 (.t 2) (.t 14))⟩] [2]) .ret))
def cp129 : CP := CP.mk [] [] [[1, 2], [2]] 15 [] []
theorem fc129_0 : IntKind.wrap .i64 (-1) = (-1) := by decide
theorem fc129_1 : IntKind.wrap .i64 0 = 0 := by decide
theorem fc129_2 : IntKind.wrap .i64 1 = 1 := by decide
theorem fc129_3 : IntKind.wrap .i64 10 = 10 := by decide
theorem fc129_4 : IntKind.wrap .i64 11 = 11 := by decide
theorem fc129_5 : IntKind.wrap .i64 110 = 110 := by decide
theorem fc129_6 : IntKind.wrap .i64 12 = 12 := by decide
theorem fc129_7 : IntKind.wrap .i64 13 = 13 := by decide
theorem fc129_8 : IntKind.wrap .i64 14 = 14 := by decide
theorem fc129_9 : IntKind.wrap .i64 15 = 15 := by decide
theorem fc129_10 : IntKind.wrap .i64 156 = 156 := by decide
theorem fc129_11 : IntKind.wrap .i64 16 = 16 := by decide
theorem fc129_12 : IntKind.wrap .i64 17 = 17 := by decide
theorem fc129_13 : IntKind.wrap .i64 2 = 2 := by decide
theorem fc129_14 : IntKind.wrap .i64 20 = 20 := by decide
theorem fc129_15 : IntKind.wrap .i64 210 = 210 := by decide
theorem fc129_16 : IntKind.wrap .i64 272 = 272 := by decide
theorem fc129_17 : IntKind.wrap .i64 3 = 3 := by decide
theorem fc129_18 : IntKind.wrap .i64 4 = 4 := by decide
theorem fc129_19 : IntKind.wrap .i64 42 = 42 := by decide
theorem fc129_20 : IntKind.wrap .i64 5 = 5 := by decide
theorem fc129_21 : IntKind.wrap .i64 6 = 6 := by decide
theorem fc129_22 : IntKind.wrap .i64 7 = 7 := by decide
theorem fc129_23 : IntKind.wrap .i64 72 = 72 := by decide
theorem fc129_24 : IntKind.wrap .i64 8 = 8 := by decide
theorem fc129_25 : IntKind.wrap .i64 9 = 9 := by decide
theorem s129 : ∀ vs r, g_impl_InverseOf vs = some r → SaysM Try.prog .any 129 vs r := by
  intro vs r h
  unfold g_impl_InverseOf at h
  split at h
  · rename_i y0 y1 y2 y3
    cases h
    refine spec_of (m := .any) (tab := tabOf []) (cp := cp129) (ic := ic129) (rvl := [(.c 2 (some 4))]) hm tabOk_nil Try.func129 rfl rfl rfl (by kernel_rfl) rfl (Nat.le_of_ble_eq_true rfl) (Nat.le_of_ble_eq_true rfl) ?_
    show eA _ _ _ _
    unfold ic129
    simp only [
        grpA, vsliceS, grpS, grpD, grpF, grpL, eop, vop, bop, uop, fltop, convop, endOk, newE, new1, freshL, Md.isNew, outV, pureV, pureX, pure1, AV.cells, AV.one, storable, laid,
              refless, refless1, vload, loadC, storeC, vnil, vfaddr, vextract, flatT, flatE, flatC, vconv, vmm, vidxA, viaddrA, vfield, vlen, elemsOf, dF32, dF64, dI64, dU8, dBool,
              dStr, esOk, elemsS, vsliceX, bnd, ownV, ownC, own1, ownT, isSl, nSl, endL, Md.isOwn, purge, purgeH, purgeB, purgeE, hasName, name1, List.any_cons, List.any_nil,
              Md.isWr, pureV.pureP, Option.map, reduceIte, Nat.reduceEqDiff, Nat.reduceAdd, Nat.reduceMul, Nat.reduceLT, Nat.reduceLeDiff, List.mapM_cons, List.mapM_nil,
              Option.pure_def, Option.bind_eq_bind, Option.bind_some, implies_true, forall_const, beq_self_eq_true, decide_true, decide_false, eq_self, Int.reduceEq, Int.reduceLE,
              Int.reduceLT, if_true, if_false, fc129_0, fc129_1, fc129_2, fc129_3, fc129_4, fc129_5, fc129_6, fc129_7, fc129_8, fc129_9, fc129_10, fc129_11, fc129_12, fc129_13,
              fc129_14, fc129_15, fc129_16, fc129_17, fc129_18, fc129_19, fc129_20, fc129_21, fc129_22, fc129_23, fc129_24, fc129_25, Int.reduceAdd, Int.reduceSub, Int.reduceMul,
              Int.reduceNeg, Int.reducePow, Nat.reducePow, Int.reduceToNat, Nat.reduceSub, List.replicate, Nat.reduceBEq, wAs, wA, wC, zipW, noDupN, grpE]
    repeat' (first
      | ((first | (refine eGI_of (fun h => ?_) (fun h => ?_)) | (refine eCc_of (fun h => ?_) (fun h => ?_))) <;> (try simp only [Bool.not_eq_true', Bool.not_eq_false'] at h) <;> simp only [h,
        grpA, vsliceS, grpS, grpD, grpF, grpL, eop, vop, bop, uop, fltop, convop, endOk, newE, new1, freshL, Md.isNew, outV, pureV, pureX, pure1, AV.cells, AV.one, storable, laid,
              refless, refless1, vload, loadC, storeC, vnil, vfaddr, vextract, flatT, flatE, flatC, vconv, vmm, vidxA, viaddrA, vfield, vlen, elemsOf, dF32, dF64, dI64, dU8, dBool,
              dStr, esOk, elemsS, vsliceX, bnd, ownV, ownC, own1, ownT, isSl, nSl, endL, Md.isOwn, purge, purgeH, purgeB, purgeE, hasName, name1, List.any_cons, List.any_nil,
              Md.isWr, pureV.pureP, Option.map, reduceIte, Nat.reduceEqDiff, Nat.reduceAdd, Nat.reduceMul, Nat.reduceLT, Nat.reduceLeDiff, List.mapM_cons, List.mapM_nil,
              Option.pure_def, Option.bind_eq_bind, Option.bind_some, implies_true, forall_const, beq_self_eq_true, decide_true, decide_false, eq_self, Int.reduceEq, Int.reduceLE,
              Int.reduceLT, if_true, if_false, fc129_0, fc129_1, fc129_2, fc129_3, fc129_4, fc129_5, fc129_6, fc129_7, fc129_8, fc129_9, fc129_10, fc129_11, fc129_12, fc129_13,
              fc129_14, fc129_15, fc129_16, fc129_17, fc129_18, fc129_19, fc129_20, fc129_21, fc129_22, fc129_23, fc129_24, fc129_25, Int.reduceAdd, Int.reduceSub, Int.reduceMul,
              Int.reduceNeg, Int.reducePow, Nat.reducePow, Int.reduceToNat, Nat.reduceSub, List.replicate, Nat.reduceBEq, wAs, wA, wC, zipW, noDupN, grpE]))
    all_goals (try simp only [*, m_impl_InverseOf, Bool.and_true, Bool.true_and, Bool.and_false, Bool.false_and, Bool.or_true, Bool.true_or, Bool.or_false, Bool.false_or, Bool.not_true, Bool.not_false, Bool.false_eq_true, if_true, if_false, reduceIte, decide_true, decide_false])
    all_goals (try (simp_all; done))
  · cases h
def m_impl_MulTurns (x0 : (Nat × Nat × Nat × Nat)) (x1 : (Nat × Nat × Nat × Nat)) : (Nat × Nat × Nat × Nat) := ((fsub .f32 (fsub .f32 (fsub .f32 (fmul .f32 x0.1 x1.1) (fmul .f32
      x0.2.1 x1.2.1)) (fmul .f32 x0.2.2.1 x1.2.2.1)) (fmul .f32 x0.2.2.2 x1.2.2.2)), (fsub .f32 (fadd .f32 (fadd .f32 (fmul .f32 x0.1 x1.2.1) (fmul .f32 x0.2.1 x1.1)) (fmul .f32
      x0.2.2.1 x1.2.2.2)) (fmul .f32 x0.2.2.2 x1.2.2.1)), (fadd .f32 (fadd .f32 (fsub .f32 (fmul .f32 x0.1 x1.2.2.1) (fmul .f32 x0.2.1 x1.2.2.2)) (fmul .f32 x0.2.2.1 x1.1)) (fmul
      .f32 x0.2.2.2 x1.2.1)), (fadd .f32 (fsub .f32 (fadd .f32 (fmul .f32 x0.1 x1.2.2.2) (fmul .f32 x0.2.1 x1.2.2.1)) (fmul .f32 x0.2.2.1 x1.2.1)) (fmul .f32 x0.2.2.2 x1.1)))
def g_impl_MulTurns : List AV → Option AV
  | [.agg [.flt .f32 y0, .flt .f32 y1, .flt .f32 y2, .flt .f32 y3], .agg [.flt .f32 y4, .flt .f32 y5, .flt .f32 y6, .flt .f32 y7]] => some
      (AV.agg [(.flt .f32 (m_impl_MulTurns (y0, y1, y2, y3) (y4, y5, y6, y7)).1), (.flt .f32 (m_impl_MulTurns (y0, y1, y2, y3) (y4, y5, y6, y7)).2.1), (.flt .f32 (m_impl_MulTurns
      (y0, y1, y2, y3) (y4, y5, y6, y7)).2.2.1), (.flt .f32 (m_impl_MulTurns (y0, y1, y2, y3) (y4, y5, y6, y7)).2.2.2)])
  | _ => none
def ic78 : ICode := (.seq (.reg [⟨(some 2), none, (.box 4 (.t 0))⟩, ⟨(some 3), none, (.box 4 (.t 1))⟩, ⟨(some 4), none, (.alloc (.agg [(.flt .f32 0), (.flt .f32 0), (.flt .f32 0),
      (.flt .f32 0)]))⟩] [2, 3, 4]) (.seq (.reg [⟨(some 5), none, (.faddr 0 (.t 2))⟩, ⟨(some 6), none, (.load none (.t 5))⟩, ⟨(some 7), none, (.faddr 0 (.t 3))⟩, ⟨(some 8), none,
      (.load none (.t 7))⟩, ⟨(some 9), none, (.bin .mul false (.t 6) (.t 8))⟩, ⟨(some 10), none, (.faddr 1 (.t 2))⟩, ⟨(some 11), none, (.load none (.t 10))⟩, ⟨(some 12), none,
      (.faddr 1 (.t 3))⟩, ⟨(some 13), none, (.load none (.t 12))⟩, ⟨(some 14), none, (.bin .mul false (.t 11) (.t 13))⟩, ⟨(some 15), none, (.bin .sub false (.t 9) (.t 14))⟩, ⟨(some
      16), none, (.faddr 2 (.t 2))⟩, ⟨(some 17), none, (.load none (.t 16))⟩, ⟨(some 18), none, (.faddr 2 (.t 3))⟩, ⟨(some 19), none, (.load none (.t 18))⟩, ⟨(some 20), none, (.bin
      .mul false (.t 17) (.t 19))⟩, ⟨(some 21), none, (.bin .sub false (.t 15) (.t 20))⟩, ⟨(some 22), none, (.faddr 3 (.t 2))⟩, ⟨(some 23), none, (.load none (.t 22))⟩, ⟨(some 24),
      none, (.faddr 3 (.t 3))⟩, ⟨(some 25), none, (.load none (.t 24))⟩, ⟨(some 26), none, (.bin .mul false (.t 23) (.t 25))⟩, ⟨(some 27), none, (.bin .sub false (.t 21) (.t 26))⟩,
      ⟨(some 28), none, (.faddr 0 (.t 2))⟩, ⟨(some 29), none, (.load none (.t 28))⟩, ⟨(some 30), none, (.faddr 1 (.t 3))⟩, ⟨(some 31), none, (.load none (.t 30))⟩, ⟨(some 32), none,
      (.bin .mul false (.t 29) (.t 31))⟩, ⟨(some 33), none, (.faddr 1 (.t 2))⟩, ⟨(some 34), none, (.load none (.t 33))⟩, ⟨(some 35), none, (.faddr 0 (.t 3))⟩, ⟨(some 36), none,
      (.load none (.t 35))⟩, ⟨(some 37), none, (.bin .mul false (.t 34) (.t 36))⟩, ⟨(some 38), none, (.bin .add false (.t 32) (.t 37))⟩, ⟨(some 39), none, (.faddr 2 (.t 2))⟩, ⟨(some
      40), none, (.load none (.t 39))⟩, ⟨(some 41), none, (.faddr 3 (.t 3))⟩, ⟨(some 42), none, (.load none (.t 41))⟩, ⟨(some 43), none, (.bin .mul false (.t 40) (.t 42))⟩, ⟨(some
      44), none, (.bin .add false (.t 38) (.t 43))⟩, ⟨(some 45), none, (.faddr 3 (.t 2))⟩, ⟨(some 46), none, (.load none (.t 45))⟩, ⟨(some 47), none, (.faddr 2 (.t 3))⟩, ⟨(some 48),
      none, (.load none (.t 47))⟩, ⟨(some 49), none, (.bin .mul false (.t 46) (.t 48))⟩, ⟨(some 50), none, (.bin .sub false (.t 44) (.t 49))⟩, ⟨(some 51), none, (.faddr 0 (.t 2))⟩,
      ⟨(some 52), none, (.load none (.t 51))⟩, ⟨(some 53), none, (.faddr 2 (.t 3))⟩, ⟨(some 54), none, (.load none (.t 53))⟩, ⟨(some 55), none, (.bin .mul false (.t 52) (.t 54))⟩,
      ⟨(some 56), none, (.faddr 1 (.t 2))⟩, ⟨(some 57), none, (.load none (.t 56))⟩, ⟨(some 58), none, (.faddr 3 (.t 3))⟩, ⟨(some 59), none, (.load none (.t 58))⟩, ⟨(some 60), none,
      (.bin .mul false (.t 57) (.t 59))⟩, ⟨(some 61), none, (.bin .sub false (.t 55) (.t 60))⟩, ⟨(some 62), none, (.faddr 2 (.t 2))⟩, ⟨(some 63), none, (.load none (.t 62))⟩, ⟨(some
      64), none, (.faddr 0 (.t 3))⟩, ⟨(some 65), none, (.load none (.t 64))⟩, ⟨(some 66), none, (.bin .mul false (.t 63) (.t 65))⟩, ⟨(some 67), none, (.bin .add false (.t 61) (.t
      66))⟩, ⟨(some 68), none, (.faddr 3 (.t 2))⟩, ⟨(some 69), none, (.load none (.t 68))⟩, ⟨(some 70), none, (.faddr 1 (.t 3))⟩, ⟨(some 71), none, (.load none (.t 70))⟩, ⟨(some
      72), none, (.bin .mul false (.t 69) (.t 71))⟩, ⟨(some 73), none, (.bin .add false (.t 67) (.t 72))⟩, ⟨(some 74), none, (.faddr 0 (.t 2))⟩, ⟨(some 75), none, (.load none (.t
      74))⟩, ⟨(some 76), none, (.faddr 3 (.t 3))⟩, ⟨(some 77), none, (.load none (.t 76))⟩, ⟨(some 78), none, (.bin .mul false (.t 75) (.t 77))⟩, ⟨(some 79), none, (.faddr 1 (.t
      2))⟩, ⟨(some 80), none, (.load none (.t 79))⟩, ⟨(some 81), none, (.faddr 2 (.t 3))⟩, ⟨(some 82), none, (.load none (.t 81))⟩, ⟨(some 83), none, (.bin .mul false (.t 80) (.t
      82))⟩, ⟨(some 84), none, (.bin .add false (.t 78) (.t 83))⟩, ⟨(some 85), none, (.faddr 2 (.t 2))⟩, ⟨(some 86), none, (.load none (.t 85))⟩, ⟨(some 87), none, (.faddr 1 (.t
      3))⟩, ⟨(some 88), none, (.load none (.t 87))⟩, ⟨(some 89), none, (.bin .mul false (.t 86) (.t 88))⟩, ⟨(some 90), none, (.bin .sub false (.t 84) (.t 89))⟩, ⟨(some 91), none,
      (.faddr 3 (.t 2))⟩, ⟨(some 92), none, (.load none (.t 91))⟩, ⟨(some 93), none, (.faddr 0 (.t 3))⟩, ⟨(some 94), none, (.load none (.t 93))⟩, ⟨(some 95), none, (.bin .mul false
      (.t 92) (.t 94))⟩, ⟨(some 96), none, (.bin .add false (.t 90) (.t 95))⟩, ⟨(some 97), none, (.build [(.flt .f32 0), (.flt .f32 0), (.flt .f32 0), (.flt .f32 0)] [(0, 1, (.t
      27)), (1, 1, (.t 50)), (2, 1, (.t 73)), (3, 1, (.t 96))])⟩, ⟨none, none, (.store 4 (.t 4) (.t 97))⟩] [4]) .ret))
def cp78 : CP := CP.mk [] [] [[2, 3, 4], [4]] 98 [] []
theorem fc78_0 : IntKind.wrap .i64 (-1) = (-1) := by decide
theorem fc78_1 : IntKind.wrap .i64 0 = 0 := by decide
theorem fc78_2 : IntKind.wrap .i64 1 = 1 := by decide
theorem fc78_3 : IntKind.wrap .i64 10 = 10 := by decide
theorem fc78_4 : IntKind.wrap .i64 11 = 11 := by decide
theorem fc78_5 : IntKind.wrap .i64 110 = 110 := by decide
theorem fc78_6 : IntKind.wrap .i64 12 = 12 := by decide
theorem fc78_7 : IntKind.wrap .i64 13 = 13 := by decide
theorem fc78_8 : IntKind.wrap .i64 14 = 14 := by decide
theorem fc78_9 : IntKind.wrap .i64 15 = 15 := by decide
theorem fc78_10 : IntKind.wrap .i64 156 = 156 := by decide
theorem fc78_11 : IntKind.wrap .i64 16 = 16 := by decide
theorem fc78_12 : IntKind.wrap .i64 17 = 17 := by decide
theorem fc78_13 : IntKind.wrap .i64 2 = 2 := by decide
theorem fc78_14 : IntKind.wrap .i64 20 = 20 := by decide
theorem fc78_15 : IntKind.wrap .i64 210 = 210 := by decide
theorem fc78_16 : IntKind.wrap .i64 272 = 272 := by decide
theorem fc78_17 : IntKind.wrap .i64 3 = 3 := by decide
theorem fc78_18 : IntKind.wrap .i64 4 = 4 := by decide
theorem fc78_19 : IntKind.wrap .i64 42 = 42 := by decide
theorem fc78_20 : IntKind.wrap .i64 5 = 5 := by decide
theorem fc78_21 : IntKind.wrap .i64 6 = 6 := by decide
theorem fc78_22 : IntKind.wrap .i64 7 = 7 := by decide
theorem fc78_23 : IntKind.wrap .i64 72 = 72 := by decide
theorem fc78_24 : IntKind.wrap .i64 8 = 8 := by decide
theorem fc78_25 : IntKind.wrap .i64 9 = 9 := by decide
theorem s78 : ∀ vs r, g_impl_MulTurns vs = some r → SaysM Try.prog .any 78 vs r := by
  intro vs r h
  unfold g_impl_MulTurns at h
  split at h
  · rename_i y0 y1 y2 y3 y4 y5 y6 y7
    cases h
    refine spec_of (m := .any) (tab := tabOf []) (cp := cp78) (ic := ic78) (rvl := [(.c 4 (some 4))]) hm tabOk_nil Try.func78 rfl rfl rfl (by kernel_rfl) rfl (Nat.le_of_ble_eq_true rfl) (Nat.le_of_ble_eq_true rfl) ?_
    show eA _ _ _ _
    unfold ic78
    simp only [
        grpA, vsliceS, grpS, grpD, grpF, grpL, eop, vop, bop, uop, fltop, convop, endOk, newE, new1, freshL, Md.isNew, outV, pureV, pureX, pure1, AV.cells, AV.one, storable, laid,
              refless, refless1, vload, loadC, storeC, vnil, vfaddr, vextract, flatT, flatE, flatC, vconv, vmm, vidxA, viaddrA, vfield, vlen, elemsOf, dF32, dF64, dI64, dU8, dBool,
              dStr, esOk, elemsS, vsliceX, bnd, ownV, ownC, own1, ownT, isSl, nSl, endL, Md.isOwn, purge, purgeH, purgeB, purgeE, hasName, name1, List.any_cons, List.any_nil,
              Md.isWr, pureV.pureP, Option.map, reduceIte, Nat.reduceEqDiff, Nat.reduceAdd, Nat.reduceMul, Nat.reduceLT, Nat.reduceLeDiff, List.mapM_cons, List.mapM_nil,
              Option.pure_def, Option.bind_eq_bind, Option.bind_some, implies_true, forall_const, beq_self_eq_true, decide_true, decide_false, eq_self, Int.reduceEq, Int.reduceLE,
              Int.reduceLT, if_true, if_false, fc78_0, fc78_1, fc78_2, fc78_3, fc78_4, fc78_5, fc78_6, fc78_7, fc78_8, fc78_9, fc78_10, fc78_11, fc78_12, fc78_13, fc78_14, fc78_15,
              fc78_16, fc78_17, fc78_18, fc78_19, fc78_20, fc78_21, fc78_22, fc78_23, fc78_24, fc78_25, Int.reduceAdd, Int.reduceSub, Int.reduceMul, Int.reduceNeg, Int.reducePow,
              Nat.reducePow, Int.reduceToNat, Nat.reduceSub, List.replicate, Nat.reduceBEq, wAs, wA, wC, zipW, noDupN, grpE]
    repeat' (first
      | ((first | (refine eGI_of (fun h => ?_) (fun h => ?_)) | (refine eCc_of (fun h => ?_) (fun h => ?_))) <;> (try simp only [Bool.not_eq_true', Bool.not_eq_false'] at h) <;> simp only [h,
        grpA, vsliceS, grpS, grpD, grpF, grpL, eop, vop, bop, uop, fltop, convop, endOk, newE, new1, freshL, Md.isNew, outV, pureV, pureX, pure1, AV.cells, AV.one, storable, laid,
              refless, refless1, vload, loadC, storeC, vnil, vfaddr, vextract, flatT, flatE, flatC, vconv, vmm, vidxA, viaddrA, vfield, vlen, elemsOf, dF32, dF64, dI64, dU8, dBool,
              dStr, esOk, elemsS, vsliceX, bnd, ownV, ownC, own1, ownT, isSl, nSl, endL, Md.isOwn, purge, purgeH, purgeB, purgeE, hasName, name1, List.any_cons, List.any_nil,
              Md.isWr, pureV.pureP, Option.map, reduceIte, Nat.reduceEqDiff, Nat.reduceAdd, Nat.reduceMul, Nat.reduceLT, Nat.reduceLeDiff, List.mapM_cons, List.mapM_nil,
              Option.pure_def, Option.bind_eq_bind, Option.bind_some, implies_true, forall_const, beq_self_eq_true, decide_true, decide_false, eq_self, Int.reduceEq, Int.reduceLE,
              Int.reduceLT, if_true, if_false, fc78_0, fc78_1, fc78_2, fc78_3, fc78_4, fc78_5, fc78_6, fc78_7, fc78_8, fc78_9, fc78_10, fc78_11, fc78_12, fc78_13, fc78_14, fc78_15,
              fc78_16, fc78_17, fc78_18, fc78_19, fc78_20, fc78_21, fc78_22, fc78_23, fc78_24, fc78_25, Int.reduceAdd, Int.reduceSub, Int.reduceMul, Int.reduceNeg, Int.reducePow,
              Nat.reducePow, Int.reduceToNat, Nat.reduceSub, List.replicate, Nat.reduceBEq, wAs, wA, wC, zipW, noDupN, grpE]))
    all_goals (try simp only [*, m_impl_MulTurns, Bool.and_true, Bool.true_and, Bool.and_false, Bool.false_and, Bool.or_true, Bool.true_or, Bool.or_false, Bool.false_or, Bool.not_true, Bool.not_false, Bool.false_eq_true, if_true, if_false, reduceIte, decide_true, decide_false])
    all_goals (try (simp_all; done))
  · cases h
def m_impl_SwingAndTwist (x0 : (Nat × Nat × Nat × Nat)) (x1 : (Nat × Nat × Nat)) : ((Nat × Nat × Nat × Nat) × (Nat × Nat × Nat × Nat)) := ((m_impl_MulTurns x0 (m_impl_InverseOf
      (m_impl_MendTurn (m_impl_turnOf x0.1 (m_impl_ScaleVector x1 (m_impl_InnerOf x1 (m_impl_Turn_vector x0))))))), (m_impl_MendTurn (m_impl_turnOf x0.1 (m_impl_ScaleVector x1
      (m_impl_InnerOf x1 (m_impl_Turn_vector x0))))))
def p_impl_SwingAndTwist (x0 : (Nat × Nat × Nat × Nat)) (x1 : (Nat × Nat × Nat)) : Bool := (p_impl_MendTurn (m_impl_turnOf x0.1 (m_impl_ScaleVector x1 (m_impl_InnerOf x1
      (m_impl_Turn_vector x0)))))
def g_impl_SwingAndTwist : List AV → Option AV
  | [.agg [.flt .f32 y0, .flt .f32 y1, .flt .f32 y2, .flt .f32 y3], .agg [.flt .f32 y4, .flt .f32 y5, .flt .f32 y6]] => if
      p_impl_SwingAndTwist (y0, y1, y2, y3) (y4, y5, y6) = true then some (AV.tup [(AV.agg [(.flt .f32 (m_impl_SwingAndTwist (y0, y1, y2, y3) (y4, y5, y6)).1.1), (.flt .f32
      (m_impl_SwingAndTwist (y0, y1, y2, y3) (y4, y5, y6)).1.2.1), (.flt .f32 (m_impl_SwingAndTwist (y0, y1, y2, y3) (y4, y5, y6)).1.2.2.1), (.flt .f32 (m_impl_SwingAndTwist (y0,
      y1, y2, y3) (y4, y5, y6)).1.2.2.2)]), (AV.agg [(.flt .f32 (m_impl_SwingAndTwist (y0, y1, y2, y3) (y4, y5, y6)).2.1), (.flt .f32 (m_impl_SwingAndTwist (y0, y1, y2, y3) (y4, y5,
      y6)).2.2.1), (.flt .f32 (m_impl_SwingAndTwist (y0, y1, y2, y3) (y4, y5, y6)).2.2.2.1), (.flt .f32 (m_impl_SwingAndTwist (y0, y1, y2, y3) (y4, y5, y6)).2.2.2.2)])]) else none
  | _ => none
def ic77 : ICode := (.seq (.reg [⟨(some 2), none, (.box 4 (.t 0))⟩, ⟨(some 3), none, (.box 3 (.t 1))⟩, ⟨(some 4), none, (.alloc (.agg [(.flt .f32 0), (.flt .f32 0), (.flt .f32 0),
      (.flt .f32 0)]))⟩, ⟨(some 5), none, (.alloc (.agg [(.flt .f32 0), (.flt .f32 0), (.flt .f32 0), (.flt .f32 0)]))⟩] [2, 3, 4, 5]) (.seq (.reg [⟨(some 7), none, (.faddr 0 (.t
      2))⟩, ⟨(some 8), none, (.load none (.o 7 2))⟩, ⟨(some 9), none, (.load (some 3) (.o 3 3))⟩, ⟨(some 10), none, (.load (some 3) (.o 3 3))⟩, ⟨(some 11), none, (.load (some 4) (.o
      2 2))⟩, ⟨(some 12), none, (.call (.fn 128) [(.t 11)] [])⟩, ⟨(some 13), none, (.call (.fn 127) [(.t 10), (.t 12)] [])⟩, ⟨(some 14), none, (.call (.fn 59) [(.t 9), (.t 13)]
      [])⟩, ⟨(some 15), none, (.call (.fn 126) [(.t 8), (.t 14)] [])⟩, ⟨(some 16), none, (.call (.fn 125) [(.t 15)] [])⟩, ⟨(some 6), none, (.alloc (.agg [(.flt .f32 0), (.flt .f32
      0), (.flt .f32 0), (.flt .f32 0)]))⟩, ⟨none, none, (.store 4 (.o 6 6) (.t 16))⟩] [2, 4, 5, 6]) (.seq (.reg [⟨(some 17), none, (.load (some 4) (.o 2 2))⟩, ⟨(some 18), none,
      (.load (some 4) (.o 6 6))⟩, ⟨(some 19), none, (.call (.fn 129) [(.t 18)] [])⟩, ⟨(some 20), none, (.call (.fn 78) [(.t 17), (.t 19)] [])⟩, ⟨(some 21), none, (.load (some 4) (.o
      6 6))⟩, ⟨none, none, (.store 4 (.o 4 4) (.t 20))⟩, ⟨none, none, (.store 4 (.o 5 5) (.t 21))⟩] [4, 5]) .ret)))
def cp77 : CP := CP.mk [] [] [[2, 3, 4, 5], [2, 4, 5, 6], [4, 5]] 22 [(2, 2), (3, 3), (4, 4), (5, 5), (6, 6), (7, 2)] []
theorem fc77_0 : IntKind.wrap .i64 (-1) = (-1) := by decide
theorem fc77_1 : IntKind.wrap .i64 0 = 0 := by decide
theorem fc77_2 : IntKind.wrap .i64 1 = 1 := by decide
theorem fc77_3 : IntKind.wrap .i64 10 = 10 := by decide
theorem fc77_4 : IntKind.wrap .i64 11 = 11 := by decide
theorem fc77_5 : IntKind.wrap .i64 110 = 110 := by decide
theorem fc77_6 : IntKind.wrap .i64 12 = 12 := by decide
theorem fc77_7 : IntKind.wrap .i64 13 = 13 := by decide
theorem fc77_8 : IntKind.wrap .i64 14 = 14 := by decide
theorem fc77_9 : IntKind.wrap .i64 15 = 15 := by decide
theorem fc77_10 : IntKind.wrap .i64 156 = 156 := by decide
theorem fc77_11 : IntKind.wrap .i64 16 = 16 := by decide
theorem fc77_12 : IntKind.wrap .i64 17 = 17 := by decide
theorem fc77_13 : IntKind.wrap .i64 2 = 2 := by decide
theorem fc77_14 : IntKind.wrap .i64 20 = 20 := by decide
theorem fc77_15 : IntKind.wrap .i64 210 = 210 := by decide
theorem fc77_16 : IntKind.wrap .i64 272 = 272 := by decide
theorem fc77_17 : IntKind.wrap .i64 3 = 3 := by decide
theorem fc77_18 : IntKind.wrap .i64 4 = 4 := by decide
theorem fc77_19 : IntKind.wrap .i64 42 = 42 := by decide
theorem fc77_20 : IntKind.wrap .i64 5 = 5 := by decide
theorem fc77_21 : IntKind.wrap .i64 6 = 6 := by decide
theorem fc77_22 : IntKind.wrap .i64 7 = 7 := by decide
theorem fc77_23 : IntKind.wrap .i64 72 = 72 := by decide
theorem fc77_24 : IntKind.wrap .i64 8 = 8 := by decide
theorem fc77_25 : IntKind.wrap .i64 9 = 9 := by decide
theorem s77 : ∀ vs r, g_impl_SwingAndTwist vs = some r → SaysM Try.prog .any 77 vs r := by
  intro vs r h
  unfold g_impl_SwingAndTwist at h
  split at h
  · rename_i y0 y1 y2 y3 y4 y5 y6
    split at h
    · rename_i hp
      cases h
      refine spec_of (m := .any) (tab := tabOf [(59, wM .any g_impl_ScaleVector), (78, wM .any g_impl_MulTurns), (125, wM .any g_impl_MendTurn), (126, wM .any g_impl_turnOf), (127, wM .any g_impl_InnerOf), (128, wM .any g_impl_Turn_vector), (129, wM .any g_impl_InverseOf)]) (cp := cp77) (ic := ic77) (rvl := [(.c 4 (some 4)), (.c 5 (some 4))]) hm (tabOk_cons (m := .any) s59 (tabOk_cons (m := .any) s78 (tabOk_cons (m := .any) s125 (tabOk_cons (m := .any) s126 (tabOk_cons (m := .any) s127 (tabOk_cons (m := .any) s128 (tabOk_cons (m := .any) s129 tabOk_nil))))))) Try.func77 rfl rfl rfl (by kernel_rfl) rfl (Nat.le_of_ble_eq_true rfl) (Nat.le_of_ble_eq_true rfl) ?_
      show eA _ _ _ _
      unfold ic77
      simp only [p_impl_SwingAndTwist, Bool.and_eq_true, Bool.or_eq_true, decide_eq_true_eq, Bool.not_eq_true', decide_eq_false_iff_not] at hp
      simp only [
          hp, grpA, vsliceS, grpS, grpD, grpF, grpL, eop, vop, bop, uop, fltop, convop, endOk, newE, new1, freshL, Md.isNew, outV, pureV, pureX, pure1, AV.cells, AV.one, storable,
                laid, refless, refless1, vload, loadC, storeC, vnil, vfaddr, vextract, flatT, flatE, flatC, vconv, vmm, vidxA, viaddrA, vfield, vlen, elemsOf, dF32, dF64, dI64, dU8,
                dBool, dStr, esOk, elemsS, vsliceX, bnd, ownV, ownC, own1, ownT, isSl, nSl, endL, Md.isOwn, purge, purgeH, purgeB, purgeE, hasName, name1, List.any_cons,
                List.any_nil, Md.isWr, pureV.pureP, Option.map, reduceIte, Nat.reduceEqDiff, Nat.reduceAdd, Nat.reduceMul, Nat.reduceLT, Nat.reduceLeDiff, List.mapM_cons,
                List.mapM_nil, Option.pure_def, Option.bind_eq_bind, Option.bind_some, implies_true, forall_const, beq_self_eq_true, decide_true, decide_false, eq_self,
                Int.reduceEq, Int.reduceLE, Int.reduceLT, if_true, if_false, fc77_0, fc77_1, fc77_2, fc77_3, fc77_4, fc77_5, fc77_6, fc77_7, fc77_8, fc77_9, fc77_10, fc77_11,
                fc77_12, fc77_13, fc77_14, fc77_15, fc77_16, fc77_17, fc77_18, fc77_19, fc77_20, fc77_21, fc77_22, fc77_23, fc77_24, fc77_25, Int.reduceAdd, Int.reduceSub,
                Int.reduceMul, Int.reduceNeg, Int.reducePow, Nat.reducePow, Int.reduceToNat, Nat.reduceSub, List.replicate, Nat.reduceBEq, wAs, wA, wC, zipW, noDupN, grpE,
                g_impl_ScaleVector, g_impl_MulTurns, g_impl_MendTurn, g_impl_turnOf, g_impl_InnerOf, g_impl_Turn_vector, g_impl_InverseOf]
      repeat' (first
        | ((first | (refine eGI_of (fun h => ?_) (fun h => ?_)) | (refine eCc_of (fun h => ?_) (fun h => ?_))) <;> (try simp only [Bool.not_eq_true', Bool.not_eq_false'] at h) <;> (try simp only [h, reduceCtorEq, Bool.not_eq_true', decide_eq_false_iff_not, Bool.not_true, Bool.not_false, Bool.false_or, Bool.true_or, Bool.true_and, Bool.false_and, Bool.and_eq_true, Bool.or_eq_true, if_true, if_false, reduceIte, Bool.false_eq_true, and_true, true_and, false_or, or_false, decide_eq_true_eq, not_false_eq_true, not_true_eq_false] at hp) <;> (try (have h2 := h; simp only [decide_eq_true_eq, decide_eq_false_iff_not] at h2; (first | (replace h2 := eq_false h2) | (replace h2 := eq_true h2)); simp only [h2, if_true, if_false, false_or, true_or, or_true, or_false, and_true, true_and, not_false_eq_true, not_true_eq_false] at hp)) <;> simp only [h,
          hp, grpA, vsliceS, grpS, grpD, grpF, grpL, eop, vop, bop, uop, fltop, convop, endOk, newE, new1, freshL, Md.isNew, outV, pureV, pureX, pure1, AV.cells, AV.one, storable,
                laid, refless, refless1, vload, loadC, storeC, vnil, vfaddr, vextract, flatT, flatE, flatC, vconv, vmm, vidxA, viaddrA, vfield, vlen, elemsOf, dF32, dF64, dI64, dU8,
                dBool, dStr, esOk, elemsS, vsliceX, bnd, ownV, ownC, own1, ownT, isSl, nSl, endL, Md.isOwn, purge, purgeH, purgeB, purgeE, hasName, name1, List.any_cons,
                List.any_nil, Md.isWr, pureV.pureP, Option.map, reduceIte, Nat.reduceEqDiff, Nat.reduceAdd, Nat.reduceMul, Nat.reduceLT, Nat.reduceLeDiff, List.mapM_cons,
                List.mapM_nil, Option.pure_def, Option.bind_eq_bind, Option.bind_some, implies_true, forall_const, beq_self_eq_true, decide_true, decide_false, eq_self,
                Int.reduceEq, Int.reduceLE, Int.reduceLT, if_true, if_false, fc77_0, fc77_1, fc77_2, fc77_3, fc77_4, fc77_5, fc77_6, fc77_7, fc77_8, fc77_9, fc77_10, fc77_11,
                fc77_12, fc77_13, fc77_14, fc77_15, fc77_16, fc77_17, fc77_18, fc77_19, fc77_20, fc77_21, fc77_22, fc77_23, fc77_24, fc77_25, Int.reduceAdd, Int.reduceSub,
                Int.reduceMul, Int.reduceNeg, Int.reducePow, Nat.reducePow, Int.reduceToNat, Nat.reduceSub, List.replicate, Nat.reduceBEq, wAs, wA, wC, zipW, noDupN, grpE,
                g_impl_ScaleVector, g_impl_MulTurns, g_impl_MendTurn, g_impl_turnOf, g_impl_InnerOf, g_impl_Turn_vector, g_impl_InverseOf]))
      all_goals (try simp only [*, m_impl_SwingAndTwist, Bool.and_true, Bool.true_and, Bool.and_false, Bool.false_and, Bool.or_true, Bool.true_or, Bool.or_false, Bool.false_or, Bool.not_true, Bool.not_false, Bool.false_eq_true, if_true, if_false, reduceIte, decide_true, decide_false])
      all_goals (try (simp_all; done))
    · cases h
  · cases h
def m_impl_LongOf (x0 : (Nat × Nat × Nat)) : Nat := (m_impl_RootNumber (m_impl_InnerOf x0 x0))
def p_impl_LongOf (x0 : (Nat × Nat × Nat)) : Bool := (p_impl_RootNumber (m_impl_InnerOf x0 x0))
def g_impl_LongOf : List AV → Option AV
  | [.agg [.flt .f32 y0, .flt .f32 y1, .flt .f32 y2]] => if p_impl_LongOf (y0, y1, y2) = true then some (.flt .f32 (m_impl_LongOf (y0, y1,
      y2))) else none
  | _ => none
def ic176 : ICode := (.seq (.reg [⟨(some 1), none, (.box 3 (.t 0))⟩, ⟨(some 2), none, (.mov (.c (.flt .f32 0)))⟩] [1]) (.seq (.reg [⟨(some 3), none, (.load (some 3) (.t 1))⟩, ⟨(some
      4), none, (.load (some 3) (.t 1))⟩, ⟨(some 5), none, (.call (.fn 127) [(.t 3), (.t 4)] [])⟩, ⟨(some 6), none, (.call (.fn 196) [(.t 5)] [])⟩, ⟨(some 2), none, (.mov (.t 6))⟩]
      [2]) .ret))
def cp176 : CP := CP.mk [] [] [[1], [2]] 7 [] []
theorem fc176_0 : IntKind.wrap .i64 (-1) = (-1) := by decide
theorem fc176_1 : IntKind.wrap .i64 0 = 0 := by decide
theorem fc176_2 : IntKind.wrap .i64 1 = 1 := by decide
theorem fc176_3 : IntKind.wrap .i64 10 = 10 := by decide
theorem fc176_4 : IntKind.wrap .i64 11 = 11 := by decide
theorem fc176_5 : IntKind.wrap .i64 110 = 110 := by decide
theorem fc176_6 : IntKind.wrap .i64 12 = 12 := by decide
theorem fc176_7 : IntKind.wrap .i64 13 = 13 := by decide
theorem fc176_8 : IntKind.wrap .i64 14 = 14 := by decide
theorem fc176_9 : IntKind.wrap .i64 15 = 15 := by decide
theorem fc176_10 : IntKind.wrap .i64 156 = 156 := by decide
theorem fc176_11 : IntKind.wrap .i64 16 = 16 := by decide
theorem fc176_12 : IntKind.wrap .i64 17 = 17 := by decide
theorem fc176_13 : IntKind.wrap .i64 2 = 2 := by decide
theorem fc176_14 : IntKind.wrap .i64 20 = 20 := by decide
theorem fc176_15 : IntKind.wrap .i64 210 = 210 := by decide
theorem fc176_16 : IntKind.wrap .i64 272 = 272 := by decide
theorem fc176_17 : IntKind.wrap .i64 3 = 3 := by decide
theorem fc176_18 : IntKind.wrap .i64 4 = 4 := by decide
theorem fc176_19 : IntKind.wrap .i64 42 = 42 := by decide
theorem fc176_20 : IntKind.wrap .i64 5 = 5 := by decide
theorem fc176_21 : IntKind.wrap .i64 6 = 6 := by decide
theorem fc176_22 : IntKind.wrap .i64 7 = 7 := by decide
theorem fc176_23 : IntKind.wrap .i64 72 = 72 := by decide
theorem fc176_24 : IntKind.wrap .i64 8 = 8 := by decide
theorem fc176_25 : IntKind.wrap .i64 9 = 9 := by decide
theorem s176 : ∀ vs r, g_impl_LongOf vs = some r → SaysM Try.prog .any 176 vs r := by
  intro vs r h
  unfold g_impl_LongOf at h
  split at h
  · rename_i y0 y1 y2
    split at h
    · rename_i hp
      cases h
      refine spec_of (m := .any) (tab := tabOf [(127, wM .any g_impl_InnerOf), (196, wM .any g_impl_RootNumber)]) (cp := cp176) (ic := ic176) (rvl := [(.t 2)]) hm (tabOk_cons (m := .any) s127 (tabOk_cons (m := .any) s196 tabOk_nil)) Try.func176 rfl rfl rfl (by kernel_rfl) rfl (Nat.le_of_ble_eq_true rfl) (Nat.le_of_ble_eq_true rfl) ?_
      show eA _ _ _ _
      unfold ic176
      simp only [p_impl_LongOf, Bool.and_eq_true, Bool.or_eq_true, decide_eq_true_eq, Bool.not_eq_true', decide_eq_false_iff_not] at hp
      simp only [
          hp, grpA, vsliceS, grpS, grpD, grpF, grpL, eop, vop, bop, uop, fltop, convop, endOk, newE, new1, freshL, Md.isNew, outV, pureV, pureX, pure1, AV.cells, AV.one, storable,
                laid, refless, refless1, vload, loadC, storeC, vnil, vfaddr, vextract, flatT, flatE, flatC, vconv, vmm, vidxA, viaddrA, vfield, vlen, elemsOf, dF32, dF64, dI64, dU8,
                dBool, dStr, esOk, elemsS, vsliceX, bnd, ownV, ownC, own1, ownT, isSl, nSl, endL, Md.isOwn, purge, purgeH, purgeB, purgeE, hasName, name1, List.any_cons,
                List.any_nil, Md.isWr, pureV.pureP, Option.map, reduceIte, Nat.reduceEqDiff, Nat.reduceAdd, Nat.reduceMul, Nat.reduceLT, Nat.reduceLeDiff, List.mapM_cons,
                List.mapM_nil, Option.pure_def, Option.bind_eq_bind, Option.bind_some, implies_true, forall_const, beq_self_eq_true, decide_true, decide_false, eq_self,
                Int.reduceEq, Int.reduceLE, Int.reduceLT, if_true, if_false, fc176_0, fc176_1, fc176_2, fc176_3, fc176_4, fc176_5, fc176_6, fc176_7, fc176_8, fc176_9, fc176_10,
                fc176_11, fc176_12, fc176_13, fc176_14, fc176_15, fc176_16, fc176_17, fc176_18, fc176_19, fc176_20, fc176_21, fc176_22, fc176_23, fc176_24, fc176_25, Int.reduceAdd,
                Int.reduceSub, Int.reduceMul, Int.reduceNeg, Int.reducePow, Nat.reducePow, Int.reduceToNat, Nat.reduceSub, List.replicate, Nat.reduceBEq, wAs, wA, wC, zipW, noDupN,
                grpE, g_impl_InnerOf, g_impl_RootNumber]
      repeat' (first
        | ((first | (refine eGI_of (fun h => ?_) (fun h => ?_)) | (refine eCc_of (fun h => ?_) (fun h => ?_))) <;> (try simp only [Bool.not_eq_true', Bool.not_eq_false'] at h) <;> (try simp only [h, reduceCtorEq, Bool.not_eq_true', decide_eq_false_iff_not, Bool.not_true, Bool.not_false, Bool.false_or, Bool.true_or, Bool.true_and, Bool.false_and, Bool.and_eq_true, Bool.or_eq_true, if_true, if_false, reduceIte, Bool.false_eq_true, and_true, true_and, false_or, or_false, decide_eq_true_eq, not_false_eq_true, not_true_eq_false] at hp) <;> (try (have h2 := h; simp only [decide_eq_true_eq, decide_eq_false_iff_not] at h2; (first | (replace h2 := eq_false h2) | (replace h2 := eq_true h2)); simp only [h2, if_true, if_false, false_or, true_or, or_true, or_false, and_true, true_and, not_false_eq_true, not_true_eq_false] at hp)) <;> simp only [h,
          hp, grpA, vsliceS, grpS, grpD, grpF, grpL, eop, vop, bop, uop, fltop, convop, endOk, newE, new1, freshL, Md.isNew, outV, pureV, pureX, pure1, AV.cells, AV.one, storable,
                laid, refless, refless1, vload, loadC, storeC, vnil, vfaddr, vextract, flatT, flatE, flatC, vconv, vmm, vidxA, viaddrA, vfield, vlen, elemsOf, dF32, dF64, dI64, dU8,
                dBool, dStr, esOk, elemsS, vsliceX, bnd, ownV, ownC, own1, ownT, isSl, nSl, endL, Md.isOwn, purge, purgeH, purgeB, purgeE, hasName, name1, List.any_cons,
                List.any_nil, Md.isWr, pureV.pureP, Option.map, reduceIte, Nat.reduceEqDiff, Nat.reduceAdd, Nat.reduceMul, Nat.reduceLT, Nat.reduceLeDiff, List.mapM_cons,
                List.mapM_nil, Option.pure_def, Option.bind_eq_bind, Option.bind_some, implies_true, forall_const, beq_self_eq_true, decide_true, decide_false, eq_self,
                Int.reduceEq, Int.reduceLE, Int.reduceLT, if_true, if_false, fc176_0, fc176_1, fc176_2, fc176_3, fc176_4, fc176_5, fc176_6, fc176_7, fc176_8, fc176_9, fc176_10,
                fc176_11, fc176_12, fc176_13, fc176_14, fc176_15, fc176_16, fc176_17, fc176_18, fc176_19, fc176_20, fc176_21, fc176_22, fc176_23, fc176_24, fc176_25, Int.reduceAdd,
                Int.reduceSub, Int.reduceMul, Int.reduceNeg, Int.reducePow, Nat.reducePow, Int.reduceToNat, Nat.reduceSub, List.replicate, Nat.reduceBEq, wAs, wA, wC, zipW, noDupN,
                grpE, g_impl_InnerOf, g_impl_RootNumber]))
      all_goals (try simp only [*, m_impl_LongOf, Bool.and_true, Bool.true_and, Bool.and_false, Bool.false_and, Bool.or_true, Bool.true_or, Bool.or_false, Bool.false_or, Bool.not_true, Bool.not_false, Bool.false_eq_true, if_true, if_false, reduceIte, decide_true, decide_false])
      all_goals (try (simp_all; done))
    · cases h
  · cases h
def m_impl_size (x0 : Nat) : Nat := (narrow (fabs (widen x0)))
def p_impl_size (x0 : Nat) : Bool := (narrowOk (fabs (widen x0)))
def g_impl_size : List AV → Option AV
  | [.flt .f32 y0] => if p_impl_size y0 = true then some (.flt .f32 (m_impl_size y0)) else none
  | _ => none
def ic177 : ICode := (.seq (.reg [⟨(some 2), none, (.mov (.c (.flt .f32 0)))⟩] [0]) (.seq (.reg [⟨(some 3), none, (.mov (.t 0))⟩, ⟨(some 4), none, (.conv (.flt .f64) (.t 3))⟩,
      ⟨(some 5), none, (.call (.fn 114) [(.t 4)] [])⟩, ⟨(some 6), none, (.conv (.flt .f32) (.t 5))⟩, ⟨(some 2), none, (.mov (.t 6))⟩] [2]) .ret))
def cp177 : CP := CP.mk [] [] [[0], [2]] 7 [] []
theorem fc177_0 : IntKind.wrap .i64 (-1) = (-1) := by decide
theorem fc177_1 : IntKind.wrap .i64 0 = 0 := by decide
theorem fc177_2 : IntKind.wrap .i64 1 = 1 := by decide
theorem fc177_3 : IntKind.wrap .i64 10 = 10 := by decide
theorem fc177_4 : IntKind.wrap .i64 11 = 11 := by decide
theorem fc177_5 : IntKind.wrap .i64 110 = 110 := by decide
theorem fc177_6 : IntKind.wrap .i64 12 = 12 := by decide
theorem fc177_7 : IntKind.wrap .i64 13 = 13 := by decide
theorem fc177_8 : IntKind.wrap .i64 14 = 14 := by decide
theorem fc177_9 : IntKind.wrap .i64 15 = 15 := by decide
theorem fc177_10 : IntKind.wrap .i64 156 = 156 := by decide
theorem fc177_11 : IntKind.wrap .i64 16 = 16 := by decide
theorem fc177_12 : IntKind.wrap .i64 17 = 17 := by decide
theorem fc177_13 : IntKind.wrap .i64 2 = 2 := by decide
theorem fc177_14 : IntKind.wrap .i64 20 = 20 := by decide
theorem fc177_15 : IntKind.wrap .i64 210 = 210 := by decide
theorem fc177_16 : IntKind.wrap .i64 272 = 272 := by decide
theorem fc177_17 : IntKind.wrap .i64 3 = 3 := by decide
theorem fc177_18 : IntKind.wrap .i64 4 = 4 := by decide
theorem fc177_19 : IntKind.wrap .i64 42 = 42 := by decide
theorem fc177_20 : IntKind.wrap .i64 5 = 5 := by decide
theorem fc177_21 : IntKind.wrap .i64 6 = 6 := by decide
theorem fc177_22 : IntKind.wrap .i64 7 = 7 := by decide
theorem fc177_23 : IntKind.wrap .i64 72 = 72 := by decide
theorem fc177_24 : IntKind.wrap .i64 8 = 8 := by decide
theorem fc177_25 : IntKind.wrap .i64 9 = 9 := by decide
theorem s177 : ∀ vs r, g_impl_size vs = some r → SaysM Try.prog .any 177 vs r := by
  intro vs r h
  unfold g_impl_size at h
  split at h
  · rename_i y0
    split at h
    · rename_i hp
      cases h
      refine spec_of (m := .any) (tab := tabOf [(114, wM .any g_abs)]) (cp := cp177) (ic := ic177) (rvl := [(.t 2)]) hm (tabOk_cons (m := .any) s114 tabOk_nil) Try.func177 rfl rfl rfl (by kernel_rfl) rfl (Nat.le_of_ble_eq_true rfl) (Nat.le_of_ble_eq_true rfl) ?_
      show eA _ _ _ _
      unfold ic177
      simp only [p_impl_size, Bool.and_eq_true, Bool.or_eq_true, decide_eq_true_eq, Bool.not_eq_true', decide_eq_false_iff_not] at hp
      simp only [
          hp, grpA, vsliceS, grpS, grpD, grpF, grpL, eop, vop, bop, uop, fltop, convop, endOk, newE, new1, freshL, Md.isNew, outV, pureV, pureX, pure1, AV.cells, AV.one, storable,
                laid, refless, refless1, vload, loadC, storeC, vnil, vfaddr, vextract, flatT, flatE, flatC, vconv, vmm, vidxA, viaddrA, vfield, vlen, elemsOf, dF32, dF64, dI64, dU8,
                dBool, dStr, esOk, elemsS, vsliceX, bnd, ownV, ownC, own1, ownT, isSl, nSl, endL, Md.isOwn, purge, purgeH, purgeB, purgeE, hasName, name1, List.any_cons,
                List.any_nil, Md.isWr, pureV.pureP, Option.map, reduceIte, Nat.reduceEqDiff, Nat.reduceAdd, Nat.reduceMul, Nat.reduceLT, Nat.reduceLeDiff, List.mapM_cons,
                List.mapM_nil, Option.pure_def, Option.bind_eq_bind, Option.bind_some, implies_true, forall_const, beq_self_eq_true, decide_true, decide_false, eq_self,
                Int.reduceEq, Int.reduceLE, Int.reduceLT, if_true, if_false, fc177_0, fc177_1, fc177_2, fc177_3, fc177_4, fc177_5, fc177_6, fc177_7, fc177_8, fc177_9, fc177_10,
                fc177_11, fc177_12, fc177_13, fc177_14, fc177_15, fc177_16, fc177_17, fc177_18, fc177_19, fc177_20, fc177_21, fc177_22, fc177_23, fc177_24, fc177_25, Int.reduceAdd,
                Int.reduceSub, Int.reduceMul, Int.reduceNeg, Int.reducePow, Nat.reducePow, Int.reduceToNat, Nat.reduceSub, List.replicate, Nat.reduceBEq, wAs, wA, wC, zipW, noDupN,
                grpE, g_abs]
      repeat' (first
        | ((first | (refine eGI_of (fun h => ?_) (fun h => ?_)) | (refine eCc_of (fun h => ?_) (fun h => ?_))) <;> (try simp only [Bool.not_eq_true', Bool.not_eq_false'] at h) <;> (try simp only [h, reduceCtorEq, Bool.not_eq_true', decide_eq_false_iff_not, Bool.not_true, Bool.not_false, Bool.false_or, Bool.true_or, Bool.true_and, Bool.false_and, Bool.and_eq_true, Bool.or_eq_true, if_true, if_false, reduceIte, Bool.false_eq_true, and_true, true_and, false_or, or_false, decide_eq_true_eq, not_false_eq_true, not_true_eq_false] at hp) <;> (try (have h2 := h; simp only [decide_eq_true_eq, decide_eq_false_iff_not] at h2; (first | (replace h2 := eq_false h2) | (replace h2 := eq_true h2)); simp only [h2, if_true, if_false, false_or, true_or, or_true, or_false, and_true, true_and, not_false_eq_true, not_true_eq_false] at hp)) <;> simp only [h,
          hp, grpA, vsliceS, grpS, grpD, grpF, grpL, eop, vop, bop, uop, fltop, convop, endOk, newE, new1, freshL, Md.isNew, outV, pureV, pureX, pure1, AV.cells, AV.one, storable,
                laid, refless, refless1, vload, loadC, storeC, vnil, vfaddr, vextract, flatT, flatE, flatC, vconv, vmm, vidxA, viaddrA, vfield, vlen, elemsOf, dF32, dF64, dI64, dU8,
                dBool, dStr, esOk, elemsS, vsliceX, bnd, ownV, ownC, own1, ownT, isSl, nSl, endL, Md.isOwn, purge, purgeH, purgeB, purgeE, hasName, name1, List.any_cons,
                List.any_nil, Md.isWr, pureV.pureP, Option.map, reduceIte, Nat.reduceEqDiff, Nat.reduceAdd, Nat.reduceMul, Nat.reduceLT, Nat.reduceLeDiff, List.mapM_cons,
                List.mapM_nil, Option.pure_def, Option.bind_eq_bind, Option.bind_some, implies_true, forall_const, beq_self_eq_true, decide_true, decide_false, eq_self,
                Int.reduceEq, Int.reduceLE, Int.reduceLT, if_true, if_false, fc177_0, fc177_1, fc177_2, fc177_3, fc177_4, fc177_5, fc177_6, fc177_7, fc177_8, fc177_9, fc177_10,
                fc177_11, fc177_12, fc177_13, fc177_14, fc177_15, fc177_16, fc177_17, fc177_18, fc177_19, fc177_20, fc177_21, fc177_22, fc177_23, fc177_24, fc177_25, Int.reduceAdd,
                Int.reduceSub, Int.reduceMul, Int.reduceNeg, Int.reducePow, Nat.reducePow, Int.reduceToNat, Nat.reduceSub, List.replicate, Nat.reduceBEq, wAs, wA, wC, zipW, noDupN,
                grpE, g_abs]))
      all_goals (try simp only [*, m_impl_size, Bool.and_true, Bool.true_and, Bool.and_false, Bool.false_and, Bool.or_true, Bool.true_or, Bool.or_false, Bool.false_or, Bool.not_true, Bool.not_false, Bool.false_eq_true, if_true, if_false, reduceIte, decide_true, decide_false])
      all_goals (try (simp_all; done))
    · cases h
  · cases h
def m_impl_notNumber  : Nat := (narrow (m_math_NaN))
def p_impl_notNumber  : Bool := (narrowOk (m_math_NaN))
def g_impl_notNumber : List AV → Option AV
  | [] => if p_impl_notNumber = true then some (.flt .f32 (m_impl_notNumber)) else none
  | _ => none
def ic197 : ICode := (.seq (.reg [⟨(some 0), none, (.mov (.c (.flt .f32 0)))⟩] []) (.seq (.reg [⟨(some 1), none, (.call (.fn 116) [] [])⟩, ⟨(some 2), none, (.conv (.flt .f32) (.t
      1))⟩, ⟨(some 0), none, (.mov (.t 2))⟩] [0]) .ret))
def cp197 : CP := CP.mk [] [] [[], [0]] 3 [] []
theorem fc197_0 : IntKind.wrap .i64 (-1) = (-1) := by decide
theorem fc197_1 : IntKind.wrap .i64 0 = 0 := by decide
theorem fc197_2 : IntKind.wrap .i64 1 = 1 := by decide
theorem fc197_3 : IntKind.wrap .i64 10 = 10 := by decide
theorem fc197_4 : IntKind.wrap .i64 11 = 11 := by decide
theorem fc197_5 : IntKind.wrap .i64 110 = 110 := by decide
theorem fc197_6 : IntKind.wrap .i64 12 = 12 := by decide
theorem fc197_7 : IntKind.wrap .i64 13 = 13 := by decide
theorem fc197_8 : IntKind.wrap .i64 14 = 14 := by decide
theorem fc197_9 : IntKind.wrap .i64 15 = 15 := by decide
theorem fc197_10 : IntKind.wrap .i64 156 = 156 := by decide
theorem fc197_11 : IntKind.wrap .i64 16 = 16 := by decide
theorem fc197_12 : IntKind.wrap .i64 17 = 17 := by decide
theorem fc197_13 : IntKind.wrap .i64 2 = 2 := by decide
theorem fc197_14 : IntKind.wrap .i64 20 = 20 := by decide
theorem fc197_15 : IntKind.wrap .i64 210 = 210 := by decide
theorem fc197_16 : IntKind.wrap .i64 272 = 272 := by decide
theorem fc197_17 : IntKind.wrap .i64 3 = 3 := by decide
theorem fc197_18 : IntKind.wrap .i64 4 = 4 := by decide
theorem fc197_19 : IntKind.wrap .i64 42 = 42 := by decide
theorem fc197_20 : IntKind.wrap .i64 5 = 5 := by decide
theorem fc197_21 : IntKind.wrap .i64 6 = 6 := by decide
theorem fc197_22 : IntKind.wrap .i64 7 = 7 := by decide
theorem fc197_23 : IntKind.wrap .i64 72 = 72 := by decide
theorem fc197_24 : IntKind.wrap .i64 8 = 8 := by decide
theorem fc197_25 : IntKind.wrap .i64 9 = 9 := by decide
theorem s197 : ∀ vs r, g_impl_notNumber vs = some r → SaysM Try.prog .any 197 vs r := by
  intro vs r h
  unfold g_impl_notNumber at h
  split at h
  · split at h
    · rename_i hp
      cases h
      refine spec_of (m := .any) (tab := tabOf [(116, wM .any g_math_NaN)]) (cp := cp197) (ic := ic197) (rvl := [(.t 0)]) hm (tabOk_cons (m := .any) s116 tabOk_nil) Try.func197 rfl rfl rfl (by kernel_rfl) rfl (Nat.le_of_ble_eq_true rfl) (Nat.le_of_ble_eq_true rfl) ?_
      show eA _ _ _ _
      unfold ic197
      simp only [p_impl_notNumber, Bool.and_eq_true, Bool.or_eq_true, decide_eq_true_eq, Bool.not_eq_true', decide_eq_false_iff_not] at hp
      simp only [
          hp, grpA, vsliceS, grpS, grpD, grpF, grpL, eop, vop, bop, uop, fltop, convop, endOk, newE, new1, freshL, Md.isNew, outV, pureV, pureX, pure1, AV.cells, AV.one, storable,
                laid, refless, refless1, vload, loadC, storeC, vnil, vfaddr, vextract, flatT, flatE, flatC, vconv, vmm, vidxA, viaddrA, vfield, vlen, elemsOf, dF32, dF64, dI64, dU8,
                dBool, dStr, esOk, elemsS, vsliceX, bnd, ownV, ownC, own1, ownT, isSl, nSl, endL, Md.isOwn, purge, purgeH, purgeB, purgeE, hasName, name1, List.any_cons,
                List.any_nil, Md.isWr, pureV.pureP, Option.map, reduceIte, Nat.reduceEqDiff, Nat.reduceAdd, Nat.reduceMul, Nat.reduceLT, Nat.reduceLeDiff, List.mapM_cons,
                List.mapM_nil, Option.pure_def, Option.bind_eq_bind, Option.bind_some, implies_true, forall_const, beq_self_eq_true, decide_true, decide_false, eq_self,
                Int.reduceEq, Int.reduceLE, Int.reduceLT, if_true, if_false, fc197_0, fc197_1, fc197_2, fc197_3, fc197_4, fc197_5, fc197_6, fc197_7, fc197_8, fc197_9, fc197_10,
                fc197_11, fc197_12, fc197_13, fc197_14, fc197_15, fc197_16, fc197_17, fc197_18, fc197_19, fc197_20, fc197_21, fc197_22, fc197_23, fc197_24, fc197_25, Int.reduceAdd,
                Int.reduceSub, Int.reduceMul, Int.reduceNeg, Int.reducePow, Nat.reducePow, Int.reduceToNat, Nat.reduceSub, List.replicate, Nat.reduceBEq, wAs, wA, wC, zipW, noDupN,
                grpE, g_math_NaN]
      repeat' (first
        | ((first | (refine eGI_of (fun h => ?_) (fun h => ?_)) | (refine eCc_of (fun h => ?_) (fun h => ?_))) <;> (try simp only [Bool.not_eq_true', Bool.not_eq_false'] at h) <;> (try simp only [h, reduceCtorEq, Bool.not_eq_true', decide_eq_false_iff_not, Bool.not_true, Bool.not_false, Bool.false_or, Bool.true_or, Bool.true_and, Bool.false_and, Bool.and_eq_true, Bool.or_eq_true, if_true, if_false, reduceIte, Bool.false_eq_true, and_true, true_and, false_or, or_false, decide_eq_true_eq, not_false_eq_true, not_true_eq_false] at hp) <;> (try (have h2 := h; simp only [decide_eq_true_eq, decide_eq_false_iff_not] at h2; (first | (replace h2 := eq_false h2) | (replace h2 := eq_true h2)); simp only [h2, if_true, if_false, false_or, true_or, or_true, or_false, and_true, true_and, not_false_eq_true, not_true_eq_false] at hp)) <;> simp only [h,
          hp, grpA, vsliceS, grpS, grpD, grpF, grpL, eop, vop, bop, uop, fltop, convop, endOk, newE, new1, freshL, Md.isNew, outV, pureV, pureX, pure1, AV.cells, AV.one, storable,
                laid, refless, refless1, vload, loadC, storeC, vnil, vfaddr, vextract, flatT, flatE, flatC, vconv, vmm, vidxA, viaddrA, vfield, vlen, elemsOf, dF32, dF64, dI64, dU8,
                dBool, dStr, esOk, elemsS, vsliceX, bnd, ownV, ownC, own1, ownT, isSl, nSl, endL, Md.isOwn, purge, purgeH, purgeB, purgeE, hasName, name1, List.any_cons,
                List.any_nil, Md.isWr, pureV.pureP, Option.map, reduceIte, Nat.reduceEqDiff, Nat.reduceAdd, Nat.reduceMul, Nat.reduceLT, Nat.reduceLeDiff, List.mapM_cons,
                List.mapM_nil, Option.pure_def, Option.bind_eq_bind, Option.bind_some, implies_true, forall_const, beq_self_eq_true, decide_true, decide_false, eq_self,
                Int.reduceEq, Int.reduceLE, Int.reduceLT, if_true, if_false, fc197_0, fc197_1, fc197_2, fc197_3, fc197_4, fc197_5, fc197_6, fc197_7, fc197_8, fc197_9, fc197_10,
                fc197_11, fc197_12, fc197_13, fc197_14, fc197_15, fc197_16, fc197_17, fc197_18, fc197_19, fc197_20, fc197_21, fc197_22, fc197_23, fc197_24, fc197_25, Int.reduceAdd,
                Int.reduceSub, Int.reduceMul, Int.reduceNeg, Int.reducePow, Nat.reducePow, Int.reduceToNat, Nat.reduceSub, List.replicate, Nat.reduceBEq, wAs, wA, wC, zipW, noDupN,
                grpE, g_math_NaN]))
      all_goals (try simp only [*, m_impl_notNumber, Bool.and_true, Bool.true_and, Bool.and_false, Bool.false_and, Bool.or_true, Bool.true_or, Bool.or_false, Bool.false_or, Bool.not_true, Bool.not_false, Bool.false_eq_true, if_true, if_false, reduceIte, decide_true, decide_false])
      all_goals (try (simp_all; done))
    · cases h
  · cases h
def v_impl_wideAngle_0 (x0 : Nat) (x1 : Nat) : Nat := (fmul .f64 (if (flt .f64 (fabs x1) (fabs x0)) = true then (fdiv .f64 (fabs x1) (fabs x0)) else (fdiv .f64 (fabs x0) (fabs x1)))
      (if (flt .f64 (fabs x1) (fabs x0)) = true then (fdiv .f64 (fabs x1) (fabs x0)) else (fdiv .f64 (fabs x0) (fabs x1))))
def v_impl_wideAngle_1 (x0 : Nat) (x1 : Nat) : Nat := (fdiv .f64 (if (flt .f64 (fabs x1) (fabs x0)) = true then (fdiv .f64 (fabs x1) (fabs x0)) else (fdiv .f64 (fabs x0) (fabs x1)))
      (fadd .f64 4607182418800017408 (m_math_Sqrt (fadd .f64 4607182418800017408 (v_impl_wideAngle_0 x0 x1)))))
def v_impl_wideAngle_2 (x0 : Nat) (x1 : Nat) : Nat := (fdiv .f64 (v_impl_wideAngle_1 x0 x1) (fadd .f64 4607182418800017408 (m_math_Sqrt (fadd .f64 4607182418800017408 (fmul .f64
      (v_impl_wideAngle_1 x0 x1) (v_impl_wideAngle_1 x0 x1))))))
def v_impl_wideAngle_3 (x0 : Nat) (x1 : Nat) : Nat := (fdiv .f64 (v_impl_wideAngle_2 x0 x1) (fadd .f64 4607182418800017408 (m_math_Sqrt (fadd .f64 4607182418800017408 (fmul .f64
      (v_impl_wideAngle_2 x0 x1) (v_impl_wideAngle_2 x0 x1))))))
def v_impl_wideAngle_4 (x0 : Nat) (x1 : Nat) : Nat := (fmul .f64 (fmul .f64 (v_impl_wideAngle_3 x0 x1) (v_impl_wideAngle_3 x0 x1)) (fsub .f64 (fdiv .f64 4607182418800017408 (ofInt
      .f64 15)) (fmul .f64 (fmul .f64 (v_impl_wideAngle_3 x0 x1) (v_impl_wideAngle_3 x0 x1)) 0)))
def v_impl_wideAngle_5 (x0 : Nat) (x1 : Nat) : Nat := (fmul .f64 (fmul .f64 (v_impl_wideAngle_3 x0 x1) (v_impl_wideAngle_3 x0 x1)) (fsub .f64 (fdiv .f64 4607182418800017408 (ofInt
      .f64 13)) (v_impl_wideAngle_4 x0 x1)))
def v_impl_wideAngle_6 (x0 : Nat) (x1 : Nat) : Nat := (fmul .f64 (fmul .f64 (v_impl_wideAngle_3 x0 x1) (v_impl_wideAngle_3 x0 x1)) (fsub .f64 (fdiv .f64 4607182418800017408 (ofInt
      .f64 11)) (v_impl_wideAngle_5 x0 x1)))
def v_impl_wideAngle_7 (x0 : Nat) (x1 : Nat) : Nat := (fmul .f64 (fmul .f64 (v_impl_wideAngle_3 x0 x1) (v_impl_wideAngle_3 x0 x1)) (fsub .f64 (fdiv .f64 4607182418800017408 (ofInt
      .f64 9)) (v_impl_wideAngle_6 x0 x1)))
def v_impl_wideAngle_8 (x0 : Nat) (x1 : Nat) : Nat := (fmul .f64 (fmul .f64 (v_impl_wideAngle_3 x0 x1) (v_impl_wideAngle_3 x0 x1)) (fsub .f64 (fdiv .f64 4607182418800017408 (ofInt
      .f64 7)) (v_impl_wideAngle_7 x0 x1)))
def v_impl_wideAngle_9 (x0 : Nat) (x1 : Nat) : Nat := (fmul .f64 (fmul .f64 (v_impl_wideAngle_3 x0 x1) (v_impl_wideAngle_3 x0 x1)) (fsub .f64 (fdiv .f64 4607182418800017408 (ofInt
      .f64 5)) (v_impl_wideAngle_8 x0 x1)))
def v_impl_wideAngle_10 (x0 : Nat) (x1 : Nat) : Nat := (fmul .f64 (fmul .f64 (v_impl_wideAngle_3 x0 x1) (v_impl_wideAngle_3 x0 x1)) (fsub .f64 (fdiv .f64 4607182418800017408 (ofInt
      .f64 3)) (v_impl_wideAngle_9 x0 x1)))
def v_impl_wideAngle_11 (x0 : Nat) (x1 : Nat) : Nat := (fdiv .f64 (fmul .f64 4620693217682128896 (fmul .f64 (v_impl_wideAngle_3 x0 x1) (fsub .f64 (fdiv .f64 4607182418800017408
      (ofInt .f64 1)) (v_impl_wideAngle_10 x0 x1)))) 4618760256179416344)
def v_impl_wideAngle_12 (x0 : Nat) (x1 : Nat) : Nat := (fsub .f64 4602678819172646912 (if (flt .f64 (fabs x1) (fabs x0)) = true then (fsub .f64 4598175219545276416
      (v_impl_wideAngle_11 x0 x1)) else (v_impl_wideAngle_11 x0 x1)))
def v_impl_wideAngle_13 (x0 : Nat) (x1 : Nat) : Nat := (if (flt .f64 x1 0) = true then (v_impl_wideAngle_12 x0 x1) else (if (flt .f64 (fabs x1) (fabs x0)) = true then (fsub .f64
      4598175219545276416 (v_impl_wideAngle_11 x0 x1)) else (v_impl_wideAngle_11 x0 x1)))
def m_impl_wideAngle (x0 : Nat) (x1 : Nat) : Nat := (if (flt .f64 x0 0) = true then (fneg .f64 (v_impl_wideAngle_13 x0 x1)) else (v_impl_wideAngle_13 x0 x1))
def g_impl_wideAngle : List AV → Option AV
  | [.flt .f64 y0, .flt .f64 y1] => some (.flt .f64 (m_impl_wideAngle y0 y1))
  | _ => none
def ic71 : ICode := (.seq (.reg [⟨(some 4), none, (.mov (.c (.flt .f64 0)))⟩] [0, 1]) (.seq (.reg [⟨(some 12), none, (.mov (.t 0))⟩, ⟨(some 13), none, (.call (.fn 114) [(.t 12)]
      [])⟩, ⟨(some 14), none, (.mov (.t 1))⟩, ⟨(some 15), none, (.call (.fn 114) [(.t 14)] [])⟩, ⟨(some 5), none, (.mov (.t 13))⟩, ⟨(some 6), none, (.mov (.t 15))⟩] [0, 1, 5, 6])
      (.seq (.reg [⟨(some 16), none, (.mov (.t 5))⟩, ⟨(some 17), none, (.mov (.t 6))⟩, ⟨(some 18), none, (.bin .quo false (.t 16) (.t 17))⟩, ⟨(some 7), none, (.mov (.t 18))⟩] [0, 1,
      5, 6, 7]) (.seq (.seq (.reg [⟨(some 19), none, (.mov (.t 5))⟩, ⟨(some 20), none, (.mov (.t 6))⟩, ⟨(some 21), none, (.bin .gtr false (.t 19) (.t 20))⟩] [0, 1, 5, 6, 7, 21])
      (.cond (.t 21) (.reg [⟨(some 22), none, (.mov (.t 6))⟩, ⟨(some 23), none, (.mov (.t 5))⟩, ⟨(some 24), none, (.bin .quo false (.t 22) (.t 23))⟩, ⟨(some 7), none, (.mov (.t
      24))⟩] [0, 1, 5, 6, 7]) .skip)) (.seq (.seq (.reg [⟨(some 25), none, (.mov (.c (.int .i64 0)))⟩] [0, 1, 5, 6, 7, 25]) (.block 0 (.loop (.seq (.reg [⟨(some 26), none, (.bin
      .lss false (.t 25) (.c (.int .i64 3)))⟩] [0, 1, 5, 6, 7, 25, 26]) (.seq (.cond (.t 26) .skip (.exit 0)) (.seq (.block 1 (.reg [⟨(some 27), none, (.mov (.t 7))⟩, ⟨(some 28),
      none, (.mov (.t 7))⟩, ⟨(some 29), none, (.mov (.t 7))⟩, ⟨(some 30), none, (.bin .mul false (.t 28) (.t 29))⟩, ⟨(some 31), none, (.bin .add false (.c (.flt .f64
      4607182418800017408)) (.t 30))⟩, ⟨(some 32), none, (.call (.fn 72) [(.t 31)] [])⟩, ⟨(some 33), none, (.bin .add false (.c (.flt .f64 4607182418800017408)) (.t 32))⟩, ⟨(some
      34), none, (.bin .quo false (.t 27) (.t 33))⟩, ⟨(some 7), none, (.mov (.t 34))⟩] [0, 1, 5, 6, 7, 25])) (.reg [⟨(some 35), none, (.bin .add false (.t 25) (.c (.int .i64 1)))⟩,
      ⟨(some 25), none, (.mov (.t 35))⟩] [0, 1, 5, 6, 7, 25]))))))) (.seq (.reg [⟨(some 36), none, (.mov (.t 7))⟩, ⟨(some 37), none, (.mov (.t 7))⟩, ⟨(some 38), none, (.bin .mul
      false (.t 36) (.t 37))⟩, ⟨(some 8), none, (.mov (.t 38))⟩] [0, 1, 5, 6, 7, 8]) (.seq (.reg [⟨(some 9), none, (.mov (.c (.flt .f64 0)))⟩] [0, 1, 5, 6, 7, 8, 9]) (.seq (.seq
      (.reg [⟨(some 10), none, (.mov (.c (.int .i64 15)))⟩] [0, 1, 5, 6, 7, 8, 9, 10]) (.block 2 (.loop (.seq (.seq (.reg [⟨(some 39), none, (.mov (.t 10))⟩, ⟨(some 40), none, (.bin
      .geq false (.t 39) (.c (.int .i64 1)))⟩] [0, 1, 5, 6, 7, 8, 9, 10, 40]) (.cond (.t 40) .skip (.exit 2))) (.seq (.block 3 (.reg [⟨(some 43), none, (.mov (.t 10))⟩, ⟨(some 44),
      none, (.conv (.flt .f64) (.t 43))⟩, ⟨(some 45), none, (.bin .quo false (.c (.flt .f64 4607182418800017408)) (.t 44))⟩, ⟨(some 46), none, (.mov (.t 8))⟩, ⟨(some 47), none,
      (.mov (.t 9))⟩, ⟨(some 48), none, (.bin .mul false (.t 46) (.t 47))⟩, ⟨(some 49), none, (.bin .sub false (.t 45) (.t 48))⟩, ⟨(some 9), none, (.mov (.t 49))⟩] [0, 1, 5, 6, 7,
      8, 9, 10])) (.reg [⟨(some 41), none, (.mov (.t 10))⟩, ⟨(some 42), none, (.bin .sub false (.t 41) (.c (.int .i64 2)))⟩, ⟨(some 10), none, (.mov (.t 42))⟩] [0, 1, 5, 6, 7, 8, 9,
      10])))))) (.seq (.reg [⟨(some 50), none, (.mov (.t 7))⟩, ⟨(some 51), none, (.mov (.t 9))⟩, ⟨(some 52), none, (.bin .mul false (.t 50) (.t 51))⟩, ⟨(some 53), none, (.bin .mul
      false (.c (.flt .f64 4620693217682128896)) (.t 52))⟩, ⟨(some 54), none, (.bin .quo false (.t 53) (.c (.flt .f64 4618760256179416344)))⟩, ⟨(some 11), none, (.mov (.t 54))⟩] [0,
      1, 5, 6, 11]) (.seq (.seq (.reg [⟨(some 55), none, (.mov (.t 5))⟩, ⟨(some 56), none, (.mov (.t 6))⟩, ⟨(some 57), none, (.bin .gtr false (.t 55) (.t 56))⟩] [0, 1, 11, 57])
      (.cond (.t 57) (.reg [⟨(some 58), none, (.mov (.t 11))⟩, ⟨(some 59), none, (.bin .sub false (.c (.flt .f64 4598175219545276416)) (.t 58))⟩, ⟨(some 11), none, (.mov (.t 59))⟩]
      [0, 1, 11]) .skip)) (.seq (.seq (.reg [⟨(some 60), none, (.mov (.t 1))⟩, ⟨(some 61), none, (.bin .lss false (.t 60) (.c (.flt .f64 0)))⟩] [0, 11, 61]) (.cond (.t 61) (.reg
      [⟨(some 62), none, (.mov (.t 11))⟩, ⟨(some 63), none, (.bin .sub false (.c (.flt .f64 4602678819172646912)) (.t 62))⟩, ⟨(some 11), none, (.mov (.t 63))⟩] [0, 11]) .skip))
      (.seq (.seq (.reg [⟨(some 64), none, (.mov (.t 0))⟩, ⟨(some 65), none, (.bin .lss false (.t 64) (.c (.flt .f64 0)))⟩] [11, 65]) (.cond (.t 65) (.reg [⟨(some 66), none, (.mov
      (.t 11))⟩, ⟨(some 67), none, (.un .neg (.t 66))⟩, ⟨(some 11), none, (.mov (.t 67))⟩] [11]) .skip)) (.seq (.reg [⟨(some 68), none, (.mov (.t 11))⟩, ⟨(some 4), none, (.mov (.t
      68))⟩] [4]) .ret)))))))))))))
def cp71 : CP := CP.mk [] [] [[0, 1], [0, 1, 5, 6], [0, 1, 5, 6, 7], [0, 1, 5, 6, 7, 21], [0, 1, 5, 6, 7], [0, 1, 5, 6, 7, 25], [0, 1, 5, 6, 7, 25, 26], [0, 1, 5, 6, 7, 25], [0, 1,
      5, 6, 7, 25], [0, 1, 5, 6, 7, 8], [0, 1, 5, 6, 7, 8, 9], [0, 1, 5, 6, 7, 8, 9, 10], [0, 1, 5, 6, 7, 8, 9, 10, 40], [0, 1, 5, 6, 7, 8, 9, 10], [0, 1, 5, 6, 7, 8, 9, 10], [0, 1,
      5, 6, 11], [0, 1, 11, 57], [0, 1, 11], [0, 11, 61], [0, 11], [11, 65], [11], [4]] 69 [] []
theorem fc71_0 : IntKind.wrap .i64 (-1) = (-1) := by decide
theorem fc71_1 : IntKind.wrap .i64 0 = 0 := by decide
theorem fc71_2 : IntKind.wrap .i64 1 = 1 := by decide
theorem fc71_3 : IntKind.wrap .i64 10 = 10 := by decide
theorem fc71_4 : IntKind.wrap .i64 11 = 11 := by decide
theorem fc71_5 : IntKind.wrap .i64 110 = 110 := by decide
theorem fc71_6 : IntKind.wrap .i64 12 = 12 := by decide
theorem fc71_7 : IntKind.wrap .i64 13 = 13 := by decide
theorem fc71_8 : IntKind.wrap .i64 14 = 14 := by decide
theorem fc71_9 : IntKind.wrap .i64 15 = 15 := by decide
theorem fc71_10 : IntKind.wrap .i64 156 = 156 := by decide
theorem fc71_11 : IntKind.wrap .i64 16 = 16 := by decide
theorem fc71_12 : IntKind.wrap .i64 17 = 17 := by decide
theorem fc71_13 : IntKind.wrap .i64 2 = 2 := by decide
theorem fc71_14 : IntKind.wrap .i64 20 = 20 := by decide
theorem fc71_15 : IntKind.wrap .i64 210 = 210 := by decide
theorem fc71_16 : IntKind.wrap .i64 272 = 272 := by decide
theorem fc71_17 : IntKind.wrap .i64 3 = 3 := by decide
theorem fc71_18 : IntKind.wrap .i64 4 = 4 := by decide
theorem fc71_19 : IntKind.wrap .i64 42 = 42 := by decide
theorem fc71_20 : IntKind.wrap .i64 5 = 5 := by decide
theorem fc71_21 : IntKind.wrap .i64 6 = 6 := by decide
theorem fc71_22 : IntKind.wrap .i64 7 = 7 := by decide
theorem fc71_23 : IntKind.wrap .i64 72 = 72 := by decide
theorem fc71_24 : IntKind.wrap .i64 8 = 8 := by decide
theorem fc71_25 : IntKind.wrap .i64 9 = 9 := by decide
theorem s71 : ∀ vs r, g_impl_wideAngle vs = some r → SaysM Try.prog .any 71 vs r := by
  intro vs r h
  unfold g_impl_wideAngle at h
  split at h
  · rename_i y0 y1
    cases h
    refine spec_of (m := .any) (tab := tabOf [(72, wM .any g_math_Sqrt), (114, wM .any g_abs)]) (cp := cp71) (ic := ic71) (rvl := [(.t 4)]) hm (tabOk_cons (m := .any) s72 (tabOk_cons (m := .any) s114 tabOk_nil)) Try.func71 rfl rfl rfl (by kernel_rfl) rfl (Nat.le_of_ble_eq_true rfl) (Nat.le_of_ble_eq_true rfl) ?_
    show eA _ _ _ _
    unfold ic71
    simp only [
        grpA, vsliceS, grpS, grpD, grpF, grpL, eop, vop, bop, uop, fltop, convop, endOk, newE, new1, freshL, Md.isNew, outV, pureV, pureX, pure1, AV.cells, AV.one, storable, laid,
              refless, refless1, vload, loadC, storeC, vnil, vfaddr, vextract, flatT, flatE, flatC, vconv, vmm, vidxA, viaddrA, vfield, vlen, elemsOf, dF32, dF64, dI64, dU8, dBool,
              dStr, esOk, elemsS, vsliceX, bnd, ownV, ownC, own1, ownT, isSl, nSl, endL, Md.isOwn, purge, purgeH, purgeB, purgeE, hasName, name1, List.any_cons, List.any_nil,
              Md.isWr, pureV.pureP, Option.map, reduceIte, Nat.reduceEqDiff, Nat.reduceAdd, Nat.reduceMul, Nat.reduceLT, Nat.reduceLeDiff, List.mapM_cons, List.mapM_nil,
              Option.pure_def, Option.bind_eq_bind, Option.bind_some, implies_true, forall_const, beq_self_eq_true, decide_true, decide_false, eq_self, Int.reduceEq, Int.reduceLE,
              Int.reduceLT, if_true, if_false, fc71_0, fc71_1, fc71_2, fc71_3, fc71_4, fc71_5, fc71_6, fc71_7, fc71_8, fc71_9, fc71_10, fc71_11, fc71_12, fc71_13, fc71_14, fc71_15,
              fc71_16, fc71_17, fc71_18, fc71_19, fc71_20, fc71_21, fc71_22, fc71_23, fc71_24, fc71_25, Int.reduceAdd, Int.reduceSub, Int.reduceMul, Int.reduceNeg, Int.reducePow,
              Nat.reducePow, Int.reduceToNat, Nat.reduceSub, List.replicate, Nat.reduceBEq, wAs, wA, wC, zipW, noDupN, grpE, g_math_Sqrt, g_abs]
    repeat' (first
      | ((first | (refine eGI_of (fun h => ?_) (fun h => ?_)) | (refine eCc_of (fun h => ?_) (fun h => ?_)) | (have h := True.intro; refine KW_refl ?_) | (have h := True.intro; refine eA_loop ?_)) <;> (try simp only [Bool.not_eq_true', Bool.not_eq_false'] at h) <;> simp only [h,
        grpA, vsliceS, grpS, grpD, grpF, grpL, eop, vop, bop, uop, fltop, convop, endOk, newE, new1, freshL, Md.isNew, outV, pureV, pureX, pure1, AV.cells, AV.one, storable, laid,
              refless, refless1, vload, loadC, storeC, vnil, vfaddr, vextract, flatT, flatE, flatC, vconv, vmm, vidxA, viaddrA, vfield, vlen, elemsOf, dF32, dF64, dI64, dU8, dBool,
              dStr, esOk, elemsS, vsliceX, bnd, ownV, ownC, own1, ownT, isSl, nSl, endL, Md.isOwn, purge, purgeH, purgeB, purgeE, hasName, name1, List.any_cons, List.any_nil,
              Md.isWr, pureV.pureP, Option.map, reduceIte, Nat.reduceEqDiff, Nat.reduceAdd, Nat.reduceMul, Nat.reduceLT, Nat.reduceLeDiff, List.mapM_cons, List.mapM_nil,
              Option.pure_def, Option.bind_eq_bind, Option.bind_some, implies_true, forall_const, beq_self_eq_true, decide_true, decide_false, eq_self, Int.reduceEq, Int.reduceLE,
              Int.reduceLT, if_true, if_false, fc71_0, fc71_1, fc71_2, fc71_3, fc71_4, fc71_5, fc71_6, fc71_7, fc71_8, fc71_9, fc71_10, fc71_11, fc71_12, fc71_13, fc71_14, fc71_15,
              fc71_16, fc71_17, fc71_18, fc71_19, fc71_20, fc71_21, fc71_22, fc71_23, fc71_24, fc71_25, Int.reduceAdd, Int.reduceSub, Int.reduceMul, Int.reduceNeg, Int.reducePow,
              Nat.reducePow, Int.reduceToNat, Nat.reduceSub, List.replicate, Nat.reduceBEq, wAs, wA, wC, zipW, noDupN, grpE, g_math_Sqrt, g_abs]))
    all_goals (try simp only [*, m_impl_wideAngle, v_impl_wideAngle_0, v_impl_wideAngle_1, v_impl_wideAngle_2, v_impl_wideAngle_3, v_impl_wideAngle_4, v_impl_wideAngle_5, v_impl_wideAngle_6, v_impl_wideAngle_7, v_impl_wideAngle_8, v_impl_wideAngle_9, v_impl_wideAngle_10, v_impl_wideAngle_11, v_impl_wideAngle_12, v_impl_wideAngle_13, Bool.and_true, Bool.true_and, Bool.and_false, Bool.false_and, Bool.or_true, Bool.true_or, Bool.or_false, Bool.false_or, Bool.not_true, Bool.not_false, Bool.false_eq_true, if_true, if_false, reduceIte, decide_true, decide_false])
    all_goals (try (simp_all; done))
  · cases h
def m_impl_AngleTurns (x0 : Nat) (x1 : Nat) : Nat := (if (m_impl_IsFinite x1) = true then (if (m_impl_IsFinite x0) = true then (if (feq .f32 x1 0) = true then (if (feq .f32 x0 0) =
      true then 0 else (narrow (m_impl_wideAngle (widen x0) (widen x1)))) else (narrow (m_impl_wideAngle (widen x0) (widen x1)))) else (m_impl_notNumber)) else (m_impl_notNumber))
def p_impl_AngleTurns (x0 : Nat) (x1 : Nat) : Bool := (if (m_impl_IsFinite x1) = true then (if (m_impl_IsFinite x0) = true then (if (feq .f32 x1 0) = true then ((feq .f32 x0 0) ||
      (narrowOk (m_impl_wideAngle (widen x0) (widen x1)))) else (narrowOk (m_impl_wideAngle (widen x0) (widen x1)))) else (p_impl_notNumber)) else (p_impl_notNumber))
def g_impl_AngleTurns : List AV → Option AV
  | [.flt .f32 y0, .flt .f32 y1] => if p_impl_AngleTurns y0 y1 = true then some (.flt .f32 (m_impl_AngleTurns y0 y1)) else none
  | _ => none
def ic175 : ICode := (.seq (.reg [⟨(some 4), none, (.mov (.c (.flt .f32 0)))⟩] [0, 1]) (.seq (.seq (.reg [⟨(some 5), none, (.mov (.t 1))⟩, ⟨(some 6), none, (.call (.fn 70) [(.t 5)]
      [])⟩, ⟨(some 7), none, (.un .not (.t 6))⟩, ⟨(some 8), none, (.mov (.t 7))⟩, ⟨(some 9), (some (8, false)), (.mov (.t 0))⟩, ⟨(some 10), (some (8, false)), (.call (.fn 70) [(.t
      9)] [])⟩, ⟨(some 11), (some (8, false)), (.un .not (.t 10))⟩, ⟨(some 12), none, (.pick (.t 8) (.c (.bool true)) (.t 11))⟩] [0, 1, 12]) (.cond (.t 12) (.seq (.reg [⟨(some 13),
      none, (.call (.fn 197) [] [])⟩, ⟨(some 4), none, (.mov (.t 13))⟩] [4]) .ret) .skip)) (.seq (.seq (.reg [⟨(some 14), none, (.mov (.t 1))⟩, ⟨(some 15), none, (.bin .eql false
      (.t 14) (.c (.flt .f32 0)))⟩, ⟨(some 16), none, (.mov (.t 15))⟩, ⟨(some 17), (some (16, true)), (.mov (.t 0))⟩, ⟨(some 18), (some (16, true)), (.bin .eql false (.t 17) (.c
      (.flt .f32 0)))⟩, ⟨(some 19), none, (.pick (.t 16) (.t 18) (.c (.bool false)))⟩] [0, 1, 19]) (.cond (.t 19) (.seq (.reg [⟨(some 4), none, (.mov (.c (.flt .f32 0)))⟩] [4])
      .ret) .skip)) (.seq (.reg [⟨(some 20), none, (.mov (.t 0))⟩, ⟨(some 21), none, (.conv (.flt .f64) (.t 20))⟩, ⟨(some 22), none, (.mov (.t 1))⟩, ⟨(some 23), none, (.conv (.flt
      .f64) (.t 22))⟩, ⟨(some 24), none, (.call (.fn 71) [(.t 21), (.t 23)] [])⟩, ⟨(some 25), none, (.conv (.flt .f32) (.t 24))⟩, ⟨(some 4), none, (.mov (.t 25))⟩] [4]) .ret))))
def cp175 : CP := CP.mk [] [] [[0, 1], [0, 1, 12], [4], [0, 1, 19], [4], [4]] 26 [] []
theorem fc175_0 : IntKind.wrap .i64 (-1) = (-1) := by decide
theorem fc175_1 : IntKind.wrap .i64 0 = 0 := by decide
theorem fc175_2 : IntKind.wrap .i64 1 = 1 := by decide
theorem fc175_3 : IntKind.wrap .i64 10 = 10 := by decide
theorem fc175_4 : IntKind.wrap .i64 11 = 11 := by decide
theorem fc175_5 : IntKind.wrap .i64 110 = 110 := by decide
theorem fc175_6 : IntKind.wrap .i64 12 = 12 := by decide
theorem fc175_7 : IntKind.wrap .i64 13 = 13 := by decide
theorem fc175_8 : IntKind.wrap .i64 14 = 14 := by decide
theorem fc175_9 : IntKind.wrap .i64 15 = 15 := by decide
theorem fc175_10 : IntKind.wrap .i64 156 = 156 := by decide
theorem fc175_11 : IntKind.wrap .i64 16 = 16 := by decide
theorem fc175_12 : IntKind.wrap .i64 17 = 17 := by decide
theorem fc175_13 : IntKind.wrap .i64 2 = 2 := by decide
theorem fc175_14 : IntKind.wrap .i64 20 = 20 := by decide
theorem fc175_15 : IntKind.wrap .i64 210 = 210 := by decide
theorem fc175_16 : IntKind.wrap .i64 272 = 272 := by decide
theorem fc175_17 : IntKind.wrap .i64 3 = 3 := by decide
theorem fc175_18 : IntKind.wrap .i64 4 = 4 := by decide
theorem fc175_19 : IntKind.wrap .i64 42 = 42 := by decide
theorem fc175_20 : IntKind.wrap .i64 5 = 5 := by decide
theorem fc175_21 : IntKind.wrap .i64 6 = 6 := by decide
theorem fc175_22 : IntKind.wrap .i64 7 = 7 := by decide
theorem fc175_23 : IntKind.wrap .i64 72 = 72 := by decide
theorem fc175_24 : IntKind.wrap .i64 8 = 8 := by decide
theorem fc175_25 : IntKind.wrap .i64 9 = 9 := by decide
theorem s175 : ∀ vs r, g_impl_AngleTurns vs = some r → SaysM Try.prog .any 175 vs r := by
  intro vs r h
  unfold g_impl_AngleTurns at h
  split at h
  · rename_i y0 y1
    split at h
    · rename_i hp
      cases h
      refine spec_of (m := .any) (tab := tabOf [(70, wM .any g_impl_IsFinite), (71, wM .any g_impl_wideAngle), (197, wM .any g_impl_notNumber)]) (cp := cp175) (ic := ic175) (rvl := [(.t 4)]) hm (tabOk_cons (m := .any) s70 (tabOk_cons (m := .any) s71 (tabOk_cons (m := .any) s197 tabOk_nil))) Try.func175 rfl rfl rfl (by kernel_rfl) rfl (Nat.le_of_ble_eq_true rfl) (Nat.le_of_ble_eq_true rfl) ?_
      show eA _ _ _ _
      unfold ic175
      simp only [p_impl_AngleTurns, Bool.and_eq_true, Bool.or_eq_true, decide_eq_true_eq, Bool.not_eq_true', decide_eq_false_iff_not] at hp
      simp only [
          hp, grpA, vsliceS, grpS, grpD, grpF, grpL, eop, vop, bop, uop, fltop, convop, endOk, newE, new1, freshL, Md.isNew, outV, pureV, pureX, pure1, AV.cells, AV.one, storable,
                laid, refless, refless1, vload, loadC, storeC, vnil, vfaddr, vextract, flatT, flatE, flatC, vconv, vmm, vidxA, viaddrA, vfield, vlen, elemsOf, dF32, dF64, dI64, dU8,
                dBool, dStr, esOk, elemsS, vsliceX, bnd, ownV, ownC, own1, ownT, isSl, nSl, endL, Md.isOwn, purge, purgeH, purgeB, purgeE, hasName, name1, List.any_cons,
                List.any_nil, Md.isWr, pureV.pureP, Option.map, reduceIte, Nat.reduceEqDiff, Nat.reduceAdd, Nat.reduceMul, Nat.reduceLT, Nat.reduceLeDiff, List.mapM_cons,
                List.mapM_nil, Option.pure_def, Option.bind_eq_bind, Option.bind_some, implies_true, forall_const, beq_self_eq_true, decide_true, decide_false, eq_self,
                Int.reduceEq, Int.reduceLE, Int.reduceLT, if_true, if_false, fc175_0, fc175_1, fc175_2, fc175_3, fc175_4, fc175_5, fc175_6, fc175_7, fc175_8, fc175_9, fc175_10,
                fc175_11, fc175_12, fc175_13, fc175_14, fc175_15, fc175_16, fc175_17, fc175_18, fc175_19, fc175_20, fc175_21, fc175_22, fc175_23, fc175_24, fc175_25, Int.reduceAdd,
                Int.reduceSub, Int.reduceMul, Int.reduceNeg, Int.reducePow, Nat.reducePow, Int.reduceToNat, Nat.reduceSub, List.replicate, Nat.reduceBEq, wAs, wA, wC, zipW, noDupN,
                grpE, g_impl_IsFinite, g_impl_wideAngle, g_impl_notNumber, ↓b_pick, ePk_true, ePk_false]
      repeat' (first
        | ((first | (refine eGI_of (fun h => ?_) (fun h => ?_)) | (refine eCc_of (fun h => ?_) (fun h => ?_)) | (refine ePk_of (fun h => ?_) (fun h => ?_))) <;> (try simp only [Bool.not_eq_true', Bool.not_eq_false'] at h) <;> (try simp only [h, reduceCtorEq, Bool.not_eq_true', decide_eq_false_iff_not, Bool.not_true, Bool.not_false, Bool.false_or, Bool.true_or, Bool.true_and, Bool.false_and, Bool.and_eq_true, Bool.or_eq_true, if_true, if_false, reduceIte, Bool.false_eq_true, and_true, true_and, false_or, or_false, decide_eq_true_eq, not_false_eq_true, not_true_eq_false] at hp) <;> (try (have h2 := h; simp only [decide_eq_true_eq, decide_eq_false_iff_not] at h2; (first | (replace h2 := eq_false h2) | (replace h2 := eq_true h2)); simp only [h2, if_true, if_false, false_or, true_or, or_true, or_false, and_true, true_and, not_false_eq_true, not_true_eq_false] at hp)) <;> simp only [h,
          hp, grpA, vsliceS, grpS, grpD, grpF, grpL, eop, vop, bop, uop, fltop, convop, endOk, newE, new1, freshL, Md.isNew, outV, pureV, pureX, pure1, AV.cells, AV.one, storable,
                laid, refless, refless1, vload, loadC, storeC, vnil, vfaddr, vextract, flatT, flatE, flatC, vconv, vmm, vidxA, viaddrA, vfield, vlen, elemsOf, dF32, dF64, dI64, dU8,
                dBool, dStr, esOk, elemsS, vsliceX, bnd, ownV, ownC, own1, ownT, isSl, nSl, endL, Md.isOwn, purge, purgeH, purgeB, purgeE, hasName, name1, List.any_cons,
                List.any_nil, Md.isWr, pureV.pureP, Option.map, reduceIte, Nat.reduceEqDiff, Nat.reduceAdd, Nat.reduceMul, Nat.reduceLT, Nat.reduceLeDiff, List.mapM_cons,
                List.mapM_nil, Option.pure_def, Option.bind_eq_bind, Option.bind_some, implies_true, forall_const, beq_self_eq_true, decide_true, decide_false, eq_self,
                Int.reduceEq, Int.reduceLE, Int.reduceLT, if_true, if_false, fc175_0, fc175_1, fc175_2, fc175_3, fc175_4, fc175_5, fc175_6, fc175_7, fc175_8, fc175_9, fc175_10,
                fc175_11, fc175_12, fc175_13, fc175_14, fc175_15, fc175_16, fc175_17, fc175_18, fc175_19, fc175_20, fc175_21, fc175_22, fc175_23, fc175_24, fc175_25, Int.reduceAdd,
                Int.reduceSub, Int.reduceMul, Int.reduceNeg, Int.reducePow, Nat.reducePow, Int.reduceToNat, Nat.reduceSub, List.replicate, Nat.reduceBEq, wAs, wA, wC, zipW, noDupN,
                grpE, g_impl_IsFinite, g_impl_wideAngle, g_impl_notNumber, ↓b_pick, ePk_true, ePk_false]))
      all_goals (try simp only [*, m_impl_AngleTurns, Bool.and_true, Bool.true_and, Bool.and_false, Bool.false_and, Bool.or_true, Bool.true_or, Bool.or_false, Bool.false_or, Bool.not_true, Bool.not_false, Bool.false_eq_true, if_true, if_false, reduceIte, decide_true, decide_false])
      all_goals (try (simp_all; done))
    · cases h
  · cases h
def m_impl_AngleOf (x0 : (Nat × Nat × Nat × Nat)) : Nat := (fmul .f32 1073741824 (m_impl_AngleTurns (m_impl_LongOf (m_impl_Turn_vector x0)) (m_impl_size x0.1)))
def p_impl_AngleOf (x0 : (Nat × Nat × Nat × Nat)) : Bool := ((p_impl_LongOf (m_impl_Turn_vector x0)) && ((p_impl_size x0.1) && (p_impl_AngleTurns (m_impl_LongOf (m_impl_Turn_vector
      x0)) (m_impl_size x0.1))))
def g_impl_AngleOf : List AV → Option AV
  | [.agg [.flt .f32 y0, .flt .f32 y1, .flt .f32 y2, .flt .f32 y3]] => if p_impl_AngleOf (y0, y1, y2, y3) = true then some (.flt .f32
      (m_impl_AngleOf (y0, y1, y2, y3))) else none
  | _ => none
def ic130 : ICode := (.seq (.reg [⟨(some 1), none, (.box 4 (.t 0))⟩, ⟨(some 2), none, (.mov (.c (.flt .f32 0)))⟩] [1]) (.seq (.reg [⟨(some 3), none, (.load (some 4) (.t 1))⟩, ⟨(some
      4), none, (.call (.fn 128) [(.t 3)] [])⟩, ⟨(some 5), none, (.call (.fn 176) [(.t 4)] [])⟩, ⟨(some 6), none, (.faddr 0 (.t 1))⟩, ⟨(some 7), none, (.load none (.t 6))⟩, ⟨(some
      8), none, (.call (.fn 177) [(.t 7)] [])⟩, ⟨(some 9), none, (.call (.fn 175) [(.t 5), (.t 8)] [])⟩, ⟨(some 10), none, (.bin .mul false (.c (.flt .f32 1073741824)) (.t 9))⟩,
      ⟨(some 2), none, (.mov (.t 10))⟩] [2]) .ret))
def cp130 : CP := CP.mk [] [] [[1], [2]] 11 [] []
theorem fc130_0 : IntKind.wrap .i64 (-1) = (-1) := by decide
theorem fc130_1 : IntKind.wrap .i64 0 = 0 := by decide
theorem fc130_2 : IntKind.wrap .i64 1 = 1 := by decide
theorem fc130_3 : IntKind.wrap .i64 10 = 10 := by decide
theorem fc130_4 : IntKind.wrap .i64 11 = 11 := by decide
theorem fc130_5 : IntKind.wrap .i64 110 = 110 := by decide
theorem fc130_6 : IntKind.wrap .i64 12 = 12 := by decide
theorem fc130_7 : IntKind.wrap .i64 13 = 13 := by decide
theorem fc130_8 : IntKind.wrap .i64 14 = 14 := by decide
theorem fc130_9 : IntKind.wrap .i64 15 = 15 := by decide
theorem fc130_10 : IntKind.wrap .i64 156 = 156 := by decide
theorem fc130_11 : IntKind.wrap .i64 16 = 16 := by decide
theorem fc130_12 : IntKind.wrap .i64 17 = 17 := by decide
theorem fc130_13 : IntKind.wrap .i64 2 = 2 := by decide
theorem fc130_14 : IntKind.wrap .i64 20 = 20 := by decide
theorem fc130_15 : IntKind.wrap .i64 210 = 210 := by decide
theorem fc130_16 : IntKind.wrap .i64 272 = 272 := by decide
theorem fc130_17 : IntKind.wrap .i64 3 = 3 := by decide
theorem fc130_18 : IntKind.wrap .i64 4 = 4 := by decide
theorem fc130_19 : IntKind.wrap .i64 42 = 42 := by decide
theorem fc130_20 : IntKind.wrap .i64 5 = 5 := by decide
theorem fc130_21 : IntKind.wrap .i64 6 = 6 := by decide
theorem fc130_22 : IntKind.wrap .i64 7 = 7 := by decide
theorem fc130_23 : IntKind.wrap .i64 72 = 72 := by decide
theorem fc130_24 : IntKind.wrap .i64 8 = 8 := by decide
theorem fc130_25 : IntKind.wrap .i64 9 = 9 := by decide
theorem s130 : ∀ vs r, g_impl_AngleOf vs = some r → SaysM Try.prog .any 130 vs r := by
  intro vs r h
  unfold g_impl_AngleOf at h
  split at h
  · rename_i y0 y1 y2 y3
    split at h
    · rename_i hp
      cases h
      refine spec_of (m := .any) (tab := tabOf [(128, wM .any g_impl_Turn_vector), (175, wM .any g_impl_AngleTurns), (176, wM .any g_impl_LongOf), (177, wM .any g_impl_size)]) (cp := cp130) (ic := ic130) (rvl := [(.t 2)]) hm (tabOk_cons (m := .any) s128 (tabOk_cons (m := .any) s175 (tabOk_cons (m := .any) s176 (tabOk_cons (m := .any) s177 tabOk_nil)))) Try.func130 rfl rfl rfl (by kernel_rfl) rfl (Nat.le_of_ble_eq_true rfl) (Nat.le_of_ble_eq_true rfl) ?_
      show eA _ _ _ _
      unfold ic130
      simp only [p_impl_AngleOf, Bool.and_eq_true, Bool.or_eq_true, decide_eq_true_eq, Bool.not_eq_true', decide_eq_false_iff_not] at hp
      simp only [
          hp, grpA, vsliceS, grpS, grpD, grpF, grpL, eop, vop, bop, uop, fltop, convop, endOk, newE, new1, freshL, Md.isNew, outV, pureV, pureX, pure1, AV.cells, AV.one, storable,
                laid, refless, refless1, vload, loadC, storeC, vnil, vfaddr, vextract, flatT, flatE, flatC, vconv, vmm, vidxA, viaddrA, vfield, vlen, elemsOf, dF32, dF64, dI64, dU8,
                dBool, dStr, esOk, elemsS, vsliceX, bnd, ownV, ownC, own1, ownT, isSl, nSl, endL, Md.isOwn, purge, purgeH, purgeB, purgeE, hasName, name1, List.any_cons,
                List.any_nil, Md.isWr, pureV.pureP, Option.map, reduceIte, Nat.reduceEqDiff, Nat.reduceAdd, Nat.reduceMul, Nat.reduceLT, Nat.reduceLeDiff, List.mapM_cons,
                List.mapM_nil, Option.pure_def, Option.bind_eq_bind, Option.bind_some, implies_true, forall_const, beq_self_eq_true, decide_true, decide_false, eq_self,
                Int.reduceEq, Int.reduceLE, Int.reduceLT, if_true, if_false, fc130_0, fc130_1, fc130_2, fc130_3, fc130_4, fc130_5, fc130_6, fc130_7, fc130_8, fc130_9, fc130_10,
                fc130_11, fc130_12, fc130_13, fc130_14, fc130_15, fc130_16, fc130_17, fc130_18, fc130_19, fc130_20, fc130_21, fc130_22, fc130_23, fc130_24, fc130_25, Int.reduceAdd,
                Int.reduceSub, Int.reduceMul, Int.reduceNeg, Int.reducePow, Nat.reducePow, Int.reduceToNat, Nat.reduceSub, List.replicate, Nat.reduceBEq, wAs, wA, wC, zipW, noDupN,
                grpE, g_impl_Turn_vector, g_impl_AngleTurns, g_impl_LongOf, g_impl_size]
      repeat' (first
        | ((first | (refine eGI_of (fun h => ?_) (fun h => ?_)) | (refine eCc_of (fun h => ?_) (fun h => ?_))) <;> (try simp only [Bool.not_eq_true', Bool.not_eq_false'] at h) <;> (try simp only [h, reduceCtorEq, Bool.not_eq_true', decide_eq_false_iff_not, Bool.not_true, Bool.not_false, Bool.false_or, Bool.true_or, Bool.true_and, Bool.false_and, Bool.and_eq_true, Bool.or_eq_true, if_true, if_false, reduceIte, Bool.false_eq_true, and_true, true_and, false_or, or_false, decide_eq_true_eq, not_false_eq_true, not_true_eq_false] at hp) <;> (try (have h2 := h; simp only [decide_eq_true_eq, decide_eq_false_iff_not] at h2; (first | (replace h2 := eq_false h2) | (replace h2 := eq_true h2)); simp only [h2, if_true, if_false, false_or, true_or, or_true, or_false, and_true, true_and, not_false_eq_true, not_true_eq_false] at hp)) <;> simp only [h,
          hp, grpA, vsliceS, grpS, grpD, grpF, grpL, eop, vop, bop, uop, fltop, convop, endOk, newE, new1, freshL, Md.isNew, outV, pureV, pureX, pure1, AV.cells, AV.one, storable,
                laid, refless, refless1, vload, loadC, storeC, vnil, vfaddr, vextract, flatT, flatE, flatC, vconv, vmm, vidxA, viaddrA, vfield, vlen, elemsOf, dF32, dF64, dI64, dU8,
                dBool, dStr, esOk, elemsS, vsliceX, bnd, ownV, ownC, own1, ownT, isSl, nSl, endL, Md.isOwn, purge, purgeH, purgeB, purgeE, hasName, name1, List.any_cons,
                List.any_nil, Md.isWr, pureV.pureP, Option.map, reduceIte, Nat.reduceEqDiff, Nat.reduceAdd, Nat.reduceMul, Nat.reduceLT, Nat.reduceLeDiff, List.mapM_cons,
                List.mapM_nil, Option.pure_def, Option.bind_eq_bind, Option.bind_some, implies_true, forall_const, beq_self_eq_true, decide_true, decide_false, eq_self,
                Int.reduceEq, Int.reduceLE, Int.reduceLT, if_true, if_false, fc130_0, fc130_1, fc130_2, fc130_3, fc130_4, fc130_5, fc130_6, fc130_7, fc130_8, fc130_9, fc130_10,
                fc130_11, fc130_12, fc130_13, fc130_14, fc130_15, fc130_16, fc130_17, fc130_18, fc130_19, fc130_20, fc130_21, fc130_22, fc130_23, fc130_24, fc130_25, Int.reduceAdd,
                Int.reduceSub, Int.reduceMul, Int.reduceNeg, Int.reducePow, Nat.reducePow, Int.reduceToNat, Nat.reduceSub, List.replicate, Nat.reduceBEq, wAs, wA, wC, zipW, noDupN,
                grpE, g_impl_Turn_vector, g_impl_AngleTurns, g_impl_LongOf, g_impl_size]))
      all_goals (try simp only [*, m_impl_AngleOf, Bool.and_true, Bool.true_and, Bool.and_false, Bool.false_and, Bool.or_true, Bool.true_or, Bool.or_false, Bool.false_or, Bool.not_true, Bool.not_false, Bool.false_eq_true, if_true, if_false, reduceIte, decide_true, decide_false])
      all_goals (try (simp_all; done))
    · cases h
  · cases h
def m_impl_Turn_opposite (x0 : (Nat × Nat × Nat × Nat)) : (Nat × Nat × Nat × Nat) := ((fneg .f32 x0.1), (fneg .f32 x0.2.1), (fneg .f32 x0.2.2.1), (fneg .f32 x0.2.2.2))
def g_impl_Turn_opposite : List AV → Option AV
  | [.agg [.flt .f32 y0, .flt .f32 y1, .flt .f32 y2, .flt .f32 y3]] => some (AV.agg [(.flt .f32 (m_impl_Turn_opposite (y0, y1, y2,
      y3)).1), (.flt .f32 (m_impl_Turn_opposite (y0, y1, y2, y3)).2.1), (.flt .f32 (m_impl_Turn_opposite (y0, y1, y2, y3)).2.2.1), (.flt .f32 (m_impl_Turn_opposite (y0, y1, y2,
      y3)).2.2.2)])
  | _ => none
def ic179 : ICode := (.seq (.reg [⟨(some 1), none, (.box 4 (.t 0))⟩, ⟨(some 2), none, (.alloc (.agg [(.flt .f32 0), (.flt .f32 0), (.flt .f32 0), (.flt .f32 0)]))⟩] [1, 2]) (.seq
      (.reg [⟨(some 3), none, (.faddr 0 (.t 1))⟩, ⟨(some 4), none, (.load none (.t 3))⟩, ⟨(some 5), none, (.un .neg (.t 4))⟩, ⟨(some 6), none, (.faddr 1 (.t 1))⟩, ⟨(some 7), none,
      (.load none (.t 6))⟩, ⟨(some 8), none, (.un .neg (.t 7))⟩, ⟨(some 9), none, (.faddr 2 (.t 1))⟩, ⟨(some 10), none, (.load none (.t 9))⟩, ⟨(some 11), none, (.un .neg (.t 10))⟩,
      ⟨(some 12), none, (.faddr 3 (.t 1))⟩, ⟨(some 13), none, (.load none (.t 12))⟩, ⟨(some 14), none, (.un .neg (.t 13))⟩, ⟨(some 15), none, (.build [(.flt .f32 0), (.flt .f32 0),
      (.flt .f32 0), (.flt .f32 0)] [(0, 1, (.t 5)), (1, 1, (.t 8)), (2, 1, (.t 11)), (3, 1, (.t 14))])⟩, ⟨none, none, (.store 4 (.t 2) (.t 15))⟩] [2]) .ret))
def cp179 : CP := CP.mk [] [] [[1, 2], [2]] 16 [] []
theorem fc179_0 : IntKind.wrap .i64 (-1) = (-1) := by decide
theorem fc179_1 : IntKind.wrap .i64 0 = 0 := by decide
theorem fc179_2 : IntKind.wrap .i64 1 = 1 := by decide
theorem fc179_3 : IntKind.wrap .i64 10 = 10 := by decide
theorem fc179_4 : IntKind.wrap .i64 11 = 11 := by decide
theorem fc179_5 : IntKind.wrap .i64 110 = 110 := by decide
theorem fc179_6 : IntKind.wrap .i64 12 = 12 := by decide
theorem fc179_7 : IntKind.wrap .i64 13 = 13 := by decide
theorem fc179_8 : IntKind.wrap .i64 14 = 14 := by decide
theorem fc179_9 : IntKind.wrap .i64 15 = 15 := by decide
theorem fc179_10 : IntKind.wrap .i64 156 = 156 := by decide
theorem fc179_11 : IntKind.wrap .i64 16 = 16 := by decide
theorem fc179_12 : IntKind.wrap .i64 17 = 17 := by decide
theorem fc179_13 : IntKind.wrap .i64 2 = 2 := by decide
theorem fc179_14 : IntKind.wrap .i64 20 = 20 := by decide
theorem fc179_15 : IntKind.wrap .i64 210 = 210 := by decide
theorem fc179_16 : IntKind.wrap .i64 272 = 272 := by decide
theorem fc179_17 : IntKind.wrap .i64 3 = 3 := by decide
theorem fc179_18 : IntKind.wrap .i64 4 = 4 := by decide
theorem fc179_19 : IntKind.wrap .i64 42 = 42 := by decide
theorem fc179_20 : IntKind.wrap .i64 5 = 5 := by decide
theorem fc179_21 : IntKind.wrap .i64 6 = 6 := by decide
theorem fc179_22 : IntKind.wrap .i64 7 = 7 := by decide
theorem fc179_23 : IntKind.wrap .i64 72 = 72 := by decide
theorem fc179_24 : IntKind.wrap .i64 8 = 8 := by decide
theorem fc179_25 : IntKind.wrap .i64 9 = 9 := by decide
theorem s179 : ∀ vs r, g_impl_Turn_opposite vs = some r → SaysM Try.prog .any 179 vs r := by
  intro vs r h
  unfold g_impl_Turn_opposite at h
  split at h
  · rename_i y0 y1 y2 y3
    cases h
    refine spec_of (m := .any) (tab := tabOf []) (cp := cp179) (ic := ic179) (rvl := [(.c 2 (some 4))]) hm tabOk_nil Try.func179 rfl rfl rfl (by kernel_rfl) rfl (Nat.le_of_ble_eq_true rfl) (Nat.le_of_ble_eq_true rfl) ?_
    show eA _ _ _ _
    unfold ic179
    simp only [
        grpA, vsliceS, grpS, grpD, grpF, grpL, eop, vop, bop, uop, fltop, convop, endOk, newE, new1, freshL, Md.isNew, outV, pureV, pureX, pure1, AV.cells, AV.one, storable, laid,
              refless, refless1, vload, loadC, storeC, vnil, vfaddr, vextract, flatT, flatE, flatC, vconv, vmm, vidxA, viaddrA, vfield, vlen, elemsOf, dF32, dF64, dI64, dU8, dBool,
              dStr, esOk, elemsS, vsliceX, bnd, ownV, ownC, own1, ownT, isSl, nSl, endL, Md.isOwn, purge, purgeH, purgeB, purgeE, hasName, name1, List.any_cons, List.any_nil,
              Md.isWr, pureV.pureP, Option.map, reduceIte, Nat.reduceEqDiff, Nat.reduceAdd, Nat.reduceMul, Nat.reduceLT, Nat.reduceLeDiff, List.mapM_cons, List.mapM_nil,
              Option.pure_def, Option.bind_eq_bind, Option.bind_some, implies_true, forall_const, beq_self_eq_true, decide_true, decide_false, eq_self, Int.reduceEq, Int.reduceLE,
              Int.reduceLT, if_true, if_false, fc179_0, fc179_1, fc179_2, fc179_3, fc179_4, fc179_5, fc179_6, fc179_7, fc179_8, fc179_9, fc179_10, fc179_11, fc179_12, fc179_13,
              fc179_14, fc179_15, fc179_16, fc179_17, fc179_18, fc179_19, fc179_20, fc179_21, fc179_22, fc179_23, fc179_24, fc179_25, Int.reduceAdd, Int.reduceSub, Int.reduceMul,
              Int.reduceNeg, Int.reducePow, Nat.reducePow, Int.reduceToNat, Nat.reduceSub, List.replicate, Nat.reduceBEq, wAs, wA, wC, zipW, noDupN, grpE]
    repeat' (first
      | ((first | (refine eGI_of (fun h => ?_) (fun h => ?_)) | (refine eCc_of (fun h => ?_) (fun h => ?_))) <;> (try simp only [Bool.not_eq_true', Bool.not_eq_false'] at h) <;> simp only [h,
        grpA, vsliceS, grpS, grpD, grpF, grpL, eop, vop, bop, uop, fltop, convop, endOk, newE, new1, freshL, Md.isNew, outV, pureV, pureX, pure1, AV.cells, AV.one, storable, laid,
              refless, refless1, vload, loadC, storeC, vnil, vfaddr, vextract, flatT, flatE, flatC, vconv, vmm, vidxA, viaddrA, vfield, vlen, elemsOf, dF32, dF64, dI64, dU8, dBool,
              dStr, esOk, elemsS, vsliceX, bnd, ownV, ownC, own1, ownT, isSl, nSl, endL, Md.isOwn, purge, purgeH, purgeB, purgeE, hasName, name1, List.any_cons, List.any_nil,
              Md.isWr, pureV.pureP, Option.map, reduceIte, Nat.reduceEqDiff, Nat.reduceAdd, Nat.reduceMul, Nat.reduceLT, Nat.reduceLeDiff, List.mapM_cons, List.mapM_nil,
              Option.pure_def, Option.bind_eq_bind, Option.bind_some, implies_true, forall_const, beq_self_eq_true, decide_true, decide_false, eq_self, Int.reduceEq, Int.reduceLE,
              Int.reduceLT, if_true, if_false, fc179_0, fc179_1, fc179_2, fc179_3, fc179_4, fc179_5, fc179_6, fc179_7, fc179_8, fc179_9, fc179_10, fc179_11, fc179_12, fc179_13,
              fc179_14, fc179_15, fc179_16, fc179_17, fc179_18, fc179_19, fc179_20, fc179_21, fc179_22, fc179_23, fc179_24, fc179_25, Int.reduceAdd, Int.reduceSub, Int.reduceMul,
              Int.reduceNeg, Int.reducePow, Nat.reducePow, Int.reduceToNat, Nat.reduceSub, List.replicate, Nat.reduceBEq, wAs, wA, wC, zipW, noDupN, grpE]))
    all_goals (try simp only [*, m_impl_Turn_opposite, Bool.and_true, Bool.true_and, Bool.and_false, Bool.false_and, Bool.or_true, Bool.true_or, Bool.or_false, Bool.false_or, Bool.not_true, Bool.not_false, Bool.false_eq_true, if_true, if_false, reduceIte, decide_true, decide_false])
    all_goals (try (simp_all; done))
  · cases h
def m_impl_Vector_over (x0 : (Nat × Nat × Nat)) (x1 : Nat) : (Nat × Nat × Nat) := ((fdiv .f32 x0.1 x1), (fdiv .f32 x0.2.1 x1), (fdiv .f32 x0.2.2 x1))
def g_impl_Vector_over : List AV → Option AV
  | [.agg [.flt .f32 y0, .flt .f32 y1, .flt .f32 y2], .flt .f32 y3] => some (AV.agg [(.flt .f32 (m_impl_Vector_over (y0, y1, y2) y3).1),
      (.flt .f32 (m_impl_Vector_over (y0, y1, y2) y3).2.1), (.flt .f32 (m_impl_Vector_over (y0, y1, y2) y3).2.2)])
  | _ => none
def ic178 : ICode := (.seq (.reg [⟨(some 2), none, (.box 3 (.t 0))⟩, ⟨(some 4), none, (.alloc (.agg [(.flt .f32 0), (.flt .f32 0), (.flt .f32 0)]))⟩] [1, 2, 4]) (.seq (.reg [⟨(some
      5), none, (.faddr 0 (.t 2))⟩, ⟨(some 6), none, (.load none (.t 5))⟩, ⟨(some 7), none, (.mov (.t 1))⟩, ⟨(some 8), none, (.bin .quo false (.t 6) (.t 7))⟩, ⟨(some 9), none,
      (.faddr 1 (.t 2))⟩, ⟨(some 10), none, (.load none (.t 9))⟩, ⟨(some 11), none, (.mov (.t 1))⟩, ⟨(some 12), none, (.bin .quo false (.t 10) (.t 11))⟩, ⟨(some 13), none, (.faddr 2
      (.t 2))⟩, ⟨(some 14), none, (.load none (.t 13))⟩, ⟨(some 15), none, (.mov (.t 1))⟩, ⟨(some 16), none, (.bin .quo false (.t 14) (.t 15))⟩, ⟨(some 17), none, (.build [(.flt
      .f32 0), (.flt .f32 0), (.flt .f32 0)] [(0, 1, (.t 8)), (1, 1, (.t 12)), (2, 1, (.t 16))])⟩, ⟨none, none, (.store 3 (.t 4) (.t 17))⟩] [4]) .ret))
def cp178 : CP := CP.mk [] [] [[1, 2, 4], [4]] 18 [] []
theorem fc178_0 : IntKind.wrap .i64 (-1) = (-1) := by decide
theorem fc178_1 : IntKind.wrap .i64 0 = 0 := by decide
theorem fc178_2 : IntKind.wrap .i64 1 = 1 := by decide
theorem fc178_3 : IntKind.wrap .i64 10 = 10 := by decide
theorem fc178_4 : IntKind.wrap .i64 11 = 11 := by decide
theorem fc178_5 : IntKind.wrap .i64 110 = 110 := by decide
theorem fc178_6 : IntKind.wrap .i64 12 = 12 := by decide
theorem fc178_7 : IntKind.wrap .i64 13 = 13 := by decide
theorem fc178_8 : IntKind.wrap .i64 14 = 14 := by decide
theorem fc178_9 : IntKind.wrap .i64 15 = 15 := by decide
theorem fc178_10 : IntKind.wrap .i64 156 = 156 := by decide
theorem fc178_11 : IntKind.wrap .i64 16 = 16 := by decide
theorem fc178_12 : IntKind.wrap .i64 17 = 17 := by decide
theorem fc178_13 : IntKind.wrap .i64 2 = 2 := by decide
theorem fc178_14 : IntKind.wrap .i64 20 = 20 := by decide
theorem fc178_15 : IntKind.wrap .i64 210 = 210 := by decide
theorem fc178_16 : IntKind.wrap .i64 272 = 272 := by decide
theorem fc178_17 : IntKind.wrap .i64 3 = 3 := by decide
theorem fc178_18 : IntKind.wrap .i64 4 = 4 := by decide
theorem fc178_19 : IntKind.wrap .i64 42 = 42 := by decide
theorem fc178_20 : IntKind.wrap .i64 5 = 5 := by decide
theorem fc178_21 : IntKind.wrap .i64 6 = 6 := by decide
theorem fc178_22 : IntKind.wrap .i64 7 = 7 := by decide
theorem fc178_23 : IntKind.wrap .i64 72 = 72 := by decide
theorem fc178_24 : IntKind.wrap .i64 8 = 8 := by decide
theorem fc178_25 : IntKind.wrap .i64 9 = 9 := by decide
theorem s178 : ∀ vs r, g_impl_Vector_over vs = some r → SaysM Try.prog .any 178 vs r := by
  intro vs r h
  unfold g_impl_Vector_over at h
  split at h
  · rename_i y0 y1 y2 y3
    cases h
    refine spec_of (m := .any) (tab := tabOf []) (cp := cp178) (ic := ic178) (rvl := [(.c 4 (some 3))]) hm tabOk_nil Try.func178 rfl rfl rfl (by kernel_rfl) rfl (Nat.le_of_ble_eq_true rfl) (Nat.le_of_ble_eq_true rfl) ?_
    show eA _ _ _ _
    unfold ic178
    simp only [
        grpA, vsliceS, grpS, grpD, grpF, grpL, eop, vop, bop, uop, fltop, convop, endOk, newE, new1, freshL, Md.isNew, outV, pureV, pureX, pure1, AV.cells, AV.one, storable, laid,
              refless, refless1, vload, loadC, storeC, vnil, vfaddr, vextract, flatT, flatE, flatC, vconv, vmm, vidxA, viaddrA, vfield, vlen, elemsOf, dF32, dF64, dI64, dU8, dBool,
              dStr, esOk, elemsS, vsliceX, bnd, ownV, ownC, own1, ownT, isSl, nSl, endL, Md.isOwn, purge, purgeH, purgeB, purgeE, hasName, name1, List.any_cons, List.any_nil,
              Md.isWr, pureV.pureP, Option.map, reduceIte, Nat.reduceEqDiff, Nat.reduceAdd, Nat.reduceMul, Nat.reduceLT, Nat.reduceLeDiff, List.mapM_cons, List.mapM_nil,
              Option.pure_def, Option.bind_eq_bind, Option.bind_some, implies_true, forall_const, beq_self_eq_true, decide_true, decide_false, eq_self, Int.reduceEq, Int.reduceLE,
              Int.reduceLT, if_true, if_false, fc178_0, fc178_1, fc178_2, fc178_3, fc178_4, fc178_5, fc178_6, fc178_7, fc178_8, fc178_9, fc178_10, fc178_11, fc178_12, fc178_13,
              fc178_14, fc178_15, fc178_16, fc178_17, fc178_18, fc178_19, fc178_20, fc178_21, fc178_22, fc178_23, fc178_24, fc178_25, Int.reduceAdd, Int.reduceSub, Int.reduceMul,
              Int.reduceNeg, Int.reducePow, Nat.reducePow, Int.reduceToNat, Nat.reduceSub, List.replicate, Nat.reduceBEq, wAs, wA, wC, zipW, noDupN, grpE]
    repeat' (first
      | ((first | (refine eGI_of (fun h => ?_) (fun h => ?_)) | (refine eCc_of (fun h => ?_) (fun h => ?_))) <;> (try simp only [Bool.not_eq_true', Bool.not_eq_false'] at h) <;> simp only [h,
        grpA, vsliceS, grpS, grpD, grpF, grpL, eop, vop, bop, uop, fltop, convop, endOk, newE, new1, freshL, Md.isNew, outV, pureV, pureX, pure1, AV.cells, AV.one, storable, laid,
              refless, refless1, vload, loadC, storeC, vnil, vfaddr, vextract, flatT, flatE, flatC, vconv, vmm, vidxA, viaddrA, vfield, vlen, elemsOf, dF32, dF64, dI64, dU8, dBool,
              dStr, esOk, elemsS, vsliceX, bnd, ownV, ownC, own1, ownT, isSl, nSl, endL, Md.isOwn, purge, purgeH, purgeB, purgeE, hasName, name1, List.any_cons, List.any_nil,
              Md.isWr, pureV.pureP, Option.map, reduceIte, Nat.reduceEqDiff, Nat.reduceAdd, Nat.reduceMul, Nat.reduceLT, Nat.reduceLeDiff, List.mapM_cons, List.mapM_nil,
              Option.pure_def, Option.bind_eq_bind, Option.bind_some, implies_true, forall_const, beq_self_eq_true, decide_true, decide_false, eq_self, Int.reduceEq, Int.reduceLE,
              Int.reduceLT, if_true, if_false, fc178_0, fc178_1, fc178_2, fc178_3, fc178_4, fc178_5, fc178_6, fc178_7, fc178_8, fc178_9, fc178_10, fc178_11, fc178_12, fc178_13,
              fc178_14, fc178_15, fc178_16, fc178_17, fc178_18, fc178_19, fc178_20, fc178_21, fc178_22, fc178_23, fc178_24, fc178_25, Int.reduceAdd, Int.reduceSub, Int.reduceMul,
              Int.reduceNeg, Int.reducePow, Nat.reducePow, Int.reduceToNat, Nat.reduceSub, List.replicate, Nat.reduceBEq, wAs, wA, wC, zipW, noDupN, grpE]))
    all_goals (try simp only [*, m_impl_Vector_over, Bool.and_true, Bool.true_and, Bool.and_false, Bool.false_and, Bool.or_true, Bool.true_or, Bool.or_false, Bool.false_or, Bool.not_true, Bool.not_false, Bool.false_eq_true, if_true, if_false, reduceIte, decide_true, decide_false])
    all_goals (try (simp_all; done))
  · cases h
def m_impl_AxisOf (x0 : (Nat × Nat × Nat × Nat)) : (Nat × Nat × Nat) := (if (m_impl_isLength (m_impl_LongOf (m_impl_Turn_vector x0))) = true then (m_impl_Vector_over
      (m_impl_Turn_vector (if (flt .f32 x0.1 0) = true then (m_impl_Turn_opposite x0) else x0)) (m_impl_LongOf (m_impl_Turn_vector x0))) else (0, 0, 1065353216))
def p_impl_AxisOf (x0 : (Nat × Nat × Nat × Nat)) : Bool := (p_impl_LongOf (m_impl_Turn_vector x0))
def g_impl_AxisOf : List AV → Option AV
  | [.agg [.flt .f32 y0, .flt .f32 y1, .flt .f32 y2, .flt .f32 y3]] => if p_impl_AxisOf (y0, y1, y2, y3) = true then some (AV.agg [(.flt .f32
      (m_impl_AxisOf (y0, y1, y2, y3)).1), (.flt .f32 (m_impl_AxisOf (y0, y1, y2, y3)).2.1), (.flt .f32 (m_impl_AxisOf (y0, y1, y2, y3)).2.2)]) else none
  | _ => none
def ic132 : ICode := (.seq (.reg [⟨(some 1), none, (.box 4 (.t 0))⟩, ⟨(some 2), none, (.alloc (.agg [(.flt .f32 0), (.flt .f32 0), (.flt .f32 0)]))⟩] [1, 2]) (.seq (.reg [⟨(some 4),
      none, (.load (some 4) (.t 1))⟩, ⟨(some 5), none, (.call (.fn 128) [(.t 4)] [])⟩, ⟨(some 6), none, (.call (.fn 176) [(.t 5)] [])⟩, ⟨(some 3), none, (.mov (.t 6))⟩] [1, 2, 3])
      (.seq (.seq (.reg [⟨(some 7), none, (.mov (.t 3))⟩, ⟨(some 8), none, (.call (.fn 174) [(.t 7)] [])⟩, ⟨(some 9), none, (.un .not (.t 8))⟩] [1, 2, 3, 9]) (.cond (.t 9) (.seq
      (.reg [⟨(some 10), none, (.build [(.flt .f32 0), (.flt .f32 0), (.flt .f32 0)] [(2, 1, (.c (.flt .f32 1065353216)))])⟩, ⟨none, none, (.store 3 (.t 2) (.t 10))⟩] [2]) .ret)
      .skip)) (.seq (.seq (.reg [⟨(some 11), none, (.faddr 0 (.t 1))⟩, ⟨(some 12), none, (.load none (.t 11))⟩, ⟨(some 13), none, (.bin .lss false (.t 12) (.c (.flt .f32 0)))⟩] [1,
      2, 3, 13]) (.cond (.t 13) (.reg [⟨(some 14), none, (.load (some 4) (.t 1))⟩, ⟨(some 15), none, (.call (.fn 179) [(.t 14)] [])⟩, ⟨none, none, (.store 4 (.t 1) (.t 15))⟩] [1, 2,
      3]) .skip)) (.seq (.reg [⟨(some 16), none, (.load (some 4) (.t 1))⟩, ⟨(some 17), none, (.call (.fn 128) [(.t 16)] [])⟩, ⟨(some 18), none, (.mov (.t 3))⟩, ⟨(some 19), none,
      (.call (.fn 178) [(.t 17), (.t 18)] [])⟩, ⟨none, none, (.store 3 (.t 2) (.t 19))⟩] [2]) .ret)))))
def cp132 : CP := CP.mk [] [] [[1, 2], [1, 2, 3], [1, 2, 3, 9], [2], [1, 2, 3, 13], [1, 2, 3], [2]] 20 [] []
theorem fc132_0 : IntKind.wrap .i64 (-1) = (-1) := by decide
theorem fc132_1 : IntKind.wrap .i64 0 = 0 := by decide
theorem fc132_2 : IntKind.wrap .i64 1 = 1 := by decide
theorem fc132_3 : IntKind.wrap .i64 10 = 10 := by decide
theorem fc132_4 : IntKind.wrap .i64 11 = 11 := by decide
theorem fc132_5 : IntKind.wrap .i64 110 = 110 := by decide
theorem fc132_6 : IntKind.wrap .i64 12 = 12 := by decide
theorem fc132_7 : IntKind.wrap .i64 13 = 13 := by decide
theorem fc132_8 : IntKind.wrap .i64 14 = 14 := by decide
theorem fc132_9 : IntKind.wrap .i64 15 = 15 := by decide
theorem fc132_10 : IntKind.wrap .i64 156 = 156 := by decide
theorem fc132_11 : IntKind.wrap .i64 16 = 16 := by decide
theorem fc132_12 : IntKind.wrap .i64 17 = 17 := by decide
theorem fc132_13 : IntKind.wrap .i64 2 = 2 := by decide
theorem fc132_14 : IntKind.wrap .i64 20 = 20 := by decide
theorem fc132_15 : IntKind.wrap .i64 210 = 210 := by decide
theorem fc132_16 : IntKind.wrap .i64 272 = 272 := by decide
theorem fc132_17 : IntKind.wrap .i64 3 = 3 := by decide
theorem fc132_18 : IntKind.wrap .i64 4 = 4 := by decide
theorem fc132_19 : IntKind.wrap .i64 42 = 42 := by decide
theorem fc132_20 : IntKind.wrap .i64 5 = 5 := by decide
theorem fc132_21 : IntKind.wrap .i64 6 = 6 := by decide
theorem fc132_22 : IntKind.wrap .i64 7 = 7 := by decide
theorem fc132_23 : IntKind.wrap .i64 72 = 72 := by decide
theorem fc132_24 : IntKind.wrap .i64 8 = 8 := by decide
theorem fc132_25 : IntKind.wrap .i64 9 = 9 := by decide
theorem s132 : ∀ vs r, g_impl_AxisOf vs = some r → SaysM Try.prog .any 132 vs r := by
  intro vs r h
  unfold g_impl_AxisOf at h
  split at h
  · rename_i y0 y1 y2 y3
    split at h
    · rename_i hp
      cases h
      refine spec_of (m := .any) (tab := tabOf [(128, wM .any g_impl_Turn_vector), (174, wM .any g_impl_isLength), (176, wM .any g_impl_LongOf), (178, wM .any g_impl_Vector_over), (179, wM .any g_impl_Turn_opposite)]) (cp := cp132) (ic := ic132) (rvl := [(.c 2 (some 3))]) hm (tabOk_cons (m := .any) s128 (tabOk_cons (m := .any) s174 (tabOk_cons (m := .any) s176 (tabOk_cons (m := .any) s178 (tabOk_cons (m := .any) s179 tabOk_nil))))) Try.func132 rfl rfl rfl (by kernel_rfl) rfl (Nat.le_of_ble_eq_true rfl) (Nat.le_of_ble_eq_true rfl) ?_
      show eA _ _ _ _
      unfold ic132
      simp only [p_impl_AxisOf, Bool.and_eq_true, Bool.or_eq_true, decide_eq_true_eq, Bool.not_eq_true', decide_eq_false_iff_not] at hp
      simp only [
          hp, grpA, vsliceS, grpS, grpD, grpF, grpL, eop, vop, bop, uop, fltop, convop, endOk, newE, new1, freshL, Md.isNew, outV, pureV, pureX, pure1, AV.cells, AV.one, storable,
                laid, refless, refless1, vload, loadC, storeC, vnil, vfaddr, vextract, flatT, flatE, flatC, vconv, vmm, vidxA, viaddrA, vfield, vlen, elemsOf, dF32, dF64, dI64, dU8,
                dBool, dStr, esOk, elemsS, vsliceX, bnd, ownV, ownC, own1, ownT, isSl, nSl, endL, Md.isOwn, purge, purgeH, purgeB, purgeE, hasName, name1, List.any_cons,
                List.any_nil, Md.isWr, pureV.pureP, Option.map, reduceIte, Nat.reduceEqDiff, Nat.reduceAdd, Nat.reduceMul, Nat.reduceLT, Nat.reduceLeDiff, List.mapM_cons,
                List.mapM_nil, Option.pure_def, Option.bind_eq_bind, Option.bind_some, implies_true, forall_const, beq_self_eq_true, decide_true, decide_false, eq_self,
                Int.reduceEq, Int.reduceLE, Int.reduceLT, if_true, if_false, fc132_0, fc132_1, fc132_2, fc132_3, fc132_4, fc132_5, fc132_6, fc132_7, fc132_8, fc132_9, fc132_10,
                fc132_11, fc132_12, fc132_13, fc132_14, fc132_15, fc132_16, fc132_17, fc132_18, fc132_19, fc132_20, fc132_21, fc132_22, fc132_23, fc132_24, fc132_25, Int.reduceAdd,
                Int.reduceSub, Int.reduceMul, Int.reduceNeg, Int.reducePow, Nat.reducePow, Int.reduceToNat, Nat.reduceSub, List.replicate, Nat.reduceBEq, wAs, wA, wC, zipW, noDupN,
                grpE, g_impl_Turn_vector, g_impl_isLength, g_impl_LongOf, g_impl_Vector_over, g_impl_Turn_opposite]
      repeat' (first
        | ((first | (refine eGI_of (fun h => ?_) (fun h => ?_)) | (refine eCc_of (fun h => ?_) (fun h => ?_))) <;> (try simp only [Bool.not_eq_true', Bool.not_eq_false'] at h) <;> (try simp only [h, reduceCtorEq, Bool.not_eq_true', decide_eq_false_iff_not, Bool.not_true, Bool.not_false, Bool.false_or, Bool.true_or, Bool.true_and, Bool.false_and, Bool.and_eq_true, Bool.or_eq_true, if_true, if_false, reduceIte, Bool.false_eq_true, and_true, true_and, false_or, or_false, decide_eq_true_eq, not_false_eq_true, not_true_eq_false] at hp) <;> (try (have h2 := h; simp only [decide_eq_true_eq, decide_eq_false_iff_not] at h2; (first | (replace h2 := eq_false h2) | (replace h2 := eq_true h2)); simp only [h2, if_true, if_false, false_or, true_or, or_true, or_false, and_true, true_and, not_false_eq_true, not_true_eq_false] at hp)) <;> simp only [h,
          hp, grpA, vsliceS, grpS, grpD, grpF, grpL, eop, vop, bop, uop, fltop, convop, endOk, newE, new1, freshL, Md.isNew, outV, pureV, pureX, pure1, AV.cells, AV.one, storable,
                laid, refless, refless1, vload, loadC, storeC, vnil, vfaddr, vextract, flatT, flatE, flatC, vconv, vmm, vidxA, viaddrA, vfield, vlen, elemsOf, dF32, dF64, dI64, dU8,
                dBool, dStr, esOk, elemsS, vsliceX, bnd, ownV, ownC, own1, ownT, isSl, nSl, endL, Md.isOwn, purge, purgeH, purgeB, purgeE, hasName, name1, List.any_cons,
                List.any_nil, Md.isWr, pureV.pureP, Option.map, reduceIte, Nat.reduceEqDiff, Nat.reduceAdd, Nat.reduceMul, Nat.reduceLT, Nat.reduceLeDiff, List.mapM_cons,
                List.mapM_nil, Option.pure_def, Option.bind_eq_bind, Option.bind_some, implies_true, forall_const, beq_self_eq_true, decide_true, decide_false, eq_self,
                Int.reduceEq, Int.reduceLE, Int.reduceLT, if_true, if_false, fc132_0, fc132_1, fc132_2, fc132_3, fc132_4, fc132_5, fc132_6, fc132_7, fc132_8, fc132_9, fc132_10,
                fc132_11, fc132_12, fc132_13, fc132_14, fc132_15, fc132_16, fc132_17, fc132_18, fc132_19, fc132_20, fc132_21, fc132_22, fc132_23, fc132_24, fc132_25, Int.reduceAdd,
                Int.reduceSub, Int.reduceMul, Int.reduceNeg, Int.reducePow, Nat.reducePow, Int.reduceToNat, Nat.reduceSub, List.replicate, Nat.reduceBEq, wAs, wA, wC, zipW, noDupN,
                grpE, g_impl_Turn_vector, g_impl_isLength, g_impl_LongOf, g_impl_Vector_over, g_impl_Turn_opposite]))
      all_goals (try simp only [*, m_impl_AxisOf, Bool.and_true, Bool.true_and, Bool.and_false, Bool.false_and, Bool.or_true, Bool.true_or, Bool.or_false, Bool.false_or, Bool.not_true, Bool.not_false, Bool.false_eq_true, if_true, if_false, reduceIte, decide_true, decide_false])
      all_goals (try (simp_all; done))
    · cases h
  · cases h
theorem s200 : ∀ vs r, g_integral .zero vs = some r → SaysM Try.prog .any 200 vs r := t_integral (name := "math.archTrunc") Try.func200 (by kernel_rfl) rfl (by kernel_rfl) (by kernel_rfl)
def m_math_Trunc (x0 : Nat) : Nat := (integral .zero x0)
def g_math_Trunc : List AV → Option AV
  | [.flt .f64 y0] => some (.flt .f64 (m_math_Trunc y0))
  | _ => none
def ic192 : ICode := (.seq (.reg [⟨(some 2), none, (.mov (.c (.flt .f64 0)))⟩] [0]) (.seq (.cond (.c (.bool true)) (.seq (.reg [⟨(some 3), none, (.mov (.t 0))⟩, ⟨(some 4), none,
      (.call (.fn 200) [(.t 3)] [])⟩, ⟨(some 2), none, (.mov (.t 4))⟩] [2]) .ret) .skip) (.seq (.reg [⟨(some 5), none, (.mov (.t 0))⟩, ⟨(some 6), none, (.call (.fn 201) [(.t 5)]
      [])⟩, ⟨(some 2), none, (.mov (.t 6))⟩] [2]) .ret)))
def cp192 : CP := CP.mk [] [] [[0], [2], [2]] 7 [] []
theorem fc192_0 : IntKind.wrap .i64 (-1) = (-1) := by decide
theorem fc192_1 : IntKind.wrap .i64 0 = 0 := by decide
theorem fc192_2 : IntKind.wrap .i64 1 = 1 := by decide
theorem fc192_3 : IntKind.wrap .i64 10 = 10 := by decide
theorem fc192_4 : IntKind.wrap .i64 11 = 11 := by decide
theorem fc192_5 : IntKind.wrap .i64 110 = 110 := by decide
theorem fc192_6 : IntKind.wrap .i64 12 = 12 := by decide
theorem fc192_7 : IntKind.wrap .i64 13 = 13 := by decide
theorem fc192_8 : IntKind.wrap .i64 14 = 14 := by decide
theorem fc192_9 : IntKind.wrap .i64 15 = 15 := by decide
theorem fc192_10 : IntKind.wrap .i64 156 = 156 := by decide
theorem fc192_11 : IntKind.wrap .i64 16 = 16 := by decide
theorem fc192_12 : IntKind.wrap .i64 17 = 17 := by decide
theorem fc192_13 : IntKind.wrap .i64 2 = 2 := by decide
theorem fc192_14 : IntKind.wrap .i64 20 = 20 := by decide
theorem fc192_15 : IntKind.wrap .i64 210 = 210 := by decide
theorem fc192_16 : IntKind.wrap .i64 272 = 272 := by decide
theorem fc192_17 : IntKind.wrap .i64 3 = 3 := by decide
theorem fc192_18 : IntKind.wrap .i64 4 = 4 := by decide
theorem fc192_19 : IntKind.wrap .i64 42 = 42 := by decide
theorem fc192_20 : IntKind.wrap .i64 5 = 5 := by decide
theorem fc192_21 : IntKind.wrap .i64 6 = 6 := by decide
theorem fc192_22 : IntKind.wrap .i64 7 = 7 := by decide
theorem fc192_23 : IntKind.wrap .i64 72 = 72 := by decide
theorem fc192_24 : IntKind.wrap .i64 8 = 8 := by decide
theorem fc192_25 : IntKind.wrap .i64 9 = 9 := by decide
theorem s192 : ∀ vs r, g_math_Trunc vs = some r → SaysM Try.prog .any 192 vs r := by
  intro vs r h
  unfold g_math_Trunc at h
  split at h
  · rename_i y0
    cases h
    refine spec_of (m := .any) (tab := tabOf [(200, wM .any (g_integral .zero))]) (cp := cp192) (ic := ic192) (rvl := [(.t 2)]) hm (tabOk_cons (m := .any) s200 tabOk_nil) Try.func192 rfl rfl rfl (by kernel_rfl) rfl (Nat.le_of_ble_eq_true rfl) (Nat.le_of_ble_eq_true rfl) ?_
    show eA _ _ _ _
    unfold ic192
    simp only [
        grpA, vsliceS, grpS, grpD, grpF, grpL, eop, vop, bop, uop, fltop, convop, endOk, newE, new1, freshL, Md.isNew, outV, pureV, pureX, pure1, AV.cells, AV.one, storable, laid,
              refless, refless1, vload, loadC, storeC, vnil, vfaddr, vextract, flatT, flatE, flatC, vconv, vmm, vidxA, viaddrA, vfield, vlen, elemsOf, dF32, dF64, dI64, dU8, dBool,
              dStr, esOk, elemsS, vsliceX, bnd, ownV, ownC, own1, ownT, isSl, nSl, endL, Md.isOwn, purge, purgeH, purgeB, purgeE, hasName, name1, List.any_cons, List.any_nil,
              Md.isWr, pureV.pureP, Option.map, reduceIte, Nat.reduceEqDiff, Nat.reduceAdd, Nat.reduceMul, Nat.reduceLT, Nat.reduceLeDiff, List.mapM_cons, List.mapM_nil,
              Option.pure_def, Option.bind_eq_bind, Option.bind_some, implies_true, forall_const, beq_self_eq_true, decide_true, decide_false, eq_self, Int.reduceEq, Int.reduceLE,
              Int.reduceLT, if_true, if_false, fc192_0, fc192_1, fc192_2, fc192_3, fc192_4, fc192_5, fc192_6, fc192_7, fc192_8, fc192_9, fc192_10, fc192_11, fc192_12, fc192_13,
              fc192_14, fc192_15, fc192_16, fc192_17, fc192_18, fc192_19, fc192_20, fc192_21, fc192_22, fc192_23, fc192_24, fc192_25, Int.reduceAdd, Int.reduceSub, Int.reduceMul,
              Int.reduceNeg, Int.reducePow, Nat.reducePow, Int.reduceToNat, Nat.reduceSub, List.replicate, Nat.reduceBEq, wAs, wA, wC, zipW, noDupN, grpE, g_integral]
    repeat' (first
      | ((first | (refine eGI_of (fun h => ?_) (fun h => ?_)) | (refine eCc_of (fun h => ?_) (fun h => ?_))) <;> (try simp only [Bool.not_eq_true', Bool.not_eq_false'] at h) <;> simp only [h,
        grpA, vsliceS, grpS, grpD, grpF, grpL, eop, vop, bop, uop, fltop, convop, endOk, newE, new1, freshL, Md.isNew, outV, pureV, pureX, pure1, AV.cells, AV.one, storable, laid,
              refless, refless1, vload, loadC, storeC, vnil, vfaddr, vextract, flatT, flatE, flatC, vconv, vmm, vidxA, viaddrA, vfield, vlen, elemsOf, dF32, dF64, dI64, dU8, dBool,
              dStr, esOk, elemsS, vsliceX, bnd, ownV, ownC, own1, ownT, isSl, nSl, endL, Md.isOwn, purge, purgeH, purgeB, purgeE, hasName, name1, List.any_cons, List.any_nil,
              Md.isWr, pureV.pureP, Option.map, reduceIte, Nat.reduceEqDiff, Nat.reduceAdd, Nat.reduceMul, Nat.reduceLT, Nat.reduceLeDiff, List.mapM_cons, List.mapM_nil,
              Option.pure_def, Option.bind_eq_bind, Option.bind_some, implies_true, forall_const, beq_self_eq_true, decide_true, decide_false, eq_self, Int.reduceEq, Int.reduceLE,
              Int.reduceLT, if_true, if_false, fc192_0, fc192_1, fc192_2, fc192_3, fc192_4, fc192_5, fc192_6, fc192_7, fc192_8, fc192_9, fc192_10, fc192_11, fc192_12, fc192_13,
              fc192_14, fc192_15, fc192_16, fc192_17, fc192_18, fc192_19, fc192_20, fc192_21, fc192_22, fc192_23, fc192_24, fc192_25, Int.reduceAdd, Int.reduceSub, Int.reduceMul,
              Int.reduceNeg, Int.reducePow, Nat.reducePow, Int.reduceToNat, Nat.reduceSub, List.replicate, Nat.reduceBEq, wAs, wA, wC, zipW, noDupN, grpE, g_integral]))
    all_goals (try simp only [*, m_math_Trunc, Bool.and_true, Bool.true_and, Bool.and_false, Bool.false_and, Bool.or_true, Bool.true_or, Bool.or_false, Bool.false_or, Bool.not_true, Bool.not_false, Bool.false_eq_true, if_true, if_false, reduceIte, decide_true, decide_false])
    all_goals (try (simp_all; done))
  · cases h
def v_impl_placesOf_0 (x0 : Nat) : Nat := (if (flt .f64 (if (feq .f64 (m_math_Trunc x0) 0) = true then x0 else (fsub .f64 x0 (m_math_Trunc x0))) 0) = true then (fadd .f64 (if (feq
      .f64 (m_math_Trunc x0) 0) = true then x0 else (fsub .f64 x0 (m_math_Trunc x0))) 4607182418800017408) else (if (feq .f64 (m_math_Trunc x0) 0) = true then x0 else (fsub .f64 x0
      (m_math_Trunc x0))))
def m_impl_placesOf (x0 : Nat) : Nat := (v_impl_placesOf_0 x0)
def g_impl_placesOf : List AV → Option AV
  | [.flt .f64 y0] => some (.flt .f64 (m_impl_placesOf y0))
  | _ => none
def ic162 : ICode := (.seq (.reg [⟨(some 2), none, (.mov (.c (.flt .f64 0)))⟩] [0]) (.seq (.reg [⟨(some 5), none, (.mov (.t 0))⟩, ⟨(some 3), none, (.mov (.t 5))⟩] [0, 3]) (.seq
      (.seq (.reg [⟨(some 6), none, (.mov (.t 0))⟩, ⟨(some 7), none, (.call (.fn 192) [(.t 6)] [])⟩, ⟨(some 4), none, (.mov (.t 7))⟩] [3, 4]) (.seq (.reg [⟨(some 8), none, (.mov (.t
      4))⟩, ⟨(some 9), none, (.bin .neq false (.t 8) (.c (.flt .f64 0)))⟩] [3, 4, 9]) (.cond (.t 9) (.reg [⟨(some 10), none, (.mov (.t 3))⟩, ⟨(some 11), none, (.mov (.t 4))⟩, ⟨(some
      12), none, (.bin .sub false (.t 10) (.t 11))⟩, ⟨(some 3), none, (.mov (.t 12))⟩] [3]) .skip))) (.seq (.seq (.reg [⟨(some 13), none, (.mov (.t 3))⟩, ⟨(some 14), none, (.bin
      .lss false (.t 13) (.c (.flt .f64 0)))⟩] [3, 14]) (.cond (.t 14) (.reg [⟨(some 15), none, (.mov (.t 3))⟩, ⟨(some 16), none, (.bin .add false (.t 15) (.c (.flt .f64
      4607182418800017408)))⟩, ⟨(some 3), none, (.mov (.t 16))⟩] [3]) .skip)) (.seq (.reg [⟨(some 17), none, (.mov (.t 3))⟩, ⟨(some 2), none, (.mov (.t 17))⟩] [2]) .ret)))))
def cp162 : CP := CP.mk [] [] [[0], [0, 3], [3, 4], [3, 4, 9], [3], [3, 14], [3], [2]] 18 [] []
theorem fc162_0 : IntKind.wrap .i64 (-1) = (-1) := by decide
theorem fc162_1 : IntKind.wrap .i64 0 = 0 := by decide
theorem fc162_2 : IntKind.wrap .i64 1 = 1 := by decide
theorem fc162_3 : IntKind.wrap .i64 10 = 10 := by decide
theorem fc162_4 : IntKind.wrap .i64 11 = 11 := by decide
theorem fc162_5 : IntKind.wrap .i64 110 = 110 := by decide
theorem fc162_6 : IntKind.wrap .i64 12 = 12 := by decide
theorem fc162_7 : IntKind.wrap .i64 13 = 13 := by decide
theorem fc162_8 : IntKind.wrap .i64 14 = 14 := by decide
theorem fc162_9 : IntKind.wrap .i64 15 = 15 := by decide
theorem fc162_10 : IntKind.wrap .i64 156 = 156 := by decide
theorem fc162_11 : IntKind.wrap .i64 16 = 16 := by decide
theorem fc162_12 : IntKind.wrap .i64 17 = 17 := by decide
theorem fc162_13 : IntKind.wrap .i64 2 = 2 := by decide
theorem fc162_14 : IntKind.wrap .i64 20 = 20 := by decide
theorem fc162_15 : IntKind.wrap .i64 210 = 210 := by decide
theorem fc162_16 : IntKind.wrap .i64 272 = 272 := by decide
theorem fc162_17 : IntKind.wrap .i64 3 = 3 := by decide
theorem fc162_18 : IntKind.wrap .i64 4 = 4 := by decide
theorem fc162_19 : IntKind.wrap .i64 42 = 42 := by decide
theorem fc162_20 : IntKind.wrap .i64 5 = 5 := by decide
theorem fc162_21 : IntKind.wrap .i64 6 = 6 := by decide
theorem fc162_22 : IntKind.wrap .i64 7 = 7 := by decide
theorem fc162_23 : IntKind.wrap .i64 72 = 72 := by decide
theorem fc162_24 : IntKind.wrap .i64 8 = 8 := by decide
theorem fc162_25 : IntKind.wrap .i64 9 = 9 := by decide
theorem s162 : ∀ vs r, g_impl_placesOf vs = some r → SaysM Try.prog .any 162 vs r := by
  intro vs r h
  unfold g_impl_placesOf at h
  split at h
  · rename_i y0
    cases h
    refine spec_of (m := .any) (tab := tabOf [(192, wM .any g_math_Trunc)]) (cp := cp162) (ic := ic162) (rvl := [(.t 2)]) hm (tabOk_cons (m := .any) s192 tabOk_nil) Try.func162 rfl rfl rfl (by kernel_rfl) rfl (Nat.le_of_ble_eq_true rfl) (Nat.le_of_ble_eq_true rfl) ?_
    show eA _ _ _ _
    unfold ic162
    simp only [
        grpA, vsliceS, grpS, grpD, grpF, grpL, eop, vop, bop, uop, fltop, convop, endOk, newE, new1, freshL, Md.isNew, outV, pureV, pureX, pure1, AV.cells, AV.one, storable, laid,
              refless, refless1, vload, loadC, storeC, vnil, vfaddr, vextract, flatT, flatE, flatC, vconv, vmm, vidxA, viaddrA, vfield, vlen, elemsOf, dF32, dF64, dI64, dU8, dBool,
              dStr, esOk, elemsS, vsliceX, bnd, ownV, ownC, own1, ownT, isSl, nSl, endL, Md.isOwn, purge, purgeH, purgeB, purgeE, hasName, name1, List.any_cons, List.any_nil,
              Md.isWr, pureV.pureP, Option.map, reduceIte, Nat.reduceEqDiff, Nat.reduceAdd, Nat.reduceMul, Nat.reduceLT, Nat.reduceLeDiff, List.mapM_cons, List.mapM_nil,
              Option.pure_def, Option.bind_eq_bind, Option.bind_some, implies_true, forall_const, beq_self_eq_true, decide_true, decide_false, eq_self, Int.reduceEq, Int.reduceLE,
              Int.reduceLT, if_true, if_false, fc162_0, fc162_1, fc162_2, fc162_3, fc162_4, fc162_5, fc162_6, fc162_7, fc162_8, fc162_9, fc162_10, fc162_11, fc162_12, fc162_13,
              fc162_14, fc162_15, fc162_16, fc162_17, fc162_18, fc162_19, fc162_20, fc162_21, fc162_22, fc162_23, fc162_24, fc162_25, Int.reduceAdd, Int.reduceSub, Int.reduceMul,
              Int.reduceNeg, Int.reducePow, Nat.reducePow, Int.reduceToNat, Nat.reduceSub, List.replicate, Nat.reduceBEq, wAs, wA, wC, zipW, noDupN, grpE, g_math_Trunc]
    repeat' (first
      | ((first | (refine eGI_of (fun h => ?_) (fun h => ?_)) | (refine eCc_of (fun h => ?_) (fun h => ?_))) <;> (try simp only [Bool.not_eq_true', Bool.not_eq_false'] at h) <;> simp only [h,
        grpA, vsliceS, grpS, grpD, grpF, grpL, eop, vop, bop, uop, fltop, convop, endOk, newE, new1, freshL, Md.isNew, outV, pureV, pureX, pure1, AV.cells, AV.one, storable, laid,
              refless, refless1, vload, loadC, storeC, vnil, vfaddr, vextract, flatT, flatE, flatC, vconv, vmm, vidxA, viaddrA, vfield, vlen, elemsOf, dF32, dF64, dI64, dU8, dBool,
              dStr, esOk, elemsS, vsliceX, bnd, ownV, ownC, own1, ownT, isSl, nSl, endL, Md.isOwn, purge, purgeH, purgeB, purgeE, hasName, name1, List.any_cons, List.any_nil,
              Md.isWr, pureV.pureP, Option.map, reduceIte, Nat.reduceEqDiff, Nat.reduceAdd, Nat.reduceMul, Nat.reduceLT, Nat.reduceLeDiff, List.mapM_cons, List.mapM_nil,
              Option.pure_def, Option.bind_eq_bind, Option.bind_some, implies_true, forall_const, beq_self_eq_true, decide_true, decide_false, eq_self, Int.reduceEq, Int.reduceLE,
              Int.reduceLT, if_true, if_false, fc162_0, fc162_1, fc162_2, fc162_3, fc162_4, fc162_5, fc162_6, fc162_7, fc162_8, fc162_9, fc162_10, fc162_11, fc162_12, fc162_13,
              fc162_14, fc162_15, fc162_16, fc162_17, fc162_18, fc162_19, fc162_20, fc162_21, fc162_22, fc162_23, fc162_24, fc162_25, Int.reduceAdd, Int.reduceSub, Int.reduceMul,
              Int.reduceNeg, Int.reducePow, Nat.reducePow, Int.reduceToNat, Nat.reduceSub, List.replicate, Nat.reduceBEq, wAs, wA, wC, zipW, noDupN, grpE, g_math_Trunc]))
    all_goals (try simp only [*, m_impl_placesOf, v_impl_placesOf_0, Bool.and_true, Bool.true_and, Bool.and_false, Bool.false_and, Bool.or_true, Bool.true_or, Bool.or_false, Bool.false_or, Bool.not_true, Bool.not_false, Bool.false_eq_true, if_true, if_false, reduceIte, decide_true, decide_false])
    all_goals (try (simp_all; done))
  · cases h
def v_impl_sine_0 (x0 : Nat) : Bool := (flt .f64 4598175219545276416 (if (fle .f64 4602678819172646912 (m_impl_placesOf x0)) = true then (fsub .f64 (m_impl_placesOf x0)
      4602678819172646912) else (m_impl_placesOf x0)))
def v_impl_sine_1 (x0 : Nat) : Nat := (fsub .f64 4602678819172646912 (if (fle .f64 4602678819172646912 (m_impl_placesOf x0)) = true then (fsub .f64 (m_impl_placesOf x0)
      4602678819172646912) else (m_impl_placesOf x0)))
def v_impl_sine_2 (x0 : Nat) : Nat := (if (v_impl_sine_0 x0) = true then (v_impl_sine_1 x0) else (if (fle .f64 4602678819172646912 (m_impl_placesOf x0)) = true then (fsub .f64
      (m_impl_placesOf x0) 4602678819172646912) else (m_impl_placesOf x0)))
def v_impl_sine_3 (x0 : Nat) : Nat := (fdiv .f64 (fmul .f64 (fmul .f64 (fmul .f64 (v_impl_sine_2 x0) 4618760256179416344) (fmul .f64 (v_impl_sine_2 x0) 4618760256179416344))
      4607182418800017408) (ofInt .f64 272))
def v_impl_sine_4 (x0 : Nat) : Nat := (fmul .f64 (fmul .f64 (fmul .f64 (v_impl_sine_2 x0) 4618760256179416344) (fmul .f64 (v_impl_sine_2 x0) 4618760256179416344)) (fsub .f64
      4607182418800017408 (v_impl_sine_3 x0)))
def v_impl_sine_5 (x0 : Nat) : Nat := (fmul .f64 (fmul .f64 (fmul .f64 (v_impl_sine_2 x0) 4618760256179416344) (fmul .f64 (v_impl_sine_2 x0) 4618760256179416344)) (fsub .f64
      4607182418800017408 (fdiv .f64 (v_impl_sine_4 x0) (ofInt .f64 210))))
def v_impl_sine_6 (x0 : Nat) : Nat := (fmul .f64 (fmul .f64 (fmul .f64 (v_impl_sine_2 x0) 4618760256179416344) (fmul .f64 (v_impl_sine_2 x0) 4618760256179416344)) (fsub .f64
      4607182418800017408 (fdiv .f64 (v_impl_sine_5 x0) (ofInt .f64 156))))
def v_impl_sine_7 (x0 : Nat) : Nat := (fmul .f64 (fmul .f64 (fmul .f64 (v_impl_sine_2 x0) 4618760256179416344) (fmul .f64 (v_impl_sine_2 x0) 4618760256179416344)) (fsub .f64
      4607182418800017408 (fdiv .f64 (v_impl_sine_6 x0) (ofInt .f64 110))))
def v_impl_sine_8 (x0 : Nat) : Nat := (fmul .f64 (fmul .f64 (fmul .f64 (v_impl_sine_2 x0) 4618760256179416344) (fmul .f64 (v_impl_sine_2 x0) 4618760256179416344)) (fsub .f64
      4607182418800017408 (fdiv .f64 (v_impl_sine_7 x0) (ofInt .f64 72))))
def v_impl_sine_9 (x0 : Nat) : Nat := (fmul .f64 (fmul .f64 (fmul .f64 (v_impl_sine_2 x0) 4618760256179416344) (fmul .f64 (v_impl_sine_2 x0) 4618760256179416344)) (fsub .f64
      4607182418800017408 (fdiv .f64 (v_impl_sine_8 x0) (ofInt .f64 42))))
def v_impl_sine_10 (x0 : Nat) : Nat := (fmul .f64 (fmul .f64 (fmul .f64 (v_impl_sine_2 x0) 4618760256179416344) (fmul .f64 (v_impl_sine_2 x0) 4618760256179416344)) (fsub .f64
      4607182418800017408 (fdiv .f64 (v_impl_sine_9 x0) (ofInt .f64 20))))
def m_impl_sine (x0 : Nat) : Nat := (if (fle .f64 4602678819172646912 (m_impl_placesOf x0)) = true then (fneg .f64 (fmul .f64 (fmul .f64 (v_impl_sine_2 x0) 4618760256179416344)
      (fsub .f64 4607182418800017408 (fdiv .f64 (v_impl_sine_10 x0) (ofInt .f64 6))))) else (fmul .f64 (fmul .f64 (v_impl_sine_2 x0) 4618760256179416344) (fsub .f64
      4607182418800017408 (fdiv .f64 (v_impl_sine_10 x0) (ofInt .f64 6)))))
def g_impl_sine : List AV → Option AV
  | [.flt .f64 y0] => some (.flt .f64 (m_impl_sine y0))
  | _ => none
def ic117 : ICode := (.seq (.reg [⟨(some 2), none, (.mov (.c (.flt .f64 0)))⟩] [0]) (.seq (.reg [⟨(some 9), none, (.mov (.t 0))⟩, ⟨(some 10), none, (.call (.fn 162) [(.t 9)] [])⟩,
      ⟨(some 3), none, (.mov (.t 10))⟩] [3]) (.seq (.reg [⟨(some 11), none, (.mov (.t 3))⟩, ⟨(some 12), none, (.bin .geq false (.t 11) (.c (.flt .f64 4602678819172646912)))⟩, ⟨(some
      4), none, (.mov (.t 12))⟩] [3, 4]) (.seq (.seq (.reg [⟨(some 13), none, (.mov (.t 4))⟩] [3, 4, 13]) (.cond (.t 13) (.reg [⟨(some 14), none, (.mov (.t 3))⟩, ⟨(some 15), none,
      (.bin .sub false (.t 14) (.c (.flt .f64 4602678819172646912)))⟩, ⟨(some 3), none, (.mov (.t 15))⟩] [3, 4]) .skip)) (.seq (.seq (.reg [⟨(some 16), none, (.mov (.t 3))⟩, ⟨(some
      17), none, (.bin .gtr false (.t 16) (.c (.flt .f64 4598175219545276416)))⟩] [3, 4, 17]) (.cond (.t 17) (.reg [⟨(some 18), none, (.mov (.t 3))⟩, ⟨(some 19), none, (.bin .sub
      false (.c (.flt .f64 4602678819172646912)) (.t 18))⟩, ⟨(some 3), none, (.mov (.t 19))⟩] [3, 4]) .skip)) (.seq (.reg [⟨(some 20), none, (.mov (.t 3))⟩, ⟨(some 21), none, (.bin
      .mul false (.t 20) (.c (.flt .f64 4618760256179416344)))⟩, ⟨(some 5), none, (.mov (.t 21))⟩] [4, 5]) (.seq (.reg [⟨(some 22), none, (.mov (.t 5))⟩, ⟨(some 23), none, (.mov (.t
      5))⟩, ⟨(some 24), none, (.bin .mul false (.t 22) (.t 23))⟩, ⟨(some 6), none, (.mov (.t 24))⟩] [4, 5, 6]) (.seq (.reg [⟨(some 7), none, (.mov (.c (.flt .f64
      4607182418800017408)))⟩] [4, 5, 6, 7]) (.seq (.seq (.reg [⟨(some 8), none, (.mov (.c (.int .i64 8)))⟩] [4, 5, 6, 7, 8]) (.block 0 (.loop (.seq (.seq (.reg [⟨(some 25), none,
      (.mov (.t 8))⟩, ⟨(some 26), none, (.bin .geq false (.t 25) (.c (.int .i64 1)))⟩] [4, 5, 6, 7, 8, 26]) (.cond (.t 26) .skip (.exit 0))) (.seq (.block 1 (.reg [⟨(some 29), none,
      (.mov (.t 6))⟩, ⟨(some 30), none, (.mov (.t 7))⟩, ⟨(some 31), none, (.bin .mul false (.t 29) (.t 30))⟩, ⟨(some 32), none, (.mov (.t 8))⟩, ⟨(some 33), none, (.bin .mul false
      (.c (.int .i64 2)) (.t 32))⟩, ⟨(some 34), none, (.mov (.t 8))⟩, ⟨(some 35), none, (.bin .mul false (.c (.int .i64 2)) (.t 34))⟩, ⟨(some 36), none, (.bin .add false (.t 35) (.c
      (.int .i64 1)))⟩, ⟨(some 37), none, (.bin .mul false (.t 33) (.t 36))⟩, ⟨(some 38), none, (.conv (.flt .f64) (.t 37))⟩, ⟨(some 39), none, (.bin .quo false (.t 31) (.t 38))⟩,
      ⟨(some 40), none, (.bin .sub false (.c (.flt .f64 4607182418800017408)) (.t 39))⟩, ⟨(some 7), none, (.mov (.t 40))⟩] [4, 5, 6, 7, 8])) (.reg [⟨(some 27), none, (.mov (.t 8))⟩,
      ⟨(some 28), none, (.bin .sub false (.t 27) (.c (.int .i64 1)))⟩, ⟨(some 8), none, (.mov (.t 28))⟩] [4, 5, 6, 7, 8])))))) (.seq (.seq (.reg [⟨(some 41), none, (.mov (.t 4))⟩]
      [5, 7, 41]) (.cond (.t 41) (.seq (.reg [⟨(some 42), none, (.mov (.t 5))⟩, ⟨(some 43), none, (.mov (.t 7))⟩, ⟨(some 44), none, (.bin .mul false (.t 42) (.t 43))⟩, ⟨(some 45),
      none, (.un .neg (.t 44))⟩, ⟨(some 2), none, (.mov (.t 45))⟩] [2]) .ret) .skip)) (.seq (.reg [⟨(some 46), none, (.mov (.t 5))⟩, ⟨(some 47), none, (.mov (.t 7))⟩, ⟨(some 48),
      none, (.bin .mul false (.t 46) (.t 47))⟩, ⟨(some 2), none, (.mov (.t 48))⟩] [2]) .ret)))))))))))
def cp117 : CP := CP.mk [] [] [[0], [3], [3, 4], [3, 4, 13], [3, 4], [3, 4, 17], [3, 4], [4, 5], [4, 5, 6], [4, 5, 6, 7], [4, 5, 6, 7, 8], [4, 5, 6, 7, 8, 26], [4, 5, 6, 7, 8], [4,
      5, 6, 7, 8], [5, 7, 41], [2], [2]] 49 [] []
theorem fc117_0 : IntKind.wrap .i64 (-1) = (-1) := by decide
theorem fc117_1 : IntKind.wrap .i64 0 = 0 := by decide
theorem fc117_2 : IntKind.wrap .i64 1 = 1 := by decide
theorem fc117_3 : IntKind.wrap .i64 10 = 10 := by decide
theorem fc117_4 : IntKind.wrap .i64 11 = 11 := by decide
theorem fc117_5 : IntKind.wrap .i64 110 = 110 := by decide
theorem fc117_6 : IntKind.wrap .i64 12 = 12 := by decide
theorem fc117_7 : IntKind.wrap .i64 13 = 13 := by decide
theorem fc117_8 : IntKind.wrap .i64 14 = 14 := by decide
theorem fc117_9 : IntKind.wrap .i64 15 = 15 := by decide
theorem fc117_10 : IntKind.wrap .i64 156 = 156 := by decide
theorem fc117_11 : IntKind.wrap .i64 16 = 16 := by decide
theorem fc117_12 : IntKind.wrap .i64 17 = 17 := by decide
theorem fc117_13 : IntKind.wrap .i64 2 = 2 := by decide
theorem fc117_14 : IntKind.wrap .i64 20 = 20 := by decide
theorem fc117_15 : IntKind.wrap .i64 210 = 210 := by decide
theorem fc117_16 : IntKind.wrap .i64 272 = 272 := by decide
theorem fc117_17 : IntKind.wrap .i64 3 = 3 := by decide
theorem fc117_18 : IntKind.wrap .i64 4 = 4 := by decide
theorem fc117_19 : IntKind.wrap .i64 42 = 42 := by decide
theorem fc117_20 : IntKind.wrap .i64 5 = 5 := by decide
theorem fc117_21 : IntKind.wrap .i64 6 = 6 := by decide
theorem fc117_22 : IntKind.wrap .i64 7 = 7 := by decide
theorem fc117_23 : IntKind.wrap .i64 72 = 72 := by decide
theorem fc117_24 : IntKind.wrap .i64 8 = 8 := by decide
theorem fc117_25 : IntKind.wrap .i64 9 = 9 := by decide
theorem s117 : ∀ vs r, g_impl_sine vs = some r → SaysM Try.prog .any 117 vs r := by
  intro vs r h
  unfold g_impl_sine at h
  split at h
  · rename_i y0
    cases h
    refine spec_of (m := .any) (tab := tabOf [(162, wM .any g_impl_placesOf)]) (cp := cp117) (ic := ic117) (rvl := [(.t 2)]) hm (tabOk_cons (m := .any) s162 tabOk_nil) Try.func117 rfl rfl rfl (by kernel_rfl) rfl (Nat.le_of_ble_eq_true rfl) (Nat.le_of_ble_eq_true rfl) ?_
    show eA _ _ _ _
    unfold ic117
    simp only [
        grpA, vsliceS, grpS, grpD, grpF, grpL, eop, vop, bop, uop, fltop, convop, endOk, newE, new1, freshL, Md.isNew, outV, pureV, pureX, pure1, AV.cells, AV.one, storable, laid,
              refless, refless1, vload, loadC, storeC, vnil, vfaddr, vextract, flatT, flatE, flatC, vconv, vmm, vidxA, viaddrA, vfield, vlen, elemsOf, dF32, dF64, dI64, dU8, dBool,
              dStr, esOk, elemsS, vsliceX, bnd, ownV, ownC, own1, ownT, isSl, nSl, endL, Md.isOwn, purge, purgeH, purgeB, purgeE, hasName, name1, List.any_cons, List.any_nil,
              Md.isWr, pureV.pureP, Option.map, reduceIte, Nat.reduceEqDiff, Nat.reduceAdd, Nat.reduceMul, Nat.reduceLT, Nat.reduceLeDiff, List.mapM_cons, List.mapM_nil,
              Option.pure_def, Option.bind_eq_bind, Option.bind_some, implies_true, forall_const, beq_self_eq_true, decide_true, decide_false, eq_self, Int.reduceEq, Int.reduceLE,
              Int.reduceLT, if_true, if_false, fc117_0, fc117_1, fc117_2, fc117_3, fc117_4, fc117_5, fc117_6, fc117_7, fc117_8, fc117_9, fc117_10, fc117_11, fc117_12, fc117_13,
              fc117_14, fc117_15, fc117_16, fc117_17, fc117_18, fc117_19, fc117_20, fc117_21, fc117_22, fc117_23, fc117_24, fc117_25, Int.reduceAdd, Int.reduceSub, Int.reduceMul,
              Int.reduceNeg, Int.reducePow, Nat.reducePow, Int.reduceToNat, Nat.reduceSub, List.replicate, Nat.reduceBEq, wAs, wA, wC, zipW, noDupN, grpE, g_impl_placesOf]
    repeat' (first
      | ((first | (refine eGI_of (fun h => ?_) (fun h => ?_)) | (refine eCc_of (fun h => ?_) (fun h => ?_)) | (have h := True.intro; refine KW_refl ?_) | (have h := True.intro; refine eA_loop ?_)) <;> (try simp only [Bool.not_eq_true', Bool.not_eq_false'] at h) <;> simp only [h,
        grpA, vsliceS, grpS, grpD, grpF, grpL, eop, vop, bop, uop, fltop, convop, endOk, newE, new1, freshL, Md.isNew, outV, pureV, pureX, pure1, AV.cells, AV.one, storable, laid,
              refless, refless1, vload, loadC, storeC, vnil, vfaddr, vextract, flatT, flatE, flatC, vconv, vmm, vidxA, viaddrA, vfield, vlen, elemsOf, dF32, dF64, dI64, dU8, dBool,
              dStr, esOk, elemsS, vsliceX, bnd, ownV, ownC, own1, ownT, isSl, nSl, endL, Md.isOwn, purge, purgeH, purgeB, purgeE, hasName, name1, List.any_cons, List.any_nil,
              Md.isWr, pureV.pureP, Option.map, reduceIte, Nat.reduceEqDiff, Nat.reduceAdd, Nat.reduceMul, Nat.reduceLT, Nat.reduceLeDiff, List.mapM_cons, List.mapM_nil,
              Option.pure_def, Option.bind_eq_bind, Option.bind_some, implies_true, forall_const, beq_self_eq_true, decide_true, decide_false, eq_self, Int.reduceEq, Int.reduceLE,
              Int.reduceLT, if_true, if_false, fc117_0, fc117_1, fc117_2, fc117_3, fc117_4, fc117_5, fc117_6, fc117_7, fc117_8, fc117_9, fc117_10, fc117_11, fc117_12, fc117_13,
              fc117_14, fc117_15, fc117_16, fc117_17, fc117_18, fc117_19, fc117_20, fc117_21, fc117_22, fc117_23, fc117_24, fc117_25, Int.reduceAdd, Int.reduceSub, Int.reduceMul,
              Int.reduceNeg, Int.reducePow, Nat.reducePow, Int.reduceToNat, Nat.reduceSub, List.replicate, Nat.reduceBEq, wAs, wA, wC, zipW, noDupN, grpE, g_impl_placesOf]))
    all_goals (try simp only [*, m_impl_sine, v_impl_sine_0, v_impl_sine_1, v_impl_sine_2, v_impl_sine_3, v_impl_sine_4, v_impl_sine_5, v_impl_sine_6, v_impl_sine_7, v_impl_sine_8, v_impl_sine_9, v_impl_sine_10, Bool.and_true, Bool.true_and, Bool.and_false, Bool.false_and, Bool.or_true, Bool.true_or, Bool.or_false, Bool.false_or, Bool.not_true, Bool.not_false, Bool.false_eq_true, if_true, if_false, reduceIte, decide_true, decide_false])
    all_goals (try (simp_all; done))
  · cases h
def m_impl_wideSine (x0 : Nat) : Nat := (if (feq .f64 (fsub .f64 x0 x0) 0) = true then (if (fle .f64 4841369599423283200 (fabs x0)) = true then 0 else (m_impl_sine x0)) else
      (m_math_NaN))
def g_impl_wideSine : List AV → Option AV
  | [.flt .f64 y0] => some (.flt .f64 (m_impl_wideSine y0))
  | _ => none
def ic73 : ICode := (.seq (.reg [⟨(some 2), none, (.mov (.c (.flt .f64 0)))⟩] [0]) (.seq (.block 0 (.seq (.reg [⟨(some 4), none, (.mov (.t 0))⟩, ⟨(some 5), none, (.mov (.t 0))⟩,
      ⟨(some 6), none, (.bin .sub false (.t 4) (.t 5))⟩, ⟨(some 7), none, (.bin .neq false (.t 6) (.c (.flt .f64 0)))⟩, ⟨(some 3), none, (.mov (.t 7))⟩] [0, 3]) (.cond (.t 3) (.seq
      (.reg [⟨(some 8), none, (.call (.fn 116) [] [])⟩, ⟨(some 2), none, (.mov (.t 8))⟩] [2]) .ret) (.seq (.reg [⟨(some 10), none, (.mov (.t 0))⟩, ⟨(some 11), none, (.call (.fn 114)
      [(.t 10)] [])⟩, ⟨(some 12), none, (.bin .geq false (.t 11) (.c (.flt .f64 4841369599423283200)))⟩, ⟨(some 9), none, (.mov (.t 12))⟩] [0, 9]) (.cond (.t 9) (.seq (.reg [⟨(some
      2), none, (.mov (.c (.flt .f64 0)))⟩] [2]) .ret) .skip))))) (.seq (.reg [⟨(some 13), none, (.mov (.t 0))⟩, ⟨(some 14), none, (.call (.fn 117) [(.t 13)] [])⟩, ⟨(some 2), none,
      (.mov (.t 14))⟩] [2]) .ret)))
def cp73 : CP := CP.mk [] [] [[0], [0, 3], [2], [0, 9], [2], [2]] 15 [] []
theorem fc73_0 : IntKind.wrap .i64 (-1) = (-1) := by decide
theorem fc73_1 : IntKind.wrap .i64 0 = 0 := by decide
theorem fc73_2 : IntKind.wrap .i64 1 = 1 := by decide
theorem fc73_3 : IntKind.wrap .i64 10 = 10 := by decide
theorem fc73_4 : IntKind.wrap .i64 11 = 11 := by decide
theorem fc73_5 : IntKind.wrap .i64 110 = 110 := by decide
theorem fc73_6 : IntKind.wrap .i64 12 = 12 := by decide
theorem fc73_7 : IntKind.wrap .i64 13 = 13 := by decide
theorem fc73_8 : IntKind.wrap .i64 14 = 14 := by decide
theorem fc73_9 : IntKind.wrap .i64 15 = 15 := by decide
theorem fc73_10 : IntKind.wrap .i64 156 = 156 := by decide
theorem fc73_11 : IntKind.wrap .i64 16 = 16 := by decide
theorem fc73_12 : IntKind.wrap .i64 17 = 17 := by decide
theorem fc73_13 : IntKind.wrap .i64 2 = 2 := by decide
theorem fc73_14 : IntKind.wrap .i64 20 = 20 := by decide
theorem fc73_15 : IntKind.wrap .i64 210 = 210 := by decide
theorem fc73_16 : IntKind.wrap .i64 272 = 272 := by decide
theorem fc73_17 : IntKind.wrap .i64 3 = 3 := by decide
theorem fc73_18 : IntKind.wrap .i64 4 = 4 := by decide
theorem fc73_19 : IntKind.wrap .i64 42 = 42 := by decide
theorem fc73_20 : IntKind.wrap .i64 5 = 5 := by decide
theorem fc73_21 : IntKind.wrap .i64 6 = 6 := by decide
theorem fc73_22 : IntKind.wrap .i64 7 = 7 := by decide
theorem fc73_23 : IntKind.wrap .i64 72 = 72 := by decide
theorem fc73_24 : IntKind.wrap .i64 8 = 8 := by decide
theorem fc73_25 : IntKind.wrap .i64 9 = 9 := by decide
theorem s73 : ∀ vs r, g_impl_wideSine vs = some r → SaysM Try.prog .any 73 vs r := by
  intro vs r h
  unfold g_impl_wideSine at h
  split at h
  · rename_i y0
    cases h
    refine spec_of (m := .any) (tab := tabOf [(114, wM .any g_abs), (116, wM .any g_math_NaN), (117, wM .any g_impl_sine)]) (cp := cp73) (ic := ic73) (rvl := [(.t 2)]) hm (tabOk_cons (m := .any) s114 (tabOk_cons (m := .any) s116 (tabOk_cons (m := .any) s117 tabOk_nil))) Try.func73 rfl rfl rfl (by kernel_rfl) rfl (Nat.le_of_ble_eq_true rfl) (Nat.le_of_ble_eq_true rfl) ?_
    show eA _ _ _ _
    unfold ic73
    simp only [
        grpA, vsliceS, grpS, grpD, grpF, grpL, eop, vop, bop, uop, fltop, convop, endOk, newE, new1, freshL, Md.isNew, outV, pureV, pureX, pure1, AV.cells, AV.one, storable, laid,
              refless, refless1, vload, loadC, storeC, vnil, vfaddr, vextract, flatT, flatE, flatC, vconv, vmm, vidxA, viaddrA, vfield, vlen, elemsOf, dF32, dF64, dI64, dU8, dBool,
              dStr, esOk, elemsS, vsliceX, bnd, ownV, ownC, own1, ownT, isSl, nSl, endL, Md.isOwn, purge, purgeH, purgeB, purgeE, hasName, name1, List.any_cons, List.any_nil,
              Md.isWr, pureV.pureP, Option.map, reduceIte, Nat.reduceEqDiff, Nat.reduceAdd, Nat.reduceMul, Nat.reduceLT, Nat.reduceLeDiff, List.mapM_cons, List.mapM_nil,
              Option.pure_def, Option.bind_eq_bind, Option.bind_some, implies_true, forall_const, beq_self_eq_true, decide_true, decide_false, eq_self, Int.reduceEq, Int.reduceLE,
              Int.reduceLT, if_true, if_false, fc73_0, fc73_1, fc73_2, fc73_3, fc73_4, fc73_5, fc73_6, fc73_7, fc73_8, fc73_9, fc73_10, fc73_11, fc73_12, fc73_13, fc73_14, fc73_15,
              fc73_16, fc73_17, fc73_18, fc73_19, fc73_20, fc73_21, fc73_22, fc73_23, fc73_24, fc73_25, Int.reduceAdd, Int.reduceSub, Int.reduceMul, Int.reduceNeg, Int.reducePow,
              Nat.reducePow, Int.reduceToNat, Nat.reduceSub, List.replicate, Nat.reduceBEq, wAs, wA, wC, zipW, noDupN, grpE, g_abs, g_math_NaN, g_impl_sine]
    repeat' (first
      | ((first | (refine eGI_of (fun h => ?_) (fun h => ?_)) | (refine eCc_of (fun h => ?_) (fun h => ?_)) | (have h := True.intro; refine KW_refl ?_)) <;> (try simp only [Bool.not_eq_true', Bool.not_eq_false'] at h) <;> simp only [h,
        grpA, vsliceS, grpS, grpD, grpF, grpL, eop, vop, bop, uop, fltop, convop, endOk, newE, new1, freshL, Md.isNew, outV, pureV, pureX, pure1, AV.cells, AV.one, storable, laid,
              refless, refless1, vload, loadC, storeC, vnil, vfaddr, vextract, flatT, flatE, flatC, vconv, vmm, vidxA, viaddrA, vfield, vlen, elemsOf, dF32, dF64, dI64, dU8, dBool,
              dStr, esOk, elemsS, vsliceX, bnd, ownV, ownC, own1, ownT, isSl, nSl, endL, Md.isOwn, purge, purgeH, purgeB, purgeE, hasName, name1, List.any_cons, List.any_nil,
              Md.isWr, pureV.pureP, Option.map, reduceIte, Nat.reduceEqDiff, Nat.reduceAdd, Nat.reduceMul, Nat.reduceLT, Nat.reduceLeDiff, List.mapM_cons, List.mapM_nil,
              Option.pure_def, Option.bind_eq_bind, Option.bind_some, implies_true, forall_const, beq_self_eq_true, decide_true, decide_false, eq_self, Int.reduceEq, Int.reduceLE,
              Int.reduceLT, if_true, if_false, fc73_0, fc73_1, fc73_2, fc73_3, fc73_4, fc73_5, fc73_6, fc73_7, fc73_8, fc73_9, fc73_10, fc73_11, fc73_12, fc73_13, fc73_14, fc73_15,
              fc73_16, fc73_17, fc73_18, fc73_19, fc73_20, fc73_21, fc73_22, fc73_23, fc73_24, fc73_25, Int.reduceAdd, Int.reduceSub, Int.reduceMul, Int.reduceNeg, Int.reducePow,
              Nat.reducePow, Int.reduceToNat, Nat.reduceSub, List.replicate, Nat.reduceBEq, wAs, wA, wC, zipW, noDupN, grpE, g_abs, g_math_NaN, g_impl_sine]))
    all_goals (try simp only [*, m_impl_wideSine, Bool.and_true, Bool.true_and, Bool.and_false, Bool.false_and, Bool.or_true, Bool.true_or, Bool.or_false, Bool.false_or, Bool.not_true, Bool.not_false, Bool.false_eq_true, if_true, if_false, reduceIte, decide_true, decide_false])
    all_goals (try (simp_all; done))
  · cases h
def m_impl_TurnAbout (x0 : (Nat × Nat × Nat)) (x1 : Nat) : (Nat × Nat × Nat × Nat) := (if (m_impl_isLength (m_impl_LongOf x0)) = true then (m_impl_turnOf (narrow (m_impl_wideSine
      (fadd .f64 (fdiv .f64 (widen x1) 4611686018427387904) 4598175219545276416))) (m_impl_ScaleVector (m_impl_Vector_over x0 (m_impl_LongOf x0)) (narrow (m_impl_wideSine (fdiv .f64
      (widen x1) 4611686018427387904))))) else (m_impl_NoTurn))
def p_impl_TurnAbout (x0 : (Nat × Nat × Nat)) (x1 : Nat) : Bool := ((p_impl_LongOf x0) && (!(m_impl_isLength (m_impl_LongOf x0)) || ((narrowOk (m_impl_wideSine (fdiv .f64 (widen x1)
      4611686018427387904))) && (narrowOk (m_impl_wideSine (fadd .f64 (fdiv .f64 (widen x1) 4611686018427387904) 4598175219545276416))))))
def g_impl_TurnAbout : List AV → Option AV
  | [.agg [.flt .f32 y0, .flt .f32 y1, .flt .f32 y2], .flt .f32 y3] => if p_impl_TurnAbout (y0, y1, y2) y3 = true then some (AV.agg [(.flt
      .f32 (m_impl_TurnAbout (y0, y1, y2) y3).1), (.flt .f32 (m_impl_TurnAbout (y0, y1, y2) y3).2.1), (.flt .f32 (m_impl_TurnAbout (y0, y1, y2) y3).2.2.1), (.flt .f32
      (m_impl_TurnAbout (y0, y1, y2) y3).2.2.2)]) else none
  | _ => none
def ic131 : ICode := (.seq (.reg [⟨(some 2), none, (.box 3 (.t 0))⟩, ⟨(some 4), none, (.alloc (.agg [(.flt .f32 0), (.flt .f32 0), (.flt .f32 0), (.flt .f32 0)]))⟩] [1, 2, 4]) (.seq
      (.reg [⟨(some 9), none, (.load (some 3) (.t 2))⟩, ⟨(some 10), none, (.call (.fn 176) [(.t 9)] [])⟩, ⟨(some 5), none, (.mov (.t 10))⟩] [1, 2, 4, 5]) (.seq (.seq (.reg [⟨(some
      11), none, (.mov (.t 5))⟩, ⟨(some 12), none, (.call (.fn 174) [(.t 11)] [])⟩, ⟨(some 13), none, (.un .not (.t 12))⟩] [1, 2, 4, 5, 13]) (.cond (.t 13) (.seq (.reg [⟨(some 14),
      none, (.call (.fn 111) [] [])⟩, ⟨none, none, (.store 4 (.t 4) (.t 14))⟩] [4]) .ret) .skip)) (.seq (.reg [⟨(some 15), none, (.mov (.t 1))⟩, ⟨(some 16), none, (.conv (.flt .f64)
      (.t 15))⟩, ⟨(some 17), none, (.bin .quo false (.t 16) (.c (.flt .f64 4611686018427387904)))⟩, ⟨(some 6), none, (.mov (.t 17))⟩] [2, 4, 5, 6]) (.seq (.reg [⟨(some 18), none,
      (.mov (.t 6))⟩, ⟨(some 19), none, (.call (.fn 73) [(.t 18)] [])⟩, ⟨(some 20), none, (.conv (.flt .f32) (.t 19))⟩, ⟨(some 21), none, (.mov (.t 6))⟩, ⟨(some 22), none, (.bin
      .add false (.t 21) (.c (.flt .f64 4598175219545276416)))⟩, ⟨(some 23), none, (.call (.fn 73) [(.t 22)] [])⟩, ⟨(some 24), none, (.conv (.flt .f32) (.t 23))⟩, ⟨(some 7), none,
      (.mov (.t 20))⟩, ⟨(some 8), none, (.mov (.t 24))⟩] [2, 4, 5, 7, 8]) (.seq (.reg [⟨(some 25), none, (.mov (.t 8))⟩, ⟨(some 26), none, (.load (some 3) (.t 2))⟩, ⟨(some 27),
      none, (.mov (.t 5))⟩, ⟨(some 28), none, (.call (.fn 178) [(.t 26), (.t 27)] [])⟩, ⟨(some 29), none, (.mov (.t 7))⟩, ⟨(some 30), none, (.call (.fn 59) [(.t 28), (.t 29)] [])⟩,
      ⟨(some 31), none, (.call (.fn 126) [(.t 25), (.t 30)] [])⟩, ⟨none, none, (.store 4 (.t 4) (.t 31))⟩] [4]) .ret))))))
def cp131 : CP := CP.mk [] [] [[1, 2, 4], [1, 2, 4, 5], [1, 2, 4, 5, 13], [4], [2, 4, 5, 6], [2, 4, 5, 7, 8], [4]] 32 [] []
theorem fc131_0 : IntKind.wrap .i64 (-1) = (-1) := by decide
theorem fc131_1 : IntKind.wrap .i64 0 = 0 := by decide
theorem fc131_2 : IntKind.wrap .i64 1 = 1 := by decide
theorem fc131_3 : IntKind.wrap .i64 10 = 10 := by decide
theorem fc131_4 : IntKind.wrap .i64 11 = 11 := by decide
theorem fc131_5 : IntKind.wrap .i64 110 = 110 := by decide
theorem fc131_6 : IntKind.wrap .i64 12 = 12 := by decide
theorem fc131_7 : IntKind.wrap .i64 13 = 13 := by decide
theorem fc131_8 : IntKind.wrap .i64 14 = 14 := by decide
theorem fc131_9 : IntKind.wrap .i64 15 = 15 := by decide
theorem fc131_10 : IntKind.wrap .i64 156 = 156 := by decide
theorem fc131_11 : IntKind.wrap .i64 16 = 16 := by decide
theorem fc131_12 : IntKind.wrap .i64 17 = 17 := by decide
theorem fc131_13 : IntKind.wrap .i64 2 = 2 := by decide
theorem fc131_14 : IntKind.wrap .i64 20 = 20 := by decide
theorem fc131_15 : IntKind.wrap .i64 210 = 210 := by decide
theorem fc131_16 : IntKind.wrap .i64 272 = 272 := by decide
theorem fc131_17 : IntKind.wrap .i64 3 = 3 := by decide
theorem fc131_18 : IntKind.wrap .i64 4 = 4 := by decide
theorem fc131_19 : IntKind.wrap .i64 42 = 42 := by decide
theorem fc131_20 : IntKind.wrap .i64 5 = 5 := by decide
theorem fc131_21 : IntKind.wrap .i64 6 = 6 := by decide
theorem fc131_22 : IntKind.wrap .i64 7 = 7 := by decide
theorem fc131_23 : IntKind.wrap .i64 72 = 72 := by decide
theorem fc131_24 : IntKind.wrap .i64 8 = 8 := by decide
theorem fc131_25 : IntKind.wrap .i64 9 = 9 := by decide
theorem s131 : ∀ vs r, g_impl_TurnAbout vs = some r → SaysM Try.prog .any 131 vs r := by
  intro vs r h
  unfold g_impl_TurnAbout at h
  split at h
  · rename_i y0 y1 y2 y3
    split at h
    · rename_i hp
      cases h
      refine spec_of (m := .any) (tab := tabOf [(59, wM .any g_impl_ScaleVector), (73, wM .any g_impl_wideSine), (111, wM .any g_impl_NoTurn), (126, wM .any g_impl_turnOf), (174, wM .any g_impl_isLength), (176, wM .any g_impl_LongOf), (178, wM .any g_impl_Vector_over)]) (cp := cp131) (ic := ic131) (rvl := [(.c 4 (some 4))]) hm (tabOk_cons (m := .any) s59 (tabOk_cons (m := .any) s73 (tabOk_cons (m := .any) s111 (tabOk_cons (m := .any) s126 (tabOk_cons (m := .any) s174 (tabOk_cons (m := .any) s176 (tabOk_cons (m := .any) s178 tabOk_nil))))))) Try.func131 rfl rfl rfl (by kernel_rfl) rfl (Nat.le_of_ble_eq_true rfl) (Nat.le_of_ble_eq_true rfl) ?_
      show eA _ _ _ _
      unfold ic131
      simp only [p_impl_TurnAbout, Bool.and_eq_true, Bool.or_eq_true, decide_eq_true_eq, Bool.not_eq_true', decide_eq_false_iff_not] at hp
      simp only [
          hp, grpA, vsliceS, grpS, grpD, grpF, grpL, eop, vop, bop, uop, fltop, convop, endOk, newE, new1, freshL, Md.isNew, outV, pureV, pureX, pure1, AV.cells, AV.one, storable,
                laid, refless, refless1, vload, loadC, storeC, vnil, vfaddr, vextract, flatT, flatE, flatC, vconv, vmm, vidxA, viaddrA, vfield, vlen, elemsOf, dF32, dF64, dI64, dU8,
                dBool, dStr, esOk, elemsS, vsliceX, bnd, ownV, ownC, own1, ownT, isSl, nSl, endL, Md.isOwn, purge, purgeH, purgeB, purgeE, hasName, name1, List.any_cons,
                List.any_nil, Md.isWr, pureV.pureP, Option.map, reduceIte, Nat.reduceEqDiff, Nat.reduceAdd, Nat.reduceMul, Nat.reduceLT, Nat.reduceLeDiff, List.mapM_cons,
                List.mapM_nil, Option.pure_def, Option.bind_eq_bind, Option.bind_some, implies_true, forall_const, beq_self_eq_true, decide_true, decide_false, eq_self,
                Int.reduceEq, Int.reduceLE, Int.reduceLT, if_true, if_false, fc131_0, fc131_1, fc131_2, fc131_3, fc131_4, fc131_5, fc131_6, fc131_7, fc131_8, fc131_9, fc131_10,
                fc131_11, fc131_12, fc131_13, fc131_14, fc131_15, fc131_16, fc131_17, fc131_18, fc131_19, fc131_20, fc131_21, fc131_22, fc131_23, fc131_24, fc131_25, Int.reduceAdd,
                Int.reduceSub, Int.reduceMul, Int.reduceNeg, Int.reducePow, Nat.reducePow, Int.reduceToNat, Nat.reduceSub, List.replicate, Nat.reduceBEq, wAs, wA, wC, zipW, noDupN,
                grpE, g_impl_ScaleVector, g_impl_wideSine, g_impl_NoTurn, g_impl_turnOf, g_impl_isLength, g_impl_LongOf, g_impl_Vector_over]
      repeat' (first
        | ((first | (refine eGI_of (fun h => ?_) (fun h => ?_)) | (refine eCc_of (fun h => ?_) (fun h => ?_))) <;> (try simp only [Bool.not_eq_true', Bool.not_eq_false'] at h) <;> (try simp only [h, reduceCtorEq, Bool.not_eq_true', decide_eq_false_iff_not, Bool.not_true, Bool.not_false, Bool.false_or, Bool.true_or, Bool.true_and, Bool.false_and, Bool.and_eq_true, Bool.or_eq_true, if_true, if_false, reduceIte, Bool.false_eq_true, and_true, true_and, false_or, or_false, decide_eq_true_eq, not_false_eq_true, not_true_eq_false] at hp) <;> (try (have h2 := h; simp only [decide_eq_true_eq, decide_eq_false_iff_not] at h2; (first | (replace h2 := eq_false h2) | (replace h2 := eq_true h2)); simp only [h2, if_true, if_false, false_or, true_or, or_true, or_false, and_true, true_and, not_false_eq_true, not_true_eq_false] at hp)) <;> simp only [h,
          hp, grpA, vsliceS, grpS, grpD, grpF, grpL, eop, vop, bop, uop, fltop, convop, endOk, newE, new1, freshL, Md.isNew, outV, pureV, pureX, pure1, AV.cells, AV.one, storable,
                laid, refless, refless1, vload, loadC, storeC, vnil, vfaddr, vextract, flatT, flatE, flatC, vconv, vmm, vidxA, viaddrA, vfield, vlen, elemsOf, dF32, dF64, dI64, dU8,
                dBool, dStr, esOk, elemsS, vsliceX, bnd, ownV, ownC, own1, ownT, isSl, nSl, endL, Md.isOwn, purge, purgeH, purgeB, purgeE, hasName, name1, List.any_cons,
                List.any_nil, Md.isWr, pureV.pureP, Option.map, reduceIte, Nat.reduceEqDiff, Nat.reduceAdd, Nat.reduceMul, Nat.reduceLT, Nat.reduceLeDiff, List.mapM_cons,
                List.mapM_nil, Option.pure_def, Option.bind_eq_bind, Option.bind_some, implies_true, forall_const, beq_self_eq_true, decide_true, decide_false, eq_self,
                Int.reduceEq, Int.reduceLE, Int.reduceLT, if_true, if_false, fc131_0, fc131_1, fc131_2, fc131_3, fc131_4, fc131_5, fc131_6, fc131_7, fc131_8, fc131_9, fc131_10,
                fc131_11, fc131_12, fc131_13, fc131_14, fc131_15, fc131_16, fc131_17, fc131_18, fc131_19, fc131_20, fc131_21, fc131_22, fc131_23, fc131_24, fc131_25, Int.reduceAdd,
                Int.reduceSub, Int.reduceMul, Int.reduceNeg, Int.reducePow, Nat.reducePow, Int.reduceToNat, Nat.reduceSub, List.replicate, Nat.reduceBEq, wAs, wA, wC, zipW, noDupN,
                grpE, g_impl_ScaleVector, g_impl_wideSine, g_impl_NoTurn, g_impl_turnOf, g_impl_isLength, g_impl_LongOf, g_impl_Vector_over]))
      all_goals (try simp only [*, m_impl_TurnAbout, Bool.and_true, Bool.true_and, Bool.and_false, Bool.false_and, Bool.or_true, Bool.true_or, Bool.or_false, Bool.false_or, Bool.not_true, Bool.not_false, Bool.false_eq_true, if_true, if_false, reduceIte, decide_true, decide_false])
      all_goals (try (simp_all; done))
    · cases h
  · cases h
def m_impl_LimitAngle (x0 : (Nat × Nat × Nat × Nat)) (x1 : Nat) : (Nat × Nat × Nat × Nat) := (if (flt .f32 x1 (m_impl_AngleOf x0)) = true then (m_impl_TurnAbout (m_impl_AxisOf x0)
      x1) else x0)
def p_impl_LimitAngle (x0 : (Nat × Nat × Nat × Nat)) (x1 : Nat) : Bool := ((p_impl_AngleOf x0) && (!(flt .f32 x1 (m_impl_AngleOf x0)) || ((p_impl_AxisOf x0) && (p_impl_TurnAbout
      (m_impl_AxisOf x0) x1))))
def g_impl_LimitAngle : List AV → Option AV
  | [.agg [.flt .f32 y0, .flt .f32 y1, .flt .f32 y2, .flt .f32 y3], .flt .f32 y4] => if p_impl_LimitAngle (y0, y1, y2, y3) y4 = true then
      some (AV.agg [(.flt .f32 (m_impl_LimitAngle (y0, y1, y2, y3) y4).1), (.flt .f32 (m_impl_LimitAngle (y0, y1, y2, y3) y4).2.1), (.flt .f32 (m_impl_LimitAngle (y0, y1, y2, y3)
      y4).2.2.1), (.flt .f32 (m_impl_LimitAngle (y0, y1, y2, y3) y4).2.2.2)]) else none
  | _ => none
def ic79 : ICode := (.seq (.reg [⟨(some 2), none, (.box 4 (.t 0))⟩, ⟨(some 4), none, (.alloc (.agg [(.flt .f32 0), (.flt .f32 0), (.flt .f32 0), (.flt .f32 0)]))⟩] [1, 2, 4]) (.seq
      (.seq (.reg [⟨(some 6), none, (.load (some 4) (.t 2))⟩, ⟨(some 7), none, (.call (.fn 130) [(.t 6)] [])⟩, ⟨(some 5), none, (.mov (.t 7))⟩] [1, 2, 4, 5]) (.seq (.reg [⟨(some 8),
      none, (.mov (.t 5))⟩, ⟨(some 9), none, (.mov (.t 1))⟩, ⟨(some 10), none, (.bin .gtr false (.t 8) (.t 9))⟩, ⟨(some 11), none, (.un .not (.t 10))⟩] [1, 2, 4, 11]) (.cond (.t 11)
      (.seq (.reg [⟨(some 12), none, (.load (some 4) (.t 2))⟩, ⟨none, none, (.store 4 (.t 4) (.t 12))⟩] [4]) .ret) .skip))) (.seq (.reg [⟨(some 13), none, (.load (some 4) (.t 2))⟩,
      ⟨(some 14), none, (.call (.fn 132) [(.t 13)] [])⟩, ⟨(some 15), none, (.mov (.t 1))⟩, ⟨(some 16), none, (.call (.fn 131) [(.t 14), (.t 15)] [])⟩, ⟨none, none, (.store 4 (.t 4)
      (.t 16))⟩] [4]) .ret)))
def cp79 : CP := CP.mk [] [] [[1, 2, 4], [1, 2, 4, 5], [1, 2, 4, 11], [4], [4]] 17 [] []
theorem fc79_0 : IntKind.wrap .i64 (-1) = (-1) := by decide
theorem fc79_1 : IntKind.wrap .i64 0 = 0 := by decide
theorem fc79_2 : IntKind.wrap .i64 1 = 1 := by decide
theorem fc79_3 : IntKind.wrap .i64 10 = 10 := by decide
theorem fc79_4 : IntKind.wrap .i64 11 = 11 := by decide
theorem fc79_5 : IntKind.wrap .i64 110 = 110 := by decide
theorem fc79_6 : IntKind.wrap .i64 12 = 12 := by decide
theorem fc79_7 : IntKind.wrap .i64 13 = 13 := by decide
theorem fc79_8 : IntKind.wrap .i64 14 = 14 := by decide
theorem fc79_9 : IntKind.wrap .i64 15 = 15 := by decide
theorem fc79_10 : IntKind.wrap .i64 156 = 156 := by decide
theorem fc79_11 : IntKind.wrap .i64 16 = 16 := by decide
theorem fc79_12 : IntKind.wrap .i64 17 = 17 := by decide
theorem fc79_13 : IntKind.wrap .i64 2 = 2 := by decide
theorem fc79_14 : IntKind.wrap .i64 20 = 20 := by decide
theorem fc79_15 : IntKind.wrap .i64 210 = 210 := by decide
theorem fc79_16 : IntKind.wrap .i64 272 = 272 := by decide
theorem fc79_17 : IntKind.wrap .i64 3 = 3 := by decide
theorem fc79_18 : IntKind.wrap .i64 4 = 4 := by decide
theorem fc79_19 : IntKind.wrap .i64 42 = 42 := by decide
theorem fc79_20 : IntKind.wrap .i64 5 = 5 := by decide
theorem fc79_21 : IntKind.wrap .i64 6 = 6 := by decide
theorem fc79_22 : IntKind.wrap .i64 7 = 7 := by decide
theorem fc79_23 : IntKind.wrap .i64 72 = 72 := by decide
theorem fc79_24 : IntKind.wrap .i64 8 = 8 := by decide
theorem fc79_25 : IntKind.wrap .i64 9 = 9 := by decide
theorem s79 : ∀ vs r, g_impl_LimitAngle vs = some r → SaysM Try.prog .any 79 vs r := by
  intro vs r h
  unfold g_impl_LimitAngle at h
  split at h
  · rename_i y0 y1 y2 y3 y4
    split at h
    · rename_i hp
      cases h
      refine spec_of (m := .any) (tab := tabOf [(130, wM .any g_impl_AngleOf), (131, wM .any g_impl_TurnAbout), (132, wM .any g_impl_AxisOf)]) (cp := cp79) (ic := ic79) (rvl := [(.c 4 (some 4))]) hm (tabOk_cons (m := .any) s130 (tabOk_cons (m := .any) s131 (tabOk_cons (m := .any) s132 tabOk_nil))) Try.func79 rfl rfl rfl (by kernel_rfl) rfl (Nat.le_of_ble_eq_true rfl) (Nat.le_of_ble_eq_true rfl) ?_
      show eA _ _ _ _
      unfold ic79
      simp only [p_impl_LimitAngle, Bool.and_eq_true, Bool.or_eq_true, decide_eq_true_eq, Bool.not_eq_true', decide_eq_false_iff_not] at hp
      simp only [
          hp, grpA, vsliceS, grpS, grpD, grpF, grpL, eop, vop, bop, uop, fltop, convop, endOk, newE, new1, freshL, Md.isNew, outV, pureV, pureX, pure1, AV.cells, AV.one, storable,
                laid, refless, refless1, vload, loadC, storeC, vnil, vfaddr, vextract, flatT, flatE, flatC, vconv, vmm, vidxA, viaddrA, vfield, vlen, elemsOf, dF32, dF64, dI64, dU8,
                dBool, dStr, esOk, elemsS, vsliceX, bnd, ownV, ownC, own1, ownT, isSl, nSl, endL, Md.isOwn, purge, purgeH, purgeB, purgeE, hasName, name1, List.any_cons,
                List.any_nil, Md.isWr, pureV.pureP, Option.map, reduceIte, Nat.reduceEqDiff, Nat.reduceAdd, Nat.reduceMul, Nat.reduceLT, Nat.reduceLeDiff, List.mapM_cons,
                List.mapM_nil, Option.pure_def, Option.bind_eq_bind, Option.bind_some, implies_true, forall_const, beq_self_eq_true, decide_true, decide_false, eq_self,
                Int.reduceEq, Int.reduceLE, Int.reduceLT, if_true, if_false, fc79_0, fc79_1, fc79_2, fc79_3, fc79_4, fc79_5, fc79_6, fc79_7, fc79_8, fc79_9, fc79_10, fc79_11,
                fc79_12, fc79_13, fc79_14, fc79_15, fc79_16, fc79_17, fc79_18, fc79_19, fc79_20, fc79_21, fc79_22, fc79_23, fc79_24, fc79_25, Int.reduceAdd, Int.reduceSub,
                Int.reduceMul, Int.reduceNeg, Int.reducePow, Nat.reducePow, Int.reduceToNat, Nat.reduceSub, List.replicate, Nat.reduceBEq, wAs, wA, wC, zipW, noDupN, grpE,
                g_impl_AngleOf, g_impl_TurnAbout, g_impl_AxisOf]
      repeat' (first
        | ((first | (refine eGI_of (fun h => ?_) (fun h => ?_)) | (refine eCc_of (fun h => ?_) (fun h => ?_))) <;> (try simp only [Bool.not_eq_true', Bool.not_eq_false'] at h) <;> (try simp only [h, reduceCtorEq, Bool.not_eq_true', decide_eq_false_iff_not, Bool.not_true, Bool.not_false, Bool.false_or, Bool.true_or, Bool.true_and, Bool.false_and, Bool.and_eq_true, Bool.or_eq_true, if_true, if_false, reduceIte, Bool.false_eq_true, and_true, true_and, false_or, or_false, decide_eq_true_eq, not_false_eq_true, not_true_eq_false] at hp) <;> (try (have h2 := h; simp only [decide_eq_true_eq, decide_eq_false_iff_not] at h2; (first | (replace h2 := eq_false h2) | (replace h2 := eq_true h2)); simp only [h2, if_true, if_false, false_or, true_or, or_true, or_false, and_true, true_and, not_false_eq_true, not_true_eq_false] at hp)) <;> simp only [h,
          hp, grpA, vsliceS, grpS, grpD, grpF, grpL, eop, vop, bop, uop, fltop, convop, endOk, newE, new1, freshL, Md.isNew, outV, pureV, pureX, pure1, AV.cells, AV.one, storable,
                laid, refless, refless1, vload, loadC, storeC, vnil, vfaddr, vextract, flatT, flatE, flatC, vconv, vmm, vidxA, viaddrA, vfield, vlen, elemsOf, dF32, dF64, dI64, dU8,
                dBool, dStr, esOk, elemsS, vsliceX, bnd, ownV, ownC, own1, ownT, isSl, nSl, endL, Md.isOwn, purge, purgeH, purgeB, purgeE, hasName, name1, List.any_cons,
                List.any_nil, Md.isWr, pureV.pureP, Option.map, reduceIte, Nat.reduceEqDiff, Nat.reduceAdd, Nat.reduceMul, Nat.reduceLT, Nat.reduceLeDiff, List.mapM_cons,
                List.mapM_nil, Option.pure_def, Option.bind_eq_bind, Option.bind_some, implies_true, forall_const, beq_self_eq_true, decide_true, decide_false, eq_self,
                Int.reduceEq, Int.reduceLE, Int.reduceLT, if_true, if_false, fc79_0, fc79_1, fc79_2, fc79_3, fc79_4, fc79_5, fc79_6, fc79_7, fc79_8, fc79_9, fc79_10, fc79_11,
                fc79_12, fc79_13, fc79_14, fc79_15, fc79_16, fc79_17, fc79_18, fc79_19, fc79_20, fc79_21, fc79_22, fc79_23, fc79_24, fc79_25, Int.reduceAdd, Int.reduceSub,
                Int.reduceMul, Int.reduceNeg, Int.reducePow, Nat.reducePow, Int.reduceToNat, Nat.reduceSub, List.replicate, Nat.reduceBEq, wAs, wA, wC, zipW, noDupN, grpE,
                g_impl_AngleOf, g_impl_TurnAbout, g_impl_AxisOf]))
      all_goals (try simp only [*, m_impl_LimitAngle, Bool.and_true, Bool.true_and, Bool.and_false, Bool.false_and, Bool.or_true, Bool.true_or, Bool.or_false, Bool.false_or, Bool.not_true, Bool.not_false, Bool.false_eq_true, if_true, if_false, reduceIte, decide_true, decide_false])
      all_goals (try (simp_all; done))
    · cases h
  · cases h
def m_impl_LimitCone (x0 : (Nat × Nat × Nat × Nat)) (x1 : (Nat × Nat × Nat)) (x2 : Nat) : (Nat × Nat × Nat × Nat) := (m_impl_MulTurns (m_impl_LimitAngle (m_impl_SwingAndTwist x0
      x1).1 x2) (m_impl_SwingAndTwist x0 x1).2)
def p_impl_LimitCone (x0 : (Nat × Nat × Nat × Nat)) (x1 : (Nat × Nat × Nat)) (x2 : Nat) : Bool := ((p_impl_SwingAndTwist x0 x1) && (p_impl_LimitAngle (m_impl_SwingAndTwist x0 x1).1
      x2))
def g_impl_LimitCone : List AV → Option AV
  | [.agg [.flt .f32 y0, .flt .f32 y1, .flt .f32 y2, .flt .f32 y3], .agg [.flt .f32 y4, .flt .f32 y5, .flt .f32 y6], .flt .f32 y7] => if
      p_impl_LimitCone (y0, y1, y2, y3) (y4, y5, y6) y7 = true then some (AV.agg [(.flt .f32 (m_impl_LimitCone (y0, y1, y2, y3) (y4, y5, y6) y7).1), (.flt .f32 (m_impl_LimitCone
      (y0, y1, y2, y3) (y4, y5, y6) y7).2.1), (.flt .f32 (m_impl_LimitCone (y0, y1, y2, y3) (y4, y5, y6) y7).2.2.1), (.flt .f32 (m_impl_LimitCone (y0, y1, y2, y3) (y4, y5, y6)
      y7).2.2.2)]) else none
  | _ => none
def ic36 : ICode := (.seq (.reg [⟨(some 3), none, (.box 4 (.t 0))⟩, ⟨(some 4), none, (.box 3 (.t 1))⟩, ⟨(some 6), none, (.alloc (.agg [(.flt .f32 0), (.flt .f32 0), (.flt .f32 0),
      (.flt .f32 0)]))⟩] [2, 3, 4, 6]) (.seq (.reg [⟨(some 10), none, (.load (some 4) (.t 3))⟩, ⟨(some 11), none, (.load (some 3) (.t 4))⟩, ⟨(some 12), none, (.call (.fn 77) [(.t
      10), (.t 11)] [])⟩, ⟨(some 9), none, (.mov (.t 12))⟩, ⟨(some 13), none, (.extract (.t 9) 0)⟩, ⟨(some 14), none, (.extract (.t 9) 1)⟩, ⟨(some 7), none, (.alloc (.agg [(.flt
      .f32 0), (.flt .f32 0), (.flt .f32 0), (.flt .f32 0)]))⟩, ⟨(some 8), none, (.alloc (.agg [(.flt .f32 0), (.flt .f32 0), (.flt .f32 0), (.flt .f32 0)]))⟩, ⟨none, none, (.store
      4 (.t 7) (.t 13))⟩, ⟨none, none, (.store 4 (.t 8) (.t 14))⟩] [2, 6, 7, 8]) (.seq (.reg [⟨(some 15), none, (.load (some 4) (.t 7))⟩, ⟨(some 16), none, (.mov (.t 2))⟩, ⟨(some
      17), none, (.call (.fn 79) [(.t 15), (.t 16)] [])⟩, ⟨(some 18), none, (.load (some 4) (.t 8))⟩, ⟨(some 19), none, (.call (.fn 78) [(.t 17), (.t 18)] [])⟩, ⟨none, none, (.store
      4 (.t 6) (.t 19))⟩] [6]) .ret)))
def cp36 : CP := CP.mk [] [] [[2, 3, 4, 6], [2, 6, 7, 8], [6]] 20 [] []
theorem fc36_0 : IntKind.wrap .i64 (-1) = (-1) := by decide
theorem fc36_1 : IntKind.wrap .i64 0 = 0 := by decide
theorem fc36_2 : IntKind.wrap .i64 1 = 1 := by decide
theorem fc36_3 : IntKind.wrap .i64 10 = 10 := by decide
theorem fc36_4 : IntKind.wrap .i64 11 = 11 := by decide
theorem fc36_5 : IntKind.wrap .i64 110 = 110 := by decide
theorem fc36_6 : IntKind.wrap .i64 12 = 12 := by decide
theorem fc36_7 : IntKind.wrap .i64 13 = 13 := by decide
theorem fc36_8 : IntKind.wrap .i64 14 = 14 := by decide
theorem fc36_9 : IntKind.wrap .i64 15 = 15 := by decide
theorem fc36_10 : IntKind.wrap .i64 156 = 156 := by decide
theorem fc36_11 : IntKind.wrap .i64 16 = 16 := by decide
theorem fc36_12 : IntKind.wrap .i64 17 = 17 := by decide
theorem fc36_13 : IntKind.wrap .i64 2 = 2 := by decide
theorem fc36_14 : IntKind.wrap .i64 20 = 20 := by decide
theorem fc36_15 : IntKind.wrap .i64 210 = 210 := by decide
theorem fc36_16 : IntKind.wrap .i64 272 = 272 := by decide
theorem fc36_17 : IntKind.wrap .i64 3 = 3 := by decide
theorem fc36_18 : IntKind.wrap .i64 4 = 4 := by decide
theorem fc36_19 : IntKind.wrap .i64 42 = 42 := by decide
theorem fc36_20 : IntKind.wrap .i64 5 = 5 := by decide
theorem fc36_21 : IntKind.wrap .i64 6 = 6 := by decide
theorem fc36_22 : IntKind.wrap .i64 7 = 7 := by decide
theorem fc36_23 : IntKind.wrap .i64 72 = 72 := by decide
theorem fc36_24 : IntKind.wrap .i64 8 = 8 := by decide
theorem fc36_25 : IntKind.wrap .i64 9 = 9 := by decide
theorem s36 : ∀ vs r, g_impl_LimitCone vs = some r → SaysM Try.prog .any 36 vs r := by
  intro vs r h
  unfold g_impl_LimitCone at h
  split at h
  · rename_i y0 y1 y2 y3 y4 y5 y6 y7
    split at h
    · rename_i hp
      cases h
      refine spec_of (m := .any) (tab := tabOf [(77, wM .any g_impl_SwingAndTwist), (78, wM .any g_impl_MulTurns), (79, wM .any g_impl_LimitAngle)]) (cp := cp36) (ic := ic36) (rvl := [(.c 6 (some 4))]) hm (tabOk_cons (m := .any) s77 (tabOk_cons (m := .any) s78 (tabOk_cons (m := .any) s79 tabOk_nil))) Try.func36 rfl rfl rfl (by kernel_rfl) rfl (Nat.le_of_ble_eq_true rfl) (Nat.le_of_ble_eq_true rfl) ?_
      show eA _ _ _ _
      unfold ic36
      simp only [p_impl_LimitCone, Bool.and_eq_true, Bool.or_eq_true, decide_eq_true_eq, Bool.not_eq_true', decide_eq_false_iff_not] at hp
      simp only [
          hp, grpA, vsliceS, grpS, grpD, grpF, grpL, eop, vop, bop, uop, fltop, convop, endOk, newE, new1, freshL, Md.isNew, outV, pureV, pureX, pure1, AV.cells, AV.one, storable,
                laid, refless, refless1, vload, loadC, storeC, vnil, vfaddr, vextract, flatT, flatE, flatC, vconv, vmm, vidxA, viaddrA, vfield, vlen, elemsOf, dF32, dF64, dI64, dU8,
                dBool, dStr, esOk, elemsS, vsliceX, bnd, ownV, ownC, own1, ownT, isSl, nSl, endL, Md.isOwn, purge, purgeH, purgeB, purgeE, hasName, name1, List.any_cons,
                List.any_nil, Md.isWr, pureV.pureP, Option.map, reduceIte, Nat.reduceEqDiff, Nat.reduceAdd, Nat.reduceMul, Nat.reduceLT, Nat.reduceLeDiff, List.mapM_cons,
                List.mapM_nil, Option.pure_def, Option.bind_eq_bind, Option.bind_some, implies_true, forall_const, beq_self_eq_true, decide_true, decide_false, eq_self,
                Int.reduceEq, Int.reduceLE, Int.reduceLT, if_true, if_false, fc36_0, fc36_1, fc36_2, fc36_3, fc36_4, fc36_5, fc36_6, fc36_7, fc36_8, fc36_9, fc36_10, fc36_11,
                fc36_12, fc36_13, fc36_14, fc36_15, fc36_16, fc36_17, fc36_18, fc36_19, fc36_20, fc36_21, fc36_22, fc36_23, fc36_24, fc36_25, Int.reduceAdd, Int.reduceSub,
                Int.reduceMul, Int.reduceNeg, Int.reducePow, Nat.reducePow, Int.reduceToNat, Nat.reduceSub, List.replicate, Nat.reduceBEq, wAs, wA, wC, zipW, noDupN, grpE,
                g_impl_SwingAndTwist, g_impl_MulTurns, g_impl_LimitAngle]
      repeat' (first
        | ((first | (refine eGI_of (fun h => ?_) (fun h => ?_)) | (refine eCc_of (fun h => ?_) (fun h => ?_))) <;> (try simp only [Bool.not_eq_true', Bool.not_eq_false'] at h) <;> (try simp only [h, reduceCtorEq, Bool.not_eq_true', decide_eq_false_iff_not, Bool.not_true, Bool.not_false, Bool.false_or, Bool.true_or, Bool.true_and, Bool.false_and, Bool.and_eq_true, Bool.or_eq_true, if_true, if_false, reduceIte, Bool.false_eq_true, and_true, true_and, false_or, or_false, decide_eq_true_eq, not_false_eq_true, not_true_eq_false] at hp) <;> (try (have h2 := h; simp only [decide_eq_true_eq, decide_eq_false_iff_not] at h2; (first | (replace h2 := eq_false h2) | (replace h2 := eq_true h2)); simp only [h2, if_true, if_false, false_or, true_or, or_true, or_false, and_true, true_and, not_false_eq_true, not_true_eq_false] at hp)) <;> simp only [h,
          hp, grpA, vsliceS, grpS, grpD, grpF, grpL, eop, vop, bop, uop, fltop, convop, endOk, newE, new1, freshL, Md.isNew, outV, pureV, pureX, pure1, AV.cells, AV.one, storable,
                laid, refless, refless1, vload, loadC, storeC, vnil, vfaddr, vextract, flatT, flatE, flatC, vconv, vmm, vidxA, viaddrA, vfield, vlen, elemsOf, dF32, dF64, dI64, dU8,
                dBool, dStr, esOk, elemsS, vsliceX, bnd, ownV, ownC, own1, ownT, isSl, nSl, endL, Md.isOwn, purge, purgeH, purgeB, purgeE, hasName, name1, List.any_cons,
                List.any_nil, Md.isWr, pureV.pureP, Option.map, reduceIte, Nat.reduceEqDiff, Nat.reduceAdd, Nat.reduceMul, Nat.reduceLT, Nat.reduceLeDiff, List.mapM_cons,
                List.mapM_nil, Option.pure_def, Option.bind_eq_bind, Option.bind_some, implies_true, forall_const, beq_self_eq_true, decide_true, decide_false, eq_self,
                Int.reduceEq, Int.reduceLE, Int.reduceLT, if_true, if_false, fc36_0, fc36_1, fc36_2, fc36_3, fc36_4, fc36_5, fc36_6, fc36_7, fc36_8, fc36_9, fc36_10, fc36_11,
                fc36_12, fc36_13, fc36_14, fc36_15, fc36_16, fc36_17, fc36_18, fc36_19, fc36_20, fc36_21, fc36_22, fc36_23, fc36_24, fc36_25, Int.reduceAdd, Int.reduceSub,
                Int.reduceMul, Int.reduceNeg, Int.reducePow, Nat.reducePow, Int.reduceToNat, Nat.reduceSub, List.replicate, Nat.reduceBEq, wAs, wA, wC, zipW, noDupN, grpE,
                g_impl_SwingAndTwist, g_impl_MulTurns, g_impl_LimitAngle]))
      all_goals (try simp only [*, m_impl_LimitCone, Bool.and_true, Bool.true_and, Bool.and_false, Bool.false_and, Bool.or_true, Bool.true_or, Bool.or_false, Bool.false_or, Bool.not_true, Bool.not_false, Bool.false_eq_true, if_true, if_false, reduceIte, decide_true, decide_false])
      all_goals (try (simp_all; done))
    · cases h
  · cases h
def m_laws_sameFloat (x0 : Nat) (x1 : Nat) : Bool := (if (feq .f64 x0 x0) = true then (if (feq .f64 x1 x1) = true then (if (feq .f64 x0 0) = true then (if (feq .f64 x1 0) = true
      then ((flt .f64 0 (fdiv .f64 4607182418800017408 x0)) == (flt .f64 0 (fdiv .f64 4607182418800017408 x1))) else (feq .f64 x0 x1)) else (feq .f64 x0 x1)) else false) else (!(feq
      .f64 x1 x1)))
def g_laws_sameFloat : List AV → Option AV
  | [.flt .f64 y0, .flt .f64 y1] => some (.bool (m_laws_sameFloat y0 y1))
  | _ => none
def ic80 : ICode := (.seq (.reg [⟨(some 4), none, (.mov (.c (.bool false)))⟩] [0, 1]) (.seq (.seq (.reg [⟨(some 5), none, (.mov (.t 0))⟩, ⟨(some 6), none, (.mov (.t 0))⟩, ⟨(some 7),
      none, (.bin .neq false (.t 5) (.t 6))⟩, ⟨(some 8), none, (.mov (.t 7))⟩, ⟨(some 9), (some (8, false)), (.mov (.t 1))⟩, ⟨(some 10), (some (8, false)), (.mov (.t 1))⟩, ⟨(some
      11), (some (8, false)), (.bin .neq false (.t 9) (.t 10))⟩, ⟨(some 12), none, (.pick (.t 8) (.c (.bool true)) (.t 11))⟩] [0, 1, 12]) (.cond (.t 12) (.seq (.reg [⟨(some 13),
      none, (.mov (.t 0))⟩, ⟨(some 14), none, (.mov (.t 0))⟩, ⟨(some 15), none, (.bin .neq false (.t 13) (.t 14))⟩, ⟨(some 16), none, (.mov (.t 15))⟩, ⟨(some 17), (some (16, true)),
      (.mov (.t 1))⟩, ⟨(some 18), (some (16, true)), (.mov (.t 1))⟩, ⟨(some 19), (some (16, true)), (.bin .neq false (.t 17) (.t 18))⟩, ⟨(some 20), none, (.pick (.t 16) (.t 19) (.c
      (.bool false)))⟩, ⟨(some 4), none, (.mov (.t 20))⟩] [4]) .ret) .skip)) (.seq (.seq (.reg [⟨(some 21), none, (.mov (.t 0))⟩, ⟨(some 22), none, (.bin .eql false (.t 21) (.c
      (.flt .f64 0)))⟩, ⟨(some 23), none, (.mov (.t 22))⟩, ⟨(some 24), (some (23, true)), (.mov (.t 1))⟩, ⟨(some 25), (some (23, true)), (.bin .eql false (.t 24) (.c (.flt .f64
      0)))⟩, ⟨(some 26), none, (.pick (.t 23) (.t 25) (.c (.bool false)))⟩] [0, 1, 26]) (.cond (.t 26) (.seq (.reg [⟨(some 27), none, (.mov (.t 0))⟩, ⟨(some 28), none, (.bin .quo
      false (.c (.flt .f64 4607182418800017408)) (.t 27))⟩, ⟨(some 29), none, (.bin .gtr false (.t 28) (.c (.flt .f64 0)))⟩, ⟨(some 30), none, (.mov (.t 1))⟩, ⟨(some 31), none,
      (.bin .quo false (.c (.flt .f64 4607182418800017408)) (.t 30))⟩, ⟨(some 32), none, (.bin .gtr false (.t 31) (.c (.flt .f64 0)))⟩, ⟨(some 33), none, (.bin .eql true (.t 29) (.t
      32))⟩, ⟨(some 4), none, (.mov (.t 33))⟩] [4]) .ret) .skip)) (.seq (.reg [⟨(some 34), none, (.mov (.t 0))⟩, ⟨(some 35), none, (.mov (.t 1))⟩, ⟨(some 36), none, (.bin .eql false
      (.t 34) (.t 35))⟩, ⟨(some 4), none, (.mov (.t 36))⟩] [4]) .ret))))
def cp80 : CP := CP.mk [] [] [[0, 1], [0, 1, 12], [4], [0, 1, 26], [4], [4]] 37 [] []
theorem fc80_0 : IntKind.wrap .i64 (-1) = (-1) := by decide
theorem fc80_1 : IntKind.wrap .i64 0 = 0 := by decide
theorem fc80_2 : IntKind.wrap .i64 1 = 1 := by decide
theorem fc80_3 : IntKind.wrap .i64 10 = 10 := by decide
theorem fc80_4 : IntKind.wrap .i64 11 = 11 := by decide
theorem fc80_5 : IntKind.wrap .i64 110 = 110 := by decide
theorem fc80_6 : IntKind.wrap .i64 12 = 12 := by decide
theorem fc80_7 : IntKind.wrap .i64 13 = 13 := by decide
theorem fc80_8 : IntKind.wrap .i64 14 = 14 := by decide
theorem fc80_9 : IntKind.wrap .i64 15 = 15 := by decide
theorem fc80_10 : IntKind.wrap .i64 156 = 156 := by decide
theorem fc80_11 : IntKind.wrap .i64 16 = 16 := by decide
theorem fc80_12 : IntKind.wrap .i64 17 = 17 := by decide
theorem fc80_13 : IntKind.wrap .i64 2 = 2 := by decide
theorem fc80_14 : IntKind.wrap .i64 20 = 20 := by decide
theorem fc80_15 : IntKind.wrap .i64 210 = 210 := by decide
theorem fc80_16 : IntKind.wrap .i64 272 = 272 := by decide
theorem fc80_17 : IntKind.wrap .i64 3 = 3 := by decide
theorem fc80_18 : IntKind.wrap .i64 4 = 4 := by decide
theorem fc80_19 : IntKind.wrap .i64 42 = 42 := by decide
theorem fc80_20 : IntKind.wrap .i64 5 = 5 := by decide
theorem fc80_21 : IntKind.wrap .i64 6 = 6 := by decide
theorem fc80_22 : IntKind.wrap .i64 7 = 7 := by decide
theorem fc80_23 : IntKind.wrap .i64 72 = 72 := by decide
theorem fc80_24 : IntKind.wrap .i64 8 = 8 := by decide
theorem fc80_25 : IntKind.wrap .i64 9 = 9 := by decide
theorem s80 : ∀ vs r, g_laws_sameFloat vs = some r → SaysM Try.prog .any 80 vs r := by
  intro vs r h
  unfold g_laws_sameFloat at h
  split at h
  · rename_i y0 y1
    cases h
    refine spec_of (m := .any) (tab := tabOf []) (cp := cp80) (ic := ic80) (rvl := [(.t 4)]) hm tabOk_nil Try.func80 rfl rfl rfl (by kernel_rfl) rfl (Nat.le_of_ble_eq_true rfl) (Nat.le_of_ble_eq_true rfl) ?_
    show eA _ _ _ _
    unfold ic80
    simp only [
        grpA, vsliceS, grpS, grpD, grpF, grpL, eop, vop, bop, uop, fltop, convop, endOk, newE, new1, freshL, Md.isNew, outV, pureV, pureX, pure1, AV.cells, AV.one, storable, laid,
              refless, refless1, vload, loadC, storeC, vnil, vfaddr, vextract, flatT, flatE, flatC, vconv, vmm, vidxA, viaddrA, vfield, vlen, elemsOf, dF32, dF64, dI64, dU8, dBool,
              dStr, esOk, elemsS, vsliceX, bnd, ownV, ownC, own1, ownT, isSl, nSl, endL, Md.isOwn, purge, purgeH, purgeB, purgeE, hasName, name1, List.any_cons, List.any_nil,
              Md.isWr, pureV.pureP, Option.map, reduceIte, Nat.reduceEqDiff, Nat.reduceAdd, Nat.reduceMul, Nat.reduceLT, Nat.reduceLeDiff, List.mapM_cons, List.mapM_nil,
              Option.pure_def, Option.bind_eq_bind, Option.bind_some, implies_true, forall_const, beq_self_eq_true, decide_true, decide_false, eq_self, Int.reduceEq, Int.reduceLE,
              Int.reduceLT, if_true, if_false, fc80_0, fc80_1, fc80_2, fc80_3, fc80_4, fc80_5, fc80_6, fc80_7, fc80_8, fc80_9, fc80_10, fc80_11, fc80_12, fc80_13, fc80_14, fc80_15,
              fc80_16, fc80_17, fc80_18, fc80_19, fc80_20, fc80_21, fc80_22, fc80_23, fc80_24, fc80_25, Int.reduceAdd, Int.reduceSub, Int.reduceMul, Int.reduceNeg, Int.reducePow,
              Nat.reducePow, Int.reduceToNat, Nat.reduceSub, List.replicate, Nat.reduceBEq, wAs, wA, wC, zipW, noDupN, grpE, ↓b_pick, ePk_true, ePk_false]
    repeat' (first
      | ((first | (refine eGI_of (fun h => ?_) (fun h => ?_)) | (refine eCc_of (fun h => ?_) (fun h => ?_)) | (refine ePk_of (fun h => ?_) (fun h => ?_))) <;> (try simp only [Bool.not_eq_true', Bool.not_eq_false'] at h) <;> simp only [h,
        grpA, vsliceS, grpS, grpD, grpF, grpL, eop, vop, bop, uop, fltop, convop, endOk, newE, new1, freshL, Md.isNew, outV, pureV, pureX, pure1, AV.cells, AV.one, storable, laid,
              refless, refless1, vload, loadC, storeC, vnil, vfaddr, vextract, flatT, flatE, flatC, vconv, vmm, vidxA, viaddrA, vfield, vlen, elemsOf, dF32, dF64, dI64, dU8, dBool,
              dStr, esOk, elemsS, vsliceX, bnd, ownV, ownC, own1, ownT, isSl, nSl, endL, Md.isOwn, purge, purgeH, purgeB, purgeE, hasName, name1, List.any_cons, List.any_nil,
              Md.isWr, pureV.pureP, Option.map, reduceIte, Nat.reduceEqDiff, Nat.reduceAdd, Nat.reduceMul, Nat.reduceLT, Nat.reduceLeDiff, List.mapM_cons, List.mapM_nil,
              Option.pure_def, Option.bind_eq_bind, Option.bind_some, implies_true, forall_const, beq_self_eq_true, decide_true, decide_false, eq_self, Int.reduceEq, Int.reduceLE,
              Int.reduceLT, if_true, if_false, fc80_0, fc80_1, fc80_2, fc80_3, fc80_4, fc80_5, fc80_6, fc80_7, fc80_8, fc80_9, fc80_10, fc80_11, fc80_12, fc80_13, fc80_14, fc80_15,
              fc80_16, fc80_17, fc80_18, fc80_19, fc80_20, fc80_21, fc80_22, fc80_23, fc80_24, fc80_25, Int.reduceAdd, Int.reduceSub, Int.reduceMul, Int.reduceNeg, Int.reducePow,
              Nat.reducePow, Int.reduceToNat, Nat.reduceSub, List.replicate, Nat.reduceBEq, wAs, wA, wC, zipW, noDupN, grpE, ↓b_pick, ePk_true, ePk_false]))
    all_goals (try simp only [*, m_laws_sameFloat, Bool.and_true, Bool.true_and, Bool.and_false, Bool.false_and, Bool.or_true, Bool.true_or, Bool.or_false, Bool.false_or, Bool.not_true, Bool.not_false, Bool.false_eq_true, if_true, if_false, reduceIte, decide_true, decide_false])
    all_goals (try (simp_all; done))
  · cases h
def m_laws_eqTurn (x0 : (Nat × Nat × Nat × Nat)) (x1 : (Nat × Nat × Nat × Nat)) : Bool := (if (m_laws_sameFloat (widen x0.1) (widen x1.1)) = true then (if (m_laws_sameFloat (widen
      x0.2.1) (widen x1.2.1)) = true then (if (m_laws_sameFloat (widen x0.2.2.1) (widen x1.2.2.1)) = true then (if (m_laws_sameFloat (widen x0.2.2.2) (widen x1.2.2.2)) = true then
      true else false) else false) else false) else false)
def g_laws_eqTurn : List AV → Option AV
  | [.agg [.flt .f32 y0, .flt .f32 y1, .flt .f32 y2, .flt .f32 y3], .agg [.flt .f32 y4, .flt .f32 y5, .flt .f32 y6, .flt .f32 y7]] => some
      (.bool (m_laws_eqTurn (y0, y1, y2, y3) (y4, y5, y6, y7)))
  | _ => none
def ic37 : ICode := (.seq (.reg [⟨(some 2), none, (.box 4 (.t 0))⟩, ⟨(some 3), none, (.box 4 (.t 1))⟩, ⟨(some 4), none, (.mov (.c (.bool false)))⟩] [2, 3]) (.seq (.seq (.reg [⟨(some
      5), none, (.faddr 0 (.t 2))⟩, ⟨(some 6), none, (.load none (.t 5))⟩, ⟨(some 7), none, (.conv (.flt .f64) (.t 6))⟩, ⟨(some 8), none, (.faddr 0 (.t 3))⟩, ⟨(some 9), none, (.load
      none (.t 8))⟩, ⟨(some 10), none, (.conv (.flt .f64) (.t 9))⟩, ⟨(some 11), none, (.call (.fn 80) [(.t 7), (.t 10)] [])⟩, ⟨(some 12), none, (.un .not (.t 11))⟩] [2, 3, 12])
      (.cond (.t 12) (.seq (.reg [⟨(some 4), none, (.mov (.c (.bool false)))⟩] [4]) .ret) .skip)) (.seq (.seq (.reg [⟨(some 13), none, (.faddr 1 (.t 2))⟩, ⟨(some 14), none, (.load
      none (.t 13))⟩, ⟨(some 15), none, (.conv (.flt .f64) (.t 14))⟩, ⟨(some 16), none, (.faddr 1 (.t 3))⟩, ⟨(some 17), none, (.load none (.t 16))⟩, ⟨(some 18), none, (.conv (.flt
      .f64) (.t 17))⟩, ⟨(some 19), none, (.call (.fn 80) [(.t 15), (.t 18)] [])⟩, ⟨(some 20), none, (.un .not (.t 19))⟩] [2, 3, 20]) (.cond (.t 20) (.seq (.reg [⟨(some 4), none,
      (.mov (.c (.bool false)))⟩] [4]) .ret) .skip)) (.seq (.seq (.reg [⟨(some 21), none, (.faddr 2 (.t 2))⟩, ⟨(some 22), none, (.load none (.t 21))⟩, ⟨(some 23), none, (.conv (.flt
      .f64) (.t 22))⟩, ⟨(some 24), none, (.faddr 2 (.t 3))⟩, ⟨(some 25), none, (.load none (.t 24))⟩, ⟨(some 26), none, (.conv (.flt .f64) (.t 25))⟩, ⟨(some 27), none, (.call (.fn
      80) [(.t 23), (.t 26)] [])⟩, ⟨(some 28), none, (.un .not (.t 27))⟩] [2, 3, 28]) (.cond (.t 28) (.seq (.reg [⟨(some 4), none, (.mov (.c (.bool false)))⟩] [4]) .ret) .skip))
      (.seq (.seq (.reg [⟨(some 29), none, (.faddr 3 (.t 2))⟩, ⟨(some 30), none, (.load none (.t 29))⟩, ⟨(some 31), none, (.conv (.flt .f64) (.t 30))⟩, ⟨(some 32), none, (.faddr 3
      (.t 3))⟩, ⟨(some 33), none, (.load none (.t 32))⟩, ⟨(some 34), none, (.conv (.flt .f64) (.t 33))⟩, ⟨(some 35), none, (.call (.fn 80) [(.t 31), (.t 34)] [])⟩, ⟨(some 36), none,
      (.un .not (.t 35))⟩] [36]) (.cond (.t 36) (.seq (.reg [⟨(some 4), none, (.mov (.c (.bool false)))⟩] [4]) .ret) .skip)) (.seq (.reg [⟨(some 4), none, (.mov (.c (.bool true)))⟩]
      [4]) .ret))))))
def cp37 : CP := CP.mk [] [] [[2, 3], [2, 3, 12], [4], [2, 3, 20], [4], [2, 3, 28], [4], [36], [4], [4]] 37 [] []
theorem fc37_0 : IntKind.wrap .i64 (-1) = (-1) := by decide
theorem fc37_1 : IntKind.wrap .i64 0 = 0 := by decide
theorem fc37_2 : IntKind.wrap .i64 1 = 1 := by decide
theorem fc37_3 : IntKind.wrap .i64 10 = 10 := by decide
theorem fc37_4 : IntKind.wrap .i64 11 = 11 := by decide
theorem fc37_5 : IntKind.wrap .i64 110 = 110 := by decide
theorem fc37_6 : IntKind.wrap .i64 12 = 12 := by decide
theorem fc37_7 : IntKind.wrap .i64 13 = 13 := by decide
theorem fc37_8 : IntKind.wrap .i64 14 = 14 := by decide
theorem fc37_9 : IntKind.wrap .i64 15 = 15 := by decide
theorem fc37_10 : IntKind.wrap .i64 156 = 156 := by decide
theorem fc37_11 : IntKind.wrap .i64 16 = 16 := by decide
theorem fc37_12 : IntKind.wrap .i64 17 = 17 := by decide
theorem fc37_13 : IntKind.wrap .i64 2 = 2 := by decide
theorem fc37_14 : IntKind.wrap .i64 20 = 20 := by decide
theorem fc37_15 : IntKind.wrap .i64 210 = 210 := by decide
theorem fc37_16 : IntKind.wrap .i64 272 = 272 := by decide
theorem fc37_17 : IntKind.wrap .i64 3 = 3 := by decide
theorem fc37_18 : IntKind.wrap .i64 4 = 4 := by decide
theorem fc37_19 : IntKind.wrap .i64 42 = 42 := by decide
theorem fc37_20 : IntKind.wrap .i64 5 = 5 := by decide
theorem fc37_21 : IntKind.wrap .i64 6 = 6 := by decide
theorem fc37_22 : IntKind.wrap .i64 7 = 7 := by decide
theorem fc37_23 : IntKind.wrap .i64 72 = 72 := by decide
theorem fc37_24 : IntKind.wrap .i64 8 = 8 := by decide
theorem fc37_25 : IntKind.wrap .i64 9 = 9 := by decide
theorem s37 : ∀ vs r, g_laws_eqTurn vs = some r → SaysM Try.prog .any 37 vs r := by
  intro vs r h
  unfold g_laws_eqTurn at h
  split at h
  · rename_i y0 y1 y2 y3 y4 y5 y6 y7
    cases h
    refine spec_of (m := .any) (tab := tabOf [(80, wM .any g_laws_sameFloat)]) (cp := cp37) (ic := ic37) (rvl := [(.t 4)]) hm (tabOk_cons (m := .any) s80 tabOk_nil) Try.func37 rfl rfl rfl (by kernel_rfl) rfl (Nat.le_of_ble_eq_true rfl) (Nat.le_of_ble_eq_true rfl) ?_
    show eA _ _ _ _
    unfold ic37
    simp only [
        grpA, vsliceS, grpS, grpD, grpF, grpL, eop, vop, bop, uop, fltop, convop, endOk, newE, new1, freshL, Md.isNew, outV, pureV, pureX, pure1, AV.cells, AV.one, storable, laid,
              refless, refless1, vload, loadC, storeC, vnil, vfaddr, vextract, flatT, flatE, flatC, vconv, vmm, vidxA, viaddrA, vfield, vlen, elemsOf, dF32, dF64, dI64, dU8, dBool,
              dStr, esOk, elemsS, vsliceX, bnd, ownV, ownC, own1, ownT, isSl, nSl, endL, Md.isOwn, purge, purgeH, purgeB, purgeE, hasName, name1, List.any_cons, List.any_nil,
              Md.isWr, pureV.pureP, Option.map, reduceIte, Nat.reduceEqDiff, Nat.reduceAdd, Nat.reduceMul, Nat.reduceLT, Nat.reduceLeDiff, List.mapM_cons, List.mapM_nil,
              Option.pure_def, Option.bind_eq_bind, Option.bind_some, implies_true, forall_const, beq_self_eq_true, decide_true, decide_false, eq_self, Int.reduceEq, Int.reduceLE,
              Int.reduceLT, if_true, if_false, fc37_0, fc37_1, fc37_2, fc37_3, fc37_4, fc37_5, fc37_6, fc37_7, fc37_8, fc37_9, fc37_10, fc37_11, fc37_12, fc37_13, fc37_14, fc37_15,
              fc37_16, fc37_17, fc37_18, fc37_19, fc37_20, fc37_21, fc37_22, fc37_23, fc37_24, fc37_25, Int.reduceAdd, Int.reduceSub, Int.reduceMul, Int.reduceNeg, Int.reducePow,
              Nat.reducePow, Int.reduceToNat, Nat.reduceSub, List.replicate, Nat.reduceBEq, wAs, wA, wC, zipW, noDupN, grpE, g_laws_sameFloat]
    repeat' (first
      | ((first | (refine eGI_of (fun h => ?_) (fun h => ?_)) | (refine eCc_of (fun h => ?_) (fun h => ?_))) <;> (try simp only [Bool.not_eq_true', Bool.not_eq_false'] at h) <;> simp only [h,
        grpA, vsliceS, grpS, grpD, grpF, grpL, eop, vop, bop, uop, fltop, convop, endOk, newE, new1, freshL, Md.isNew, outV, pureV, pureX, pure1, AV.cells, AV.one, storable, laid,
              refless, refless1, vload, loadC, storeC, vnil, vfaddr, vextract, flatT, flatE, flatC, vconv, vmm, vidxA, viaddrA, vfield, vlen, elemsOf, dF32, dF64, dI64, dU8, dBool,
              dStr, esOk, elemsS, vsliceX, bnd, ownV, ownC, own1, ownT, isSl, nSl, endL, Md.isOwn, purge, purgeH, purgeB, purgeE, hasName, name1, List.any_cons, List.any_nil,
              Md.isWr, pureV.pureP, Option.map, reduceIte, Nat.reduceEqDiff, Nat.reduceAdd, Nat.reduceMul, Nat.reduceLT, Nat.reduceLeDiff, List.mapM_cons, List.mapM_nil,
              Option.pure_def, Option.bind_eq_bind, Option.bind_some, implies_true, forall_const, beq_self_eq_true, decide_true, decide_false, eq_self, Int.reduceEq, Int.reduceLE,
              Int.reduceLT, if_true, if_false, fc37_0, fc37_1, fc37_2, fc37_3, fc37_4, fc37_5, fc37_6, fc37_7, fc37_8, fc37_9, fc37_10, fc37_11, fc37_12, fc37_13, fc37_14, fc37_15,
              fc37_16, fc37_17, fc37_18, fc37_19, fc37_20, fc37_21, fc37_22, fc37_23, fc37_24, fc37_25, Int.reduceAdd, Int.reduceSub, Int.reduceMul, Int.reduceNeg, Int.reducePow,
              Nat.reducePow, Int.reduceToNat, Nat.reduceSub, List.replicate, Nat.reduceBEq, wAs, wA, wC, zipW, noDupN, grpE, g_laws_sameFloat]))
    all_goals (try simp only [*, m_laws_eqTurn, Bool.and_true, Bool.true_and, Bool.and_false, Bool.false_and, Bool.or_true, Bool.true_or, Bool.or_false, Bool.false_or, Bool.not_true, Bool.not_false, Bool.false_eq_true, if_true, if_false, reduceIte, decide_true, decide_false])
    all_goals (try (simp_all; done))
  · cases h
def m_laws_FnExactLimitCone (x0 : (Nat × Nat × Nat × Nat)) (x1 : (Nat × Nat × Nat)) (x2 : Nat) : Bool := (if (m_laws_eqTurn (m_impl_LimitCone (m_laws_toTurn x0) (m_laws_toVector x1)
      x2) (m_spec_LimitCone (m_laws_toTurn x0) (m_laws_toVector x1) x2)) = true then true else false)
def p_laws_FnExactLimitCone (x0 : (Nat × Nat × Nat × Nat)) (x1 : (Nat × Nat × Nat)) (x2 : Nat) : Bool := ((p_spec_LimitCone (m_laws_toTurn x0) (m_laws_toVector x1) x2) &&
      (p_impl_LimitCone (m_laws_toTurn x0) (m_laws_toVector x1) x2))
def g_laws_FnExactLimitCone : List AV → Option AV
  | [.agg [.flt .f32 y0, .flt .f32 y1, .flt .f32 y2, .flt .f32 y3], .agg [.flt .f32 y4, .flt .f32 y5, .flt .f32 y6], .flt .f32 y7]
      => if p_laws_FnExactLimitCone (y0, y1, y2, y3) (y4, y5, y6) y7 = true then some (.bool (m_laws_FnExactLimitCone (y0, y1, y2, y3) (y4, y5, y6) y7)) else none
  | _ => none
def ic6 : ICode := (.seq (.reg [⟨(some 3), none, (.box 4 (.t 0))⟩, ⟨(some 4), none, (.box 3 (.t 1))⟩, ⟨(some 6), none, (.mov (.c (.bool false)))⟩] [2, 3, 4]) (.seq (.reg [⟨(some 9),
      none, (.load (some 4) (.t 3))⟩, ⟨(some 10), none, (.call (.fn 34) [(.t 9)] [])⟩, ⟨(some 11), none, (.load (some 3) (.t 4))⟩, ⟨(some 12), none, (.call (.fn 35) [(.t 11)] [])⟩,
      ⟨(some 13), none, (.mov (.t 2))⟩, ⟨(some 14), none, (.call (.fn 33) [(.t 10), (.t 12), (.t 13)] [])⟩, ⟨(some 7), none, (.alloc (.agg [(.flt .f32 0), (.flt .f32 0), (.flt .f32
      0), (.flt .f32 0)]))⟩, ⟨none, none, (.store 4 (.t 7) (.t 14))⟩] [2, 3, 4, 7]) (.seq (.reg [⟨(some 15), none, (.load (some 4) (.t 3))⟩, ⟨(some 16), none, (.call (.fn 34) [(.t
      15)] [])⟩, ⟨(some 17), none, (.load (some 3) (.t 4))⟩, ⟨(some 18), none, (.call (.fn 35) [(.t 17)] [])⟩, ⟨(some 19), none, (.mov (.t 2))⟩, ⟨(some 20), none, (.call (.fn 36)
      [(.t 16), (.t 18), (.t 19)] [])⟩, ⟨(some 8), none, (.alloc (.agg [(.flt .f32 0), (.flt .f32 0), (.flt .f32 0), (.flt .f32 0)]))⟩, ⟨none, none, (.store 4 (.t 8) (.t 20))⟩] [7,
      8]) (.seq (.seq (.reg [⟨(some 21), none, (.load (some 4) (.t 8))⟩, ⟨(some 22), none, (.load (some 4) (.t 7))⟩, ⟨(some 23), none, (.call (.fn 37) [(.t 21), (.t 22)] [])⟩,
      ⟨(some 24), none, (.un .not (.t 23))⟩] [24]) (.cond (.t 24) (.seq (.reg [⟨(some 6), none, (.mov (.c (.bool false)))⟩] [6]) .ret) .skip)) (.seq (.reg [⟨(some 6), none, (.mov
      (.c (.bool true)))⟩] [6]) .ret)))))
def cp6 : CP := CP.mk [] [] [[2, 3, 4], [2, 3, 4, 7], [7, 8], [24], [6], [6]] 25 [] []
theorem fc6_0 : IntKind.wrap .i64 (-1) = (-1) := by decide
theorem fc6_1 : IntKind.wrap .i64 0 = 0 := by decide
theorem fc6_2 : IntKind.wrap .i64 1 = 1 := by decide
theorem fc6_3 : IntKind.wrap .i64 10 = 10 := by decide
theorem fc6_4 : IntKind.wrap .i64 11 = 11 := by decide
theorem fc6_5 : IntKind.wrap .i64 110 = 110 := by decide
theorem fc6_6 : IntKind.wrap .i64 12 = 12 := by decide
theorem fc6_7 : IntKind.wrap .i64 13 = 13 := by decide
theorem fc6_8 : IntKind.wrap .i64 14 = 14 := by decide
theorem fc6_9 : IntKind.wrap .i64 15 = 15 := by decide
theorem fc6_10 : IntKind.wrap .i64 156 = 156 := by decide
theorem fc6_11 : IntKind.wrap .i64 16 = 16 := by decide
theorem fc6_12 : IntKind.wrap .i64 17 = 17 := by decide
theorem fc6_13 : IntKind.wrap .i64 2 = 2 := by decide
theorem fc6_14 : IntKind.wrap .i64 20 = 20 := by decide
theorem fc6_15 : IntKind.wrap .i64 210 = 210 := by decide
theorem fc6_16 : IntKind.wrap .i64 272 = 272 := by decide
theorem fc6_17 : IntKind.wrap .i64 3 = 3 := by decide
theorem fc6_18 : IntKind.wrap .i64 4 = 4 := by decide
theorem fc6_19 : IntKind.wrap .i64 42 = 42 := by decide
theorem fc6_20 : IntKind.wrap .i64 5 = 5 := by decide
theorem fc6_21 : IntKind.wrap .i64 6 = 6 := by decide
theorem fc6_22 : IntKind.wrap .i64 7 = 7 := by decide
theorem fc6_23 : IntKind.wrap .i64 72 = 72 := by decide
theorem fc6_24 : IntKind.wrap .i64 8 = 8 := by decide
theorem fc6_25 : IntKind.wrap .i64 9 = 9 := by decide
theorem s6 : ∀ vs r, g_laws_FnExactLimitCone vs = some r → SaysM Try.prog .any 6 vs r := by
  intro vs r h
  unfold g_laws_FnExactLimitCone at h
  split at h
  · rename_i y0 y1 y2 y3 y4 y5 y6 y7
    split at h
    · rename_i hp
      cases h
      refine spec_of (m := .any) (tab := tabOf [(33, wM .any g_spec_LimitCone), (34, wM .any g_laws_toTurn), (35, wM .any g_laws_toVector), (36, wM .any g_impl_LimitCone), (37, wM .any g_laws_eqTurn)]) (cp := cp6) (ic := ic6) (rvl := [(.t 6)]) hm (tabOk_cons (m := .any) s33 (tabOk_cons (m := .any) s34 (tabOk_cons (m := .any) s35 (tabOk_cons (m := .any) s36 (tabOk_cons (m := .any) s37 tabOk_nil))))) Try.func6 rfl rfl rfl (by kernel_rfl) rfl (Nat.le_of_ble_eq_true rfl) (Nat.le_of_ble_eq_true rfl) ?_
      show eA _ _ _ _
      unfold ic6
      simp only [p_laws_FnExactLimitCone, Bool.and_eq_true, Bool.or_eq_true, decide_eq_true_eq, Bool.not_eq_true', decide_eq_false_iff_not] at hp
      simp only [
          hp, grpA, vsliceS, grpS, grpD, grpF, grpL, eop, vop, bop, uop, fltop, convop, endOk, newE, new1, freshL, Md.isNew, outV, pureV, pureX, pure1, AV.cells, AV.one, storable,
                laid, refless, refless1, vload, loadC, storeC, vnil, vfaddr, vextract, flatT, flatE, flatC, vconv, vmm, vidxA, viaddrA, vfield, vlen, elemsOf, dF32, dF64, dI64, dU8,
                dBool, dStr, esOk, elemsS, vsliceX, bnd, ownV, ownC, own1, ownT, isSl, nSl, endL, Md.isOwn, purge, purgeH, purgeB, purgeE, hasName, name1, List.any_cons,
                List.any_nil, Md.isWr, pureV.pureP, Option.map, reduceIte, Nat.reduceEqDiff, Nat.reduceAdd, Nat.reduceMul, Nat.reduceLT, Nat.reduceLeDiff, List.mapM_cons,
                List.mapM_nil, Option.pure_def, Option.bind_eq_bind, Option.bind_some, implies_true, forall_const, beq_self_eq_true, decide_true, decide_false, eq_self,
                Int.reduceEq, Int.reduceLE, Int.reduceLT, if_true, if_false, fc6_0, fc6_1, fc6_2, fc6_3, fc6_4, fc6_5, fc6_6, fc6_7, fc6_8, fc6_9, fc6_10, fc6_11, fc6_12, fc6_13,
                fc6_14, fc6_15, fc6_16, fc6_17, fc6_18, fc6_19, fc6_20, fc6_21, fc6_22, fc6_23, fc6_24, fc6_25, Int.reduceAdd, Int.reduceSub, Int.reduceMul, Int.reduceNeg,
                Int.reducePow, Nat.reducePow, Int.reduceToNat, Nat.reduceSub, List.replicate, Nat.reduceBEq, wAs, wA, wC, zipW, noDupN, grpE, g_spec_LimitCone, g_laws_toTurn,
                g_laws_toVector, g_impl_LimitCone, g_laws_eqTurn]
      repeat' (first
        | ((first | (refine eGI_of (fun h => ?_) (fun h => ?_)) | (refine eCc_of (fun h => ?_) (fun h => ?_))) <;> (try simp only [Bool.not_eq_true', Bool.not_eq_false'] at h) <;> (try simp only [h, reduceCtorEq, Bool.not_eq_true', decide_eq_false_iff_not, Bool.not_true, Bool.not_false, Bool.false_or, Bool.true_or, Bool.true_and, Bool.false_and, Bool.and_eq_true, Bool.or_eq_true, if_true, if_false, reduceIte, Bool.false_eq_true, and_true, true_and, false_or, or_false, decide_eq_true_eq, not_false_eq_true, not_true_eq_false] at hp) <;> (try (have h2 := h; simp only [decide_eq_true_eq, decide_eq_false_iff_not] at h2; (first | (replace h2 := eq_false h2) | (replace h2 := eq_true h2)); simp only [h2, if_true, if_false, false_or, true_or, or_true, or_false, and_true, true_and, not_false_eq_true, not_true_eq_false] at hp)) <;> simp only [h,
          hp, grpA, vsliceS, grpS, grpD, grpF, grpL, eop, vop, bop, uop, fltop, convop, endOk, newE, new1, freshL, Md.isNew, outV, pureV, pureX, pure1, AV.cells, AV.one, storable,
                laid, refless, refless1, vload, loadC, storeC, vnil, vfaddr, vextract, flatT, flatE, flatC, vconv, vmm, vidxA, viaddrA, vfield, vlen, elemsOf, dF32, dF64, dI64, dU8,
                dBool, dStr, esOk, elemsS, vsliceX, bnd, ownV, ownC, own1, ownT, isSl, nSl, endL, Md.isOwn, purge, purgeH, purgeB, purgeE, hasName, name1, List.any_cons,
                List.any_nil, Md.isWr, pureV.pureP, Option.map, reduceIte, Nat.reduceEqDiff, Nat.reduceAdd, Nat.reduceMul, Nat.reduceLT, Nat.reduceLeDiff, List.mapM_cons,
                List.mapM_nil, Option.pure_def, Option.bind_eq_bind, Option.bind_some, implies_true, forall_const, beq_self_eq_true, decide_true, decide_false, eq_self,
                Int.reduceEq, Int.reduceLE, Int.reduceLT, if_true, if_false, fc6_0, fc6_1, fc6_2, fc6_3, fc6_4, fc6_5, fc6_6, fc6_7, fc6_8, fc6_9, fc6_10, fc6_11, fc6_12, fc6_13,
                fc6_14, fc6_15, fc6_16, fc6_17, fc6_18, fc6_19, fc6_20, fc6_21, fc6_22, fc6_23, fc6_24, fc6_25, Int.reduceAdd, Int.reduceSub, Int.reduceMul, Int.reduceNeg,
                Int.reducePow, Nat.reducePow, Int.reduceToNat, Nat.reduceSub, List.replicate, Nat.reduceBEq, wAs, wA, wC, zipW, noDupN, grpE, g_spec_LimitCone, g_laws_toTurn,
                g_laws_toVector, g_impl_LimitCone, g_laws_eqTurn]))
      all_goals (try simp only [*, m_laws_FnExactLimitCone, Bool.and_true, Bool.true_and, Bool.and_false, Bool.false_and, Bool.or_true, Bool.true_or, Bool.or_false, Bool.false_or, Bool.not_true, Bool.not_false, Bool.false_eq_true, if_true, if_false, reduceIte, decide_true, decide_false])
      all_goals (try (simp_all; done))
    · cases h
  · cases h
end Go.Proofs
namespace Go.Proofs
open Go.Ab
theorem sameFloat_refl (x : Nat) : m_laws_sameFloat x x = true := by
  unfold m_laws_sameFloat
  by_cases h : feq .f64 x x = true
  · simp [h]
  · simp [h]
end Go.Proofs
namespace Go.Proofs
open Go.Ab
theorem nan_ok : narrowOk m_math_NaN = true := by decide
end Go.Proofs
namespace Go.Proofs
open Go.Ab
theorem pLong (v : Nat × Nat × Nat) : p_spec_l01Long v = true := sqrt_narrow _
theorem pLongOf (v : Nat × Nat × Nat) : p_impl_LongOf v = true := sqrt_narrow _
theorem long_eq (v : Nat × Nat × Nat) : m_spec_l01Long v = m_impl_LongOf v := rfl
theorem isLength_eq (n : Nat) : m_impl_isLength n = (!(feq .f32 n 0) && m_spec_l01Finite n) := by
  unfold m_impl_isLength
  show (if m_spec_l01Finite n = true then _ else _) = _
  cases m_spec_l01Finite n <;> simp
end Go.Proofs
namespace Go.Proofs
open Go.Ab Ieee
/-- the bound of the angle of two numbers that are not both zero -/
theorem wide_bd {y x : Nat} {sy sx : Bool} {vy vx : Nat} (hy : Ex FloatKind.f64.format sy y vy) (hx : Ex FloatKind.f64.format sx x vx) (h0 : vy ≠ 0 ∨ vx ≠ 0) : Bd (m_impl_wideAngle y x) 20 := by
  have ab : ∀ {c : Nat} {s : Bool} {v : Nat}, Ex FloatKind.f64.format s c v → Ex FloatKind.f64.format false (fabs c) v := by
    intro c s v h
    obtain ⟨m, e, h1, h2, h3⟩ := h
    exact ⟨m, e, fabs_number h1, h2, h3⟩
  have ha := ab hy
  have hb := ab hx
  have ho := ford_ex hb ha
  have t0 : Bd (if (flt .f64 (fabs x) (fabs y)) = true then (fdiv .f64 (fabs x) (fabs y)) else (fdiv .f64 (fabs y) (fabs x))) 0 := by
    have z : ∀ v : Nat, sg false v = (v : Int) := fun _ => rfl
    rw [z, z] at ho
    by_cases h : flt .f64 (fabs x) (fabs y) = true
    · rw [if_pos h]
      unfold flt at h
      rw [ho] at h
      have h5 : compare (vx : Int) (vy : Int) = .lt := by simpa using h
      have h6 := Int.compare_eq_lt.1 h5
      exact bd_ratio hb ha (by omega) (by omega)
    · rw [if_neg h]
      have h5 : ¬ (vx : Int) < (vy : Int) := by
        intro h6
        apply h
        unfold flt
        rw [ho, Int.compare_eq_lt.2 h6]; rfl
      exact bd_ratio ha hb (by omega) (by omega)
  have t1 : Bd (v_impl_wideAngle_1 y x) 0 := bd_half t0
  have t2 : Bd (v_impl_wideAngle_2 y x) 0 := bd_half t1
  have t3 : Bd (v_impl_wideAngle_3 y x) 0 := bd_half t2
  have u : Bd (fmul .f64 (v_impl_wideAngle_3 y x) (v_impl_wideAngle_3 y x)) 0 := bd_mul t3 t3 (by omega)
  have term : ∀ {p n : Nat} (k : Nat), Bd p n → 1 ≤ k → k < 100 → n + 1 ≤ 900 → Bd (fsub .f64 (fdiv .f64 4607182418800017408 (ofInt .f64 (k : Int))) (fmul .f64 (fmul .f64 (v_impl_wideAngle_3 y x) (v_impl_wideAngle_3 y x)) p)) (n + 1) := by
    intro p n k hp h1 h2 h3
    exact bd_term u hp h1 (by omega) (by omega)
  have mul0 : ∀ {p n : Nat}, Bd p n → n ≤ 900 → Bd (fmul .f64 (fmul .f64 (v_impl_wideAngle_3 y x) (v_impl_wideAngle_3 y x)) p) n := by
    intro p n hp hn
    have := bd_mul u hp (by omega)
    rw [Nat.zero_add] at this; exact this
  have p1 := term 15 bd_zero (by omega) (by omega) (by omega)
  have p2 := term 13 p1 (by omega) (by omega) (by omega)
  have p3 := term 11 p2 (by omega) (by omega) (by omega)
  have p4 := term 9 p3 (by omega) (by omega) (by omega)
  have p5 := term 7 p4 (by omega) (by omega) (by omega)
  have p6 := term 5 p5 (by omega) (by omega) (by omega)
  have p7 := term 3 p6 (by omega) (by omega) (by omega)
  have p8 := term 1 p7 (by omega) (by omega) (by omega)
  have q : Bd (fmul .f64 (v_impl_wideAngle_3 y x) _) _ := bd_mul t3 p8 (by omega)
  have c8 : Bd 4620693217682128896 4 := bd_const (s := false) (m := 2 ^ 52) (e := -49) (by decide) (by decide) (by decide) (by decide)
  have q8 := bd_mul c8 q (by omega)
  have gpi : Ge1 4618760256179416344 := by
    intro W hW
    refine ⟨false, 7074237752028440, -50, by decide, by decide, ?_⟩
    rw [lp64, show (-50 - -1074 : Int).toNat = W - 50 by omega]
    have : (2 : Nat) ^ W = 2 ^ 50 * 2 ^ (W - 50) := by rw [← Nat.pow_add]; exact congrArg (2 ^ ·) (by omega)
    rw [this]
    exact Nat.mul_le_mul_right _ (by decide)
  have r : Bd (v_impl_wideAngle_11 y x) 18 := (bd_div q8 gpi (by omega)).mono (by omega)
  have c14 : Bd 4598175219545276416 18 := bd_const (s := false) (m := 2 ^ 52) (e := -54) (by decide) (by decide) (by decide) (by decide)
  have c12 : Bd 4602678819172646912 19 := bd_const (s := false) (m := 2 ^ 52) (e := -53) (by decide) (by decide) (by decide) (by decide)
  have T : Bd (if (flt .f64 (fabs x) (fabs y)) = true then (fsub .f64 4598175219545276416 (v_impl_wideAngle_11 y x)) else (v_impl_wideAngle_11 y x)) 19 := by
    split
    · exact bd_sub c14 r (by omega)
    · exact r.mono (by omega)
  have T2 : Bd (v_impl_wideAngle_13 y x) 20 := by
    unfold v_impl_wideAngle_13
    split
    · exact bd_sub c12 T (by omega)
    · exact T.mono (by omega)
  unfold m_impl_wideAngle
  split
  · exact bd_neg T2
  · exact T2
end Go.Proofs
namespace Go.Proofs
open Go.Ab Ieee
theorem zero_number {x : Nat} {s : Bool} {m : Nat} {e : Int} (h : FloatKind.f32.decode x = .number s m e) (hz : ¬ feq .f32 x 0 = true) : m ≠ 0 := by
  rintro rfl
  apply hz
  have h0 : Ex FloatKind.f32.format false 0 0 := ⟨0, -149, decode_zero32, by decide, by decide⟩
  have o2 := order_ex (ex32 h) h0
  unfold feq ford Format.order
  rw [o2, Nat.zero_mul]
  cases s <;> rfl
theorem wide_ok {y x : Nat} (hy : feq .f32 (fsub .f32 y y) 0 = true) (hx : feq .f32 (fsub .f32 x x) 0 = true) (hz : ¬ feq .f32 y 0 = true ∨ ¬ feq .f32 x 0 = true) : narrowOk (m_impl_wideAngle (widen y) (widen x)) = true := by
  obtain ⟨sy, my, ey, dy⟩ := fin32 hy
  obtain ⟨sx, mx, ex, dx⟩ := fin32 hx
  refine narrowOk_of_bd (wide_bd (widen_ex dy) (widen_ex dx) ?_) (by omega)
  rcases hz with h | h
  · exact .inl (Nat.ne_of_gt (Nat.mul_pos (Nat.pos_of_ne_zero (zero_number dy h)) (Nat.two_pow_pos _)))
  · exact .inr (Nat.ne_of_gt (Nat.mul_pos (Nat.pos_of_ne_zero (zero_number dx h)) (Nat.two_pow_pos _)))
theorem wide_eq (y x : Nat) : m_spec_l01AngleWide y x = (if (feq .f64 (fsub .f64 y y) 0) = true then (if (feq .f64 (fsub .f64 x x) 0) = true then (if (feq .f64 x 0) = true then (if (feq .f64 y 0) = true then 0 else m_impl_wideAngle y x) else m_impl_wideAngle y x) else m_math_NaN) else m_math_NaN) := rfl
theorem angle_all (y x : Nat) : p_spec_l01Angle y x = true ∧ p_impl_AngleTurns y x = true ∧ m_spec_l01Angle y x = m_impl_AngleTurns y x := by
  unfold p_spec_l01Angle p_impl_AngleTurns m_spec_l01Angle m_impl_AngleTurns p_spec_l01Narrow m_spec_l01Narrow m_impl_IsFinite p_impl_notNumber m_impl_notNumber
  rw [wide_eq, fin_widen, fin_widen, zero_widen, zero_widen]
  have n0 : narrowOk 0 = true := by decide
  have z0 : narrow 0 = 0 := by decide
  by_cases hy : feq .f32 (fsub .f32 y y) 0 = true
  · by_cases hx : feq .f32 (fsub .f32 x x) 0 = true
    · by_cases zx : feq .f32 x 0 = true
      · by_cases zy : feq .f32 y 0 = true
        · simp [hy, hx, zx, zy, n0, z0]
        · have := wide_ok hy hx (.inl zy)
          have zy' : feq .f32 y 0 = false := by simpa using zy
          simp [hy, hx, zx, zy', this]
      · have := wide_ok hy hx (.inr zx)
        have zx' : feq .f32 x 0 = false := by simpa using zx
        simp [hy, hx, zx', this]
    · have hx' : feq .f32 (fsub .f32 x x) 0 = false := by simpa using hx
      simp [hy, hx', nan_ok]
  · have hy' : feq .f32 (fsub .f32 y y) 0 = false := by simpa using hy
    by_cases hx : feq .f32 (fsub .f32 x x) 0 = true
    · simp [hy', hx, nan_ok]
    · have hx' : feq .f32 (fsub .f32 x x) 0 = false := by simpa using hx
      simp [hy', hx', nan_ok]
end Go.Proofs
namespace Go.Proofs
open Go.Ab Ieee
theorem fle_ex {a b v w : Nat} {s t : Bool} (ha : Ex FloatKind.f64.format s a v) (hb : Ex FloatKind.f64.format t b w) : fle .f64 a b = decide (sg s v ≤ sg t w) := by
  have h := ford_ex ha hb
  unfold fle
  rw [h]
  rcases Int.lt_trichotomy (sg s v) (sg t w) with k | k | k
  · rw [Int.compare_eq_lt.2 k]; simp; omega
  · rw [k, Int.compare_eq_eq.2 rfl]; simp
  · rw [Int.compare_eq_gt.2 k]; simp; omega
theorem sine_bd {X : Nat} (h0 : Bd (fsub .f64 X (ofInt .f64 (f2iV .f64 X))) 0) : narrowOk (if (fle .f64 4602678819172646912 (v_spec_l01SineWide_0 X)) = true then (v_spec_l01SineWide_11 X) else (fmul .f64 (fmul .f64 (v_spec_l01SineWide_2 X) 4618760256179416344) (fsub .f64 4607182418800017408 (fdiv .f64 (v_spec_l01SineWide_10 X) (ofInt .f64 6))))) = true := by
  have c2 : Bd 4602678819172646912 1 := bd_const (s := false) (m := 2 ^ 52) (e := -53) (by decide) (by decide) (by decide) (by decide)
  have f0 : Bd (v_spec_l01SineWide_0 X) 1 := by
    unfold v_spec_l01SineWide_0
    split
    · exact bd_add h0 bd_one (by omega)
    · exact h0.mono (by omega)
  have f1 : Bd (v_spec_l01SineWide_1 X) 2 := by
    unfold v_spec_l01SineWide_1
    split
    · exact bd_sub f0 c2 (by omega)
    · exact f0.mono (by omega)
  have f2 : Bd (v_spec_l01SineWide_2 X) 3 := by
    unfold v_spec_l01SineWide_2
    split
    · exact bd_sub (c2.mono (by omega)) f1 (by omega)
    · exact f1.mono (by omega)
  have cpi : Bd 4618760256179416344 3 := bd_const (s := false) (m := 7074237752028440) (e := -50) (by decide) (by decide) (by decide) (by decide)
  have z := bd_mul f2 cpi (by omega)
  have u := bd_mul z z (by omega)
  have step : ∀ {p n : Nat} (k : Nat), Bd p n → 1 ≤ k → k < 1000 → n ≤ 800 → Bd (fsub .f64 4607182418800017408 (fdiv .f64 (fmul .f64 (fmul .f64 (fmul .f64 (v_spec_l01SineWide_2 X) 4618760256179416344) (fmul .f64 (v_spec_l01SineWide_2 X) 4618760256179416344)) p) (ofInt .f64 (k : Int)))) (n + 13) := by
    intro p n k hp h1 h2 h3
    have a := bd_mul u hp (by omega)
    have b := bd_div a (ge1_ofInt h1 (by omega)) (by omega)
    exact (bd_sub (bd_one.mono (Nat.zero_le _)) b (by omega)).mono (by omega)
  have p1 := step 272 bd_one (by omega) (by omega) (by omega)
  have p2 := step 210 p1 (by omega) (by omega) (by omega)
  have p3 := step 156 p2 (by omega) (by omega) (by omega)
  have p4 := step 110 p3 (by omega) (by omega) (by omega)
  have p5 := step 72 p4 (by omega) (by omega) (by omega)
  have p6 := step 42 p5 (by omega) (by omega) (by omega)
  have p7 := step 20 p6 (by omega) (by omega) (by omega)
  have p8 := step 6 p7 (by omega) (by omega) (by omega)
  have r := bd_mul z p8 (by omega)
  split
  · exact narrowOk_of_bd (bd_neg r) (by omega)
  · exact narrowOk_of_bd r (by omega)
theorem sine_all {X : Nat} (hX : X < 2 ^ 64) : p_spec_l01SineWide X = true ∧ m_spec_l01SineWide X = m_impl_wideSine X ∧ narrowOk (m_impl_wideSine X) = true := by
  by_cases hf : feq .f64 (fsub .f64 X X) 0 = true
  · obtain ⟨s, m, e, hr⟩ := fin64 hf
    obtain ⟨v, hx⟩ := read_ex hr
    obtain ⟨W, hW⟩ : ∃ W : Nat, W = 1074 := ⟨_, rfl⟩
    have ha : Ex FloatKind.f64.format false (fabs X) v := by
      obtain ⟨m, e, h1, h2, h3⟩ := hx
      exact ⟨m, e, fabs_number h1, h2, h3⟩
    obtain ⟨P, hP⟩ : ∃ P : Nat, P = 2 ^ (52 + W) := ⟨_, rfl⟩
    have hc : ∀ (b : Bool) (c : Nat), FloatKind.f64.format.read c = .number b (2 ^ 52) 0 → Ex FloatKind.f64.format b c P := by
      intro b c h
      refine ⟨_, _, h, by rw [lp64]; decide, ?_⟩
      rw [hP, lp64, ← Nat.pow_add]
      exact congrArg (2 ^ ·) (by omega)
    have hp := hc false 4841369599423283200 (by decide)
    have hn := hc true 14064741636278059008 (by decide)
    have q1 := fle_ex hp ha
    have q2 := fle_ex hp hx
    have q3 := fle_ex hx hn
    have zf : ∀ n : Nat, sg false n = (n : Int) := fun _ => rfl
    rw [zf, zf] at q1
    rw [zf] at q2
    rw [sg_true] at q3
    by_cases hv : v < P
    · obtain ⟨g1, g2, g3⟩ := frac_same hW hx hX (by rw [← hP]; exact hv)
      have n1 : fle .f64 4841369599423283200 (fabs X) = false := by rw [q1]; simp; omega
      have n2 : fle .f64 4841369599423283200 X = false := by
        rw [q2]
        have : sg s v ≤ v := by unfold sg; split <;> omega
        simp; omega
      have n3 : fle .f64 X 14064741636278059008 = false := by
        rw [q3]
        have : -(v : Int) ≤ sg s v := by unfold sg; split <;> omega
        simp; omega
      have pl : m_impl_placesOf X = v_spec_l01SineWide_0 X := by
        unfold m_impl_placesOf v_impl_placesOf_0 v_spec_l01SineWide_0 m_math_Trunc
        rw [g1]
      have s2 : v_impl_sine_2 X = v_spec_l01SineWide_2 X := by
        unfold v_impl_sine_2 v_impl_sine_0 v_impl_sine_1 v_spec_l01SineWide_2 v_spec_l01SineWide_1
        rw [pl]
      have s10 : v_impl_sine_10 X = v_spec_l01SineWide_10 X := by
        unfold v_impl_sine_10 v_impl_sine_9 v_impl_sine_8 v_impl_sine_7 v_impl_sine_6 v_impl_sine_5 v_impl_sine_4 v_impl_sine_3
        rw [s2]
        rfl
      have hs : m_impl_sine X = (if (fle .f64 4602678819172646912 (v_spec_l01SineWide_0 X)) = true then (v_spec_l01SineWide_11 X) else (fmul .f64 (fmul .f64 (v_spec_l01SineWide_2 X) 4618760256179416344) (fsub .f64 4607182418800017408 (fdiv .f64 (v_spec_l01SineWide_10 X) (ofInt .f64 6))))) := by
        unfold m_impl_sine v_spec_l01SineWide_11
        rw [pl, s2, s10]
      have hw : m_impl_wideSine X = (if (fle .f64 4602678819172646912 (v_spec_l01SineWide_0 X)) = true then (v_spec_l01SineWide_11 X) else (fmul .f64 (fmul .f64 (v_spec_l01SineWide_2 X) 4618760256179416344) (fsub .f64 4607182418800017408 (fdiv .f64 (v_spec_l01SineWide_10 X) (ofInt .f64 6))))) := by
        unfold m_impl_wideSine
        rw [hf, n1, if_pos rfl, if_neg (by decide), hs]
      refine ⟨?_, ?_, ?_⟩
      · unfold p_spec_l01SineWide
        rw [g2]; simp
      · rw [hw]
        unfold m_spec_l01SineWide
        rw [hf, n2, n3, if_pos rfl, if_neg (by decide), if_neg (by decide)]
      · rw [hw]; exact sine_bd g3
    · have n1 : fle .f64 4841369599423283200 (fabs X) = true := by rw [q1]; simp; omega
      have n23 : fle .f64 4841369599423283200 X = true ∨ fle .f64 X 14064741636278059008 = true := by
        rw [q2, q3]
        cases s
        · left; rw [zf]; simp; omega
        · right; rw [sg_true]; simp; omega
      have hw : m_impl_wideSine X = 0 := by
        unfold m_impl_wideSine
        rw [hf, n1, if_pos rfl, if_pos rfl]
      refine ⟨?_, ?_, by rw [hw]; decide⟩
      · unfold p_spec_l01SineWide
        rcases n23 with h | h <;> rw [h] <;> simp
      · rw [hw]
        unfold m_spec_l01SineWide
        rw [hf, if_pos rfl]
        rcases n23 with h | h
        · rw [h]; rfl
        · rw [h]
          by_cases h5 : fle .f64 4841369599423283200 X = true
          · rw [if_pos h5]
          · rw [if_neg h5]; rfl
  · have hf' : feq .f64 (fsub .f64 X X) 0 = false := by simpa using hf
    have hw : m_impl_wideSine X = m_math_NaN := by
      unfold m_impl_wideSine; rw [hf']; rfl
    refine ⟨?_, ?_, by rw [hw]; exact nan_ok⟩
    · unfold p_spec_l01SineWide; rw [hf']; rfl
    · rw [hw]; unfold m_spec_l01SineWide; rw [hf']; rfl
end Go.Proofs
namespace Go.Proofs
open Go.Ab Ieee
theorem op2_lt {g : Datum → Datum → Option Datum} (a b : Nat) : op2 .f64 g a b < 2 ^ 64 := by
  unfold op2
  cases g (FloatKind.f64.format.read a) (FloatKind.f64.format.read b) with
  | none => show nan .f64 < _; decide
  | some d => exact FloatKind.f64.format.write_lt d
theorem about_all (v : Nat × Nat × Nat) (x : Nat) : p_spec_l02About v x = true ∧ p_impl_TurnAbout v x = true ∧ m_spec_l02About v x = m_impl_TurnAbout v x := by
  have h1 := sine_all (X := fdiv .f64 (widen x) 4611686018427387904) (op2_lt _ _)
  have h2 := sine_all (X := fadd .f64 (fdiv .f64 (widen x) 4611686018427387904) 4598175219545276416) (op2_lt _ _)
  have n : ∀ c, p_spec_l01Narrow c = narrowOk c := fun _ => rfl
  refine ⟨?_, ?_, ?_⟩
  · unfold p_spec_l02About
    rw [pLong, h1.1, h2.1, n, n, h1.2.1, h2.2.1, h1.2.2, h2.2.2]; simp
  · unfold p_impl_TurnAbout
    rw [pLongOf, h1.2.2, h2.2.2]; simp
  · unfold m_spec_l02About m_impl_TurnAbout
    rw [isLength_eq, long_eq, h1.2.1, h2.2.1]
    cases hz : feq .f32 (m_impl_LongOf v) 0 <;> cases hf : m_spec_l01Finite (m_impl_LongOf v) <;> rfl
end Go.Proofs
namespace Go.Proofs
open Go.Ab
theorem eqTurn_refl (x : Nat × Nat × Nat × Nat) : m_laws_eqTurn x x = true := by
  unfold m_laws_eqTurn
  simp [sameFloat_refl]
end Go.Proofs
namespace Go.Proofs
open Go.Ab
theorem size_all {x : Nat} (hx : Canon .f32 x) : m_spec_l02Size x = m_impl_size x ∧ p_impl_size x = true ∧ p_spec_l02Size x = true := by
  have hs := abs_same (x := x) hx.lt
  refine ⟨?_, hs.1, ?_⟩
  · show m_spec_l02Size x = narrow (abs64 x)
    rw [hs.2]
    exact abs_bits hx
  · unfold p_spec_l02Size p_spec_l01Bits
    cases feq .f32 x x <;> rfl
theorem angleOf_all {t : Nat × Nat × Nat × Nat} (ht : Canon .f32 t.1) : p_spec_l02Angle t = true ∧ p_impl_AngleOf t = true ∧ m_spec_l02Angle t = m_impl_AngleOf t := by
  obtain ⟨s1, s2, s3⟩ := size_all ht
  refine ⟨?_, ?_, ?_⟩
  · unfold p_spec_l02Angle; rw [pLong, s3, (angle_all _ _).1]; rfl
  · unfold p_impl_AngleOf; rw [pLongOf, s2, (angle_all _ _).2.1]; rfl
  · unfold m_spec_l02Angle m_impl_AngleOf; rw [(angle_all _ _).2.2, s1, long_eq]; rfl
theorem axis_eq (t : Nat × Nat × Nat × Nat) : m_spec_l04Axis t = m_impl_AxisOf t := by
  show m_spec_AxisOf t = _
  have hv : (v_spec_AxisOf_0 t, v_spec_AxisOf_1 t, v_spec_AxisOf_2 t) = m_impl_Vector_over (m_impl_Turn_vector (if (flt .f32 t.1 0) = true then (m_impl_Turn_opposite t) else t)) (m_impl_LongOf (m_impl_Turn_vector t)) := by
    unfold v_spec_AxisOf_0 v_spec_AxisOf_1 v_spec_AxisOf_2
    rw [long_eq]
    by_cases h : flt .f32 t.1 0 = true
    · simp only [if_pos h]; rfl
    · simp only [if_neg h]; rfl
  unfold m_spec_AxisOf m_impl_AxisOf
  rw [hv, isLength_eq, long_eq]
  show (if feq .f32 (m_impl_LongOf (m_impl_Turn_vector t)) 0 = true then _ else if m_spec_l01Finite (m_impl_LongOf (m_impl_Turn_vector t)) = true then _ else _) = _
  cases feq .f32 (m_impl_LongOf (m_impl_Turn_vector t)) 0 <;> cases m_spec_l01Finite (m_impl_LongOf (m_impl_Turn_vector t)) <;> rfl
theorem limit_all {t : Nat × Nat × Nat × Nat} (ht : Canon .f32 t.1) (x : Nat) : p_spec_l04Limit t x = true ∧ p_impl_LimitAngle t x = true ∧ m_spec_l04Limit t x = m_impl_LimitAngle t x := by
  obtain ⟨a1, a2, a3⟩ := angleOf_all ht
  have b1 : p_spec_l04Axis t = true := pLong _
  have b2 : p_impl_AxisOf t = true := pLongOf _
  refine ⟨?_, ?_, ?_⟩
  · unfold p_spec_l04Limit; rw [a1, b1, (about_all _ _).1]; simp
  · unfold p_impl_LimitAngle; rw [a2, b2, (about_all _ _).2.1]; simp
  · unfold m_spec_l04Limit m_impl_LimitAngle; rw [a3, axis_eq, (about_all _ _).2.2]
end Go.Proofs
namespace Go.Proofs
open Go.Ab
theorem mul_eq (a b : Nat × Nat × Nat × Nat) : m_spec_l02Mul a b = m_impl_MulTurns a b := rfl
theorem mul_canon (a b : Nat × Nat × Nat × Nat) : Canon .f32 (m_impl_MulTurns a b).1 := by
  unfold m_impl_MulTurns
  exact good_sub.canon _ _
theorem mend_eq (t : Nat × Nat × Nat × Nat) : m_spec_l02Mend t = m_impl_MendTurn t := by
  unfold m_spec_l02Mend m_impl_MendTurn
  rw [isLength_eq]
  show (if feq .f32 (m_impl_LengthOfTurn t) 0 = true then _ else if m_spec_l01Finite (m_impl_LengthOfTurn t) = true then _ else _) = _
  cases feq .f32 (m_impl_LengthOfTurn t) 0 <;> cases m_spec_l01Finite (m_impl_LengthOfTurn t) <;> rfl
theorem parts_eq (t : Nat × Nat × Nat × Nat) (v : Nat × Nat × Nat) : m_spec_l02Parts t v = m_impl_SwingAndTwist t v := by
  unfold m_spec_l02Parts m_impl_SwingAndTwist
  rw [mend_eq]
  rfl
theorem law_LimitCone (a b c d : Nat) (_ : Canon .f32 a) (_ : Canon .f32 b) (_ : Canon .f32 c) (_ : Canon .f32 d) (e f g : Nat) (_ : Canon .f32 e) (_ : Canon .f32 f) (_ : Canon .f32 g) (x : Nat) (_ : Canon .f32 x) :
    g_laws_FnExactLimitCone [.agg [.flt .f32 a, .flt .f32 b, .flt .f32 c, .flt .f32 d], .agg [.flt .f32 e, .flt .f32 f, .flt .f32 g], .flt .f32 x] = some (.bool true) := by
  have hc : Canon .f32 (m_impl_SwingAndTwist (a, b, c, d) (e, f, g)).1.1 := mul_canon _ _
  obtain ⟨k1, k2, k3⟩ := limit_all hc x
  have q1 : p_spec_l02Parts (a, b, c, d) (e, f, g) = true := sqrt_narrow _
  have q2 : p_impl_SwingAndTwist (a, b, c, d) (e, f, g) = true := sqrt_narrow _
  have h1 : p_laws_FnExactLimitCone (a, b, c, d) (e, f, g) x = true := by
    show (p_spec_LimitCone (a, b, c, d) (e, f, g) x && p_impl_LimitCone (a, b, c, d) (e, f, g) x) = true
    unfold p_spec_LimitCone p_impl_LimitCone
    rw [parts_eq, q1, q2, k1, k2]; rfl
  have h2 : m_laws_FnExactLimitCone (a, b, c, d) (e, f, g) x = true := by
    show (if (m_laws_eqTurn (m_impl_LimitCone (a, b, c, d) (e, f, g) x) (m_spec_LimitCone (a, b, c, d) (e, f, g) x)) = true then true else false) = true
    unfold m_spec_LimitCone m_impl_LimitCone
    rw [parts_eq, k3, mul_eq, eqTurn_refl]; rfl
  unfold g_laws_FnExactLimitCone
  simp [h1, h2]
end Go.Proofs
