/- What functions that FnExactLimitCone reaches compute. No conditions. -/
import Derived.Test.YtlpbpdjledpfbacFwF
import Derived.Test.YtlpbpdjledpfbacProg
import Derived.KernelRfl
set_option maxRecDepth 100000
set_option maxHeartbeats 4000000
set_option linter.all false
namespace Go.Proofs
open Go.Ab
theorem hm : Try.prog.follows .mixedOrders = true := by kernel_rfl
def m_laws_toTurn (x0 : (Nat × Nat × Nat × Nat)) : (Nat × Nat × Nat × Nat) := x0
def g_laws_toTurn : List AV → Option AV
  | [.agg [.flt .f32 y0, .flt .f32 y1, .flt .f32 y2, .flt .f32 y3]] => some (AV.agg [(.flt .f32 (m_laws_toTurn (y0, y1, y2, y3)).1), (.flt
      .f32 (m_laws_toTurn (y0, y1, y2, y3)).2.1), (.flt .f32 (m_laws_toTurn (y0, y1, y2, y3)).2.2.1), (.flt .f32 (m_laws_toTurn (y0, y1, y2, y3)).2.2.2)])
  | _ => none
def ic34 : ICode := (.seq (.reg [⟨(some 1), none, (.box 4 (.t 0))⟩, ⟨(some 2), none, (.alloc (.agg [(.flt .f32 0), (.flt .f32 0), (.flt .f32 0), (.flt .f32 0)]))⟩] [1, 2]) (.seq
      (.reg [⟨(some 3), none, (.alloc (.agg [(.flt .f32 0), (.flt .f32 0), (.flt .f32 0), (.flt .f32 0)]))⟩] [1, 2, 3]) (.seq (.reg [⟨(some 4), none, (.faddr 0 (.t 1))⟩, ⟨(some 5),
      none, (.load none (.t 4))⟩, ⟨(some 6), none, (.faddr 0 (.t 3))⟩, ⟨none, none, (.store 1 (.t 6) (.t 5))⟩] [1, 2, 3]) (.seq (.reg [⟨(some 7), none, (.faddr 1 (.t 1))⟩, ⟨(some
      8), none, (.load none (.t 7))⟩, ⟨(some 9), none, (.faddr 1 (.t 3))⟩, ⟨none, none, (.store 1 (.t 9) (.t 8))⟩] [1, 2, 3]) (.seq (.reg [⟨(some 10), none, (.faddr 2 (.t 1))⟩,
      ⟨(some 11), none, (.load none (.t 10))⟩, ⟨(some 12), none, (.faddr 2 (.t 3))⟩, ⟨none, none, (.store 1 (.t 12) (.t 11))⟩] [1, 2, 3]) (.seq (.reg [⟨(some 13), none, (.faddr 3
      (.t 1))⟩, ⟨(some 14), none, (.load none (.t 13))⟩, ⟨(some 15), none, (.faddr 3 (.t 3))⟩, ⟨none, none, (.store 1 (.t 15) (.t 14))⟩] [2, 3]) (.seq (.reg [⟨(some 16), none,
      (.load (some 4) (.t 3))⟩, ⟨none, none, (.store 4 (.t 2) (.t 16))⟩] [2]) .ret)))))))
def cp34 : CP := CP.mk [] [] [[1, 2], [1, 2, 3], [1, 2, 3], [1, 2, 3], [1, 2, 3], [2, 3], [2]] 17 [] []
theorem fc34_0 : IntKind.wrap .i64 (-1) = (-1) := by decide
theorem fc34_1 : IntKind.wrap .i64 0 = 0 := by decide
theorem fc34_2 : IntKind.wrap .i64 1 = 1 := by decide
theorem fc34_3 : IntKind.wrap .i64 10 = 10 := by decide
theorem fc34_4 : IntKind.wrap .i64 11 = 11 := by decide
theorem fc34_5 : IntKind.wrap .i64 110 = 110 := by decide
theorem fc34_6 : IntKind.wrap .i64 12 = 12 := by decide
theorem fc34_7 : IntKind.wrap .i64 13 = 13 := by decide
theorem fc34_8 : IntKind.wrap .i64 14 = 14 := by decide
theorem fc34_9 : IntKind.wrap .i64 15 = 15 := by decide
theorem fc34_10 : IntKind.wrap .i64 156 = 156 := by decide
theorem fc34_11 : IntKind.wrap .i64 16 = 16 := by decide
theorem fc34_12 : IntKind.wrap .i64 17 = 17 := by decide
theorem fc34_13 : IntKind.wrap .i64 2 = 2 := by decide
theorem fc34_14 : IntKind.wrap .i64 20 = 20 := by decide
theorem fc34_15 : IntKind.wrap .i64 210 = 210 := by decide
theorem fc34_16 : IntKind.wrap .i64 272 = 272 := by decide
theorem fc34_17 : IntKind.wrap .i64 3 = 3 := by decide
theorem fc34_18 : IntKind.wrap .i64 4 = 4 := by decide
theorem fc34_19 : IntKind.wrap .i64 42 = 42 := by decide
theorem fc34_20 : IntKind.wrap .i64 5 = 5 := by decide
theorem fc34_21 : IntKind.wrap .i64 6 = 6 := by decide
theorem fc34_22 : IntKind.wrap .i64 7 = 7 := by decide
theorem fc34_23 : IntKind.wrap .i64 72 = 72 := by decide
theorem fc34_24 : IntKind.wrap .i64 8 = 8 := by decide
theorem fc34_25 : IntKind.wrap .i64 9 = 9 := by decide
theorem s34 : ∀ vs r, g_laws_toTurn vs = some r → SaysM Try.prog .any 34 vs r := by
  intro vs r h
  unfold g_laws_toTurn at h
  split at h
  · rename_i y0 y1 y2 y3
    cases h
    refine spec_of (m := .any) (tab := tabOf []) (cp := cp34) (ic := ic34) (rvl := [(.c 2 (some 4))]) hm tabOk_nil Try.func34 rfl rfl rfl (by kernel_rfl) rfl (Nat.le_of_ble_eq_true rfl) (Nat.le_of_ble_eq_true rfl) ?_
    show eA _ _ _ _
    unfold ic34
    simp only [
        grpA, vsliceS, grpS, grpD, grpF, grpL, eop, vop, bop, uop, fltop, convop, endOk, newE, new1, freshL, Md.isNew, outV, pureV, pureX, pure1, AV.cells, AV.one, storable, laid,
              refless, refless1, vload, loadC, storeC, vnil, vfaddr, vextract, flatT, flatE, flatC, vconv, vmm, vidxA, viaddrA, vfield, vlen, elemsOf, dF32, dF64, dI64, dU8, dBool,
              dStr, esOk, elemsS, vsliceX, bnd, ownV, ownC, own1, ownT, isSl, nSl, endL, Md.isOwn, purge, purgeH, purgeB, purgeE, hasName, name1, List.any_cons, List.any_nil,
              Md.isWr, pureV.pureP, Option.map, reduceIte, Nat.reduceEqDiff, Nat.reduceAdd, Nat.reduceMul, Nat.reduceLT, Nat.reduceLeDiff, List.mapM_cons, List.mapM_nil,
              Option.pure_def, Option.bind_eq_bind, Option.bind_some, implies_true, forall_const, beq_self_eq_true, decide_true, decide_false, eq_self, Int.reduceEq, Int.reduceLE,
              Int.reduceLT, if_true, if_false, fc34_0, fc34_1, fc34_2, fc34_3, fc34_4, fc34_5, fc34_6, fc34_7, fc34_8, fc34_9, fc34_10, fc34_11, fc34_12, fc34_13, fc34_14, fc34_15,
              fc34_16, fc34_17, fc34_18, fc34_19, fc34_20, fc34_21, fc34_22, fc34_23, fc34_24, fc34_25, Int.reduceAdd, Int.reduceSub, Int.reduceMul, Int.reduceNeg, Int.reducePow,
              Nat.reducePow, Int.reduceToNat, Nat.reduceSub, List.replicate, Nat.reduceBEq, wAs, wA, wC, zipW, noDupN, grpE]
    repeat' (first
      | ((first | (refine eGI_of (fun h => ?_) (fun h => ?_)) | (refine eCc_of (fun h => ?_) (fun h => ?_))) <;> (try simp only [Bool.not_eq_true', Bool.not_eq_false'] at h) <;> simp only [h,
        grpA, vsliceS, grpS, grpD, grpF, grpL, eop, vop, bop, uop, fltop, convop, endOk, newE, new1, freshL, Md.isNew, outV, pureV, pureX, pure1, AV.cells, AV.one, storable, laid,
              refless, refless1, vload, loadC, storeC, vnil, vfaddr, vextract, flatT, flatE, flatC, vconv, vmm, vidxA, viaddrA, vfield, vlen, elemsOf, dF32, dF64, dI64, dU8, dBool,
              dStr, esOk, elemsS, vsliceX, bnd, ownV, ownC, own1, ownT, isSl, nSl, endL, Md.isOwn, purge, purgeH, purgeB, purgeE, hasName, name1, List.any_cons, List.any_nil,
              Md.isWr, pureV.pureP, Option.map, reduceIte, Nat.reduceEqDiff, Nat.reduceAdd, Nat.reduceMul, Nat.reduceLT, Nat.reduceLeDiff, List.mapM_cons, List.mapM_nil,
              Option.pure_def, Option.bind_eq_bind, Option.bind_some, implies_true, forall_const, beq_self_eq_true, decide_true, decide_false, eq_self, Int.reduceEq, Int.reduceLE,
              Int.reduceLT, if_true, if_false, fc34_0, fc34_1, fc34_2, fc34_3, fc34_4, fc34_5, fc34_6, fc34_7, fc34_8, fc34_9, fc34_10, fc34_11, fc34_12, fc34_13, fc34_14, fc34_15,
              fc34_16, fc34_17, fc34_18, fc34_19, fc34_20, fc34_21, fc34_22, fc34_23, fc34_24, fc34_25, Int.reduceAdd, Int.reduceSub, Int.reduceMul, Int.reduceNeg, Int.reducePow,
              Nat.reducePow, Int.reduceToNat, Nat.reduceSub, List.replicate, Nat.reduceBEq, wAs, wA, wC, zipW, noDupN, grpE]))
    all_goals (try simp only [*, m_laws_toTurn, Bool.and_true, Bool.true_and, Bool.and_false, Bool.false_and, Bool.or_true, Bool.true_or, Bool.or_false, Bool.false_or, Bool.not_true, Bool.not_false, Bool.false_eq_true, if_true, if_false, reduceIte, decide_true, decide_false])
    all_goals (try (simp_all; done))
  · cases h
def m_laws_toVector (x0 : (Nat × Nat × Nat)) : (Nat × Nat × Nat) := x0
def g_laws_toVector : List AV → Option AV
  | [.agg [.flt .f32 y0, .flt .f32 y1, .flt .f32 y2]] => some (AV.agg [(.flt .f32 (m_laws_toVector (y0, y1, y2)).1), (.flt .f32
      (m_laws_toVector (y0, y1, y2)).2.1), (.flt .f32 (m_laws_toVector (y0, y1, y2)).2.2)])
  | _ => none
def ic35 : ICode := (.seq (.reg [⟨(some 1), none, (.box 3 (.t 0))⟩, ⟨(some 2), none, (.alloc (.agg [(.flt .f32 0), (.flt .f32 0), (.flt .f32 0)]))⟩] [1, 2]) (.seq (.reg [⟨(some 3),
      none, (.alloc (.agg [(.flt .f32 0), (.flt .f32 0), (.flt .f32 0)]))⟩] [1, 2, 3]) (.seq (.reg [⟨(some 4), none, (.faddr 0 (.t 1))⟩, ⟨(some 5), none, (.load none (.t 4))⟩,
      ⟨(some 6), none, (.faddr 0 (.t 3))⟩, ⟨none, none, (.store 1 (.t 6) (.t 5))⟩] [1, 2, 3]) (.seq (.reg [⟨(some 7), none, (.faddr 1 (.t 1))⟩, ⟨(some 8), none, (.load none (.t
      7))⟩, ⟨(some 9), none, (.faddr 1 (.t 3))⟩, ⟨none, none, (.store 1 (.t 9) (.t 8))⟩] [1, 2, 3]) (.seq (.reg [⟨(some 10), none, (.faddr 2 (.t 1))⟩, ⟨(some 11), none, (.load none
      (.t 10))⟩, ⟨(some 12), none, (.faddr 2 (.t 3))⟩, ⟨none, none, (.store 1 (.t 12) (.t 11))⟩] [2, 3]) (.seq (.reg [⟨(some 13), none, (.load (some 3) (.t 3))⟩, ⟨none, none,
      (.store 3 (.t 2) (.t 13))⟩] [2]) .ret))))))
def cp35 : CP := CP.mk [] [] [[1, 2], [1, 2, 3], [1, 2, 3], [1, 2, 3], [2, 3], [2]] 14 [] []
theorem fc35_0 : IntKind.wrap .i64 (-1) = (-1) := by decide
theorem fc35_1 : IntKind.wrap .i64 0 = 0 := by decide
theorem fc35_2 : IntKind.wrap .i64 1 = 1 := by decide
theorem fc35_3 : IntKind.wrap .i64 10 = 10 := by decide
theorem fc35_4 : IntKind.wrap .i64 11 = 11 := by decide
theorem fc35_5 : IntKind.wrap .i64 110 = 110 := by decide
theorem fc35_6 : IntKind.wrap .i64 12 = 12 := by decide
theorem fc35_7 : IntKind.wrap .i64 13 = 13 := by decide
theorem fc35_8 : IntKind.wrap .i64 14 = 14 := by decide
theorem fc35_9 : IntKind.wrap .i64 15 = 15 := by decide
theorem fc35_10 : IntKind.wrap .i64 156 = 156 := by decide
theorem fc35_11 : IntKind.wrap .i64 16 = 16 := by decide
theorem fc35_12 : IntKind.wrap .i64 17 = 17 := by decide
theorem fc35_13 : IntKind.wrap .i64 2 = 2 := by decide
theorem fc35_14 : IntKind.wrap .i64 20 = 20 := by decide
theorem fc35_15 : IntKind.wrap .i64 210 = 210 := by decide
theorem fc35_16 : IntKind.wrap .i64 272 = 272 := by decide
theorem fc35_17 : IntKind.wrap .i64 3 = 3 := by decide
theorem fc35_18 : IntKind.wrap .i64 4 = 4 := by decide
theorem fc35_19 : IntKind.wrap .i64 42 = 42 := by decide
theorem fc35_20 : IntKind.wrap .i64 5 = 5 := by decide
theorem fc35_21 : IntKind.wrap .i64 6 = 6 := by decide
theorem fc35_22 : IntKind.wrap .i64 7 = 7 := by decide
theorem fc35_23 : IntKind.wrap .i64 72 = 72 := by decide
theorem fc35_24 : IntKind.wrap .i64 8 = 8 := by decide
theorem fc35_25 : IntKind.wrap .i64 9 = 9 := by decide
theorem s35 : ∀ vs r, g_laws_toVector vs = some r → SaysM Try.prog .any 35 vs r := by
  intro vs r h
  unfold g_laws_toVector at h
  split at h
  · rename_i y0 y1 y2
    cases h
    refine spec_of (m := .any) (tab := tabOf []) (cp := cp35) (ic := ic35) (rvl := [(.c 2 (some 3))]) hm tabOk_nil Try.func35 rfl rfl rfl (by kernel_rfl) rfl (Nat.le_of_ble_eq_true rfl) (Nat.le_of_ble_eq_true rfl) ?_
    show eA _ _ _ _
    unfold ic35
    simp only [
        grpA, vsliceS, grpS, grpD, grpF, grpL, eop, vop, bop, uop, fltop, convop, endOk, newE, new1, freshL, Md.isNew, outV, pureV, pureX, pure1, AV.cells, AV.one, storable, laid,
              refless, refless1, vload, loadC, storeC, vnil, vfaddr, vextract, flatT, flatE, flatC, vconv, vmm, vidxA, viaddrA, vfield, vlen, elemsOf, dF32, dF64, dI64, dU8, dBool,
              dStr, esOk, elemsS, vsliceX, bnd, ownV, ownC, own1, ownT, isSl, nSl, endL, Md.isOwn, purge, purgeH, purgeB, purgeE, hasName, name1, List.any_cons, List.any_nil,
              Md.isWr, pureV.pureP, Option.map, reduceIte, Nat.reduceEqDiff, Nat.reduceAdd, Nat.reduceMul, Nat.reduceLT, Nat.reduceLeDiff, List.mapM_cons, List.mapM_nil,
              Option.pure_def, Option.bind_eq_bind, Option.bind_some, implies_true, forall_const, beq_self_eq_true, decide_true, decide_false, eq_self, Int.reduceEq, Int.reduceLE,
              Int.reduceLT, if_true, if_false, fc35_0, fc35_1, fc35_2, fc35_3, fc35_4, fc35_5, fc35_6, fc35_7, fc35_8, fc35_9, fc35_10, fc35_11, fc35_12, fc35_13, fc35_14, fc35_15,
              fc35_16, fc35_17, fc35_18, fc35_19, fc35_20, fc35_21, fc35_22, fc35_23, fc35_24, fc35_25, Int.reduceAdd, Int.reduceSub, Int.reduceMul, Int.reduceNeg, Int.reducePow,
              Nat.reducePow, Int.reduceToNat, Nat.reduceSub, List.replicate, Nat.reduceBEq, wAs, wA, wC, zipW, noDupN, grpE]
    repeat' (first
      | ((first | (refine eGI_of (fun h => ?_) (fun h => ?_)) | (refine eCc_of (fun h => ?_) (fun h => ?_))) <;> (try simp only [Bool.not_eq_true', Bool.not_eq_false'] at h) <;> simp only [h,
        grpA, vsliceS, grpS, grpD, grpF, grpL, eop, vop, bop, uop, fltop, convop, endOk, newE, new1, freshL, Md.isNew, outV, pureV, pureX, pure1, AV.cells, AV.one, storable, laid,
              refless, refless1, vload, loadC, storeC, vnil, vfaddr, vextract, flatT, flatE, flatC, vconv, vmm, vidxA, viaddrA, vfield, vlen, elemsOf, dF32, dF64, dI64, dU8, dBool,
              dStr, esOk, elemsS, vsliceX, bnd, ownV, ownC, own1, ownT, isSl, nSl, endL, Md.isOwn, purge, purgeH, purgeB, purgeE, hasName, name1, List.any_cons, List.any_nil,
              Md.isWr, pureV.pureP, Option.map, reduceIte, Nat.reduceEqDiff, Nat.reduceAdd, Nat.reduceMul, Nat.reduceLT, Nat.reduceLeDiff, List.mapM_cons, List.mapM_nil,
              Option.pure_def, Option.bind_eq_bind, Option.bind_some, implies_true, forall_const, beq_self_eq_true, decide_true, decide_false, eq_self, Int.reduceEq, Int.reduceLE,
              Int.reduceLT, if_true, if_false, fc35_0, fc35_1, fc35_2, fc35_3, fc35_4, fc35_5, fc35_6, fc35_7, fc35_8, fc35_9, fc35_10, fc35_11, fc35_12, fc35_13, fc35_14, fc35_15,
              fc35_16, fc35_17, fc35_18, fc35_19, fc35_20, fc35_21, fc35_22, fc35_23, fc35_24, fc35_25, Int.reduceAdd, Int.reduceSub, Int.reduceMul, Int.reduceNeg, Int.reducePow,
              Nat.reducePow, Int.reduceToNat, Nat.reduceSub, List.replicate, Nat.reduceBEq, wAs, wA, wC, zipW, noDupN, grpE]))
    all_goals (try simp only [*, m_laws_toVector, Bool.and_true, Bool.true_and, Bool.and_false, Bool.false_and, Bool.or_true, Bool.true_or, Bool.or_false, Bool.false_or, Bool.not_true, Bool.not_false, Bool.false_eq_true, if_true, if_false, reduceIte, decide_true, decide_false])
    all_goals (try (simp_all; done))
  · cases h
def m_spec_l02Axis (x0 : (Nat × Nat × Nat × Nat)) : (Nat × Nat × Nat) := x0.2
def g_spec_l02Axis : List AV → Option AV
  | [.agg [.flt .f32 y0, .flt .f32 y1, .flt .f32 y2, .flt .f32 y3]] => some (AV.agg [(.flt .f32 (m_spec_l02Axis (y0, y1, y2, y3)).1), (.flt
      .f32 (m_spec_l02Axis (y0, y1, y2, y3)).2.1), (.flt .f32 (m_spec_l02Axis (y0, y1, y2, y3)).2.2)])
  | _ => none
def ic119 : ICode := (.seq (.reg [⟨(some 1), none, (.box 4 (.t 0))⟩, ⟨(some 2), none, (.alloc (.agg [(.flt .f32 0), (.flt .f32 0), (.flt .f32 0)]))⟩] [1, 2]) (.seq (.reg [⟨(some 3),
      none, (.faddr 1 (.t 1))⟩, ⟨(some 4), none, (.load none (.t 3))⟩, ⟨(some 5), none, (.faddr 2 (.t 1))⟩, ⟨(some 6), none, (.load none (.t 5))⟩, ⟨(some 7), none, (.faddr 3 (.t
      1))⟩, ⟨(some 8), none, (.load none (.t 7))⟩, ⟨(some 9), none, (.build [(.flt .f32 0), (.flt .f32 0), (.flt .f32 0)] [(0, 1, (.t 4)), (1, 1, (.t 6)), (2, 1, (.t 8))])⟩, ⟨none,
      none, (.store 3 (.t 2) (.t 9))⟩] [2]) .ret))
def cp119 : CP := CP.mk [] [] [[1, 2], [2]] 10 [] []
theorem fc119_0 : IntKind.wrap .i64 (-1) = (-1) := by decide
theorem fc119_1 : IntKind.wrap .i64 0 = 0 := by decide
theorem fc119_2 : IntKind.wrap .i64 1 = 1 := by decide
theorem fc119_3 : IntKind.wrap .i64 10 = 10 := by decide
theorem fc119_4 : IntKind.wrap .i64 11 = 11 := by decide
theorem fc119_5 : IntKind.wrap .i64 110 = 110 := by decide
theorem fc119_6 : IntKind.wrap .i64 12 = 12 := by decide
theorem fc119_7 : IntKind.wrap .i64 13 = 13 := by decide
theorem fc119_8 : IntKind.wrap .i64 14 = 14 := by decide
theorem fc119_9 : IntKind.wrap .i64 15 = 15 := by decide
theorem fc119_10 : IntKind.wrap .i64 156 = 156 := by decide
theorem fc119_11 : IntKind.wrap .i64 16 = 16 := by decide
theorem fc119_12 : IntKind.wrap .i64 17 = 17 := by decide
theorem fc119_13 : IntKind.wrap .i64 2 = 2 := by decide
theorem fc119_14 : IntKind.wrap .i64 20 = 20 := by decide
theorem fc119_15 : IntKind.wrap .i64 210 = 210 := by decide
theorem fc119_16 : IntKind.wrap .i64 272 = 272 := by decide
theorem fc119_17 : IntKind.wrap .i64 3 = 3 := by decide
theorem fc119_18 : IntKind.wrap .i64 4 = 4 := by decide
theorem fc119_19 : IntKind.wrap .i64 42 = 42 := by decide
theorem fc119_20 : IntKind.wrap .i64 5 = 5 := by decide
theorem fc119_21 : IntKind.wrap .i64 6 = 6 := by decide
theorem fc119_22 : IntKind.wrap .i64 7 = 7 := by decide
theorem fc119_23 : IntKind.wrap .i64 72 = 72 := by decide
theorem fc119_24 : IntKind.wrap .i64 8 = 8 := by decide
theorem fc119_25 : IntKind.wrap .i64 9 = 9 := by decide
theorem s119 : ∀ vs r, g_spec_l02Axis vs = some r → SaysM Try.prog .any 119 vs r := by
  intro vs r h
  unfold g_spec_l02Axis at h
  split at h
  · rename_i y0 y1 y2 y3
    cases h
    refine spec_of (m := .any) (tab := tabOf []) (cp := cp119) (ic := ic119) (rvl := [(.c 2 (some 3))]) hm tabOk_nil Try.func119 rfl rfl rfl (by kernel_rfl) rfl (Nat.le_of_ble_eq_true rfl) (Nat.le_of_ble_eq_true rfl) ?_
    show eA _ _ _ _
    unfold ic119
    simp only [
        grpA, vsliceS, grpS, grpD, grpF, grpL, eop, vop, bop, uop, fltop, convop, endOk, newE, new1, freshL, Md.isNew, outV, pureV, pureX, pure1, AV.cells, AV.one, storable, laid,
              refless, refless1, vload, loadC, storeC, vnil, vfaddr, vextract, flatT, flatE, flatC, vconv, vmm, vidxA, viaddrA, vfield, vlen, elemsOf, dF32, dF64, dI64, dU8, dBool,
              dStr, esOk, elemsS, vsliceX, bnd, ownV, ownC, own1, ownT, isSl, nSl, endL, Md.isOwn, purge, purgeH, purgeB, purgeE, hasName, name1, List.any_cons, List.any_nil,
              Md.isWr, pureV.pureP, Option.map, reduceIte, Nat.reduceEqDiff, Nat.reduceAdd, Nat.reduceMul, Nat.reduceLT, Nat.reduceLeDiff, List.mapM_cons, List.mapM_nil,
              Option.pure_def, Option.bind_eq_bind, Option.bind_some, implies_true, forall_const, beq_self_eq_true, decide_true, decide_false, eq_self, Int.reduceEq, Int.reduceLE,
              Int.reduceLT, if_true, if_false, fc119_0, fc119_1, fc119_2, fc119_3, fc119_4, fc119_5, fc119_6, fc119_7, fc119_8, fc119_9, fc119_10, fc119_11, fc119_12, fc119_13,
              fc119_14, fc119_15, fc119_16, fc119_17, fc119_18, fc119_19, fc119_20, fc119_21, fc119_22, fc119_23, fc119_24, fc119_25, Int.reduceAdd, Int.reduceSub, Int.reduceMul,
              Int.reduceNeg, Int.reducePow, Nat.reducePow, Int.reduceToNat, Nat.reduceSub, List.replicate, Nat.reduceBEq, wAs, wA, wC, zipW, noDupN, grpE]
    repeat' (first
      | ((first | (refine eGI_of (fun h => ?_) (fun h => ?_)) | (refine eCc_of (fun h => ?_) (fun h => ?_))) <;> (try simp only [Bool.not_eq_true', Bool.not_eq_false'] at h) <;> simp only [h,
        grpA, vsliceS, grpS, grpD, grpF, grpL, eop, vop, bop, uop, fltop, convop, endOk, newE, new1, freshL, Md.isNew, outV, pureV, pureX, pure1, AV.cells, AV.one, storable, laid,
              refless, refless1, vload, loadC, storeC, vnil, vfaddr, vextract, flatT, flatE, flatC, vconv, vmm, vidxA, viaddrA, vfield, vlen, elemsOf, dF32, dF64, dI64, dU8, dBool,
              dStr, esOk, elemsS, vsliceX, bnd, ownV, ownC, own1, ownT, isSl, nSl, endL, Md.isOwn, purge, purgeH, purgeB, purgeE, hasName, name1, List.any_cons, List.any_nil,
              Md.isWr, pureV.pureP, Option.map, reduceIte, Nat.reduceEqDiff, Nat.reduceAdd, Nat.reduceMul, Nat.reduceLT, Nat.reduceLeDiff, List.mapM_cons, List.mapM_nil,
              Option.pure_def, Option.bind_eq_bind, Option.bind_some, implies_true, forall_const, beq_self_eq_true, decide_true, decide_false, eq_self, Int.reduceEq, Int.reduceLE,
              Int.reduceLT, if_true, if_false, fc119_0, fc119_1, fc119_2, fc119_3, fc119_4, fc119_5, fc119_6, fc119_7, fc119_8, fc119_9, fc119_10, fc119_11, fc119_12, fc119_13,
              fc119_14, fc119_15, fc119_16, fc119_17, fc119_18, fc119_19, fc119_20, fc119_21, fc119_22, fc119_23, fc119_24, fc119_25, Int.reduceAdd, Int.reduceSub, Int.reduceMul,
              Int.reduceNeg, Int.reducePow, Nat.reducePow, Int.reduceToNat, Nat.reduceSub, List.replicate, Nat.reduceBEq, wAs, wA, wC, zipW, noDupN, grpE]))
    all_goals (try simp only [*, m_spec_l02Axis, Bool.and_true, Bool.true_and, Bool.and_false, Bool.false_and, Bool.or_true, Bool.true_or, Bool.or_false, Bool.false_or, Bool.not_true, Bool.not_false, Bool.false_eq_true, if_true, if_false, reduceIte, decide_true, decide_false])
    all_goals (try (simp_all; done))
  · cases h
def m_spec_l01Inner (x0 : (Nat × Nat × Nat)) (x1 : (Nat × Nat × Nat)) : Nat := (fadd .f32 (fadd .f32 (fmul .f32 x0.1 x1.1) (fmul .f32 x0.2.1 x1.2.1)) (fmul .f32 x0.2.2 x1.2.2))
def g_spec_l01Inner : List AV → Option AV
  | [.agg [.flt .f32 y0, .flt .f32 y1, .flt .f32 y2], .agg [.flt .f32 y3, .flt .f32 y4, .flt .f32 y5]] => some (.flt .f32 (m_spec_l01Inner
      (y0, y1, y2) (y3, y4, y5)))
  | _ => none
def ic118 : ICode := (.seq (.reg [⟨(some 2), none, (.box 3 (.t 0))⟩, ⟨(some 3), none, (.box 3 (.t 1))⟩, ⟨(some 4), none, (.mov (.c (.flt .f32 0)))⟩] [2, 3]) (.seq (.reg [⟨(some 5),
      none, (.faddr 0 (.t 2))⟩, ⟨(some 6), none, (.load none (.t 5))⟩, ⟨(some 7), none, (.faddr 0 (.t 3))⟩, ⟨(some 8), none, (.load none (.t 7))⟩, ⟨(some 9), none, (.bin .mul false
      (.t 6) (.t 8))⟩, ⟨(some 10), none, (.faddr 1 (.t 2))⟩, ⟨(some 11), none, (.load none (.t 10))⟩, ⟨(some 12), none, (.faddr 1 (.t 3))⟩, ⟨(some 13), none, (.load none (.t 12))⟩,
      ⟨(some 14), none, (.bin .mul false (.t 11) (.t 13))⟩, ⟨(some 15), none, (.bin .add false (.t 9) (.t 14))⟩, ⟨(some 16), none, (.faddr 2 (.t 2))⟩, ⟨(some 17), none, (.load none
      (.t 16))⟩, ⟨(some 18), none, (.faddr 2 (.t 3))⟩, ⟨(some 19), none, (.load none (.t 18))⟩, ⟨(some 20), none, (.bin .mul false (.t 17) (.t 19))⟩, ⟨(some 21), none, (.bin .add
      false (.t 15) (.t 20))⟩, ⟨(some 4), none, (.mov (.t 21))⟩] [4]) .ret))
def cp118 : CP := CP.mk [] [] [[2, 3], [4]] 22 [] []
theorem fc118_0 : IntKind.wrap .i64 (-1) = (-1) := by decide
theorem fc118_1 : IntKind.wrap .i64 0 = 0 := by decide
theorem fc118_2 : IntKind.wrap .i64 1 = 1 := by decide
theorem fc118_3 : IntKind.wrap .i64 10 = 10 := by decide
theorem fc118_4 : IntKind.wrap .i64 11 = 11 := by decide
theorem fc118_5 : IntKind.wrap .i64 110 = 110 := by decide
theorem fc118_6 : IntKind.wrap .i64 12 = 12 := by decide
theorem fc118_7 : IntKind.wrap .i64 13 = 13 := by decide
theorem fc118_8 : IntKind.wrap .i64 14 = 14 := by decide
theorem fc118_9 : IntKind.wrap .i64 15 = 15 := by decide
theorem fc118_10 : IntKind.wrap .i64 156 = 156 := by decide
theorem fc118_11 : IntKind.wrap .i64 16 = 16 := by decide
theorem fc118_12 : IntKind.wrap .i64 17 = 17 := by decide
theorem fc118_13 : IntKind.wrap .i64 2 = 2 := by decide
theorem fc118_14 : IntKind.wrap .i64 20 = 20 := by decide
theorem fc118_15 : IntKind.wrap .i64 210 = 210 := by decide
theorem fc118_16 : IntKind.wrap .i64 272 = 272 := by decide
theorem fc118_17 : IntKind.wrap .i64 3 = 3 := by decide
theorem fc118_18 : IntKind.wrap .i64 4 = 4 := by decide
theorem fc118_19 : IntKind.wrap .i64 42 = 42 := by decide
theorem fc118_20 : IntKind.wrap .i64 5 = 5 := by decide
theorem fc118_21 : IntKind.wrap .i64 6 = 6 := by decide
theorem fc118_22 : IntKind.wrap .i64 7 = 7 := by decide
theorem fc118_23 : IntKind.wrap .i64 72 = 72 := by decide
theorem fc118_24 : IntKind.wrap .i64 8 = 8 := by decide
theorem fc118_25 : IntKind.wrap .i64 9 = 9 := by decide
theorem s118 : ∀ vs r, g_spec_l01Inner vs = some r → SaysM Try.prog .any 118 vs r := by
  intro vs r h
  unfold g_spec_l01Inner at h
  split at h
  · rename_i y0 y1 y2 y3 y4 y5
    cases h
    refine spec_of (m := .any) (tab := tabOf []) (cp := cp118) (ic := ic118) (rvl := [(.t 4)]) hm tabOk_nil Try.func118 rfl rfl rfl (by kernel_rfl) rfl (Nat.le_of_ble_eq_true rfl) (Nat.le_of_ble_eq_true rfl) ?_
    show eA _ _ _ _
    unfold ic118
    simp only [
        grpA, vsliceS, grpS, grpD, grpF, grpL, eop, vop, bop, uop, fltop, convop, endOk, newE, new1, freshL, Md.isNew, outV, pureV, pureX, pure1, AV.cells, AV.one, storable, laid,
              refless, refless1, vload, loadC, storeC, vnil, vfaddr, vextract, flatT, flatE, flatC, vconv, vmm, vidxA, viaddrA, vfield, vlen, elemsOf, dF32, dF64, dI64, dU8, dBool,
              dStr, esOk, elemsS, vsliceX, bnd, ownV, ownC, own1, ownT, isSl, nSl, endL, Md.isOwn, purge, purgeH, purgeB, purgeE, hasName, name1, List.any_cons, List.any_nil,
              Md.isWr, pureV.pureP, Option.map, reduceIte, Nat.reduceEqDiff, Nat.reduceAdd, Nat.reduceMul, Nat.reduceLT, Nat.reduceLeDiff, List.mapM_cons, List.mapM_nil,
              Option.pure_def, Option.bind_eq_bind, Option.bind_some, implies_true, forall_const, beq_self_eq_true, decide_true, decide_false, eq_self, Int.reduceEq, Int.reduceLE,
              Int.reduceLT, if_true, if_false, fc118_0, fc118_1, fc118_2, fc118_3, fc118_4, fc118_5, fc118_6, fc118_7, fc118_8, fc118_9, fc118_10, fc118_11, fc118_12, fc118_13,
              fc118_14, fc118_15, fc118_16, fc118_17, fc118_18, fc118_19, fc118_20, fc118_21, fc118_22, fc118_23, fc118_24, fc118_25, Int.reduceAdd, Int.reduceSub, Int.reduceMul,
              Int.reduceNeg, Int.reducePow, Nat.reducePow, Int.reduceToNat, Nat.reduceSub, List.replicate, Nat.reduceBEq, wAs, wA, wC, zipW, noDupN, grpE]
    repeat' (first
      | ((first | (refine eGI_of (fun h => ?_) (fun h => ?_)) | (refine eCc_of (fun h => ?_) (fun h => ?_))) <;> (try simp only [Bool.not_eq_true', Bool.not_eq_false'] at h) <;> simp only [h,
        grpA, vsliceS, grpS, grpD, grpF, grpL, eop, vop, bop, uop, fltop, convop, endOk, newE, new1, freshL, Md.isNew, outV, pureV, pureX, pure1, AV.cells, AV.one, storable, laid,
              refless, refless1, vload, loadC, storeC, vnil, vfaddr, vextract, flatT, flatE, flatC, vconv, vmm, vidxA, viaddrA, vfield, vlen, elemsOf, dF32, dF64, dI64, dU8, dBool,
              dStr, esOk, elemsS, vsliceX, bnd, ownV, ownC, own1, ownT, isSl, nSl, endL, Md.isOwn, purge, purgeH, purgeB, purgeE, hasName, name1, List.any_cons, List.any_nil,
              Md.isWr, pureV.pureP, Option.map, reduceIte, Nat.reduceEqDiff, Nat.reduceAdd, Nat.reduceMul, Nat.reduceLT, Nat.reduceLeDiff, List.mapM_cons, List.mapM_nil,
              Option.pure_def, Option.bind_eq_bind, Option.bind_some, implies_true, forall_const, beq_self_eq_true, decide_true, decide_false, eq_self, Int.reduceEq, Int.reduceLE,
              Int.reduceLT, if_true, if_false, fc118_0, fc118_1, fc118_2, fc118_3, fc118_4, fc118_5, fc118_6, fc118_7, fc118_8, fc118_9, fc118_10, fc118_11, fc118_12, fc118_13,
              fc118_14, fc118_15, fc118_16, fc118_17, fc118_18, fc118_19, fc118_20, fc118_21, fc118_22, fc118_23, fc118_24, fc118_25, Int.reduceAdd, Int.reduceSub, Int.reduceMul,
              Int.reduceNeg, Int.reducePow, Nat.reducePow, Int.reduceToNat, Nat.reduceSub, List.replicate, Nat.reduceBEq, wAs, wA, wC, zipW, noDupN, grpE]))
    all_goals (try simp only [*, m_spec_l01Inner, Bool.and_true, Bool.true_and, Bool.and_false, Bool.false_and, Bool.or_true, Bool.true_or, Bool.or_false, Bool.false_or, Bool.not_true, Bool.not_false, Bool.false_eq_true, if_true, if_false, reduceIte, decide_true, decide_false])
    all_goals (try (simp_all; done))
  · cases h
def m_spec_l01Scale (x0 : (Nat × Nat × Nat)) (x1 : Nat) : (Nat × Nat × Nat) := ((fmul .f32 x0.1 x1), (fmul .f32 x0.2.1 x1), (fmul .f32 x0.2.2 x1))
def g_spec_l01Scale : List AV → Option AV
  | [.agg [.flt .f32 y0, .flt .f32 y1, .flt .f32 y2], .flt .f32 y3] => some (AV.agg [(.flt .f32 (m_spec_l01Scale (y0, y1, y2) y3).1), (.flt
      .f32 (m_spec_l01Scale (y0, y1, y2) y3).2.1), (.flt .f32 (m_spec_l01Scale (y0, y1, y2) y3).2.2)])
  | _ => none
def ic53 : ICode := (.seq (.reg [⟨(some 2), none, (.box 3 (.t 0))⟩, ⟨(some 4), none, (.alloc (.agg [(.flt .f32 0), (.flt .f32 0), (.flt .f32 0)]))⟩] [1, 2, 4]) (.seq (.reg [⟨(some
      5), none, (.faddr 0 (.t 2))⟩, ⟨(some 6), none, (.load none (.t 5))⟩, ⟨(some 7), none, (.mov (.t 1))⟩, ⟨(some 8), none, (.bin .mul false (.t 6) (.t 7))⟩, ⟨(some 9), none,
      (.faddr 1 (.t 2))⟩, ⟨(some 10), none, (.load none (.t 9))⟩, ⟨(some 11), none, (.mov (.t 1))⟩, ⟨(some 12), none, (.bin .mul false (.t 10) (.t 11))⟩, ⟨(some 13), none, (.faddr 2
      (.t 2))⟩, ⟨(some 14), none, (.load none (.t 13))⟩, ⟨(some 15), none, (.mov (.t 1))⟩, ⟨(some 16), none, (.bin .mul false (.t 14) (.t 15))⟩, ⟨(some 17), none, (.build [(.flt
      .f32 0), (.flt .f32 0), (.flt .f32 0)] [(0, 1, (.t 8)), (1, 1, (.t 12)), (2, 1, (.t 16))])⟩, ⟨none, none, (.store 3 (.t 4) (.t 17))⟩] [4]) .ret))
def cp53 : CP := CP.mk [] [] [[1, 2, 4], [4]] 18 [] []
theorem fc53_0 : IntKind.wrap .i64 (-1) = (-1) := by decide
theorem fc53_1 : IntKind.wrap .i64 0 = 0 := by decide
theorem fc53_2 : IntKind.wrap .i64 1 = 1 := by decide
theorem fc53_3 : IntKind.wrap .i64 10 = 10 := by decide
theorem fc53_4 : IntKind.wrap .i64 11 = 11 := by decide
theorem fc53_5 : IntKind.wrap .i64 110 = 110 := by decide
theorem fc53_6 : IntKind.wrap .i64 12 = 12 := by decide
theorem fc53_7 : IntKind.wrap .i64 13 = 13 := by decide
theorem fc53_8 : IntKind.wrap .i64 14 = 14 := by decide
theorem fc53_9 : IntKind.wrap .i64 15 = 15 := by decide
theorem fc53_10 : IntKind.wrap .i64 156 = 156 := by decide
theorem fc53_11 : IntKind.wrap .i64 16 = 16 := by decide
theorem fc53_12 : IntKind.wrap .i64 17 = 17 := by decide
theorem fc53_13 : IntKind.wrap .i64 2 = 2 := by decide
theorem fc53_14 : IntKind.wrap .i64 20 = 20 := by decide
theorem fc53_15 : IntKind.wrap .i64 210 = 210 := by decide
theorem fc53_16 : IntKind.wrap .i64 272 = 272 := by decide
theorem fc53_17 : IntKind.wrap .i64 3 = 3 := by decide
theorem fc53_18 : IntKind.wrap .i64 4 = 4 := by decide
theorem fc53_19 : IntKind.wrap .i64 42 = 42 := by decide
theorem fc53_20 : IntKind.wrap .i64 5 = 5 := by decide
theorem fc53_21 : IntKind.wrap .i64 6 = 6 := by decide
theorem fc53_22 : IntKind.wrap .i64 7 = 7 := by decide
theorem fc53_23 : IntKind.wrap .i64 72 = 72 := by decide
theorem fc53_24 : IntKind.wrap .i64 8 = 8 := by decide
theorem fc53_25 : IntKind.wrap .i64 9 = 9 := by decide
theorem s53 : ∀ vs r, g_spec_l01Scale vs = some r → SaysM Try.prog .any 53 vs r := by
  intro vs r h
  unfold g_spec_l01Scale at h
  split at h
  · rename_i y0 y1 y2 y3
    cases h
    refine spec_of (m := .any) (tab := tabOf []) (cp := cp53) (ic := ic53) (rvl := [(.c 4 (some 3))]) hm tabOk_nil Try.func53 rfl rfl rfl (by kernel_rfl) rfl (Nat.le_of_ble_eq_true rfl) (Nat.le_of_ble_eq_true rfl) ?_
    show eA _ _ _ _
    unfold ic53
    simp only [
        grpA, vsliceS, grpS, grpD, grpF, grpL, eop, vop, bop, uop, fltop, convop, endOk, newE, new1, freshL, Md.isNew, outV, pureV, pureX, pure1, AV.cells, AV.one, storable, laid,
              refless, refless1, vload, loadC, storeC, vnil, vfaddr, vextract, flatT, flatE, flatC, vconv, vmm, vidxA, viaddrA, vfield, vlen, elemsOf, dF32, dF64, dI64, dU8, dBool,
              dStr, esOk, elemsS, vsliceX, bnd, ownV, ownC, own1, ownT, isSl, nSl, endL, Md.isOwn, purge, purgeH, purgeB, purgeE, hasName, name1, List.any_cons, List.any_nil,
              Md.isWr, pureV.pureP, Option.map, reduceIte, Nat.reduceEqDiff, Nat.reduceAdd, Nat.reduceMul, Nat.reduceLT, Nat.reduceLeDiff, List.mapM_cons, List.mapM_nil,
              Option.pure_def, Option.bind_eq_bind, Option.bind_some, implies_true, forall_const, beq_self_eq_true, decide_true, decide_false, eq_self, Int.reduceEq, Int.reduceLE,
              Int.reduceLT, if_true, if_false, fc53_0, fc53_1, fc53_2, fc53_3, fc53_4, fc53_5, fc53_6, fc53_7, fc53_8, fc53_9, fc53_10, fc53_11, fc53_12, fc53_13, fc53_14, fc53_15,
              fc53_16, fc53_17, fc53_18, fc53_19, fc53_20, fc53_21, fc53_22, fc53_23, fc53_24, fc53_25, Int.reduceAdd, Int.reduceSub, Int.reduceMul, Int.reduceNeg, Int.reducePow,
              Nat.reducePow, Int.reduceToNat, Nat.reduceSub, List.replicate, Nat.reduceBEq, wAs, wA, wC, zipW, noDupN, grpE]
    repeat' (first
      | ((first | (refine eGI_of (fun h => ?_) (fun h => ?_)) | (refine eCc_of (fun h => ?_) (fun h => ?_))) <;> (try simp only [Bool.not_eq_true', Bool.not_eq_false'] at h) <;> simp only [h,
        grpA, vsliceS, grpS, grpD, grpF, grpL, eop, vop, bop, uop, fltop, convop, endOk, newE, new1, freshL, Md.isNew, outV, pureV, pureX, pure1, AV.cells, AV.one, storable, laid,
              refless, refless1, vload, loadC, storeC, vnil, vfaddr, vextract, flatT, flatE, flatC, vconv, vmm, vidxA, viaddrA, vfield, vlen, elemsOf, dF32, dF64, dI64, dU8, dBool,
              dStr, esOk, elemsS, vsliceX, bnd, ownV, ownC, own1, ownT, isSl, nSl, endL, Md.isOwn, purge, purgeH, purgeB, purgeE, hasName, name1, List.any_cons, List.any_nil,
              Md.isWr, pureV.pureP, Option.map, reduceIte, Nat.reduceEqDiff, Nat.reduceAdd, Nat.reduceMul, Nat.reduceLT, Nat.reduceLeDiff, List.mapM_cons, List.mapM_nil,
              Option.pure_def, Option.bind_eq_bind, Option.bind_some, implies_true, forall_const, beq_self_eq_true, decide_true, decide_false, eq_self, Int.reduceEq, Int.reduceLE,
              Int.reduceLT, if_true, if_false, fc53_0, fc53_1, fc53_2, fc53_3, fc53_4, fc53_5, fc53_6, fc53_7, fc53_8, fc53_9, fc53_10, fc53_11, fc53_12, fc53_13, fc53_14, fc53_15,
              fc53_16, fc53_17, fc53_18, fc53_19, fc53_20, fc53_21, fc53_22, fc53_23, fc53_24, fc53_25, Int.reduceAdd, Int.reduceSub, Int.reduceMul, Int.reduceNeg, Int.reducePow,
              Nat.reducePow, Int.reduceToNat, Nat.reduceSub, List.replicate, Nat.reduceBEq, wAs, wA, wC, zipW, noDupN, grpE]))
    all_goals (try simp only [*, m_spec_l01Scale, Bool.and_true, Bool.true_and, Bool.and_false, Bool.false_and, Bool.or_true, Bool.true_or, Bool.or_false, Bool.false_or, Bool.not_true, Bool.not_false, Bool.false_eq_true, if_true, if_false, reduceIte, decide_true, decide_false])
    all_goals (try (simp_all; done))
  · cases h
def m_spec_l02Inner (x0 : (Nat × Nat × Nat × Nat)) (x1 : (Nat × Nat × Nat × Nat)) : Nat := (fadd .f32 (fadd .f32 (fadd .f32 (fmul .f32 x0.1 x1.1) (fmul .f32 x0.2.1 x1.2.1)) (fmul
      .f32 x0.2.2.1 x1.2.2.1)) (fmul .f32 x0.2.2.2 x1.2.2.2))
def g_spec_l02Inner : List AV → Option AV
  | [.agg [.flt .f32 y0, .flt .f32 y1, .flt .f32 y2, .flt .f32 y3], .agg [.flt .f32 y4, .flt .f32 y5, .flt .f32 y6, .flt .f32 y7]] => some
      (.flt .f32 (m_spec_l02Inner (y0, y1, y2, y3) (y4, y5, y6, y7)))
  | _ => none
def ic164 : ICode := (.seq (.reg [⟨(some 2), none, (.box 4 (.t 0))⟩, ⟨(some 3), none, (.box 4 (.t 1))⟩, ⟨(some 4), none, (.mov (.c (.flt .f32 0)))⟩] [2, 3]) (.seq (.reg [⟨(some 6),
      none, (.faddr 0 (.t 2))⟩, ⟨(some 7), none, (.load none (.t 6))⟩, ⟨(some 8), none, (.faddr 0 (.t 3))⟩, ⟨(some 9), none, (.load none (.t 8))⟩, ⟨(some 10), none, (.bin .mul false
      (.t 7) (.t 9))⟩, ⟨(some 11), none, (.faddr 1 (.t 2))⟩, ⟨(some 12), none, (.load none (.t 11))⟩, ⟨(some 13), none, (.faddr 1 (.t 3))⟩, ⟨(some 14), none, (.load none (.t 13))⟩,
      ⟨(some 15), none, (.bin .mul false (.t 12) (.t 14))⟩, ⟨(some 16), none, (.bin .add false (.t 10) (.t 15))⟩, ⟨(some 5), none, (.mov (.t 16))⟩] [2, 3, 5]) (.seq (.reg [⟨(some
      17), none, (.mov (.t 5))⟩, ⟨(some 18), none, (.faddr 2 (.t 2))⟩, ⟨(some 19), none, (.load none (.t 18))⟩, ⟨(some 20), none, (.faddr 2 (.t 3))⟩, ⟨(some 21), none, (.load none
      (.t 20))⟩, ⟨(some 22), none, (.bin .mul false (.t 19) (.t 21))⟩, ⟨(some 23), none, (.bin .add false (.t 17) (.t 22))⟩, ⟨(some 5), none, (.mov (.t 23))⟩] [2, 3, 5]) (.seq (.reg
      [⟨(some 24), none, (.mov (.t 5))⟩, ⟨(some 25), none, (.faddr 3 (.t 2))⟩, ⟨(some 26), none, (.load none (.t 25))⟩, ⟨(some 27), none, (.faddr 3 (.t 3))⟩, ⟨(some 28), none,
      (.load none (.t 27))⟩, ⟨(some 29), none, (.bin .mul false (.t 26) (.t 28))⟩, ⟨(some 30), none, (.bin .add false (.t 24) (.t 29))⟩, ⟨(some 4), none, (.mov (.t 30))⟩] [4])
      .ret))))
def cp164 : CP := CP.mk [] [] [[2, 3], [2, 3, 5], [2, 3, 5], [4]] 31 [] []
theorem fc164_0 : IntKind.wrap .i64 (-1) = (-1) := by decide
theorem fc164_1 : IntKind.wrap .i64 0 = 0 := by decide
theorem fc164_2 : IntKind.wrap .i64 1 = 1 := by decide
theorem fc164_3 : IntKind.wrap .i64 10 = 10 := by decide
theorem fc164_4 : IntKind.wrap .i64 11 = 11 := by decide
theorem fc164_5 : IntKind.wrap .i64 110 = 110 := by decide
theorem fc164_6 : IntKind.wrap .i64 12 = 12 := by decide
theorem fc164_7 : IntKind.wrap .i64 13 = 13 := by decide
theorem fc164_8 : IntKind.wrap .i64 14 = 14 := by decide
theorem fc164_9 : IntKind.wrap .i64 15 = 15 := by decide
theorem fc164_10 : IntKind.wrap .i64 156 = 156 := by decide
theorem fc164_11 : IntKind.wrap .i64 16 = 16 := by decide
theorem fc164_12 : IntKind.wrap .i64 17 = 17 := by decide
theorem fc164_13 : IntKind.wrap .i64 2 = 2 := by decide
theorem fc164_14 : IntKind.wrap .i64 20 = 20 := by decide
theorem fc164_15 : IntKind.wrap .i64 210 = 210 := by decide
theorem fc164_16 : IntKind.wrap .i64 272 = 272 := by decide
theorem fc164_17 : IntKind.wrap .i64 3 = 3 := by decide
theorem fc164_18 : IntKind.wrap .i64 4 = 4 := by decide
theorem fc164_19 : IntKind.wrap .i64 42 = 42 := by decide
theorem fc164_20 : IntKind.wrap .i64 5 = 5 := by decide
theorem fc164_21 : IntKind.wrap .i64 6 = 6 := by decide
theorem fc164_22 : IntKind.wrap .i64 7 = 7 := by decide
theorem fc164_23 : IntKind.wrap .i64 72 = 72 := by decide
theorem fc164_24 : IntKind.wrap .i64 8 = 8 := by decide
theorem fc164_25 : IntKind.wrap .i64 9 = 9 := by decide
theorem s164 : ∀ vs r, g_spec_l02Inner vs = some r → SaysM Try.prog .any 164 vs r := by
  intro vs r h
  unfold g_spec_l02Inner at h
  split at h
  · rename_i y0 y1 y2 y3 y4 y5 y6 y7
    cases h
    refine spec_of (m := .any) (tab := tabOf []) (cp := cp164) (ic := ic164) (rvl := [(.t 4)]) hm tabOk_nil Try.func164 rfl rfl rfl (by kernel_rfl) rfl (Nat.le_of_ble_eq_true rfl) (Nat.le_of_ble_eq_true rfl) ?_
    show eA _ _ _ _
    unfold ic164
    simp only [
        grpA, vsliceS, grpS, grpD, grpF, grpL, eop, vop, bop, uop, fltop, convop, endOk, newE, new1, freshL, Md.isNew, outV, pureV, pureX, pure1, AV.cells, AV.one, storable, laid,
              refless, refless1, vload, loadC, storeC, vnil, vfaddr, vextract, flatT, flatE, flatC, vconv, vmm, vidxA, viaddrA, vfield, vlen, elemsOf, dF32, dF64, dI64, dU8, dBool,
              dStr, esOk, elemsS, vsliceX, bnd, ownV, ownC, own1, ownT, isSl, nSl, endL, Md.isOwn, purge, purgeH, purgeB, purgeE, hasName, name1, List.any_cons, List.any_nil,
              Md.isWr, pureV.pureP, Option.map, reduceIte, Nat.reduceEqDiff, Nat.reduceAdd, Nat.reduceMul, Nat.reduceLT, Nat.reduceLeDiff, List.mapM_cons, List.mapM_nil,
              Option.pure_def, Option.bind_eq_bind, Option.bind_some, implies_true, forall_const, beq_self_eq_true, decide_true, decide_false, eq_self, Int.reduceEq, Int.reduceLE,
              Int.reduceLT, if_true, if_false, fc164_0, fc164_1, fc164_2, fc164_3, fc164_4, fc164_5, fc164_6, fc164_7, fc164_8, fc164_9, fc164_10, fc164_11, fc164_12, fc164_13,
              fc164_14, fc164_15, fc164_16, fc164_17, fc164_18, fc164_19, fc164_20, fc164_21, fc164_22, fc164_23, fc164_24, fc164_25, Int.reduceAdd, Int.reduceSub, Int.reduceMul,
              Int.reduceNeg, Int.reducePow, Nat.reducePow, Int.reduceToNat, Nat.reduceSub, List.replicate, Nat.reduceBEq, wAs, wA, wC, zipW, noDupN, grpE]
    repeat' (first
      | ((first | (refine eGI_of (fun h => ?_) (fun h => ?_)) | (refine eCc_of (fun h => ?_) (fun h => ?_))) <;> (try simp only [Bool.not_eq_true', Bool.not_eq_false'] at h) <;> simp only [h,
        grpA, vsliceS, grpS, grpD, grpF, grpL, eop, vop, bop, uop, fltop, convop, endOk, newE, new1, freshL, Md.isNew, outV, pureV, pureX, pure1, AV.cells, AV.one, storable, laid,
              refless, refless1, vload, loadC, storeC, vnil, vfaddr, vextract, flatT, flatE, flatC, vconv, vmm, vidxA, viaddrA, vfield, vlen, elemsOf, dF32, dF64, dI64, dU8, dBool,
              dStr, esOk, elemsS, vsliceX, bnd, ownV, ownC, own1, ownT, isSl, nSl, endL, Md.isOwn, purge, purgeH, purgeB, purgeE, hasName, name1, List.any_cons, List.any_nil,
              Md.isWr, pureV.pureP, Option.map, reduceIte, Nat.reduceEqDiff, Nat.reduceAdd, Nat.reduceMul, Nat.reduceLT, Nat.reduceLeDiff, List.mapM_cons, List.mapM_nil,
              Option.pure_def, Option.bind_eq_bind, Option.bind_some, implies_true, forall_const, beq_self_eq_true, decide_true, decide_false, eq_self, Int.reduceEq, Int.reduceLE,
              Int.reduceLT, if_true, if_false, fc164_0, fc164_1, fc164_2, fc164_3, fc164_4, fc164_5, fc164_6, fc164_7, fc164_8, fc164_9, fc164_10, fc164_11, fc164_12, fc164_13,
              fc164_14, fc164_15, fc164_16, fc164_17, fc164_18, fc164_19, fc164_20, fc164_21, fc164_22, fc164_23, fc164_24, fc164_25, Int.reduceAdd, Int.reduceSub, Int.reduceMul,
              Int.reduceNeg, Int.reducePow, Nat.reducePow, Int.reduceToNat, Nat.reduceSub, List.replicate, Nat.reduceBEq, wAs, wA, wC, zipW, noDupN, grpE]))
    all_goals (try simp only [*, m_spec_l02Inner, Bool.and_true, Bool.true_and, Bool.and_false, Bool.false_and, Bool.or_true, Bool.true_or, Bool.or_false, Bool.false_or, Bool.not_true, Bool.not_false, Bool.false_eq_true, if_true, if_false, reduceIte, decide_true, decide_false])
    all_goals (try (simp_all; done))
  · cases h
theorem s115 : ∀ vs r, g_sqrt vs = some r → SaysM Try.prog .any 115 vs r := t_sqrt Try.func115 (by kernel_rfl) rfl (by kernel_rfl) (by kernel_rfl)
def m_math_Sqrt (x0 : Nat) : Nat := (fsqrt x0)
def g_math_Sqrt : List AV → Option AV
  | [.flt .f64 y0] => some (.flt .f64 (m_math_Sqrt y0))
  | _ => none
def ic72 : ICode := (.seq (.reg [⟨(some 2), none, (.mov (.c (.flt .f64 0)))⟩] [0]) (.seq (.reg [⟨(some 3), none, (.mov (.t 0))⟩, ⟨(some 4), none, (.call (.fn 115) [(.t 3)] [])⟩,
      ⟨(some 2), none, (.mov (.t 4))⟩] [2]) .ret))
def cp72 : CP := CP.mk [] [] [[0], [2]] 5 [] []
theorem fc72_0 : IntKind.wrap .i64 (-1) = (-1) := by decide
theorem fc72_1 : IntKind.wrap .i64 0 = 0 := by decide
theorem fc72_2 : IntKind.wrap .i64 1 = 1 := by decide
theorem fc72_3 : IntKind.wrap .i64 10 = 10 := by decide
theorem fc72_4 : IntKind.wrap .i64 11 = 11 := by decide
theorem fc72_5 : IntKind.wrap .i64 110 = 110 := by decide
theorem fc72_6 : IntKind.wrap .i64 12 = 12 := by decide
theorem fc72_7 : IntKind.wrap .i64 13 = 13 := by decide
theorem fc72_8 : IntKind.wrap .i64 14 = 14 := by decide
theorem fc72_9 : IntKind.wrap .i64 15 = 15 := by decide
theorem fc72_10 : IntKind.wrap .i64 156 = 156 := by decide
theorem fc72_11 : IntKind.wrap .i64 16 = 16 := by decide
theorem fc72_12 : IntKind.wrap .i64 17 = 17 := by decide
theorem fc72_13 : IntKind.wrap .i64 2 = 2 := by decide
theorem fc72_14 : IntKind.wrap .i64 20 = 20 := by decide
theorem fc72_15 : IntKind.wrap .i64 210 = 210 := by decide
theorem fc72_16 : IntKind.wrap .i64 272 = 272 := by decide
theorem fc72_17 : IntKind.wrap .i64 3 = 3 := by decide
theorem fc72_18 : IntKind.wrap .i64 4 = 4 := by decide
theorem fc72_19 : IntKind.wrap .i64 42 = 42 := by decide
theorem fc72_20 : IntKind.wrap .i64 5 = 5 := by decide
theorem fc72_21 : IntKind.wrap .i64 6 = 6 := by decide
theorem fc72_22 : IntKind.wrap .i64 7 = 7 := by decide
theorem fc72_23 : IntKind.wrap .i64 72 = 72 := by decide
theorem fc72_24 : IntKind.wrap .i64 8 = 8 := by decide
theorem fc72_25 : IntKind.wrap .i64 9 = 9 := by decide
theorem s72 : ∀ vs r, g_math_Sqrt vs = some r → SaysM Try.prog .any 72 vs r := by
  intro vs r h
  unfold g_math_Sqrt at h
  split at h
  · rename_i y0
    cases h
    refine spec_of (m := .any) (tab := tabOf [(115, wM .any g_sqrt)]) (cp := cp72) (ic := ic72) (rvl := [(.t 2)]) hm (tabOk_cons (m := .any) s115 tabOk_nil) Try.func72 rfl rfl rfl (by kernel_rfl) rfl (Nat.le_of_ble_eq_true rfl) (Nat.le_of_ble_eq_true rfl) ?_
    show eA _ _ _ _
    unfold ic72
    simp only [
        grpA, vsliceS, grpS, grpD, grpF, grpL, eop, vop, bop, uop, fltop, convop, endOk, newE, new1, freshL, Md.isNew, outV, pureV, pureX, pure1, AV.cells, AV.one, storable, laid,
              refless, refless1, vload, loadC, storeC, vnil, vfaddr, vextract, flatT, flatE, flatC, vconv, vmm, vidxA, viaddrA, vfield, vlen, elemsOf, dF32, dF64, dI64, dU8, dBool,
              dStr, esOk, elemsS, vsliceX, bnd, ownV, ownC, own1, ownT, isSl, nSl, endL, Md.isOwn, purge, purgeH, purgeB, purgeE, hasName, name1, List.any_cons, List.any_nil,
              Md.isWr, pureV.pureP, Option.map, reduceIte, Nat.reduceEqDiff, Nat.reduceAdd, Nat.reduceMul, Nat.reduceLT, Nat.reduceLeDiff, List.mapM_cons, List.mapM_nil,
              Option.pure_def, Option.bind_eq_bind, Option.bind_some, implies_true, forall_const, beq_self_eq_true, decide_true, decide_false, eq_self, Int.reduceEq, Int.reduceLE,
              Int.reduceLT, if_true, if_false, fc72_0, fc72_1, fc72_2, fc72_3, fc72_4, fc72_5, fc72_6, fc72_7, fc72_8, fc72_9, fc72_10, fc72_11, fc72_12, fc72_13, fc72_14, fc72_15,
              fc72_16, fc72_17, fc72_18, fc72_19, fc72_20, fc72_21, fc72_22, fc72_23, fc72_24, fc72_25, Int.reduceAdd, Int.reduceSub, Int.reduceMul, Int.reduceNeg, Int.reducePow,
              Nat.reducePow, Int.reduceToNat, Nat.reduceSub, List.replicate, Nat.reduceBEq, wAs, wA, wC, zipW, noDupN, grpE, g_sqrt]
    repeat' (first
      | ((first | (refine eGI_of (fun h => ?_) (fun h => ?_)) | (refine eCc_of (fun h => ?_) (fun h => ?_))) <;> (try simp only [Bool.not_eq_true', Bool.not_eq_false'] at h) <;> simp only [h,
        grpA, vsliceS, grpS, grpD, grpF, grpL, eop, vop, bop, uop, fltop, convop, endOk, newE, new1, freshL, Md.isNew, outV, pureV, pureX, pure1, AV.cells, AV.one, storable, laid,
              refless, refless1, vload, loadC, storeC, vnil, vfaddr, vextract, flatT, flatE, flatC, vconv, vmm, vidxA, viaddrA, vfield, vlen, elemsOf, dF32, dF64, dI64, dU8, dBool,
              dStr, esOk, elemsS, vsliceX, bnd, ownV, ownC, own1, ownT, isSl, nSl, endL, Md.isOwn, purge, purgeH, purgeB, purgeE, hasName, name1, List.any_cons, List.any_nil,
              Md.isWr, pureV.pureP, Option.map, reduceIte, Nat.reduceEqDiff, Nat.reduceAdd, Nat.reduceMul, Nat.reduceLT, Nat.reduceLeDiff, List.mapM_cons, List.mapM_nil,
              Option.pure_def, Option.bind_eq_bind, Option.bind_some, implies_true, forall_const, beq_self_eq_true, decide_true, decide_false, eq_self, Int.reduceEq, Int.reduceLE,
              Int.reduceLT, if_true, if_false, fc72_0, fc72_1, fc72_2, fc72_3, fc72_4, fc72_5, fc72_6, fc72_7, fc72_8, fc72_9, fc72_10, fc72_11, fc72_12, fc72_13, fc72_14, fc72_15,
              fc72_16, fc72_17, fc72_18, fc72_19, fc72_20, fc72_21, fc72_22, fc72_23, fc72_24, fc72_25, Int.reduceAdd, Int.reduceSub, Int.reduceMul, Int.reduceNeg, Int.reducePow,
              Nat.reducePow, Int.reduceToNat, Nat.reduceSub, List.replicate, Nat.reduceBEq, wAs, wA, wC, zipW, noDupN, grpE, g_sqrt]))
    all_goals (try simp only [*, m_math_Sqrt, Bool.and_true, Bool.true_and, Bool.and_false, Bool.false_and, Bool.or_true, Bool.true_or, Bool.or_false, Bool.false_or, Bool.not_true, Bool.not_false, Bool.false_eq_true, if_true, if_false, reduceIte, decide_true, decide_false])
    all_goals (try (simp_all; done))
  · cases h
def m_spec_l01Narrow (x0 : Nat) : Nat := (narrow x0)
def p_spec_l01Narrow (x0 : Nat) : Bool := (narrowOk x0)
def g_spec_l01Narrow : List AV → Option AV
  | [.flt .f64 y0] => if p_spec_l01Narrow y0 = true then some (.flt .f32 (m_spec_l01Narrow y0)) else none
  | _ => none
def ic170 : ICode := (.seq (.reg [⟨(some 2), none, (.mov (.c (.flt .f32 0)))⟩] [0]) (.seq (.reg [⟨(some 3), none, (.mov (.t 0))⟩, ⟨(some 4), none, (.conv (.flt .f32) (.t 3))⟩,
      ⟨(some 2), none, (.mov (.t 4))⟩] [2]) .ret))
def cp170 : CP := CP.mk [] [] [[0], [2]] 5 [] []
theorem fc170_0 : IntKind.wrap .i64 (-1) = (-1) := by decide
theorem fc170_1 : IntKind.wrap .i64 0 = 0 := by decide
theorem fc170_2 : IntKind.wrap .i64 1 = 1 := by decide
theorem fc170_3 : IntKind.wrap .i64 10 = 10 := by decide
theorem fc170_4 : IntKind.wrap .i64 11 = 11 := by decide
theorem fc170_5 : IntKind.wrap .i64 110 = 110 := by decide
theorem fc170_6 : IntKind.wrap .i64 12 = 12 := by decide
theorem fc170_7 : IntKind.wrap .i64 13 = 13 := by decide
theorem fc170_8 : IntKind.wrap .i64 14 = 14 := by decide
theorem fc170_9 : IntKind.wrap .i64 15 = 15 := by decide
theorem fc170_10 : IntKind.wrap .i64 156 = 156 := by decide
theorem fc170_11 : IntKind.wrap .i64 16 = 16 := by decide
theorem fc170_12 : IntKind.wrap .i64 17 = 17 := by decide
theorem fc170_13 : IntKind.wrap .i64 2 = 2 := by decide
theorem fc170_14 : IntKind.wrap .i64 20 = 20 := by decide
theorem fc170_15 : IntKind.wrap .i64 210 = 210 := by decide
theorem fc170_16 : IntKind.wrap .i64 272 = 272 := by decide
theorem fc170_17 : IntKind.wrap .i64 3 = 3 := by decide
theorem fc170_18 : IntKind.wrap .i64 4 = 4 := by decide
theorem fc170_19 : IntKind.wrap .i64 42 = 42 := by decide
theorem fc170_20 : IntKind.wrap .i64 5 = 5 := by decide
theorem fc170_21 : IntKind.wrap .i64 6 = 6 := by decide
theorem fc170_22 : IntKind.wrap .i64 7 = 7 := by decide
theorem fc170_23 : IntKind.wrap .i64 72 = 72 := by decide
theorem fc170_24 : IntKind.wrap .i64 8 = 8 := by decide
theorem fc170_25 : IntKind.wrap .i64 9 = 9 := by decide
theorem s170 : ∀ vs r, g_spec_l01Narrow vs = some r → SaysM Try.prog .any 170 vs r := by
  intro vs r h
  unfold g_spec_l01Narrow at h
  split at h
  · rename_i y0
    split at h
    · rename_i hp
      cases h
      refine spec_of (m := .any) (tab := tabOf []) (cp := cp170) (ic := ic170) (rvl := [(.t 2)]) hm tabOk_nil Try.func170 rfl rfl rfl (by kernel_rfl) rfl (Nat.le_of_ble_eq_true rfl) (Nat.le_of_ble_eq_true rfl) ?_
      show eA _ _ _ _
      unfold ic170
      simp only [p_spec_l01Narrow, Bool.and_eq_true, Bool.or_eq_true, decide_eq_true_eq, Bool.not_eq_true', decide_eq_false_iff_not] at hp
      simp only [
          hp, grpA, vsliceS, grpS, grpD, grpF, grpL, eop, vop, bop, uop, fltop, convop, endOk, newE, new1, freshL, Md.isNew, outV, pureV, pureX, pure1, AV.cells, AV.one, storable,
                laid, refless, refless1, vload, loadC, storeC, vnil, vfaddr, vextract, flatT, flatE, flatC, vconv, vmm, vidxA, viaddrA, vfield, vlen, elemsOf, dF32, dF64, dI64, dU8,
                dBool, dStr, esOk, elemsS, vsliceX, bnd, ownV, ownC, own1, ownT, isSl, nSl, endL, Md.isOwn, purge, purgeH, purgeB, purgeE, hasName, name1, List.any_cons,
                List.any_nil, Md.isWr, pureV.pureP, Option.map, reduceIte, Nat.reduceEqDiff, Nat.reduceAdd, Nat.reduceMul, Nat.reduceLT, Nat.reduceLeDiff, List.mapM_cons,
                List.mapM_nil, Option.pure_def, Option.bind_eq_bind, Option.bind_some, implies_true, forall_const, beq_self_eq_true, decide_true, decide_false, eq_self,
                Int.reduceEq, Int.reduceLE, Int.reduceLT, if_true, if_false, fc170_0, fc170_1, fc170_2, fc170_3, fc170_4, fc170_5, fc170_6, fc170_7, fc170_8, fc170_9, fc170_10,
                fc170_11, fc170_12, fc170_13, fc170_14, fc170_15, fc170_16, fc170_17, fc170_18, fc170_19, fc170_20, fc170_21, fc170_22, fc170_23, fc170_24, fc170_25, Int.reduceAdd,
                Int.reduceSub, Int.reduceMul, Int.reduceNeg, Int.reducePow, Nat.reducePow, Int.reduceToNat, Nat.reduceSub, List.replicate, Nat.reduceBEq, wAs, wA, wC, zipW, noDupN,
                grpE]
      repeat' (first
        | ((first | (refine eGI_of (fun h => ?_) (fun h => ?_)) | (refine eCc_of (fun h => ?_) (fun h => ?_))) <;> (try simp only [Bool.not_eq_true', Bool.not_eq_false'] at h) <;> (try simp only [h, reduceCtorEq, Bool.not_eq_true', decide_eq_false_iff_not, Bool.not_true, Bool.not_false, Bool.false_or, Bool.true_or, Bool.true_and, Bool.false_and, Bool.and_eq_true, Bool.or_eq_true, if_true, if_false, reduceIte, Bool.false_eq_true, and_true, true_and, false_or, or_false, decide_eq_true_eq, not_false_eq_true, not_true_eq_false] at hp) <;> (try (have h2 := h; simp only [decide_eq_true_eq, decide_eq_false_iff_not] at h2; (first | (replace h2 := eq_false h2) | (replace h2 := eq_true h2)); simp only [h2, if_true, if_false, false_or, true_or, or_true, or_false, and_true, true_and, not_false_eq_true, not_true_eq_false] at hp)) <;> simp only [h,
          hp, grpA, vsliceS, grpS, grpD, grpF, grpL, eop, vop, bop, uop, fltop, convop, endOk, newE, new1, freshL, Md.isNew, outV, pureV, pureX, pure1, AV.cells, AV.one, storable,
                laid, refless, refless1, vload, loadC, storeC, vnil, vfaddr, vextract, flatT, flatE, flatC, vconv, vmm, vidxA, viaddrA, vfield, vlen, elemsOf, dF32, dF64, dI64, dU8,
                dBool, dStr, esOk, elemsS, vsliceX, bnd, ownV, ownC, own1, ownT, isSl, nSl, endL, Md.isOwn, purge, purgeH, purgeB, purgeE, hasName, name1, List.any_cons,
                List.any_nil, Md.isWr, pureV.pureP, Option.map, reduceIte, Nat.reduceEqDiff, Nat.reduceAdd, Nat.reduceMul, Nat.reduceLT, Nat.reduceLeDiff, List.mapM_cons,
                List.mapM_nil, Option.pure_def, Option.bind_eq_bind, Option.bind_some, implies_true, forall_const, beq_self_eq_true, decide_true, decide_false, eq_self,
                Int.reduceEq, Int.reduceLE, Int.reduceLT, if_true, if_false, fc170_0, fc170_1, fc170_2, fc170_3, fc170_4, fc170_5, fc170_6, fc170_7, fc170_8, fc170_9, fc170_10,
                fc170_11, fc170_12, fc170_13, fc170_14, fc170_15, fc170_16, fc170_17, fc170_18, fc170_19, fc170_20, fc170_21, fc170_22, fc170_23, fc170_24, fc170_25, Int.reduceAdd,
                Int.reduceSub, Int.reduceMul, Int.reduceNeg, Int.reducePow, Nat.reducePow, Int.reduceToNat, Nat.reduceSub, List.replicate, Nat.reduceBEq, wAs, wA, wC, zipW, noDupN,
                grpE]))
      all_goals (try simp only [*, m_spec_l01Narrow, Bool.and_true, Bool.true_and, Bool.and_false, Bool.false_and, Bool.or_true, Bool.true_or, Bool.or_false, Bool.false_or, Bool.not_true, Bool.not_false, Bool.false_eq_true, if_true, if_false, reduceIte, decide_true, decide_false])
      all_goals (try (simp_all; done))
    · cases h
  · cases h
def m_spec_l01Sqrt (x0 : Nat) : Nat := (m_spec_l01Narrow (m_math_Sqrt (widen x0)))
def p_spec_l01Sqrt (x0 : Nat) : Bool := (p_spec_l01Narrow (m_math_Sqrt (widen x0)))
def g_spec_l01Sqrt : List AV → Option AV
  | [.flt .f32 y0] => if p_spec_l01Sqrt y0 = true then some (.flt .f32 (m_spec_l01Sqrt y0)) else none
  | _ => none
def ic163 : ICode := (.seq (.reg [⟨(some 2), none, (.mov (.c (.flt .f32 0)))⟩] [0]) (.seq (.reg [⟨(some 3), none, (.mov (.t 0))⟩, ⟨(some 4), none, (.conv (.flt .f64) (.t 3))⟩,
      ⟨(some 5), none, (.call (.fn 72) [(.t 4)] [])⟩, ⟨(some 6), none, (.call (.fn 170) [(.t 5)] [])⟩, ⟨(some 2), none, (.mov (.t 6))⟩] [2]) .ret))
def cp163 : CP := CP.mk [] [] [[0], [2]] 7 [] []
theorem fc163_0 : IntKind.wrap .i64 (-1) = (-1) := by decide
theorem fc163_1 : IntKind.wrap .i64 0 = 0 := by decide
theorem fc163_2 : IntKind.wrap .i64 1 = 1 := by decide
theorem fc163_3 : IntKind.wrap .i64 10 = 10 := by decide
theorem fc163_4 : IntKind.wrap .i64 11 = 11 := by decide
theorem fc163_5 : IntKind.wrap .i64 110 = 110 := by decide
theorem fc163_6 : IntKind.wrap .i64 12 = 12 := by decide
theorem fc163_7 : IntKind.wrap .i64 13 = 13 := by decide
theorem fc163_8 : IntKind.wrap .i64 14 = 14 := by decide
theorem fc163_9 : IntKind.wrap .i64 15 = 15 := by decide
theorem fc163_10 : IntKind.wrap .i64 156 = 156 := by decide
theorem fc163_11 : IntKind.wrap .i64 16 = 16 := by decide
theorem fc163_12 : IntKind.wrap .i64 17 = 17 := by decide
theorem fc163_13 : IntKind.wrap .i64 2 = 2 := by decide
theorem fc163_14 : IntKind.wrap .i64 20 = 20 := by decide
theorem fc163_15 : IntKind.wrap .i64 210 = 210 := by decide
theorem fc163_16 : IntKind.wrap .i64 272 = 272 := by decide
theorem fc163_17 : IntKind.wrap .i64 3 = 3 := by decide
theorem fc163_18 : IntKind.wrap .i64 4 = 4 := by decide
theorem fc163_19 : IntKind.wrap .i64 42 = 42 := by decide
theorem fc163_20 : IntKind.wrap .i64 5 = 5 := by decide
theorem fc163_21 : IntKind.wrap .i64 6 = 6 := by decide
theorem fc163_22 : IntKind.wrap .i64 7 = 7 := by decide
theorem fc163_23 : IntKind.wrap .i64 72 = 72 := by decide
theorem fc163_24 : IntKind.wrap .i64 8 = 8 := by decide
theorem fc163_25 : IntKind.wrap .i64 9 = 9 := by decide
theorem s163 : ∀ vs r, g_spec_l01Sqrt vs = some r → SaysM Try.prog .any 163 vs r := by
  intro vs r h
  unfold g_spec_l01Sqrt at h
  split at h
  · rename_i y0
    split at h
    · rename_i hp
      cases h
      refine spec_of (m := .any) (tab := tabOf [(72, wM .any g_math_Sqrt), (170, wM .any g_spec_l01Narrow)]) (cp := cp163) (ic := ic163) (rvl := [(.t 2)]) hm (tabOk_cons (m := .any) s72 (tabOk_cons (m := .any) s170 tabOk_nil)) Try.func163 rfl rfl rfl (by kernel_rfl) rfl (Nat.le_of_ble_eq_true rfl) (Nat.le_of_ble_eq_true rfl) ?_
      show eA _ _ _ _
      unfold ic163
      simp only [p_spec_l01Sqrt, Bool.and_eq_true, Bool.or_eq_true, decide_eq_true_eq, Bool.not_eq_true', decide_eq_false_iff_not] at hp
      simp only [
          hp, grpA, vsliceS, grpS, grpD, grpF, grpL, eop, vop, bop, uop, fltop, convop, endOk, newE, new1, freshL, Md.isNew, outV, pureV, pureX, pure1, AV.cells, AV.one, storable,
                laid, refless, refless1, vload, loadC, storeC, vnil, vfaddr, vextract, flatT, flatE, flatC, vconv, vmm, vidxA, viaddrA, vfield, vlen, elemsOf, dF32, dF64, dI64, dU8,
                dBool, dStr, esOk, elemsS, vsliceX, bnd, ownV, ownC, own1, ownT, isSl, nSl, endL, Md.isOwn, purge, purgeH, purgeB, purgeE, hasName, name1, List.any_cons,
                List.any_nil, Md.isWr, pureV.pureP, Option.map, reduceIte, Nat.reduceEqDiff, Nat.reduceAdd, Nat.reduceMul, Nat.reduceLT, Nat.reduceLeDiff, List.mapM_cons,
                List.mapM_nil, Option.pure_def, Option.bind_eq_bind, Option.bind_some, implies_true, forall_const, beq_self_eq_true, decide_true, decide_false, eq_self,
                Int.reduceEq, Int.reduceLE, Int.reduceLT, if_true, if_false, fc163_0, fc163_1, fc163_2, fc163_3, fc163_4, fc163_5, fc163_6, fc163_7, fc163_8, fc163_9, fc163_10,
                fc163_11, fc163_12, fc163_13, fc163_14, fc163_15, fc163_16, fc163_17, fc163_18, fc163_19, fc163_20, fc163_21, fc163_22, fc163_23, fc163_24, fc163_25, Int.reduceAdd,
                Int.reduceSub, Int.reduceMul, Int.reduceNeg, Int.reducePow, Nat.reducePow, Int.reduceToNat, Nat.reduceSub, List.replicate, Nat.reduceBEq, wAs, wA, wC, zipW, noDupN,
                grpE, g_math_Sqrt, g_spec_l01Narrow]
      repeat' (first
        | ((first | (refine eGI_of (fun h => ?_) (fun h => ?_)) | (refine eCc_of (fun h => ?_) (fun h => ?_))) <;> (try simp only [Bool.not_eq_true', Bool.not_eq_false'] at h) <;> (try simp only [h, reduceCtorEq, Bool.not_eq_true', decide_eq_false_iff_not, Bool.not_true, Bool.not_false, Bool.false_or, Bool.true_or, Bool.true_and, Bool.false_and, Bool.and_eq_true, Bool.or_eq_true, if_true, if_false, reduceIte, Bool.false_eq_true, and_true, true_and, false_or, or_false, decide_eq_true_eq, not_false_eq_true, not_true_eq_false] at hp) <;> (try (have h2 := h; simp only [decide_eq_true_eq, decide_eq_false_iff_not] at h2; (first | (replace h2 := eq_false h2) | (replace h2 := eq_true h2)); simp only [h2, if_true, if_false, false_or, true_or, or_true, or_false, and_true, true_and, not_false_eq_true, not_true_eq_false] at hp)) <;> simp only [h,
          hp, grpA, vsliceS, grpS, grpD, grpF, grpL, eop, vop, bop, uop, fltop, convop, endOk, newE, new1, freshL, Md.isNew, outV, pureV, pureX, pure1, AV.cells, AV.one, storable,
                laid, refless, refless1, vload, loadC, storeC, vnil, vfaddr, vextract, flatT, flatE, flatC, vconv, vmm, vidxA, viaddrA, vfield, vlen, elemsOf, dF32, dF64, dI64, dU8,
                dBool, dStr, esOk, elemsS, vsliceX, bnd, ownV, ownC, own1, ownT, isSl, nSl, endL, Md.isOwn, purge, purgeH, purgeB, purgeE, hasName, name1, List.any_cons,
                List.any_nil, Md.isWr, pureV.pureP, Option.map, reduceIte, Nat.reduceEqDiff, Nat.reduceAdd, Nat.reduceMul, Nat.reduceLT, Nat.reduceLeDiff, List.mapM_cons,
                List.mapM_nil, Option.pure_def, Option.bind_eq_bind, Option.bind_some, implies_true, forall_const, beq_self_eq_true, decide_true, decide_false, eq_self,
                Int.reduceEq, Int.reduceLE, Int.reduceLT, if_true, if_false, fc163_0, fc163_1, fc163_2, fc163_3, fc163_4, fc163_5, fc163_6, fc163_7, fc163_8, fc163_9, fc163_10,
                fc163_11, fc163_12, fc163_13, fc163_14, fc163_15, fc163_16, fc163_17, fc163_18, fc163_19, fc163_20, fc163_21, fc163_22, fc163_23, fc163_24, fc163_25, Int.reduceAdd,
                Int.reduceSub, Int.reduceMul, Int.reduceNeg, Int.reducePow, Nat.reducePow, Int.reduceToNat, Nat.reduceSub, List.replicate, Nat.reduceBEq, wAs, wA, wC, zipW, noDupN,
                grpE, g_math_Sqrt, g_spec_l01Narrow]))
      all_goals (try simp only [*, m_spec_l01Sqrt, Bool.and_true, Bool.true_and, Bool.and_false, Bool.false_and, Bool.or_true, Bool.true_or, Bool.or_false, Bool.false_or, Bool.not_true, Bool.not_false, Bool.false_eq_true, if_true, if_false, reduceIte, decide_true, decide_false])
      all_goals (try (simp_all; done))
    · cases h
  · cases h
def m_spec_l01Finite (x0 : Nat) : Bool := (feq .f32 (fsub .f32 x0 x0) 0)
def g_spec_l01Finite : List AV → Option AV
  | [.flt .f32 y0] => some (.bool (m_spec_l01Finite y0))
  | _ => none
def ic165 : ICode := (.seq (.reg [⟨(some 2), none, (.mov (.c (.bool false)))⟩] [0]) (.seq (.reg [⟨(some 3), none, (.mov (.t 0))⟩, ⟨(some 4), none, (.mov (.t 0))⟩, ⟨(some 5), none,
      (.bin .sub false (.t 3) (.t 4))⟩, ⟨(some 6), none, (.bin .eql false (.t 5) (.c (.flt .f32 0)))⟩, ⟨(some 2), none, (.mov (.t 6))⟩] [2]) .ret))
def cp165 : CP := CP.mk [] [] [[0], [2]] 7 [] []
theorem fc165_0 : IntKind.wrap .i64 (-1) = (-1) := by decide
theorem fc165_1 : IntKind.wrap .i64 0 = 0 := by decide
theorem fc165_2 : IntKind.wrap .i64 1 = 1 := by decide
theorem fc165_3 : IntKind.wrap .i64 10 = 10 := by decide
theorem fc165_4 : IntKind.wrap .i64 11 = 11 := by decide
theorem fc165_5 : IntKind.wrap .i64 110 = 110 := by decide
theorem fc165_6 : IntKind.wrap .i64 12 = 12 := by decide
theorem fc165_7 : IntKind.wrap .i64 13 = 13 := by decide
theorem fc165_8 : IntKind.wrap .i64 14 = 14 := by decide
theorem fc165_9 : IntKind.wrap .i64 15 = 15 := by decide
theorem fc165_10 : IntKind.wrap .i64 156 = 156 := by decide
theorem fc165_11 : IntKind.wrap .i64 16 = 16 := by decide
theorem fc165_12 : IntKind.wrap .i64 17 = 17 := by decide
theorem fc165_13 : IntKind.wrap .i64 2 = 2 := by decide
theorem fc165_14 : IntKind.wrap .i64 20 = 20 := by decide
theorem fc165_15 : IntKind.wrap .i64 210 = 210 := by decide
theorem fc165_16 : IntKind.wrap .i64 272 = 272 := by decide
theorem fc165_17 : IntKind.wrap .i64 3 = 3 := by decide
theorem fc165_18 : IntKind.wrap .i64 4 = 4 := by decide
theorem fc165_19 : IntKind.wrap .i64 42 = 42 := by decide
theorem fc165_20 : IntKind.wrap .i64 5 = 5 := by decide
theorem fc165_21 : IntKind.wrap .i64 6 = 6 := by decide
theorem fc165_22 : IntKind.wrap .i64 7 = 7 := by decide
theorem fc165_23 : IntKind.wrap .i64 72 = 72 := by decide
theorem fc165_24 : IntKind.wrap .i64 8 = 8 := by decide
theorem fc165_25 : IntKind.wrap .i64 9 = 9 := by decide
theorem s165 : ∀ vs r, g_spec_l01Finite vs = some r → SaysM Try.prog .any 165 vs r := by
  intro vs r h
  unfold g_spec_l01Finite at h
  split at h
  · rename_i y0
    cases h
    refine spec_of (m := .any) (tab := tabOf []) (cp := cp165) (ic := ic165) (rvl := [(.t 2)]) hm tabOk_nil Try.func165 rfl rfl rfl (by kernel_rfl) rfl (Nat.le_of_ble_eq_true rfl) (Nat.le_of_ble_eq_true rfl) ?_
    show eA _ _ _ _
    unfold ic165
    simp only [
        grpA, vsliceS, grpS, grpD, grpF, grpL, eop, vop, bop, uop, fltop, convop, endOk, newE, new1, freshL, Md.isNew, outV, pureV, pureX, pure1, AV.cells, AV.one, storable, laid,
              refless, refless1, vload, loadC, storeC, vnil, vfaddr, vextract, flatT, flatE, flatC, vconv, vmm, vidxA, viaddrA, vfield, vlen, elemsOf, dF32, dF64, dI64, dU8, dBool,
              dStr, esOk, elemsS, vsliceX, bnd, ownV, ownC, own1, ownT, isSl, nSl, endL, Md.isOwn, purge, purgeH, purgeB, purgeE, hasName, name1, List.any_cons, List.any_nil,
              Md.isWr, pureV.pureP, Option.map, reduceIte, Nat.reduceEqDiff, Nat.reduceAdd, Nat.reduceMul, Nat.reduceLT, Nat.reduceLeDiff, List.mapM_cons, List.mapM_nil,
              Option.pure_def, Option.bind_eq_bind, Option.bind_some, implies_true, forall_const, beq_self_eq_true, decide_true, decide_false, eq_self, Int.reduceEq, Int.reduceLE,
              Int.reduceLT, if_true, if_false, fc165_0, fc165_1, fc165_2, fc165_3, fc165_4, fc165_5, fc165_6, fc165_7, fc165_8, fc165_9, fc165_10, fc165_11, fc165_12, fc165_13,
              fc165_14, fc165_15, fc165_16, fc165_17, fc165_18, fc165_19, fc165_20, fc165_21, fc165_22, fc165_23, fc165_24, fc165_25, Int.reduceAdd, Int.reduceSub, Int.reduceMul,
              Int.reduceNeg, Int.reducePow, Nat.reducePow, Int.reduceToNat, Nat.reduceSub, List.replicate, Nat.reduceBEq, wAs, wA, wC, zipW, noDupN, grpE]
    repeat' (first
      | ((first | (refine eGI_of (fun h => ?_) (fun h => ?_)) | (refine eCc_of (fun h => ?_) (fun h => ?_))) <;> (try simp only [Bool.not_eq_true', Bool.not_eq_false'] at h) <;> simp only [h,
        grpA, vsliceS, grpS, grpD, grpF, grpL, eop, vop, bop, uop, fltop, convop, endOk, newE, new1, freshL, Md.isNew, outV, pureV, pureX, pure1, AV.cells, AV.one, storable, laid,
              refless, refless1, vload, loadC, storeC, vnil, vfaddr, vextract, flatT, flatE, flatC, vconv, vmm, vidxA, viaddrA, vfield, vlen, elemsOf, dF32, dF64, dI64, dU8, dBool,
              dStr, esOk, elemsS, vsliceX, bnd, ownV, ownC, own1, ownT, isSl, nSl, endL, Md.isOwn, purge, purgeH, purgeB, purgeE, hasName, name1, List.any_cons, List.any_nil,
              Md.isWr, pureV.pureP, Option.map, reduceIte, Nat.reduceEqDiff, Nat.reduceAdd, Nat.reduceMul, Nat.reduceLT, Nat.reduceLeDiff, List.mapM_cons, List.mapM_nil,
              Option.pure_def, Option.bind_eq_bind, Option.bind_some, implies_true, forall_const, beq_self_eq_true, decide_true, decide_false, eq_self, Int.reduceEq, Int.reduceLE,
              Int.reduceLT, if_true, if_false, fc165_0, fc165_1, fc165_2, fc165_3, fc165_4, fc165_5, fc165_6, fc165_7, fc165_8, fc165_9, fc165_10, fc165_11, fc165_12, fc165_13,
              fc165_14, fc165_15, fc165_16, fc165_17, fc165_18, fc165_19, fc165_20, fc165_21, fc165_22, fc165_23, fc165_24, fc165_25, Int.reduceAdd, Int.reduceSub, Int.reduceMul,
              Int.reduceNeg, Int.reducePow, Nat.reducePow, Int.reduceToNat, Nat.reduceSub, List.replicate, Nat.reduceBEq, wAs, wA, wC, zipW, noDupN, grpE]))
    all_goals (try simp only [*, m_spec_l01Finite, Bool.and_true, Bool.true_and, Bool.and_false, Bool.false_and, Bool.or_true, Bool.true_or, Bool.or_false, Bool.false_or, Bool.not_true, Bool.not_false, Bool.false_eq_true, if_true, if_false, reduceIte, decide_true, decide_false])
    all_goals (try (simp_all; done))
  · cases h
def m_spec_l02No  : (Nat × Nat × Nat × Nat) := (1065353216, 0, 0, 0)
def g_spec_l02No : List AV → Option AV
  | [] => some (AV.agg [(.flt .f32 (m_spec_l02No).1), (.flt .f32 (m_spec_l02No).2.1), (.flt .f32 (m_spec_l02No).2.2.1), (.flt .f32
      (m_spec_l02No).2.2.2)])
  | _ => none
def ic166 : ICode := (.seq (.reg [⟨(some 0), none, (.alloc (.agg [(.flt .f32 0), (.flt .f32 0), (.flt .f32 0), (.flt .f32 0)]))⟩] [0]) (.seq (.reg [⟨(some 1), none, (.build [(.flt
      .f32 0), (.flt .f32 0), (.flt .f32 0), (.flt .f32 0)] [(0, 1, (.c (.flt .f32 1065353216)))])⟩, ⟨none, none, (.store 4 (.t 0) (.t 1))⟩] [0]) .ret))
def cp166 : CP := CP.mk [] [] [[0], [0]] 2 [] []
theorem fc166_0 : IntKind.wrap .i64 (-1) = (-1) := by decide
theorem fc166_1 : IntKind.wrap .i64 0 = 0 := by decide
theorem fc166_2 : IntKind.wrap .i64 1 = 1 := by decide
theorem fc166_3 : IntKind.wrap .i64 10 = 10 := by decide
theorem fc166_4 : IntKind.wrap .i64 11 = 11 := by decide
theorem fc166_5 : IntKind.wrap .i64 110 = 110 := by decide
theorem fc166_6 : IntKind.wrap .i64 12 = 12 := by decide
theorem fc166_7 : IntKind.wrap .i64 13 = 13 := by decide
theorem fc166_8 : IntKind.wrap .i64 14 = 14 := by decide
theorem fc166_9 : IntKind.wrap .i64 15 = 15 := by decide
theorem fc166_10 : IntKind.wrap .i64 156 = 156 := by decide
theorem fc166_11 : IntKind.wrap .i64 16 = 16 := by decide
theorem fc166_12 : IntKind.wrap .i64 17 = 17 := by decide
theorem fc166_13 : IntKind.wrap .i64 2 = 2 := by decide
theorem fc166_14 : IntKind.wrap .i64 20 = 20 := by decide
theorem fc166_15 : IntKind.wrap .i64 210 = 210 := by decide
theorem fc166_16 : IntKind.wrap .i64 272 = 272 := by decide
theorem fc166_17 : IntKind.wrap .i64 3 = 3 := by decide
theorem fc166_18 : IntKind.wrap .i64 4 = 4 := by decide
theorem fc166_19 : IntKind.wrap .i64 42 = 42 := by decide
theorem fc166_20 : IntKind.wrap .i64 5 = 5 := by decide
theorem fc166_21 : IntKind.wrap .i64 6 = 6 := by decide
theorem fc166_22 : IntKind.wrap .i64 7 = 7 := by decide
theorem fc166_23 : IntKind.wrap .i64 72 = 72 := by decide
theorem fc166_24 : IntKind.wrap .i64 8 = 8 := by decide
theorem fc166_25 : IntKind.wrap .i64 9 = 9 := by decide
theorem s166 : ∀ vs r, g_spec_l02No vs = some r → SaysM Try.prog .any 166 vs r := by
  intro vs r h
  unfold g_spec_l02No at h
  split at h
  · cases h
    refine spec_of (m := .any) (tab := tabOf []) (cp := cp166) (ic := ic166) (rvl := [(.c 0 (some 4))]) hm tabOk_nil Try.func166 rfl rfl rfl (by kernel_rfl) rfl (Nat.le_of_ble_eq_true rfl) (Nat.le_of_ble_eq_true rfl) ?_
    show eA _ _ _ _
    unfold ic166
    simp only [
        grpA, vsliceS, grpS, grpD, grpF, grpL, eop, vop, bop, uop, fltop, convop, endOk, newE, new1, freshL, Md.isNew, outV, pureV, pureX, pure1, AV.cells, AV.one, storable, laid,
              refless, refless1, vload, loadC, storeC, vnil, vfaddr, vextract, flatT, flatE, flatC, vconv, vmm, vidxA, viaddrA, vfield, vlen, elemsOf, dF32, dF64, dI64, dU8, dBool,
              dStr, esOk, elemsS, vsliceX, bnd, ownV, ownC, own1, ownT, isSl, nSl, endL, Md.isOwn, purge, purgeH, purgeB, purgeE, hasName, name1, List.any_cons, List.any_nil,
              Md.isWr, pureV.pureP, Option.map, reduceIte, Nat.reduceEqDiff, Nat.reduceAdd, Nat.reduceMul, Nat.reduceLT, Nat.reduceLeDiff, List.mapM_cons, List.mapM_nil,
              Option.pure_def, Option.bind_eq_bind, Option.bind_some, implies_true, forall_const, beq_self_eq_true, decide_true, decide_false, eq_self, Int.reduceEq, Int.reduceLE,
              Int.reduceLT, if_true, if_false, fc166_0, fc166_1, fc166_2, fc166_3, fc166_4, fc166_5, fc166_6, fc166_7, fc166_8, fc166_9, fc166_10, fc166_11, fc166_12, fc166_13,
              fc166_14, fc166_15, fc166_16, fc166_17, fc166_18, fc166_19, fc166_20, fc166_21, fc166_22, fc166_23, fc166_24, fc166_25, Int.reduceAdd, Int.reduceSub, Int.reduceMul,
              Int.reduceNeg, Int.reducePow, Nat.reducePow, Int.reduceToNat, Nat.reduceSub, List.replicate, Nat.reduceBEq, wAs, wA, wC, zipW, noDupN, grpE]
    repeat' (first
      | ((first | (refine eGI_of (fun h => ?_) (fun h => ?_)) | (refine eCc_of (fun h => ?_) (fun h => ?_))) <;> (try simp only [Bool.not_eq_true', Bool.not_eq_false'] at h) <;> simp only [h,
        grpA, vsliceS, grpS, grpD, grpF, grpL, eop, vop, bop, uop, fltop, convop, endOk, newE, new1, freshL, Md.isNew, outV, pureV, pureX, pure1, AV.cells, AV.one, storable, laid,
              refless, refless1, vload, loadC, storeC, vnil, vfaddr, vextract, flatT, flatE, flatC, vconv, vmm, vidxA, viaddrA, vfield, vlen, elemsOf, dF32, dF64, dI64, dU8, dBool,
              dStr, esOk, elemsS, vsliceX, bnd, ownV, ownC, own1, ownT, isSl, nSl, endL, Md.isOwn, purge, purgeH, purgeB, purgeE, hasName, name1, List.any_cons, List.any_nil,
              Md.isWr, pureV.pureP, Option.map, reduceIte, Nat.reduceEqDiff, Nat.reduceAdd, Nat.reduceMul, Nat.reduceLT, Nat.reduceLeDiff, List.mapM_cons, List.mapM_nil,
              Option.pure_def, Option.bind_eq_bind, Option.bind_some, implies_true, forall_const, beq_self_eq_true, decide_true, decide_false, eq_self, Int.reduceEq, Int.reduceLE,
              Int.reduceLT, if_true, if_false, fc166_0, fc166_1, fc166_2, fc166_3, fc166_4, fc166_5, fc166_6, fc166_7, fc166_8, fc166_9, fc166_10, fc166_11, fc166_12, fc166_13,
              fc166_14, fc166_15, fc166_16, fc166_17, fc166_18, fc166_19, fc166_20, fc166_21, fc166_22, fc166_23, fc166_24, fc166_25, Int.reduceAdd, Int.reduceSub, Int.reduceMul,
              Int.reduceNeg, Int.reducePow, Nat.reducePow, Int.reduceToNat, Nat.reduceSub, List.replicate, Nat.reduceBEq, wAs, wA, wC, zipW, noDupN, grpE]))
    all_goals (try simp only [*, m_spec_l02No, Bool.and_true, Bool.true_and, Bool.and_false, Bool.false_and, Bool.or_true, Bool.true_or, Bool.or_false, Bool.false_or, Bool.not_true, Bool.not_false, Bool.false_eq_true, if_true, if_false, reduceIte, decide_true, decide_false])
    all_goals (try (simp_all; done))
  · cases h
def m_spec_l02Mend (x0 : (Nat × Nat × Nat × Nat)) : (Nat × Nat × Nat × Nat) := (if (feq .f32 (m_spec_l01Sqrt (m_spec_l02Inner x0 x0)) 0) = true then (m_spec_l02No) else (if
      (m_spec_l01Finite (m_spec_l01Sqrt (m_spec_l02Inner x0 x0))) = true then ((fdiv .f32 x0.1 (m_spec_l01Sqrt (m_spec_l02Inner x0 x0))), (fdiv .f32 x0.2.1 (m_spec_l01Sqrt
      (m_spec_l02Inner x0 x0))), (fdiv .f32 x0.2.2.1 (m_spec_l01Sqrt (m_spec_l02Inner x0 x0))), (fdiv .f32 x0.2.2.2 (m_spec_l01Sqrt (m_spec_l02Inner x0 x0)))) else (m_spec_l02No)))
def p_spec_l02Mend (x0 : (Nat × Nat × Nat × Nat)) : Bool := (p_spec_l01Sqrt (m_spec_l02Inner x0 x0))
def g_spec_l02Mend : List AV → Option AV
  | [.agg [.flt .f32 y0, .flt .f32 y1, .flt .f32 y2, .flt .f32 y3]] => if p_spec_l02Mend (y0, y1, y2, y3) = true then some (AV.agg [(.flt
      .f32 (m_spec_l02Mend (y0, y1, y2, y3)).1), (.flt .f32 (m_spec_l02Mend (y0, y1, y2, y3)).2.1), (.flt .f32 (m_spec_l02Mend (y0, y1, y2, y3)).2.2.1), (.flt .f32 (m_spec_l02Mend
      (y0, y1, y2, y3)).2.2.2)]) else none
  | _ => none
def ic120 : ICode := (.seq (.reg [⟨(some 1), none, (.box 4 (.t 0))⟩, ⟨(some 2), none, (.alloc (.agg [(.flt .f32 0), (.flt .f32 0), (.flt .f32 0), (.flt .f32 0)]))⟩] [1, 2]) (.seq
      (.reg [⟨(some 4), none, (.load (some 4) (.t 1))⟩, ⟨(some 5), none, (.load (some 4) (.t 1))⟩, ⟨(some 6), none, (.call (.fn 164) [(.t 4), (.t 5)] [])⟩, ⟨(some 7), none, (.call
      (.fn 163) [(.t 6)] [])⟩, ⟨(some 3), none, (.mov (.t 7))⟩] [1, 2, 3]) (.seq (.seq (.reg [⟨(some 8), none, (.mov (.t 3))⟩, ⟨(some 9), none, (.bin .eql false (.t 8) (.c (.flt
      .f32 0)))⟩, ⟨(some 10), none, (.mov (.t 9))⟩, ⟨(some 11), (some (10, false)), (.mov (.t 3))⟩, ⟨(some 12), (some (10, false)), (.call (.fn 165) [(.t 11)] [])⟩, ⟨(some 13),
      (some (10, false)), (.un .not (.t 12))⟩, ⟨(some 14), none, (.pick (.t 10) (.c (.bool true)) (.t 13))⟩] [1, 2, 3, 14]) (.cond (.t 14) (.seq (.reg [⟨(some 15), none, (.call (.fn
      166) [] [])⟩, ⟨none, none, (.store 4 (.t 2) (.t 15))⟩] [2]) .ret) .skip)) (.seq (.reg [⟨(some 16), none, (.faddr 0 (.t 1))⟩, ⟨(some 17), none, (.load none (.t 16))⟩, ⟨(some
      18), none, (.mov (.t 3))⟩, ⟨(some 19), none, (.bin .quo false (.t 17) (.t 18))⟩, ⟨(some 20), none, (.faddr 1 (.t 1))⟩, ⟨(some 21), none, (.load none (.t 20))⟩, ⟨(some 22),
      none, (.mov (.t 3))⟩, ⟨(some 23), none, (.bin .quo false (.t 21) (.t 22))⟩, ⟨(some 24), none, (.faddr 2 (.t 1))⟩, ⟨(some 25), none, (.load none (.t 24))⟩, ⟨(some 26), none,
      (.mov (.t 3))⟩, ⟨(some 27), none, (.bin .quo false (.t 25) (.t 26))⟩, ⟨(some 28), none, (.faddr 3 (.t 1))⟩, ⟨(some 29), none, (.load none (.t 28))⟩, ⟨(some 30), none, (.mov
      (.t 3))⟩, ⟨(some 31), none, (.bin .quo false (.t 29) (.t 30))⟩, ⟨(some 32), none, (.build [(.flt .f32 0), (.flt .f32 0), (.flt .f32 0), (.flt .f32 0)] [(0, 1, (.t 19)), (1, 1,
      (.t 23)), (2, 1, (.t 27)), (3, 1, (.t 31))])⟩, ⟨none, none, (.store 4 (.t 2) (.t 32))⟩] [2]) .ret))))
def cp120 : CP := CP.mk [] [] [[1, 2], [1, 2, 3], [1, 2, 3, 14], [2], [2]] 33 [] []
theorem fc120_0 : IntKind.wrap .i64 (-1) = (-1) := by decide
theorem fc120_1 : IntKind.wrap .i64 0 = 0 := by decide
theorem fc120_2 : IntKind.wrap .i64 1 = 1 := by decide
theorem fc120_3 : IntKind.wrap .i64 10 = 10 := by decide
theorem fc120_4 : IntKind.wrap .i64 11 = 11 := by decide
theorem fc120_5 : IntKind.wrap .i64 110 = 110 := by decide
theorem fc120_6 : IntKind.wrap .i64 12 = 12 := by decide
theorem fc120_7 : IntKind.wrap .i64 13 = 13 := by decide
theorem fc120_8 : IntKind.wrap .i64 14 = 14 := by decide
theorem fc120_9 : IntKind.wrap .i64 15 = 15 := by decide
theorem fc120_10 : IntKind.wrap .i64 156 = 156 := by decide
theorem fc120_11 : IntKind.wrap .i64 16 = 16 := by decide
theorem fc120_12 : IntKind.wrap .i64 17 = 17 := by decide
theorem fc120_13 : IntKind.wrap .i64 2 = 2 := by decide
theorem fc120_14 : IntKind.wrap .i64 20 = 20 := by decide
theorem fc120_15 : IntKind.wrap .i64 210 = 210 := by decide
theorem fc120_16 : IntKind.wrap .i64 272 = 272 := by decide
theorem fc120_17 : IntKind.wrap .i64 3 = 3 := by decide
theorem fc120_18 : IntKind.wrap .i64 4 = 4 := by decide
theorem fc120_19 : IntKind.wrap .i64 42 = 42 := by decide
theorem fc120_20 : IntKind.wrap .i64 5 = 5 := by decide
theorem fc120_21 : IntKind.wrap .i64 6 = 6 := by decide
theorem fc120_22 : IntKind.wrap .i64 7 = 7 := by decide
theorem fc120_23 : IntKind.wrap .i64 72 = 72 := by decide
theorem fc120_24 : IntKind.wrap .i64 8 = 8 := by decide
theorem fc120_25 : IntKind.wrap .i64 9 = 9 := by decide
theorem s120 : ∀ vs r, g_spec_l02Mend vs = some r → SaysM Try.prog .any 120 vs r := by
  intro vs r h
  unfold g_spec_l02Mend at h
  split at h
  · rename_i y0 y1 y2 y3
    split at h
    · rename_i hp
      cases h
      refine spec_of (m := .any) (tab := tabOf [(163, wM .any g_spec_l01Sqrt), (164, wM .any g_spec_l02Inner), (165, wM .any g_spec_l01Finite), (166, wM .any g_spec_l02No)]) (cp := cp120) (ic := ic120) (rvl := [(.c 2 (some 4))]) hm (tabOk_cons (m := .any) s163 (tabOk_cons (m := .any) s164 (tabOk_cons (m := .any) s165 (tabOk_cons (m := .any) s166 tabOk_nil)))) Try.func120 rfl rfl rfl (by kernel_rfl) rfl (Nat.le_of_ble_eq_true rfl) (Nat.le_of_ble_eq_true rfl) ?_
      show eA _ _ _ _
      unfold ic120
      simp only [p_spec_l02Mend, Bool.and_eq_true, Bool.or_eq_true, decide_eq_true_eq, Bool.not_eq_true', decide_eq_false_iff_not] at hp
      simp only [
          hp, grpA, vsliceS, grpS, grpD, grpF, grpL, eop, vop, bop, uop, fltop, convop, endOk, newE, new1, freshL, Md.isNew, outV, pureV, pureX, pure1, AV.cells, AV.one, storable,
                laid, refless, refless1, vload, loadC, storeC, vnil, vfaddr, vextract, flatT, flatE, flatC, vconv, vmm, vidxA, viaddrA, vfield, vlen, elemsOf, dF32, dF64, dI64, dU8,
                dBool, dStr, esOk, elemsS, vsliceX, bnd, ownV, ownC, own1, ownT, isSl, nSl, endL, Md.isOwn, purge, purgeH, purgeB, purgeE, hasName, name1, List.any_cons,
                List.any_nil, Md.isWr, pureV.pureP, Option.map, reduceIte, Nat.reduceEqDiff, Nat.reduceAdd, Nat.reduceMul, Nat.reduceLT, Nat.reduceLeDiff, List.mapM_cons,
                List.mapM_nil, Option.pure_def, Option.bind_eq_bind, Option.bind_some, implies_true, forall_const, beq_self_eq_true, decide_true, decide_false, eq_self,
                Int.reduceEq, Int.reduceLE, Int.reduceLT, if_true, if_false, fc120_0, fc120_1, fc120_2, fc120_3, fc120_4, fc120_5, fc120_6, fc120_7, fc120_8, fc120_9, fc120_10,
                fc120_11, fc120_12, fc120_13, fc120_14, fc120_15, fc120_16, fc120_17, fc120_18, fc120_19, fc120_20, fc120_21, fc120_22, fc120_23, fc120_24, fc120_25, Int.reduceAdd,
                Int.reduceSub, Int.reduceMul, Int.reduceNeg, Int.reducePow, Nat.reducePow, Int.reduceToNat, Nat.reduceSub, List.replicate, Nat.reduceBEq, wAs, wA, wC, zipW, noDupN,
                grpE, g_spec_l01Sqrt, g_spec_l02Inner, g_spec_l01Finite, g_spec_l02No, ↓b_pick, ePk_true, ePk_false]
      repeat' (first
        | ((first | (refine eGI_of (fun h => ?_) (fun h => ?_)) | (refine eCc_of (fun h => ?_) (fun h => ?_)) | (refine ePk_of (fun h => ?_) (fun h => ?_))) <;> (try simp only [Bool.not_eq_true', Bool.not_eq_false'] at h) <;> (try simp only [h, reduceCtorEq, Bool.not_eq_true', decide_eq_false_iff_not, Bool.not_true, Bool.not_false, Bool.false_or, Bool.true_or, Bool.true_and, Bool.false_and, Bool.and_eq_true, Bool.or_eq_true, if_true, if_false, reduceIte, Bool.false_eq_true, and_true, true_and, false_or, or_false, decide_eq_true_eq, not_false_eq_true, not_true_eq_false] at hp) <;> (try (have h2 := h; simp only [decide_eq_true_eq, decide_eq_false_iff_not] at h2; (first | (replace h2 := eq_false h2) | (replace h2 := eq_true h2)); simp only [h2, if_true, if_false, false_or, true_or, or_true, or_false, and_true, true_and, not_false_eq_true, not_true_eq_false] at hp)) <;> simp only [h,
          hp, grpA, vsliceS, grpS, grpD, grpF, grpL, eop, vop, bop, uop, fltop, convop, endOk, newE, new1, freshL, Md.isNew, outV, pureV, pureX, pure1, AV.cells, AV.one, storable,
                laid, refless, refless1, vload, loadC, storeC, vnil, vfaddr, vextract, flatT, flatE, flatC, vconv, vmm, vidxA, viaddrA, vfield, vlen, elemsOf, dF32, dF64, dI64, dU8,
                dBool, dStr, esOk, elemsS, vsliceX, bnd, ownV, ownC, own1, ownT, isSl, nSl, endL, Md.isOwn, purge, purgeH, purgeB, purgeE, hasName, name1, List.any_cons,
                List.any_nil, Md.isWr, pureV.pureP, Option.map, reduceIte, Nat.reduceEqDiff, Nat.reduceAdd, Nat.reduceMul, Nat.reduceLT, Nat.reduceLeDiff, List.mapM_cons,
                List.mapM_nil, Option.pure_def, Option.bind_eq_bind, Option.bind_some, implies_true, forall_const, beq_self_eq_true, decide_true, decide_false, eq_self,
                Int.reduceEq, Int.reduceLE, Int.reduceLT, if_true, if_false, fc120_0, fc120_1, fc120_2, fc120_3, fc120_4, fc120_5, fc120_6, fc120_7, fc120_8, fc120_9, fc120_10,
                fc120_11, fc120_12, fc120_13, fc120_14, fc120_15, fc120_16, fc120_17, fc120_18, fc120_19, fc120_20, fc120_21, fc120_22, fc120_23, fc120_24, fc120_25, Int.reduceAdd,
                Int.reduceSub, Int.reduceMul, Int.reduceNeg, Int.reducePow, Nat.reducePow, Int.reduceToNat, Nat.reduceSub, List.replicate, Nat.reduceBEq, wAs, wA, wC, zipW, noDupN,
                grpE, g_spec_l01Sqrt, g_spec_l02Inner, g_spec_l01Finite, g_spec_l02No, ↓b_pick, ePk_true, ePk_false]))
      all_goals (try simp only [*, m_spec_l02Mend, Bool.and_true, Bool.true_and, Bool.and_false, Bool.false_and, Bool.or_true, Bool.true_or, Bool.or_false, Bool.false_or, Bool.not_true, Bool.not_false, Bool.false_eq_true, if_true, if_false, reduceIte, decide_true, decide_false])
      all_goals (try (simp_all; done))
    · cases h
  · cases h
def m_spec_l02Inverse (x0 : (Nat × Nat × Nat × Nat)) : (Nat × Nat × Nat × Nat) := (x0.1, (fneg .f32 x0.2.1), (fneg .f32 x0.2.2.1), (fneg .f32 x0.2.2.2))
def g_spec_l02Inverse : List AV → Option AV
  | [.agg [.flt .f32 y0, .flt .f32 y1, .flt .f32 y2, .flt .f32 y3]] => some (AV.agg [(.flt .f32 (m_spec_l02Inverse (y0, y1, y2, y3)).1),
      (.flt .f32 (m_spec_l02Inverse (y0, y1, y2, y3)).2.1), (.flt .f32 (m_spec_l02Inverse (y0, y1, y2, y3)).2.2.1), (.flt .f32 (m_spec_l02Inverse (y0, y1, y2, y3)).2.2.2)])
  | _ => none
def ic121 : ICode := (.seq (.reg [⟨(some 1), none, (.box 4 (.t 0))⟩, ⟨(some 2), none, (.alloc (.agg [(.flt .f32 0), (.flt .f32 0), (.flt .f32 0), (.flt .f32 0)]))⟩] [1, 2]) (.seq
      (.reg [⟨(some 3), none, (.faddr 0 (.t 1))⟩, ⟨(some 4), none, (.load none (.t 3))⟩, ⟨(some 5), none, (.faddr 1 (.t 1))⟩, ⟨(some 6), none, (.load none (.t 5))⟩, ⟨(some 7), none,
      (.un .neg (.t 6))⟩, ⟨(some 8), none, (.faddr 2 (.t 1))⟩, ⟨(some 9), none, (.load none (.t 8))⟩, ⟨(some 10), none, (.un .neg (.t 9))⟩, ⟨(some 11), none, (.faddr 3 (.t 1))⟩,
      ⟨(some 12), none, (.load none (.t 11))⟩, ⟨(some 13), none, (.un .neg (.t 12))⟩, ⟨(some 14), none, (.build [(.flt .f32 0), (.flt .f32 0), (.flt .f32 0), (.flt .f32 0)] [(0, 1,
      (.t 4)), (1, 1, (.t 7)), (2, 1, (.t 10)), (3, 1, (.t 13))])⟩, ⟨none, none, (.store 4 (.t 2) (.t 14))⟩] [2]) .ret))
def cp121 : CP := CP.mk [] [] [[1, 2], [2]] 15 [] []
theorem fc121_0 : IntKind.wrap .i64 (-1) = (-1) := by decide
theorem fc121_1 : IntKind.wrap .i64 0 = 0 := by decide
theorem fc121_2 : IntKind.wrap .i64 1 = 1 := by decide
theorem fc121_3 : IntKind.wrap .i64 10 = 10 := by decide
theorem fc121_4 : IntKind.wrap .i64 11 = 11 := by decide
theorem fc121_5 : IntKind.wrap .i64 110 = 110 := by decide
theorem fc121_6 : IntKind.wrap .i64 12 = 12 := by decide
theorem fc121_7 : IntKind.wrap .i64 13 = 13 := by decide
theorem fc121_8 : IntKind.wrap .i64 14 = 14 := by decide
theorem fc121_9 : IntKind.wrap .i64 15 = 15 := by decide
theorem fc121_10 : IntKind.wrap .i64 156 = 156 := by decide
theorem fc121_11 : IntKind.wrap .i64 16 = 16 := by decide
theorem fc121_12 : IntKind.wrap .i64 17 = 17 := by decide
theorem fc121_13 : IntKind.wrap .i64 2 = 2 := by decide
theorem fc121_14 : IntKind.wrap .i64 20 = 20 := by decide
theorem fc121_15 : IntKind.wrap .i64 210 = 210 := by decide
theorem fc121_16 : IntKind.wrap .i64 272 = 272 := by decide
theorem fc121_17 : IntKind.wrap .i64 3 = 3 := by decide
theorem fc121_18 : IntKind.wrap .i64 4 = 4 := by decide
theorem fc121_19 : IntKind.wrap .i64 42 = 42 := by decide
theorem fc121_20 : IntKind.wrap .i64 5 = 5 := by decide
theorem fc121_21 : IntKind.wrap .i64 6 = 6 := by decide
theorem fc121_22 : IntKind.wrap .i64 7 = 7 := by decide
theorem fc121_23 : IntKind.wrap .i64 72 = 72 := by decide
theorem fc121_24 : IntKind.wrap .i64 8 = 8 := by decide
theorem fc121_25 : IntKind.wrap .i64 9 = 9 := by decide
theorem s121 : ∀ vs r, g_spec_l02Inverse vs = some r → SaysM Try.prog .any 121 vs r := by
  intro vs r h
  unfold g_spec_l02Inverse at h
  split at h
  · rename_i y0 y1 y2 y3
    cases h
    refine spec_of (m := .any) (tab := tabOf []) (cp := cp121) (ic := ic121) (rvl := [(.c 2 (some 4))]) hm tabOk_nil Try.func121 rfl rfl rfl (by kernel_rfl) rfl (Nat.le_of_ble_eq_true rfl) (Nat.le_of_ble_eq_true rfl) ?_
    show eA _ _ _ _
    unfold ic121
    simp only [
        grpA, vsliceS, grpS, grpD, grpF, grpL, eop, vop, bop, uop, fltop, convop, endOk, newE, new1, freshL, Md.isNew, outV, pureV, pureX, pure1, AV.cells, AV.one, storable, laid,
              refless, refless1, vload, loadC, storeC, vnil, vfaddr, vextract, flatT, flatE, flatC, vconv, vmm, vidxA, viaddrA, vfield, vlen, elemsOf, dF32, dF64, dI64, dU8, dBool,
              dStr, esOk, elemsS, vsliceX, bnd, ownV, ownC, own1, ownT, isSl, nSl, endL, Md.isOwn, purge, purgeH, purgeB, purgeE, hasName, name1, List.any_cons, List.any_nil,
              Md.isWr, pureV.pureP, Option.map, reduceIte, Nat.reduceEqDiff, Nat.reduceAdd, Nat.reduceMul, Nat.reduceLT, Nat.reduceLeDiff, List.mapM_cons, List.mapM_nil,
              Option.pure_def, Option.bind_eq_bind, Option.bind_some, implies_true, forall_const, beq_self_eq_true, decide_true, decide_false, eq_self, Int.reduceEq, Int.reduceLE,
              Int.reduceLT, if_true, if_false, fc121_0, fc121_1, fc121_2, fc121_3, fc121_4, fc121_5, fc121_6, fc121_7, fc121_8, fc121_9, fc121_10, fc121_11, fc121_12, fc121_13,
              fc121_14, fc121_15, fc121_16, fc121_17, fc121_18, fc121_19, fc121_20, fc121_21, fc121_22, fc121_23, fc121_24, fc121_25, Int.reduceAdd, Int.reduceSub, Int.reduceMul,
              Int.reduceNeg, Int.reducePow, Nat.reducePow, Int.reduceToNat, Nat.reduceSub, List.replicate, Nat.reduceBEq, wAs, wA, wC, zipW, noDupN, grpE]
    repeat' (first
      | ((first | (refine eGI_of (fun h => ?_) (fun h => ?_)) | (refine eCc_of (fun h => ?_) (fun h => ?_))) <;> (try simp only [Bool.not_eq_true', Bool.not_eq_false'] at h) <;> simp only [h,
        grpA, vsliceS, grpS, grpD, grpF, grpL, eop, vop, bop, uop, fltop, convop, endOk, newE, new1, freshL, Md.isNew, outV, pureV, pureX, pure1, AV.cells, AV.one, storable, laid,
              refless, refless1, vload, loadC, storeC, vnil, vfaddr, vextract, flatT, flatE, flatC, vconv, vmm, vidxA, viaddrA, vfield, vlen, elemsOf, dF32, dF64, dI64, dU8, dBool,
              dStr, esOk, elemsS, vsliceX, bnd, ownV, ownC, own1, ownT, isSl, nSl, endL, Md.isOwn, purge, purgeH, purgeB, purgeE, hasName, name1, List.any_cons, List.any_nil,
              Md.isWr, pureV.pureP, Option.map, reduceIte, Nat.reduceEqDiff, Nat.reduceAdd, Nat.reduceMul, Nat.reduceLT, Nat.reduceLeDiff, List.mapM_cons, List.mapM_nil,
              Option.pure_def, Option.bind_eq_bind, Option.bind_some, implies_true, forall_const, beq_self_eq_true, decide_true, decide_false, eq_self, Int.reduceEq, Int.reduceLE,
              Int.reduceLT, if_true, if_false, fc121_0, fc121_1, fc121_2, fc121_3, fc121_4, fc121_5, fc121_6, fc121_7, fc121_8, fc121_9, fc121_10, fc121_11, fc121_12, fc121_13,
              fc121_14, fc121_15, fc121_16, fc121_17, fc121_18, fc121_19, fc121_20, fc121_21, fc121_22, fc121_23, fc121_24, fc121_25, Int.reduceAdd, Int.reduceSub, Int.reduceMul,
              Int.reduceNeg, Int.reducePow, Nat.reducePow, Int.reduceToNat, Nat.reduceSub, List.replicate, Nat.reduceBEq, wAs, wA, wC, zipW, noDupN, grpE]))
    all_goals (try simp only [*, m_spec_l02Inverse, Bool.and_true, Bool.true_and, Bool.and_false, Bool.false_and, Bool.or_true, Bool.true_or, Bool.or_false, Bool.false_or, Bool.not_true, Bool.not_false, Bool.false_eq_true, if_true, if_false, reduceIte, decide_true, decide_false])
    all_goals (try (simp_all; done))
  · cases h
def m_spec_l02Mul (x0 : (Nat × Nat × Nat × Nat)) (x1 : (Nat × Nat × Nat × Nat)) : (Nat × Nat × Nat × Nat) := ((fsub .f32 (fsub .f32 (fsub .f32 (fmul .f32 x0.1 x1.1) (fmul .f32
      x0.2.1 x1.2.1)) (fmul .f32 x0.2.2.1 x1.2.2.1)) (fmul .f32 x0.2.2.2 x1.2.2.2)), (fsub .f32 (fadd .f32 (fadd .f32 (fmul .f32 x0.1 x1.2.1) (fmul .f32 x0.2.1 x1.1)) (fmul .f32
      x0.2.2.1 x1.2.2.2)) (fmul .f32 x0.2.2.2 x1.2.2.1)), (fadd .f32 (fadd .f32 (fsub .f32 (fmul .f32 x0.1 x1.2.2.1) (fmul .f32 x0.2.1 x1.2.2.2)) (fmul .f32 x0.2.2.1 x1.1)) (fmul
      .f32 x0.2.2.2 x1.2.1)), (fadd .f32 (fsub .f32 (fadd .f32 (fmul .f32 x0.1 x1.2.2.2) (fmul .f32 x0.2.1 x1.2.2.1)) (fmul .f32 x0.2.2.1 x1.2.1)) (fmul .f32 x0.2.2.2 x1.1)))
def g_spec_l02Mul : List AV → Option AV
  | [.agg [.flt .f32 y0, .flt .f32 y1, .flt .f32 y2, .flt .f32 y3], .agg [.flt .f32 y4, .flt .f32 y5, .flt .f32 y6, .flt .f32 y7]] => some
      (AV.agg [(.flt .f32 (m_spec_l02Mul (y0, y1, y2, y3) (y4, y5, y6, y7)).1), (.flt .f32 (m_spec_l02Mul (y0, y1, y2, y3) (y4, y5, y6, y7)).2.1), (.flt .f32 (m_spec_l02Mul (y0, y1,
      y2, y3) (y4, y5, y6, y7)).2.2.1), (.flt .f32 (m_spec_l02Mul (y0, y1, y2, y3) (y4, y5, y6, y7)).2.2.2)])
  | _ => none
def ic75 : ICode := (.seq (.reg [⟨(some 2), none, (.box 4 (.t 0))⟩, ⟨(some 3), none, (.box 4 (.t 1))⟩, ⟨(some 4), none, (.alloc (.agg [(.flt .f32 0), (.flt .f32 0), (.flt .f32 0),
      (.flt .f32 0)]))⟩] [2, 3, 4]) (.seq (.reg [⟨(some 9), none, (.faddr 0 (.t 2))⟩, ⟨(some 10), none, (.load none (.t 9))⟩, ⟨(some 11), none, (.faddr 0 (.t 3))⟩, ⟨(some 12), none,
      (.load none (.t 11))⟩, ⟨(some 13), none, (.bin .mul false (.t 10) (.t 12))⟩, ⟨(some 14), none, (.faddr 1 (.t 2))⟩, ⟨(some 15), none, (.load none (.t 14))⟩, ⟨(some 16), none,
      (.faddr 1 (.t 3))⟩, ⟨(some 17), none, (.load none (.t 16))⟩, ⟨(some 18), none, (.bin .mul false (.t 15) (.t 17))⟩, ⟨(some 19), none, (.bin .sub false (.t 13) (.t 18))⟩, ⟨(some
      5), none, (.mov (.t 19))⟩] [2, 3, 4, 5]) (.seq (.reg [⟨(some 20), none, (.mov (.t 5))⟩, ⟨(some 21), none, (.faddr 2 (.t 2))⟩, ⟨(some 22), none, (.load none (.t 21))⟩, ⟨(some
      23), none, (.faddr 2 (.t 3))⟩, ⟨(some 24), none, (.load none (.t 23))⟩, ⟨(some 25), none, (.bin .mul false (.t 22) (.t 24))⟩, ⟨(some 26), none, (.bin .sub false (.t 20) (.t
      25))⟩, ⟨(some 5), none, (.mov (.t 26))⟩] [2, 3, 4, 5]) (.seq (.reg [⟨(some 27), none, (.mov (.t 5))⟩, ⟨(some 28), none, (.faddr 3 (.t 2))⟩, ⟨(some 29), none, (.load none (.t
      28))⟩, ⟨(some 30), none, (.faddr 3 (.t 3))⟩, ⟨(some 31), none, (.load none (.t 30))⟩, ⟨(some 32), none, (.bin .mul false (.t 29) (.t 31))⟩, ⟨(some 33), none, (.bin .sub false
      (.t 27) (.t 32))⟩, ⟨(some 5), none, (.mov (.t 33))⟩] [2, 3, 4, 5]) (.seq (.reg [⟨(some 34), none, (.faddr 0 (.t 2))⟩, ⟨(some 35), none, (.load none (.t 34))⟩, ⟨(some 36),
      none, (.faddr 1 (.t 3))⟩, ⟨(some 37), none, (.load none (.t 36))⟩, ⟨(some 38), none, (.bin .mul false (.t 35) (.t 37))⟩, ⟨(some 39), none, (.faddr 1 (.t 2))⟩, ⟨(some 40),
      none, (.load none (.t 39))⟩, ⟨(some 41), none, (.faddr 0 (.t 3))⟩, ⟨(some 42), none, (.load none (.t 41))⟩, ⟨(some 43), none, (.bin .mul false (.t 40) (.t 42))⟩, ⟨(some 44),
      none, (.bin .add false (.t 38) (.t 43))⟩, ⟨(some 6), none, (.mov (.t 44))⟩] [2, 3, 4, 5, 6]) (.seq (.reg [⟨(some 45), none, (.mov (.t 6))⟩, ⟨(some 46), none, (.faddr 2 (.t
      2))⟩, ⟨(some 47), none, (.load none (.t 46))⟩, ⟨(some 48), none, (.faddr 3 (.t 3))⟩, ⟨(some 49), none, (.load none (.t 48))⟩, ⟨(some 50), none, (.bin .mul false (.t 47) (.t
      49))⟩, ⟨(some 51), none, (.bin .add false (.t 45) (.t 50))⟩, ⟨(some 6), none, (.mov (.t 51))⟩] [2, 3, 4, 5, 6]) (.seq (.reg [⟨(some 52), none, (.mov (.t 6))⟩, ⟨(some 53),
      none, (.faddr 3 (.t 2))⟩, ⟨(some 54), none, (.load none (.t 53))⟩, ⟨(some 55), none, (.faddr 2 (.t 3))⟩, ⟨(some 56), none, (.load none (.t 55))⟩, ⟨(some 57), none, (.bin .mul
      false (.t 54) (.t 56))⟩, ⟨(some 58), none, (.bin .sub false (.t 52) (.t 57))⟩, ⟨(some 6), none, (.mov (.t 58))⟩] [2, 3, 4, 5, 6]) (.seq (.reg [⟨(some 59), none, (.faddr 0 (.t
      2))⟩, ⟨(some 60), none, (.load none (.t 59))⟩, ⟨(some 61), none, (.faddr 2 (.t 3))⟩, ⟨(some 62), none, (.load none (.t 61))⟩, ⟨(some 63), none, (.bin .mul false (.t 60) (.t
      62))⟩, ⟨(some 64), none, (.faddr 1 (.t 2))⟩, ⟨(some 65), none, (.load none (.t 64))⟩, ⟨(some 66), none, (.faddr 3 (.t 3))⟩, ⟨(some 67), none, (.load none (.t 66))⟩, ⟨(some
      68), none, (.bin .mul false (.t 65) (.t 67))⟩, ⟨(some 69), none, (.bin .sub false (.t 63) (.t 68))⟩, ⟨(some 7), none, (.mov (.t 69))⟩] [2, 3, 4, 5, 6, 7]) (.seq (.reg [⟨(some
      70), none, (.mov (.t 7))⟩, ⟨(some 71), none, (.faddr 2 (.t 2))⟩, ⟨(some 72), none, (.load none (.t 71))⟩, ⟨(some 73), none, (.faddr 0 (.t 3))⟩, ⟨(some 74), none, (.load none
      (.t 73))⟩, ⟨(some 75), none, (.bin .mul false (.t 72) (.t 74))⟩, ⟨(some 76), none, (.bin .add false (.t 70) (.t 75))⟩, ⟨(some 7), none, (.mov (.t 76))⟩] [2, 3, 4, 5, 6, 7])
      (.seq (.reg [⟨(some 77), none, (.mov (.t 7))⟩, ⟨(some 78), none, (.faddr 3 (.t 2))⟩, ⟨(some 79), none, (.load none (.t 78))⟩, ⟨(some 80), none, (.faddr 1 (.t 3))⟩, ⟨(some 81),
      none, (.load none (.t 80))⟩, ⟨(some 82), none, (.bin .mul false (.t 79) (.t 81))⟩, ⟨(some 83), none, (.bin .add false (.t 77) (.t 82))⟩, ⟨(some 7), none, (.mov (.t 83))⟩] [2,
      3, 4, 5, 6, 7]) (.seq (.reg [⟨(some 84), none, (.faddr 0 (.t 2))⟩, ⟨(some 85), none, (.load none (.t 84))⟩, ⟨(some 86), none, (.faddr 3 (.t 3))⟩, ⟨(some 87), none, (.load none
      (.t 86))⟩, ⟨(some 88), none, (.bin .mul false (.t 85) (.t 87))⟩, ⟨(some 89), none, (.faddr 1 (.t 2))⟩, ⟨(some 90), none, (.load none (.t 89))⟩, ⟨(some 91), none, (.faddr 2 (.t
      3))⟩, ⟨(some 92), none, (.load none (.t 91))⟩, ⟨(some 93), none, (.bin .mul false (.t 90) (.t 92))⟩, ⟨(some 94), none, (.bin .add false (.t 88) (.t 93))⟩, ⟨(some 8), none,
      (.mov (.t 94))⟩] [2, 3, 4, 5, 6, 7, 8]) (.seq (.reg [⟨(some 95), none, (.mov (.t 8))⟩, ⟨(some 96), none, (.faddr 2 (.t 2))⟩, ⟨(some 97), none, (.load none (.t 96))⟩, ⟨(some
      98), none, (.faddr 1 (.t 3))⟩, ⟨(some 99), none, (.load none (.t 98))⟩, ⟨(some 100), none, (.bin .mul false (.t 97) (.t 99))⟩, ⟨(some 101), none, (.bin .sub false (.t 95) (.t
      100))⟩, ⟨(some 8), none, (.mov (.t 101))⟩] [2, 3, 4, 5, 6, 7, 8]) (.seq (.reg [⟨(some 102), none, (.mov (.t 8))⟩, ⟨(some 103), none, (.faddr 3 (.t 2))⟩, ⟨(some 104), none,
      (.load none (.t 103))⟩, ⟨(some 105), none, (.faddr 0 (.t 3))⟩, ⟨(some 106), none, (.load none (.t 105))⟩, ⟨(some 107), none, (.bin .mul false (.t 104) (.t 106))⟩, ⟨(some 108),
      none, (.bin .add false (.t 102) (.t 107))⟩, ⟨(some 8), none, (.mov (.t 108))⟩] [4, 5, 6, 7, 8]) (.seq (.reg [⟨(some 109), none, (.mov (.t 5))⟩, ⟨(some 110), none, (.mov (.t
      6))⟩, ⟨(some 111), none, (.mov (.t 7))⟩, ⟨(some 112), none, (.mov (.t 8))⟩, ⟨(some 113), none, (.build [(.flt .f32 0), (.flt .f32 0), (.flt .f32 0), (.flt .f32 0)] [(0, 1, (.t
      109)), (1, 1, (.t 110)), (2, 1, (.t 111)), (3, 1, (.t 112))])⟩, ⟨none, none, (.store 4 (.t 4) (.t 113))⟩] [4]) .ret))))))))))))))
def cp75 : CP := CP.mk [] [] [[2, 3, 4], [2, 3, 4, 5], [2, 3, 4, 5], [2, 3, 4, 5], [2, 3, 4, 5, 6], [2, 3, 4, 5, 6], [2, 3, 4, 5, 6], [2, 3, 4, 5, 6, 7], [2, 3, 4, 5, 6, 7], [2, 3,
      4, 5, 6, 7], [2, 3, 4, 5, 6, 7, 8], [2, 3, 4, 5, 6, 7, 8], [4, 5, 6, 7, 8], [4]] 114 [] []
theorem fc75_0 : IntKind.wrap .i64 (-1) = (-1) := by decide
theorem fc75_1 : IntKind.wrap .i64 0 = 0 := by decide
theorem fc75_2 : IntKind.wrap .i64 1 = 1 := by decide
theorem fc75_3 : IntKind.wrap .i64 10 = 10 := by decide
theorem fc75_4 : IntKind.wrap .i64 11 = 11 := by decide
theorem fc75_5 : IntKind.wrap .i64 110 = 110 := by decide
theorem fc75_6 : IntKind.wrap .i64 12 = 12 := by decide
theorem fc75_7 : IntKind.wrap .i64 13 = 13 := by decide
theorem fc75_8 : IntKind.wrap .i64 14 = 14 := by decide
theorem fc75_9 : IntKind.wrap .i64 15 = 15 := by decide
theorem fc75_10 : IntKind.wrap .i64 156 = 156 := by decide
theorem fc75_11 : IntKind.wrap .i64 16 = 16 := by decide
theorem fc75_12 : IntKind.wrap .i64 17 = 17 := by decide
theorem fc75_13 : IntKind.wrap .i64 2 = 2 := by decide
theorem fc75_14 : IntKind.wrap .i64 20 = 20 := by decide
theorem fc75_15 : IntKind.wrap .i64 210 = 210 := by decide
theorem fc75_16 : IntKind.wrap .i64 272 = 272 := by decide
theorem fc75_17 : IntKind.wrap .i64 3 = 3 := by decide
theorem fc75_18 : IntKind.wrap .i64 4 = 4 := by decide
theorem fc75_19 : IntKind.wrap .i64 42 = 42 := by decide
theorem fc75_20 : IntKind.wrap .i64 5 = 5 := by decide
theorem fc75_21 : IntKind.wrap .i64 6 = 6 := by decide
theorem fc75_22 : IntKind.wrap .i64 7 = 7 := by decide
theorem fc75_23 : IntKind.wrap .i64 72 = 72 := by decide
theorem fc75_24 : IntKind.wrap .i64 8 = 8 := by decide
theorem fc75_25 : IntKind.wrap .i64 9 = 9 := by decide
theorem s75 : ∀ vs r, g_spec_l02Mul vs = some r → SaysM Try.prog .any 75 vs r := by
  intro vs r h
  unfold g_spec_l02Mul at h
  split at h
  · rename_i y0 y1 y2 y3 y4 y5 y6 y7
    cases h
    refine spec_of (m := .any) (tab := tabOf []) (cp := cp75) (ic := ic75) (rvl := [(.c 4 (some 4))]) hm tabOk_nil Try.func75 rfl rfl rfl (by kernel_rfl) rfl (Nat.le_of_ble_eq_true rfl) (Nat.le_of_ble_eq_true rfl) ?_
    show eA _ _ _ _
    unfold ic75
    simp only [
        grpA, vsliceS, grpS, grpD, grpF, grpL, eop, vop, bop, uop, fltop, convop, endOk, newE, new1, freshL, Md.isNew, outV, pureV, pureX, pure1, AV.cells, AV.one, storable, laid,
              refless, refless1, vload, loadC, storeC, vnil, vfaddr, vextract, flatT, flatE, flatC, vconv, vmm, vidxA, viaddrA, vfield, vlen, elemsOf, dF32, dF64, dI64, dU8, dBool,
              dStr, esOk, elemsS, vsliceX, bnd, ownV, ownC, own1, ownT, isSl, nSl, endL, Md.isOwn, purge, purgeH, purgeB, purgeE, hasName, name1, List.any_cons, List.any_nil,
              Md.isWr, pureV.pureP, Option.map, reduceIte, Nat.reduceEqDiff, Nat.reduceAdd, Nat.reduceMul, Nat.reduceLT, Nat.reduceLeDiff, List.mapM_cons, List.mapM_nil,
              Option.pure_def, Option.bind_eq_bind, Option.bind_some, implies_true, forall_const, beq_self_eq_true, decide_true, decide_false, eq_self, Int.reduceEq, Int.reduceLE,
              Int.reduceLT, if_true, if_false, fc75_0, fc75_1, fc75_2, fc75_3, fc75_4, fc75_5, fc75_6, fc75_7, fc75_8, fc75_9, fc75_10, fc75_11, fc75_12, fc75_13, fc75_14, fc75_15,
              fc75_16, fc75_17, fc75_18, fc75_19, fc75_20, fc75_21, fc75_22, fc75_23, fc75_24, fc75_25, Int.reduceAdd, Int.reduceSub, Int.reduceMul, Int.reduceNeg, Int.reducePow,
              Nat.reducePow, Int.reduceToNat, Nat.reduceSub, List.replicate, Nat.reduceBEq, wAs, wA, wC, zipW, noDupN, grpE]
    repeat' (first
      | ((first | (refine eGI_of (fun h => ?_) (fun h => ?_)) | (refine eCc_of (fun h => ?_) (fun h => ?_))) <;> (try simp only [Bool.not_eq_true', Bool.not_eq_false'] at h) <;> simp only [h,
        grpA, vsliceS, grpS, grpD, grpF, grpL, eop, vop, bop, uop, fltop, convop, endOk, newE, new1, freshL, Md.isNew, outV, pureV, pureX, pure1, AV.cells, AV.one, storable, laid,
              refless, refless1, vload, loadC, storeC, vnil, vfaddr, vextract, flatT, flatE, flatC, vconv, vmm, vidxA, viaddrA, vfield, vlen, elemsOf, dF32, dF64, dI64, dU8, dBool,
              dStr, esOk, elemsS, vsliceX, bnd, ownV, ownC, own1, ownT, isSl, nSl, endL, Md.isOwn, purge, purgeH, purgeB, purgeE, hasName, name1, List.any_cons, List.any_nil,
              Md.isWr, pureV.pureP, Option.map, reduceIte, Nat.reduceEqDiff, Nat.reduceAdd, Nat.reduceMul, Nat.reduceLT, Nat.reduceLeDiff, List.mapM_cons, List.mapM_nil,
              Option.pure_def, Option.bind_eq_bind, Option.bind_some, implies_true, forall_const, beq_self_eq_true, decide_true, decide_false, eq_self, Int.reduceEq, Int.reduceLE,
              Int.reduceLT, if_true, if_false, fc75_0, fc75_1, fc75_2, fc75_3, fc75_4, fc75_5, fc75_6, fc75_7, fc75_8, fc75_9, fc75_10, fc75_11, fc75_12, fc75_13, fc75_14, fc75_15,
              fc75_16, fc75_17, fc75_18, fc75_19, fc75_20, fc75_21, fc75_22, fc75_23, fc75_24, fc75_25, Int.reduceAdd, Int.reduceSub, Int.reduceMul, Int.reduceNeg, Int.reducePow,
              Nat.reducePow, Int.reduceToNat, Nat.reduceSub, List.replicate, Nat.reduceBEq, wAs, wA, wC, zipW, noDupN, grpE]))
    all_goals (try simp only [*, m_spec_l02Mul, Bool.and_true, Bool.true_and, Bool.and_false, Bool.false_and, Bool.or_true, Bool.true_or, Bool.or_false, Bool.false_or, Bool.not_true, Bool.not_false, Bool.false_eq_true, if_true, if_false, reduceIte, decide_true, decide_false])
    all_goals (try (simp_all; done))
  · cases h
def m_spec_l02Parts (x0 : (Nat × Nat × Nat × Nat)) (x1 : (Nat × Nat × Nat)) : ((Nat × Nat × Nat × Nat) × (Nat × Nat × Nat × Nat)) := ((m_spec_l02Mul x0 (m_spec_l02Inverse
      (m_spec_l02Mend (x0.1, (m_spec_l01Scale x1 (m_spec_l01Inner x1 (m_spec_l02Axis x0))).1, (m_spec_l01Scale x1 (m_spec_l01Inner x1 (m_spec_l02Axis x0))).2.1, (m_spec_l01Scale x1
      (m_spec_l01Inner x1 (m_spec_l02Axis x0))).2.2)))), (m_spec_l02Mend (x0.1, (m_spec_l01Scale x1 (m_spec_l01Inner x1 (m_spec_l02Axis x0))).1, (m_spec_l01Scale x1 (m_spec_l01Inner
      x1 (m_spec_l02Axis x0))).2.1, (m_spec_l01Scale x1 (m_spec_l01Inner x1 (m_spec_l02Axis x0))).2.2)))
def p_spec_l02Parts (x0 : (Nat × Nat × Nat × Nat)) (x1 : (Nat × Nat × Nat)) : Bool := (p_spec_l02Mend (x0.1, (m_spec_l01Scale x1 (m_spec_l01Inner x1 (m_spec_l02Axis x0))).1,
      (m_spec_l01Scale x1 (m_spec_l01Inner x1 (m_spec_l02Axis x0))).2.1, (m_spec_l01Scale x1 (m_spec_l01Inner x1 (m_spec_l02Axis x0))).2.2))
def g_spec_l02Parts : List AV → Option AV
  | [.agg [.flt .f32 y0, .flt .f32 y1, .flt .f32 y2, .flt .f32 y3], .agg [.flt .f32 y4, .flt .f32 y5, .flt .f32 y6]] => if p_spec_l02Parts
      (y0, y1, y2, y3) (y4, y5, y6) = true then some (AV.tup [(AV.agg [(.flt .f32 (m_spec_l02Parts (y0, y1, y2, y3) (y4, y5, y6)).1.1), (.flt .f32 (m_spec_l02Parts (y0, y1, y2, y3)
      (y4, y5, y6)).1.2.1), (.flt .f32 (m_spec_l02Parts (y0, y1, y2, y3) (y4, y5, y6)).1.2.2.1), (.flt .f32 (m_spec_l02Parts (y0, y1, y2, y3) (y4, y5, y6)).1.2.2.2)]), (AV.agg
      [(.flt .f32 (m_spec_l02Parts (y0, y1, y2, y3) (y4, y5, y6)).2.1), (.flt .f32 (m_spec_l02Parts (y0, y1, y2, y3) (y4, y5, y6)).2.2.1), (.flt .f32 (m_spec_l02Parts (y0, y1, y2,
      y3) (y4, y5, y6)).2.2.2.1), (.flt .f32 (m_spec_l02Parts (y0, y1, y2, y3) (y4, y5, y6)).2.2.2.2)])]) else none
  | _ => none
def ic74 : ICode := (.seq (.reg [⟨(some 2), none, (.box 4 (.t 0))⟩, ⟨(some 3), none, (.box 3 (.t 1))⟩, ⟨(some 4), none, (.alloc (.agg [(.flt .f32 0), (.flt .f32 0), (.flt .f32 0),
      (.flt .f32 0)]))⟩, ⟨(some 5), none, (.alloc (.agg [(.flt .f32 0), (.flt .f32 0), (.flt .f32 0), (.flt .f32 0)]))⟩] [2, 3, 4, 5]) (.seq (.reg [⟨(some 8), none, (.load (some 3)
      (.o 3 3))⟩, ⟨(some 9), none, (.load (some 3) (.o 3 3))⟩, ⟨(some 10), none, (.load (some 4) (.o 2 2))⟩, ⟨(some 11), none, (.call (.fn 119) [(.t 10)] [])⟩, ⟨(some 12), none,
      (.call (.fn 118) [(.t 9), (.t 11)] [])⟩, ⟨(some 13), none, (.call (.fn 53) [(.t 8), (.t 12)] [])⟩, ⟨(some 6), none, (.alloc (.agg [(.flt .f32 0), (.flt .f32 0), (.flt .f32
      0)]))⟩, ⟨none, none, (.store 3 (.o 6 6) (.t 13))⟩] [2, 4, 5, 6]) (.seq (.reg [⟨(some 14), none, (.faddr 0 (.t 2))⟩, ⟨(some 15), none, (.load none (.t 14))⟩, ⟨(some 16), none,
      (.faddr 0 (.t 6))⟩, ⟨(some 17), none, (.load none (.t 16))⟩, ⟨(some 18), none, (.faddr 1 (.t 6))⟩, ⟨(some 19), none, (.load none (.t 18))⟩, ⟨(some 20), none, (.faddr 2 (.t
      6))⟩, ⟨(some 21), none, (.load none (.t 20))⟩, ⟨(some 22), none, (.build [(.flt .f32 0), (.flt .f32 0), (.flt .f32 0), (.flt .f32 0)] [(0, 1, (.t 15)), (1, 1, (.t 17)), (2, 1,
      (.t 19)), (3, 1, (.t 21))])⟩, ⟨(some 23), none, (.call (.fn 120) [(.t 22)] [])⟩, ⟨(some 7), none, (.alloc (.agg [(.flt .f32 0), (.flt .f32 0), (.flt .f32 0), (.flt .f32
      0)]))⟩, ⟨none, none, (.store 4 (.t 7) (.t 23))⟩] [2, 4, 5, 7]) (.seq (.reg [⟨(some 24), none, (.load (some 4) (.o 2 2))⟩, ⟨(some 25), none, (.load (some 4) (.o 7 7))⟩, ⟨(some
      26), none, (.call (.fn 121) [(.t 25)] [])⟩, ⟨(some 27), none, (.call (.fn 75) [(.t 24), (.t 26)] [])⟩, ⟨(some 28), none, (.load (some 4) (.o 7 7))⟩, ⟨none, none, (.store 4 (.o
      4 4) (.t 27))⟩, ⟨none, none, (.store 4 (.o 5 5) (.t 28))⟩] [4, 5]) .ret))))
def cp74 : CP := CP.mk [] [] [[2, 3, 4, 5], [2, 4, 5, 6], [2, 4, 5, 7], [4, 5]] 29 [(2, 2), (3, 3), (4, 4), (5, 5), (6, 6), (7, 7)] []
theorem fc74_0 : IntKind.wrap .i64 (-1) = (-1) := by decide
theorem fc74_1 : IntKind.wrap .i64 0 = 0 := by decide
theorem fc74_2 : IntKind.wrap .i64 1 = 1 := by decide
theorem fc74_3 : IntKind.wrap .i64 10 = 10 := by decide
theorem fc74_4 : IntKind.wrap .i64 11 = 11 := by decide
theorem fc74_5 : IntKind.wrap .i64 110 = 110 := by decide
theorem fc74_6 : IntKind.wrap .i64 12 = 12 := by decide
theorem fc74_7 : IntKind.wrap .i64 13 = 13 := by decide
theorem fc74_8 : IntKind.wrap .i64 14 = 14 := by decide
theorem fc74_9 : IntKind.wrap .i64 15 = 15 := by decide
theorem fc74_10 : IntKind.wrap .i64 156 = 156 := by decide
theorem fc74_11 : IntKind.wrap .i64 16 = 16 := by decide
theorem fc74_12 : IntKind.wrap .i64 17 = 17 := by decide
theorem fc74_13 : IntKind.wrap .i64 2 = 2 := by decide
theorem fc74_14 : IntKind.wrap .i64 20 = 20 := by decide
theorem fc74_15 : IntKind.wrap .i64 210 = 210 := by decide
theorem fc74_16 : IntKind.wrap .i64 272 = 272 := by decide
theorem fc74_17 : IntKind.wrap .i64 3 = 3 := by decide
theorem fc74_18 : IntKind.wrap .i64 4 = 4 := by decide
theorem fc74_19 : IntKind.wrap .i64 42 = 42 := by decide
theorem fc74_20 : IntKind.wrap .i64 5 = 5 := by decide
theorem fc74_21 : IntKind.wrap .i64 6 = 6 := by decide
theorem fc74_22 : IntKind.wrap .i64 7 = 7 := by decide
theorem fc74_23 : IntKind.wrap .i64 72 = 72 := by decide
theorem fc74_24 : IntKind.wrap .i64 8 = 8 := by decide
theorem fc74_25 : IntKind.wrap .i64 9 = 9 := by decide
theorem s74 : ∀ vs r, g_spec_l02Parts vs = some r → SaysM Try.prog .any 74 vs r := by
  intro vs r h
  unfold g_spec_l02Parts at h
  split at h
  · rename_i y0 y1 y2 y3 y4 y5 y6
    split at h
    · rename_i hp
      cases h
      refine spec_of (m := .any) (tab := tabOf [(53, wM .any g_spec_l01Scale), (75, wM .any g_spec_l02Mul), (118, wM .any g_spec_l01Inner), (119, wM .any g_spec_l02Axis), (120, wM .any g_spec_l02Mend), (121, wM .any g_spec_l02Inverse)]) (cp := cp74) (ic := ic74) (rvl := [(.c 4 (some 4)), (.c 5 (some 4))]) hm (tabOk_cons (m := .any) s53 (tabOk_cons (m := .any) s75 (tabOk_cons (m := .any) s118 (tabOk_cons (m := .any) s119 (tabOk_cons (m := .any) s120 (tabOk_cons (m := .any) s121 tabOk_nil)))))) Try.func74 rfl rfl rfl (by kernel_rfl) rfl (Nat.le_of_ble_eq_true rfl) (Nat.le_of_ble_eq_true rfl) ?_
      show eA _ _ _ _
      unfold ic74
      simp only [p_spec_l02Parts, Bool.and_eq_true, Bool.or_eq_true, decide_eq_true_eq, Bool.not_eq_true', decide_eq_false_iff_not] at hp
      simp only [
          hp, grpA, vsliceS, grpS, grpD, grpF, grpL, eop, vop, bop, uop, fltop, convop, endOk, newE, new1, freshL, Md.isNew, outV, pureV, pureX, pure1, AV.cells, AV.one, storable,
                laid, refless, refless1, vload, loadC, storeC, vnil, vfaddr, vextract, flatT, flatE, flatC, vconv, vmm, vidxA, viaddrA, vfield, vlen, elemsOf, dF32, dF64, dI64, dU8,
                dBool, dStr, esOk, elemsS, vsliceX, bnd, ownV, ownC, own1, ownT, isSl, nSl, endL, Md.isOwn, purge, purgeH, purgeB, purgeE, hasName, name1, List.any_cons,
                List.any_nil, Md.isWr, pureV.pureP, Option.map, reduceIte, Nat.reduceEqDiff, Nat.reduceAdd, Nat.reduceMul, Nat.reduceLT, Nat.reduceLeDiff, List.mapM_cons,
                List.mapM_nil, Option.pure_def, Option.bind_eq_bind, Option.bind_some, implies_true, forall_const, beq_self_eq_true, decide_true, decide_false, eq_self,
                Int.reduceEq, Int.reduceLE, Int.reduceLT, if_true, if_false, fc74_0, fc74_1, fc74_2, fc74_3, fc74_4, fc74_5, fc74_6, fc74_7, fc74_8, fc74_9, fc74_10, fc74_11,
                fc74_12, fc74_13, fc74_14, fc74_15, fc74_16, fc74_17, fc74_18, fc74_19, fc74_20, fc74_21, fc74_22, fc74_23, fc74_24, fc74_25, Int.reduceAdd, Int.reduceSub,
                Int.reduceMul, Int.reduceNeg, Int.reducePow, Nat.reducePow, Int.reduceToNat, Nat.reduceSub, List.replicate, Nat.reduceBEq, wAs, wA, wC, zipW, noDupN, grpE,
                g_spec_l01Scale, g_spec_l02Mul, g_spec_l01Inner, g_spec_l02Axis, g_spec_l02Mend, g_spec_l02Inverse]
      repeat' (first
        | ((first | (refine eGI_of (fun h => ?_) (fun h => ?_)) | (refine eCc_of (fun h => ?_) (fun h => ?_))) <;> (try simp only [Bool.not_eq_true', Bool.not_eq_false'] at h) <;> (try simp only [h, reduceCtorEq, Bool.not_eq_true', decide_eq_false_iff_not, Bool.not_true, Bool.not_false, Bool.false_or, Bool.true_or, Bool.true_and, Bool.false_and, Bool.and_eq_true, Bool.or_eq_true, if_true, if_false, reduceIte, Bool.false_eq_true, and_true, true_and, false_or, or_false, decide_eq_true_eq, not_false_eq_true, not_true_eq_false] at hp) <;> (try (have h2 := h; simp only [decide_eq_true_eq, decide_eq_false_iff_not] at h2; (first | (replace h2 := eq_false h2) | (replace h2 := eq_true h2)); simp only [h2, if_true, if_false, false_or, true_or, or_true, or_false, and_true, true_and, not_false_eq_true, not_true_eq_false] at hp)) <;> simp only [h,
          hp, grpA, vsliceS, grpS, grpD, grpF, grpL, eop, vop, bop, uop, fltop, convop, endOk, newE, new1, freshL, Md.isNew, outV, pureV, pureX, pure1, AV.cells, AV.one, storable,
                laid, refless, refless1, vload, loadC, storeC, vnil, vfaddr, vextract, flatT, flatE, flatC, vconv, vmm, vidxA, viaddrA, vfield, vlen, elemsOf, dF32, dF64, dI64, dU8,
                dBool, dStr, esOk, elemsS, vsliceX, bnd, ownV, ownC, own1, ownT, isSl, nSl, endL, Md.isOwn, purge, purgeH, purgeB, purgeE, hasName, name1, List.any_cons,
                List.any_nil, Md.isWr, pureV.pureP, Option.map, reduceIte, Nat.reduceEqDiff, Nat.reduceAdd, Nat.reduceMul, Nat.reduceLT, Nat.reduceLeDiff, List.mapM_cons,
                List.mapM_nil, Option.pure_def, Option.bind_eq_bind, Option.bind_some, implies_true, forall_const, beq_self_eq_true, decide_true, decide_false, eq_self,
                Int.reduceEq, Int.reduceLE, Int.reduceLT, if_true, if_false, fc74_0, fc74_1, fc74_2, fc74_3, fc74_4, fc74_5, fc74_6, fc74_7, fc74_8, fc74_9, fc74_10, fc74_11,
                fc74_12, fc74_13, fc74_14, fc74_15, fc74_16, fc74_17, fc74_18, fc74_19, fc74_20, fc74_21, fc74_22, fc74_23, fc74_24, fc74_25, Int.reduceAdd, Int.reduceSub,
                Int.reduceMul, Int.reduceNeg, Int.reducePow, Nat.reducePow, Int.reduceToNat, Nat.reduceSub, List.replicate, Nat.reduceBEq, wAs, wA, wC, zipW, noDupN, grpE,
                g_spec_l01Scale, g_spec_l02Mul, g_spec_l01Inner, g_spec_l02Axis, g_spec_l02Mend, g_spec_l02Inverse]))
      all_goals (try simp only [*, m_spec_l02Parts, Bool.and_true, Bool.true_and, Bool.and_false, Bool.false_and, Bool.or_true, Bool.true_or, Bool.or_false, Bool.false_or, Bool.not_true, Bool.not_false, Bool.false_eq_true, if_true, if_false, reduceIte, decide_true, decide_false])
      all_goals (try (simp_all; done))
    · cases h
  · cases h
def m_spec_l01Long (x0 : (Nat × Nat × Nat)) : Nat := (m_spec_l01Sqrt (m_spec_l01Inner x0 x0))
def p_spec_l01Long (x0 : (Nat × Nat × Nat)) : Bool := (p_spec_l01Sqrt (m_spec_l01Inner x0 x0))
def g_spec_l01Long : List AV → Option AV
  | [.agg [.flt .f32 y0, .flt .f32 y1, .flt .f32 y2]] => if p_spec_l01Long (y0, y1, y2) = true then some (.flt .f32 (m_spec_l01Long (y0, y1,
      y2))) else none
  | _ => none
def ic168 : ICode := (.seq (.reg [⟨(some 1), none, (.box 3 (.t 0))⟩, ⟨(some 2), none, (.mov (.c (.flt .f32 0)))⟩] [1]) (.seq (.reg [⟨(some 3), none, (.load (some 3) (.t 1))⟩, ⟨(some
      4), none, (.load (some 3) (.t 1))⟩, ⟨(some 5), none, (.call (.fn 118) [(.t 3), (.t 4)] [])⟩, ⟨(some 6), none, (.call (.fn 163) [(.t 5)] [])⟩, ⟨(some 2), none, (.mov (.t 6))⟩]
      [2]) .ret))
def cp168 : CP := CP.mk [] [] [[1], [2]] 7 [] []
theorem fc168_0 : IntKind.wrap .i64 (-1) = (-1) := by decide
theorem fc168_1 : IntKind.wrap .i64 0 = 0 := by decide
theorem fc168_2 : IntKind.wrap .i64 1 = 1 := by decide
theorem fc168_3 : IntKind.wrap .i64 10 = 10 := by decide
theorem fc168_4 : IntKind.wrap .i64 11 = 11 := by decide
theorem fc168_5 : IntKind.wrap .i64 110 = 110 := by decide
theorem fc168_6 : IntKind.wrap .i64 12 = 12 := by decide
theorem fc168_7 : IntKind.wrap .i64 13 = 13 := by decide
theorem fc168_8 : IntKind.wrap .i64 14 = 14 := by decide
theorem fc168_9 : IntKind.wrap .i64 15 = 15 := by decide
theorem fc168_10 : IntKind.wrap .i64 156 = 156 := by decide
theorem fc168_11 : IntKind.wrap .i64 16 = 16 := by decide
theorem fc168_12 : IntKind.wrap .i64 17 = 17 := by decide
theorem fc168_13 : IntKind.wrap .i64 2 = 2 := by decide
theorem fc168_14 : IntKind.wrap .i64 20 = 20 := by decide
theorem fc168_15 : IntKind.wrap .i64 210 = 210 := by decide
theorem fc168_16 : IntKind.wrap .i64 272 = 272 := by decide
theorem fc168_17 : IntKind.wrap .i64 3 = 3 := by decide
theorem fc168_18 : IntKind.wrap .i64 4 = 4 := by decide
theorem fc168_19 : IntKind.wrap .i64 42 = 42 := by decide
theorem fc168_20 : IntKind.wrap .i64 5 = 5 := by decide
theorem fc168_21 : IntKind.wrap .i64 6 = 6 := by decide
theorem fc168_22 : IntKind.wrap .i64 7 = 7 := by decide
theorem fc168_23 : IntKind.wrap .i64 72 = 72 := by decide
theorem fc168_24 : IntKind.wrap .i64 8 = 8 := by decide
theorem fc168_25 : IntKind.wrap .i64 9 = 9 := by decide
theorem s168 : ∀ vs r, g_spec_l01Long vs = some r → SaysM Try.prog .any 168 vs r := by
  intro vs r h
  unfold g_spec_l01Long at h
  split at h
  · rename_i y0 y1 y2
    split at h
    · rename_i hp
      cases h
      refine spec_of (m := .any) (tab := tabOf [(118, wM .any g_spec_l01Inner), (163, wM .any g_spec_l01Sqrt)]) (cp := cp168) (ic := ic168) (rvl := [(.t 2)]) hm (tabOk_cons (m := .any) s118 (tabOk_cons (m := .any) s163 tabOk_nil)) Try.func168 rfl rfl rfl (by kernel_rfl) rfl (Nat.le_of_ble_eq_true rfl) (Nat.le_of_ble_eq_true rfl) ?_
      show eA _ _ _ _
      unfold ic168
      simp only [p_spec_l01Long, Bool.and_eq_true, Bool.or_eq_true, decide_eq_true_eq, Bool.not_eq_true', decide_eq_false_iff_not] at hp
      simp only [
          hp, grpA, vsliceS, grpS, grpD, grpF, grpL, eop, vop, bop, uop, fltop, convop, endOk, newE, new1, freshL, Md.isNew, outV, pureV, pureX, pure1, AV.cells, AV.one, storable,
                laid, refless, refless1, vload, loadC, storeC, vnil, vfaddr, vextract, flatT, flatE, flatC, vconv, vmm, vidxA, viaddrA, vfield, vlen, elemsOf, dF32, dF64, dI64, dU8,
                dBool, dStr, esOk, elemsS, vsliceX, bnd, ownV, ownC, own1, ownT, isSl, nSl, endL, Md.isOwn, purge, purgeH, purgeB, purgeE, hasName, name1, List.any_cons,
                List.any_nil, Md.isWr, pureV.pureP, Option.map, reduceIte, Nat.reduceEqDiff, Nat.reduceAdd, Nat.reduceMul, Nat.reduceLT, Nat.reduceLeDiff, List.mapM_cons,
                List.mapM_nil, Option.pure_def, Option.bind_eq_bind, Option.bind_some, implies_true, forall_const, beq_self_eq_true, decide_true, decide_false, eq_self,
                Int.reduceEq, Int.reduceLE, Int.reduceLT, if_true, if_false, fc168_0, fc168_1, fc168_2, fc168_3, fc168_4, fc168_5, fc168_6, fc168_7, fc168_8, fc168_9, fc168_10,
                fc168_11, fc168_12, fc168_13, fc168_14, fc168_15, fc168_16, fc168_17, fc168_18, fc168_19, fc168_20, fc168_21, fc168_22, fc168_23, fc168_24, fc168_25, Int.reduceAdd,
                Int.reduceSub, Int.reduceMul, Int.reduceNeg, Int.reducePow, Nat.reducePow, Int.reduceToNat, Nat.reduceSub, List.replicate, Nat.reduceBEq, wAs, wA, wC, zipW, noDupN,
                grpE, g_spec_l01Inner, g_spec_l01Sqrt]
      repeat' (first
        | ((first | (refine eGI_of (fun h => ?_) (fun h => ?_)) | (refine eCc_of (fun h => ?_) (fun h => ?_))) <;> (try simp only [Bool.not_eq_true', Bool.not_eq_false'] at h) <;> (try simp only [h, reduceCtorEq, Bool.not_eq_true', decide_eq_false_iff_not, Bool.not_true, Bool.not_false, Bool.false_or, Bool.true_or, Bool.true_and, Bool.false_and, Bool.and_eq_true, Bool.or_eq_true, if_true, if_false, reduceIte, Bool.false_eq_true, and_true, true_and, false_or, or_false, decide_eq_true_eq, not_false_eq_true, not_true_eq_false] at hp) <;> (try (have h2 := h; simp only [decide_eq_true_eq, decide_eq_false_iff_not] at h2; (first | (replace h2 := eq_false h2) | (replace h2 := eq_true h2)); simp only [h2, if_true, if_false, false_or, true_or, or_true, or_false, and_true, true_and, not_false_eq_true, not_true_eq_false] at hp)) <;> simp only [h,
          hp, grpA, vsliceS, grpS, grpD, grpF, grpL, eop, vop, bop, uop, fltop, convop, endOk, newE, new1, freshL, Md.isNew, outV, pureV, pureX, pure1, AV.cells, AV.one, storable,
                laid, refless, refless1, vload, loadC, storeC, vnil, vfaddr, vextract, flatT, flatE, flatC, vconv, vmm, vidxA, viaddrA, vfield, vlen, elemsOf, dF32, dF64, dI64, dU8,
                dBool, dStr, esOk, elemsS, vsliceX, bnd, ownV, ownC, own1, ownT, isSl, nSl, endL, Md.isOwn, purge, purgeH, purgeB, purgeE, hasName, name1, List.any_cons,
                List.any_nil, Md.isWr, pureV.pureP, Option.map, reduceIte, Nat.reduceEqDiff, Nat.reduceAdd, Nat.reduceMul, Nat.reduceLT, Nat.reduceLeDiff, List.mapM_cons,
                List.mapM_nil, Option.pure_def, Option.bind_eq_bind, Option.bind_some, implies_true, forall_const, beq_self_eq_true, decide_true, decide_false, eq_self,
                Int.reduceEq, Int.reduceLE, Int.reduceLT, if_true, if_false, fc168_0, fc168_1, fc168_2, fc168_3, fc168_4, fc168_5, fc168_6, fc168_7, fc168_8, fc168_9, fc168_10,
                fc168_11, fc168_12, fc168_13, fc168_14, fc168_15, fc168_16, fc168_17, fc168_18, fc168_19, fc168_20, fc168_21, fc168_22, fc168_23, fc168_24, fc168_25, Int.reduceAdd,
                Int.reduceSub, Int.reduceMul, Int.reduceNeg, Int.reducePow, Nat.reducePow, Int.reduceToNat, Nat.reduceSub, List.replicate, Nat.reduceBEq, wAs, wA, wC, zipW, noDupN,
                grpE, g_spec_l01Inner, g_spec_l01Sqrt]))
      all_goals (try simp only [*, m_spec_l01Long, Bool.and_true, Bool.true_and, Bool.and_false, Bool.false_and, Bool.or_true, Bool.true_or, Bool.or_false, Bool.false_or, Bool.not_true, Bool.not_false, Bool.false_eq_true, if_true, if_false, reduceIte, decide_true, decide_false])
      all_goals (try (simp_all; done))
    · cases h
  · cases h
theorem s203 : ∀ vs r, g_f32bits vs = some r → SaysM Try.prog .any 203 vs r := t_f32bits Try.func203 (by kernel_rfl) rfl (by kernel_rfl) (by kernel_rfl)
def m_spec_l01Bits (x0 : Nat) : Int := (if (feq .f32 x0 x0) = true then (IntKind.wrap .i64 ((x0 : Nat) : Int)) else 2143289344)
def p_spec_l01Bits (x0 : Nat) : Bool := (!(feq .f32 x0 x0) || (feq .f32 x0 x0))
def g_spec_l01Bits : List AV → Option AV
  | [.flt .f32 y0] => if p_spec_l01Bits y0 = true then some (.int .i64 (m_spec_l01Bits y0)) else none
  | _ => none
def ic195 : ICode := (.seq (.reg [⟨(some 2), none, (.mov (.c (.int .i64 0)))⟩] [0]) (.seq (.seq (.reg [⟨(some 3), none, (.mov (.t 0))⟩, ⟨(some 4), none, (.mov (.t 0))⟩, ⟨(some 5),
      none, (.bin .neq false (.t 3) (.t 4))⟩] [0, 5]) (.cond (.t 5) (.seq (.reg [⟨(some 2), none, (.mov (.c (.int .i64 2143289344)))⟩] [2]) .ret) .skip)) (.seq (.reg [⟨(some 6),
      none, (.mov (.t 0))⟩, ⟨(some 7), none, (.call (.fn 203) [(.t 6)] [])⟩, ⟨(some 8), none, (.conv (.int .i64) (.t 7))⟩, ⟨(some 2), none, (.mov (.t 8))⟩] [2]) .ret)))
def cp195 : CP := CP.mk [] [] [[0], [0, 5], [2], [2]] 9 [] []
theorem fc195_0 : IntKind.wrap .i64 (-1) = (-1) := by decide
theorem fc195_1 : IntKind.wrap .i64 0 = 0 := by decide
theorem fc195_2 : IntKind.wrap .i64 1 = 1 := by decide
theorem fc195_3 : IntKind.wrap .i64 10 = 10 := by decide
theorem fc195_4 : IntKind.wrap .i64 11 = 11 := by decide
theorem fc195_5 : IntKind.wrap .i64 110 = 110 := by decide
theorem fc195_6 : IntKind.wrap .i64 12 = 12 := by decide
theorem fc195_7 : IntKind.wrap .i64 13 = 13 := by decide
theorem fc195_8 : IntKind.wrap .i64 14 = 14 := by decide
theorem fc195_9 : IntKind.wrap .i64 15 = 15 := by decide
theorem fc195_10 : IntKind.wrap .i64 156 = 156 := by decide
theorem fc195_11 : IntKind.wrap .i64 16 = 16 := by decide
theorem fc195_12 : IntKind.wrap .i64 17 = 17 := by decide
theorem fc195_13 : IntKind.wrap .i64 2 = 2 := by decide
theorem fc195_14 : IntKind.wrap .i64 20 = 20 := by decide
theorem fc195_15 : IntKind.wrap .i64 210 = 210 := by decide
theorem fc195_16 : IntKind.wrap .i64 272 = 272 := by decide
theorem fc195_17 : IntKind.wrap .i64 3 = 3 := by decide
theorem fc195_18 : IntKind.wrap .i64 4 = 4 := by decide
theorem fc195_19 : IntKind.wrap .i64 42 = 42 := by decide
theorem fc195_20 : IntKind.wrap .i64 5 = 5 := by decide
theorem fc195_21 : IntKind.wrap .i64 6 = 6 := by decide
theorem fc195_22 : IntKind.wrap .i64 7 = 7 := by decide
theorem fc195_23 : IntKind.wrap .i64 72 = 72 := by decide
theorem fc195_24 : IntKind.wrap .i64 8 = 8 := by decide
theorem fc195_25 : IntKind.wrap .i64 9 = 9 := by decide
theorem s195 : ∀ vs r, g_spec_l01Bits vs = some r → SaysM Try.prog .any 195 vs r := by
  intro vs r h
  unfold g_spec_l01Bits at h
  split at h
  · rename_i y0
    split at h
    · rename_i hp
      cases h
      refine spec_of (m := .any) (tab := tabOf [(203, wM .any g_f32bits)]) (cp := cp195) (ic := ic195) (rvl := [(.t 2)]) hm (tabOk_cons (m := .any) s203 tabOk_nil) Try.func195 rfl rfl rfl (by kernel_rfl) rfl (Nat.le_of_ble_eq_true rfl) (Nat.le_of_ble_eq_true rfl) ?_
      show eA _ _ _ _
      unfold ic195
      simp only [p_spec_l01Bits, Bool.and_eq_true, Bool.or_eq_true, decide_eq_true_eq, Bool.not_eq_true', decide_eq_false_iff_not] at hp
      simp only [
          hp, grpA, vsliceS, grpS, grpD, grpF, grpL, eop, vop, bop, uop, fltop, convop, endOk, newE, new1, freshL, Md.isNew, outV, pureV, pureX, pure1, AV.cells, AV.one, storable,
                laid, refless, refless1, vload, loadC, storeC, vnil, vfaddr, vextract, flatT, flatE, flatC, vconv, vmm, vidxA, viaddrA, vfield, vlen, elemsOf, dF32, dF64, dI64, dU8,
                dBool, dStr, esOk, elemsS, vsliceX, bnd, ownV, ownC, own1, ownT, isSl, nSl, endL, Md.isOwn, purge, purgeH, purgeB, purgeE, hasName, name1, List.any_cons,
                List.any_nil, Md.isWr, pureV.pureP, Option.map, reduceIte, Nat.reduceEqDiff, Nat.reduceAdd, Nat.reduceMul, Nat.reduceLT, Nat.reduceLeDiff, List.mapM_cons,
                List.mapM_nil, Option.pure_def, Option.bind_eq_bind, Option.bind_some, implies_true, forall_const, beq_self_eq_true, decide_true, decide_false, eq_self,
                Int.reduceEq, Int.reduceLE, Int.reduceLT, if_true, if_false, fc195_0, fc195_1, fc195_2, fc195_3, fc195_4, fc195_5, fc195_6, fc195_7, fc195_8, fc195_9, fc195_10,
                fc195_11, fc195_12, fc195_13, fc195_14, fc195_15, fc195_16, fc195_17, fc195_18, fc195_19, fc195_20, fc195_21, fc195_22, fc195_23, fc195_24, fc195_25, Int.reduceAdd,
                Int.reduceSub, Int.reduceMul, Int.reduceNeg, Int.reducePow, Nat.reducePow, Int.reduceToNat, Nat.reduceSub, List.replicate, Nat.reduceBEq, wAs, wA, wC, zipW, noDupN,
                grpE, g_f32bits]
      repeat' (first
        | ((first | (refine eGI_of (fun h => ?_) (fun h => ?_)) | (refine eCc_of (fun h => ?_) (fun h => ?_))) <;> (try simp only [Bool.not_eq_true', Bool.not_eq_false'] at h) <;> (try simp only [h, reduceCtorEq, Bool.not_eq_true', decide_eq_false_iff_not, Bool.not_true, Bool.not_false, Bool.false_or, Bool.true_or, Bool.true_and, Bool.false_and, Bool.and_eq_true, Bool.or_eq_true, if_true, if_false, reduceIte, Bool.false_eq_true, and_true, true_and, false_or, or_false, decide_eq_true_eq, not_false_eq_true, not_true_eq_false] at hp) <;> (try (have h2 := h; simp only [decide_eq_true_eq, decide_eq_false_iff_not] at h2; (first | (replace h2 := eq_false h2) | (replace h2 := eq_true h2)); simp only [h2, if_true, if_false, false_or, true_or, or_true, or_false, and_true, true_and, not_false_eq_true, not_true_eq_false] at hp)) <;> simp only [h,
          hp, grpA, vsliceS, grpS, grpD, grpF, grpL, eop, vop, bop, uop, fltop, convop, endOk, newE, new1, freshL, Md.isNew, outV, pureV, pureX, pure1, AV.cells, AV.one, storable,
                laid, refless, refless1, vload, loadC, storeC, vnil, vfaddr, vextract, flatT, flatE, flatC, vconv, vmm, vidxA, viaddrA, vfield, vlen, elemsOf, dF32, dF64, dI64, dU8,
                dBool, dStr, esOk, elemsS, vsliceX, bnd, ownV, ownC, own1, ownT, isSl, nSl, endL, Md.isOwn, purge, purgeH, purgeB, purgeE, hasName, name1, List.any_cons,
                List.any_nil, Md.isWr, pureV.pureP, Option.map, reduceIte, Nat.reduceEqDiff, Nat.reduceAdd, Nat.reduceMul, Nat.reduceLT, Nat.reduceLeDiff, List.mapM_cons,
                List.mapM_nil, Option.pure_def, Option.bind_eq_bind, Option.bind_some, implies_true, forall_const, beq_self_eq_true, decide_true, decide_false, eq_self,
                Int.reduceEq, Int.reduceLE, Int.reduceLT, if_true, if_false, fc195_0, fc195_1, fc195_2, fc195_3, fc195_4, fc195_5, fc195_6, fc195_7, fc195_8, fc195_9, fc195_10,
                fc195_11, fc195_12, fc195_13, fc195_14, fc195_15, fc195_16, fc195_17, fc195_18, fc195_19, fc195_20, fc195_21, fc195_22, fc195_23, fc195_24, fc195_25, Int.reduceAdd,
                Int.reduceSub, Int.reduceMul, Int.reduceNeg, Int.reducePow, Nat.reducePow, Int.reduceToNat, Nat.reduceSub, List.replicate, Nat.reduceBEq, wAs, wA, wC, zipW, noDupN,
                grpE, g_f32bits]))
      all_goals (try simp only [*, m_spec_l01Bits, Bool.and_true, Bool.true_and, Bool.and_false, Bool.false_and, Bool.or_true, Bool.true_or, Bool.or_false, Bool.false_or, Bool.not_true, Bool.not_false, Bool.false_eq_true, if_true, if_false, reduceIte, decide_true, decide_false])
      all_goals (try (simp_all; done))
    · cases h
  · cases h
theorem s202 : ∀ vs r, g_f32from vs = some r → SaysM Try.prog .any 202 vs r := t_f32from Try.func202 (by kernel_rfl) rfl (by kernel_rfl) (by kernel_rfl)
def m_spec_l01From (x0 : Int) : Nat := (cn .f32 (Int.toNat (IntKind.wrap .u32 x0)))
def g_spec_l01From : List AV → Option AV
  | [.int .i64 y0] => some (.flt .f32 (m_spec_l01From y0))
  | _ => none
def ic194 : ICode := (.seq (.reg [⟨(some 2), none, (.mov (.c (.flt .f32 0)))⟩] [0]) (.seq (.reg [⟨(some 3), none, (.mov (.t 0))⟩, ⟨(some 4), none, (.conv (.int .u32) (.t 3))⟩,
      ⟨(some 5), none, (.call (.fn 202) [(.t 4)] [])⟩, ⟨(some 2), none, (.mov (.t 5))⟩] [2]) .ret))
def cp194 : CP := CP.mk [] [] [[0], [2]] 6 [] []
theorem fc194_0 : IntKind.wrap .i64 (-1) = (-1) := by decide
theorem fc194_1 : IntKind.wrap .i64 0 = 0 := by decide
theorem fc194_2 : IntKind.wrap .i64 1 = 1 := by decide
theorem fc194_3 : IntKind.wrap .i64 10 = 10 := by decide
theorem fc194_4 : IntKind.wrap .i64 11 = 11 := by decide
theorem fc194_5 : IntKind.wrap .i64 110 = 110 := by decide
theorem fc194_6 : IntKind.wrap .i64 12 = 12 := by decide
theorem fc194_7 : IntKind.wrap .i64 13 = 13 := by decide
theorem fc194_8 : IntKind.wrap .i64 14 = 14 := by decide
theorem fc194_9 : IntKind.wrap .i64 15 = 15 := by decide
theorem fc194_10 : IntKind.wrap .i64 156 = 156 := by decide
theorem fc194_11 : IntKind.wrap .i64 16 = 16 := by decide
theorem fc194_12 : IntKind.wrap .i64 17 = 17 := by decide
theorem fc194_13 : IntKind.wrap .i64 2 = 2 := by decide
theorem fc194_14 : IntKind.wrap .i64 20 = 20 := by decide
theorem fc194_15 : IntKind.wrap .i64 210 = 210 := by decide
theorem fc194_16 : IntKind.wrap .i64 272 = 272 := by decide
theorem fc194_17 : IntKind.wrap .i64 3 = 3 := by decide
theorem fc194_18 : IntKind.wrap .i64 4 = 4 := by decide
theorem fc194_19 : IntKind.wrap .i64 42 = 42 := by decide
theorem fc194_20 : IntKind.wrap .i64 5 = 5 := by decide
theorem fc194_21 : IntKind.wrap .i64 6 = 6 := by decide
theorem fc194_22 : IntKind.wrap .i64 7 = 7 := by decide
theorem fc194_23 : IntKind.wrap .i64 72 = 72 := by decide
theorem fc194_24 : IntKind.wrap .i64 8 = 8 := by decide
theorem fc194_25 : IntKind.wrap .i64 9 = 9 := by decide
theorem s194 : ∀ vs r, g_spec_l01From vs = some r → SaysM Try.prog .any 194 vs r := by
  intro vs r h
  unfold g_spec_l01From at h
  split at h
  · rename_i y0
    cases h
    refine spec_of (m := .any) (tab := tabOf [(202, wM .any g_f32from)]) (cp := cp194) (ic := ic194) (rvl := [(.t 2)]) hm (tabOk_cons (m := .any) s202 tabOk_nil) Try.func194 rfl rfl rfl (by kernel_rfl) rfl (Nat.le_of_ble_eq_true rfl) (Nat.le_of_ble_eq_true rfl) ?_
    show eA _ _ _ _
    unfold ic194
    simp only [
        grpA, vsliceS, grpS, grpD, grpF, grpL, eop, vop, bop, uop, fltop, convop, endOk, newE, new1, freshL, Md.isNew, outV, pureV, pureX, pure1, AV.cells, AV.one, storable, laid,
              refless, refless1, vload, loadC, storeC, vnil, vfaddr, vextract, flatT, flatE, flatC, vconv, vmm, vidxA, viaddrA, vfield, vlen, elemsOf, dF32, dF64, dI64, dU8, dBool,
              dStr, esOk, elemsS, vsliceX, bnd, ownV, ownC, own1, ownT, isSl, nSl, endL, Md.isOwn, purge, purgeH, purgeB, purgeE, hasName, name1, List.any_cons, List.any_nil,
              Md.isWr, pureV.pureP, Option.map, reduceIte, Nat.reduceEqDiff, Nat.reduceAdd, Nat.reduceMul, Nat.reduceLT, Nat.reduceLeDiff, List.mapM_cons, List.mapM_nil,
              Option.pure_def, Option.bind_eq_bind, Option.bind_some, implies_true, forall_const, beq_self_eq_true, decide_true, decide_false, eq_self, Int.reduceEq, Int.reduceLE,
              Int.reduceLT, if_true, if_false, fc194_0, fc194_1, fc194_2, fc194_3, fc194_4, fc194_5, fc194_6, fc194_7, fc194_8, fc194_9, fc194_10, fc194_11, fc194_12, fc194_13,
              fc194_14, fc194_15, fc194_16, fc194_17, fc194_18, fc194_19, fc194_20, fc194_21, fc194_22, fc194_23, fc194_24, fc194_25, Int.reduceAdd, Int.reduceSub, Int.reduceMul,
              Int.reduceNeg, Int.reducePow, Nat.reducePow, Int.reduceToNat, Nat.reduceSub, List.replicate, Nat.reduceBEq, wAs, wA, wC, zipW, noDupN, grpE, g_f32from]
    repeat' (first
      | ((first | (refine eGI_of (fun h => ?_) (fun h => ?_)) | (refine eCc_of (fun h => ?_) (fun h => ?_))) <;> (try simp only [Bool.not_eq_true', Bool.not_eq_false'] at h) <;> simp only [h,
        grpA, vsliceS, grpS, grpD, grpF, grpL, eop, vop, bop, uop, fltop, convop, endOk, newE, new1, freshL, Md.isNew, outV, pureV, pureX, pure1, AV.cells, AV.one, storable, laid,
              refless, refless1, vload, loadC, storeC, vnil, vfaddr, vextract, flatT, flatE, flatC, vconv, vmm, vidxA, viaddrA, vfield, vlen, elemsOf, dF32, dF64, dI64, dU8, dBool,
              dStr, esOk, elemsS, vsliceX, bnd, ownV, ownC, own1, ownT, isSl, nSl, endL, Md.isOwn, purge, purgeH, purgeB, purgeE, hasName, name1, List.any_cons, List.any_nil,
              Md.isWr, pureV.pureP, Option.map, reduceIte, Nat.reduceEqDiff, Nat.reduceAdd, Nat.reduceMul, Nat.reduceLT, Nat.reduceLeDiff, List.mapM_cons, List.mapM_nil,
              Option.pure_def, Option.bind_eq_bind, Option.bind_some, implies_true, forall_const, beq_self_eq_true, decide_true, decide_false, eq_self, Int.reduceEq, Int.reduceLE,
              Int.reduceLT, if_true, if_false, fc194_0, fc194_1, fc194_2, fc194_3, fc194_4, fc194_5, fc194_6, fc194_7, fc194_8, fc194_9, fc194_10, fc194_11, fc194_12, fc194_13,
              fc194_14, fc194_15, fc194_16, fc194_17, fc194_18, fc194_19, fc194_20, fc194_21, fc194_22, fc194_23, fc194_24, fc194_25, Int.reduceAdd, Int.reduceSub, Int.reduceMul,
              Int.reduceNeg, Int.reducePow, Nat.reducePow, Int.reduceToNat, Nat.reduceSub, List.replicate, Nat.reduceBEq, wAs, wA, wC, zipW, noDupN, grpE, g_f32from]))
    all_goals (try simp only [*, m_spec_l01From, Bool.and_true, Bool.true_and, Bool.and_false, Bool.false_and, Bool.or_true, Bool.true_or, Bool.or_false, Bool.false_or, Bool.not_true, Bool.not_false, Bool.false_eq_true, if_true, if_false, reduceIte, decide_true, decide_false])
    all_goals (try (simp_all; done))
  · cases h
def m_spec_l02Size (x0 : Nat) : Nat := (m_spec_l01From (bitop .andNot .i64 (m_spec_l01Bits x0) 2147483648))
def p_spec_l02Size (x0 : Nat) : Bool := (p_spec_l01Bits x0)
def g_spec_l02Size : List AV → Option AV
  | [.flt .f32 y0] => if p_spec_l02Size y0 = true then some (.flt .f32 (m_spec_l02Size y0)) else none
  | _ => none
def ic169 : ICode := (.seq (.reg [⟨(some 2), none, (.mov (.c (.flt .f32 0)))⟩] [0]) (.seq (.reg [⟨(some 3), none, (.mov (.t 0))⟩, ⟨(some 4), none, (.call (.fn 195) [(.t 3)] [])⟩,
      ⟨(some 5), none, (.bin .andNot false (.t 4) (.c (.int .i64 2147483648)))⟩, ⟨(some 6), none, (.call (.fn 194) [(.t 5)] [])⟩, ⟨(some 2), none, (.mov (.t 6))⟩] [2]) .ret))
def cp169 : CP := CP.mk [] [] [[0], [2]] 7 [] []
theorem fc169_0 : IntKind.wrap .i64 (-1) = (-1) := by decide
theorem fc169_1 : IntKind.wrap .i64 0 = 0 := by decide
theorem fc169_2 : IntKind.wrap .i64 1 = 1 := by decide
theorem fc169_3 : IntKind.wrap .i64 10 = 10 := by decide
theorem fc169_4 : IntKind.wrap .i64 11 = 11 := by decide
theorem fc169_5 : IntKind.wrap .i64 110 = 110 := by decide
theorem fc169_6 : IntKind.wrap .i64 12 = 12 := by decide
theorem fc169_7 : IntKind.wrap .i64 13 = 13 := by decide
theorem fc169_8 : IntKind.wrap .i64 14 = 14 := by decide
theorem fc169_9 : IntKind.wrap .i64 15 = 15 := by decide
theorem fc169_10 : IntKind.wrap .i64 156 = 156 := by decide
theorem fc169_11 : IntKind.wrap .i64 16 = 16 := by decide
theorem fc169_12 : IntKind.wrap .i64 17 = 17 := by decide
theorem fc169_13 : IntKind.wrap .i64 2 = 2 := by decide
theorem fc169_14 : IntKind.wrap .i64 20 = 20 := by decide
theorem fc169_15 : IntKind.wrap .i64 210 = 210 := by decide
theorem fc169_16 : IntKind.wrap .i64 272 = 272 := by decide
theorem fc169_17 : IntKind.wrap .i64 3 = 3 := by decide
theorem fc169_18 : IntKind.wrap .i64 4 = 4 := by decide
theorem fc169_19 : IntKind.wrap .i64 42 = 42 := by decide
theorem fc169_20 : IntKind.wrap .i64 5 = 5 := by decide
theorem fc169_21 : IntKind.wrap .i64 6 = 6 := by decide
theorem fc169_22 : IntKind.wrap .i64 7 = 7 := by decide
theorem fc169_23 : IntKind.wrap .i64 72 = 72 := by decide
theorem fc169_24 : IntKind.wrap .i64 8 = 8 := by decide
theorem fc169_25 : IntKind.wrap .i64 9 = 9 := by decide
theorem s169 : ∀ vs r, g_spec_l02Size vs = some r → SaysM Try.prog .any 169 vs r := by
  intro vs r h
  unfold g_spec_l02Size at h
  split at h
  · rename_i y0
    split at h
    · rename_i hp
      cases h
      refine spec_of (m := .any) (tab := tabOf [(194, wM .any g_spec_l01From), (195, wM .any g_spec_l01Bits)]) (cp := cp169) (ic := ic169) (rvl := [(.t 2)]) hm (tabOk_cons (m := .any) s194 (tabOk_cons (m := .any) s195 tabOk_nil)) Try.func169 rfl rfl rfl (by kernel_rfl) rfl (Nat.le_of_ble_eq_true rfl) (Nat.le_of_ble_eq_true rfl) ?_
      show eA _ _ _ _
      unfold ic169
      simp only [p_spec_l02Size, Bool.and_eq_true, Bool.or_eq_true, decide_eq_true_eq, Bool.not_eq_true', decide_eq_false_iff_not] at hp
      simp only [
          hp, grpA, vsliceS, grpS, grpD, grpF, grpL, eop, vop, bop, uop, fltop, convop, endOk, newE, new1, freshL, Md.isNew, outV, pureV, pureX, pure1, AV.cells, AV.one, storable,
                laid, refless, refless1, vload, loadC, storeC, vnil, vfaddr, vextract, flatT, flatE, flatC, vconv, vmm, vidxA, viaddrA, vfield, vlen, elemsOf, dF32, dF64, dI64, dU8,
                dBool, dStr, esOk, elemsS, vsliceX, bnd, ownV, ownC, own1, ownT, isSl, nSl, endL, Md.isOwn, purge, purgeH, purgeB, purgeE, hasName, name1, List.any_cons,
                List.any_nil, Md.isWr, pureV.pureP, Option.map, reduceIte, Nat.reduceEqDiff, Nat.reduceAdd, Nat.reduceMul, Nat.reduceLT, Nat.reduceLeDiff, List.mapM_cons,
                List.mapM_nil, Option.pure_def, Option.bind_eq_bind, Option.bind_some, implies_true, forall_const, beq_self_eq_true, decide_true, decide_false, eq_self,
                Int.reduceEq, Int.reduceLE, Int.reduceLT, if_true, if_false, fc169_0, fc169_1, fc169_2, fc169_3, fc169_4, fc169_5, fc169_6, fc169_7, fc169_8, fc169_9, fc169_10,
                fc169_11, fc169_12, fc169_13, fc169_14, fc169_15, fc169_16, fc169_17, fc169_18, fc169_19, fc169_20, fc169_21, fc169_22, fc169_23, fc169_24, fc169_25, Int.reduceAdd,
                Int.reduceSub, Int.reduceMul, Int.reduceNeg, Int.reducePow, Nat.reducePow, Int.reduceToNat, Nat.reduceSub, List.replicate, Nat.reduceBEq, wAs, wA, wC, zipW, noDupN,
                grpE, g_spec_l01From, g_spec_l01Bits]
      repeat' (first
        | ((first | (refine eGI_of (fun h => ?_) (fun h => ?_)) | (refine eCc_of (fun h => ?_) (fun h => ?_))) <;> (try simp only [Bool.not_eq_true', Bool.not_eq_false'] at h) <;> (try simp only [h, reduceCtorEq, Bool.not_eq_true', decide_eq_false_iff_not, Bool.not_true, Bool.not_false, Bool.false_or, Bool.true_or, Bool.true_and, Bool.false_and, Bool.and_eq_true, Bool.or_eq_true, if_true, if_false, reduceIte, Bool.false_eq_true, and_true, true_and, false_or, or_false, decide_eq_true_eq, not_false_eq_true, not_true_eq_false] at hp) <;> (try (have h2 := h; simp only [decide_eq_true_eq, decide_eq_false_iff_not] at h2; (first | (replace h2 := eq_false h2) | (replace h2 := eq_true h2)); simp only [h2, if_true, if_false, false_or, true_or, or_true, or_false, and_true, true_and, not_false_eq_true, not_true_eq_false] at hp)) <;> simp only [h,
          hp, grpA, vsliceS, grpS, grpD, grpF, grpL, eop, vop, bop, uop, fltop, convop, endOk, newE, new1, freshL, Md.isNew, outV, pureV, pureX, pure1, AV.cells, AV.one, storable,
                laid, refless, refless1, vload, loadC, storeC, vnil, vfaddr, vextract, flatT, flatE, flatC, vconv, vmm, vidxA, viaddrA, vfield, vlen, elemsOf, dF32, dF64, dI64, dU8,
                dBool, dStr, esOk, elemsS, vsliceX, bnd, ownV, ownC, own1, ownT, isSl, nSl, endL, Md.isOwn, purge, purgeH, purgeB, purgeE, hasName, name1, List.any_cons,
                List.any_nil, Md.isWr, pureV.pureP, Option.map, reduceIte, Nat.reduceEqDiff, Nat.reduceAdd, Nat.reduceMul, Nat.reduceLT, Nat.reduceLeDiff, List.mapM_cons,
                List.mapM_nil, Option.pure_def, Option.bind_eq_bind, Option.bind_some, implies_true, forall_const, beq_self_eq_true, decide_true, decide_false, eq_self,
                Int.reduceEq, Int.reduceLE, Int.reduceLT, if_true, if_false, fc169_0, fc169_1, fc169_2, fc169_3, fc169_4, fc169_5, fc169_6, fc169_7, fc169_8, fc169_9, fc169_10,
                fc169_11, fc169_12, fc169_13, fc169_14, fc169_15, fc169_16, fc169_17, fc169_18, fc169_19, fc169_20, fc169_21, fc169_22, fc169_23, fc169_24, fc169_25, Int.reduceAdd,
                Int.reduceSub, Int.reduceMul, Int.reduceNeg, Int.reducePow, Nat.reducePow, Int.reduceToNat, Nat.reduceSub, List.replicate, Nat.reduceBEq, wAs, wA, wC, zipW, noDupN,
                grpE, g_spec_l01From, g_spec_l01Bits]))
      all_goals (try simp only [*, m_spec_l02Size, Bool.and_true, Bool.true_and, Bool.and_false, Bool.false_and, Bool.or_true, Bool.true_or, Bool.or_false, Bool.false_or, Bool.not_true, Bool.not_false, Bool.false_eq_true, if_true, if_false, reduceIte, decide_true, decide_false])
      all_goals (try (simp_all; done))
    · cases h
  · cases h
theorem s160 : ∀ vs r, g_f64from vs = some r → SaysM Try.prog .any 160 vs r := t_f64from Try.func160 (by kernel_rfl) rfl (by kernel_rfl) (by kernel_rfl)
def m_math_NaN  : Nat := (cn .f64 (Int.toNat 9221120237041090561))
def g_math_NaN : List AV → Option AV
  | [] => some (.flt .f64 (m_math_NaN))
  | _ => none
def ic116 : ICode := (.seq (.reg [⟨(some 0), none, (.mov (.c (.flt .f64 0)))⟩] []) (.seq (.reg [⟨(some 1), none, (.call (.fn 160) [(.c (.int .u64 9221120237041090561))] [])⟩, ⟨(some
      0), none, (.mov (.t 1))⟩] [0]) .ret))
def cp116 : CP := CP.mk [] [] [[], [0]] 2 [] []
theorem fc116_0 : IntKind.wrap .i64 (-1) = (-1) := by decide
theorem fc116_1 : IntKind.wrap .i64 0 = 0 := by decide
theorem fc116_2 : IntKind.wrap .i64 1 = 1 := by decide
theorem fc116_3 : IntKind.wrap .i64 10 = 10 := by decide
theorem fc116_4 : IntKind.wrap .i64 11 = 11 := by decide
theorem fc116_5 : IntKind.wrap .i64 110 = 110 := by decide
theorem fc116_6 : IntKind.wrap .i64 12 = 12 := by decide
theorem fc116_7 : IntKind.wrap .i64 13 = 13 := by decide
theorem fc116_8 : IntKind.wrap .i64 14 = 14 := by decide
theorem fc116_9 : IntKind.wrap .i64 15 = 15 := by decide
theorem fc116_10 : IntKind.wrap .i64 156 = 156 := by decide
theorem fc116_11 : IntKind.wrap .i64 16 = 16 := by decide
theorem fc116_12 : IntKind.wrap .i64 17 = 17 := by decide
theorem fc116_13 : IntKind.wrap .i64 2 = 2 := by decide
theorem fc116_14 : IntKind.wrap .i64 20 = 20 := by decide
theorem fc116_15 : IntKind.wrap .i64 210 = 210 := by decide
theorem fc116_16 : IntKind.wrap .i64 272 = 272 := by decide
theorem fc116_17 : IntKind.wrap .i64 3 = 3 := by decide
theorem fc116_18 : IntKind.wrap .i64 4 = 4 := by decide
theorem fc116_19 : IntKind.wrap .i64 42 = 42 := by decide
theorem fc116_20 : IntKind.wrap .i64 5 = 5 := by decide
theorem fc116_21 : IntKind.wrap .i64 6 = 6 := by decide
theorem fc116_22 : IntKind.wrap .i64 7 = 7 := by decide
theorem fc116_23 : IntKind.wrap .i64 72 = 72 := by decide
theorem fc116_24 : IntKind.wrap .i64 8 = 8 := by decide
theorem fc116_25 : IntKind.wrap .i64 9 = 9 := by decide
theorem s116 : ∀ vs r, g_math_NaN vs = some r → SaysM Try.prog .any 116 vs r := by
  intro vs r h
  unfold g_math_NaN at h
  split at h
  · cases h
    refine spec_of (m := .any) (tab := tabOf [(160, wM .any g_f64from)]) (cp := cp116) (ic := ic116) (rvl := [(.t 0)]) hm (tabOk_cons (m := .any) s160 tabOk_nil) Try.func116 rfl rfl rfl (by kernel_rfl) rfl (Nat.le_of_ble_eq_true rfl) (Nat.le_of_ble_eq_true rfl) ?_
    show eA _ _ _ _
    unfold ic116
    simp only [
        grpA, vsliceS, grpS, grpD, grpF, grpL, eop, vop, bop, uop, fltop, convop, endOk, newE, new1, freshL, Md.isNew, outV, pureV, pureX, pure1, AV.cells, AV.one, storable, laid,
              refless, refless1, vload, loadC, storeC, vnil, vfaddr, vextract, flatT, flatE, flatC, vconv, vmm, vidxA, viaddrA, vfield, vlen, elemsOf, dF32, dF64, dI64, dU8, dBool,
              dStr, esOk, elemsS, vsliceX, bnd, ownV, ownC, own1, ownT, isSl, nSl, endL, Md.isOwn, purge, purgeH, purgeB, purgeE, hasName, name1, List.any_cons, List.any_nil,
              Md.isWr, pureV.pureP, Option.map, reduceIte, Nat.reduceEqDiff, Nat.reduceAdd, Nat.reduceMul, Nat.reduceLT, Nat.reduceLeDiff, List.mapM_cons, List.mapM_nil,
              Option.pure_def, Option.bind_eq_bind, Option.bind_some, implies_true, forall_const, beq_self_eq_true, decide_true, decide_false, eq_self, Int.reduceEq, Int.reduceLE,
              Int.reduceLT, if_true, if_false, fc116_0, fc116_1, fc116_2, fc116_3, fc116_4, fc116_5, fc116_6, fc116_7, fc116_8, fc116_9, fc116_10, fc116_11, fc116_12, fc116_13,
              fc116_14, fc116_15, fc116_16, fc116_17, fc116_18, fc116_19, fc116_20, fc116_21, fc116_22, fc116_23, fc116_24, fc116_25, Int.reduceAdd, Int.reduceSub, Int.reduceMul,
              Int.reduceNeg, Int.reducePow, Nat.reducePow, Int.reduceToNat, Nat.reduceSub, List.replicate, Nat.reduceBEq, wAs, wA, wC, zipW, noDupN, grpE, g_f64from]
    repeat' (first
      | ((first | (refine eGI_of (fun h => ?_) (fun h => ?_)) | (refine eCc_of (fun h => ?_) (fun h => ?_))) <;> (try simp only [Bool.not_eq_true', Bool.not_eq_false'] at h) <;> simp only [h,
        grpA, vsliceS, grpS, grpD, grpF, grpL, eop, vop, bop, uop, fltop, convop, endOk, newE, new1, freshL, Md.isNew, outV, pureV, pureX, pure1, AV.cells, AV.one, storable, laid,
              refless, refless1, vload, loadC, storeC, vnil, vfaddr, vextract, flatT, flatE, flatC, vconv, vmm, vidxA, viaddrA, vfield, vlen, elemsOf, dF32, dF64, dI64, dU8, dBool,
              dStr, esOk, elemsS, vsliceX, bnd, ownV, ownC, own1, ownT, isSl, nSl, endL, Md.isOwn, purge, purgeH, purgeB, purgeE, hasName, name1, List.any_cons, List.any_nil,
              Md.isWr, pureV.pureP, Option.map, reduceIte, Nat.reduceEqDiff, Nat.reduceAdd, Nat.reduceMul, Nat.reduceLT, Nat.reduceLeDiff, List.mapM_cons, List.mapM_nil,
              Option.pure_def, Option.bind_eq_bind, Option.bind_some, implies_true, forall_const, beq_self_eq_true, decide_true, decide_false, eq_self, Int.reduceEq, Int.reduceLE,
              Int.reduceLT, if_true, if_false, fc116_0, fc116_1, fc116_2, fc116_3, fc116_4, fc116_5, fc116_6, fc116_7, fc116_8, fc116_9, fc116_10, fc116_11, fc116_12, fc116_13,
              fc116_14, fc116_15, fc116_16, fc116_17, fc116_18, fc116_19, fc116_20, fc116_21, fc116_22, fc116_23, fc116_24, fc116_25, Int.reduceAdd, Int.reduceSub, Int.reduceMul,
              Int.reduceNeg, Int.reducePow, Nat.reducePow, Int.reduceToNat, Nat.reduceSub, List.replicate, Nat.reduceBEq, wAs, wA, wC, zipW, noDupN, grpE, g_f64from]))
    all_goals (try simp only [*, m_math_NaN, Bool.and_true, Bool.true_and, Bool.and_false, Bool.false_and, Bool.or_true, Bool.true_or, Bool.or_false, Bool.false_or, Bool.not_true, Bool.not_false, Bool.false_eq_true, if_true, if_false, reduceIte, decide_true, decide_false])
    all_goals (try (simp_all; done))
  · cases h
theorem s161 : ∀ vs r, g_f64bits vs = some r → SaysM Try.prog .any 161 vs r := t_f64bits Try.func161 (by kernel_rfl) rfl (by kernel_rfl) (by kernel_rfl)
def ic114 : ICode := (.seq (.reg [⟨(some 2), none, (.mov (.c (.flt .f64 0)))⟩] [0]) (.seq (.reg [⟨(some 3), none, (.mov (.t 0))⟩, ⟨(some 4), none, (.call (.fn 161) [(.t 3)] [])⟩,
      ⟨(some 5), none, (.bin .andNot false (.t 4) (.c (.int .u64 9223372036854775808)))⟩, ⟨(some 6), none, (.call (.fn 160) [(.t 5)] [])⟩, ⟨(some 2), none, (.mov (.t 6))⟩] [2])
      .ret))
def cp114 : CP := { n := 7, kp := [[0], [2]] }
theorem s114 : ∀ vs r, g_abs vs = some r → SaysM Try.prog .any 114 vs r := by
  intro vs r h
  unfold g_abs at h
  split at h
  · rename_i c
    cases h
    refine says_raw1 fun b hb => ?_
    have hlt : b < 2 ^ 64 := hb.lt
    rw [fabs_fv hb]
    refine spec_of (m := .any) (tab := tabOf [(160, wM .any g_f64from), (161, wM .any g_f64bits)]) (cp := cp114) (ic := ic114) (rvl := [(.t 2)]) hm (tabOk_cons (m := .any) s160 (tabOk_cons (m := .any) s161 tabOk_nil)) Try.func114 rfl rfl rfl (by kernel_rfl) rfl (Nat.le_of_ble_eq_true rfl) (Nat.le_of_ble_eq_true rfl) ?_
    show eA _ _ _ _
    unfold ic114
    simp only [
      if_pos hlt, grpA, vsliceS, grpS, grpD, grpF, grpL, eop, vop, bop, uop, fltop, convop, endOk, newE, new1, freshL, Md.isNew, outV, pureV, pureX, pure1, AV.cells, AV.one,
            storable, laid, refless, refless1, vload, loadC, storeC, vnil, vfaddr, vextract, flatT, flatE, flatC, vconv, vmm, vidxA, viaddrA, vfield, vlen, elemsOf, dF32, dF64,
            dI64, dU8, dBool, dStr, esOk, elemsS, vsliceX, bnd, ownV, ownC, own1, ownT, isSl, nSl, endL, Md.isOwn, purge, purgeH, purgeB, purgeE, hasName, name1, List.any_cons,
            List.any_nil, Md.isWr, pureV.pureP, Option.map, reduceIte, Nat.reduceEqDiff, Nat.reduceAdd, Nat.reduceMul, Nat.reduceLT, Nat.reduceLeDiff, List.mapM_cons, List.mapM_nil,
            Option.pure_def, Option.bind_eq_bind, Option.bind_some, implies_true, forall_const, beq_self_eq_true, decide_true, decide_false, eq_self, Int.reduceEq, Int.reduceLE,
            Int.reduceLT, if_true, if_false, e_mov, g_mov, e_bin, g_bin, e_call, g_call, g_f64bits, g_f64from]
  · cases h
def v_spec_l01AngleWide_0 (x0 : Nat) (x1 : Nat) : Nat := (fmul .f64 (if (flt .f64 (fabs x1) (fabs x0)) = true then (fdiv .f64 (fabs x1) (fabs x0)) else (fdiv .f64 (fabs x0) (fabs
      x1))) (if (flt .f64 (fabs x1) (fabs x0)) = true then (fdiv .f64 (fabs x1) (fabs x0)) else (fdiv .f64 (fabs x0) (fabs x1))))
def v_spec_l01AngleWide_1 (x0 : Nat) (x1 : Nat) : Nat := (fdiv .f64 (if (flt .f64 (fabs x1) (fabs x0)) = true then (fdiv .f64 (fabs x1) (fabs x0)) else (fdiv .f64 (fabs x0) (fabs
      x1))) (fadd .f64 4607182418800017408 (m_math_Sqrt (fadd .f64 4607182418800017408 (v_spec_l01AngleWide_0 x0 x1)))))
def v_spec_l01AngleWide_2 (x0 : Nat) (x1 : Nat) : Nat := (fdiv .f64 (v_spec_l01AngleWide_1 x0 x1) (fadd .f64 4607182418800017408 (m_math_Sqrt (fadd .f64 4607182418800017408 (fmul
      .f64 (v_spec_l01AngleWide_1 x0 x1) (v_spec_l01AngleWide_1 x0 x1))))))
def v_spec_l01AngleWide_3 (x0 : Nat) (x1 : Nat) : Nat := (fdiv .f64 (v_spec_l01AngleWide_2 x0 x1) (fadd .f64 4607182418800017408 (m_math_Sqrt (fadd .f64 4607182418800017408 (fmul
      .f64 (v_spec_l01AngleWide_2 x0 x1) (v_spec_l01AngleWide_2 x0 x1))))))
def v_spec_l01AngleWide_4 (x0 : Nat) (x1 : Nat) : Nat := (fmul .f64 (fmul .f64 (v_spec_l01AngleWide_3 x0 x1) (v_spec_l01AngleWide_3 x0 x1)) (fsub .f64 (fdiv .f64 4607182418800017408
      (ofInt .f64 15)) (fmul .f64 (fmul .f64 (v_spec_l01AngleWide_3 x0 x1) (v_spec_l01AngleWide_3 x0 x1)) 0)))
def v_spec_l01AngleWide_5 (x0 : Nat) (x1 : Nat) : Nat := (fmul .f64 (fmul .f64 (v_spec_l01AngleWide_3 x0 x1) (v_spec_l01AngleWide_3 x0 x1)) (fsub .f64 (fdiv .f64 4607182418800017408
      (ofInt .f64 13)) (v_spec_l01AngleWide_4 x0 x1)))
def v_spec_l01AngleWide_6 (x0 : Nat) (x1 : Nat) : Nat := (fmul .f64 (fmul .f64 (v_spec_l01AngleWide_3 x0 x1) (v_spec_l01AngleWide_3 x0 x1)) (fsub .f64 (fdiv .f64 4607182418800017408
      (ofInt .f64 11)) (v_spec_l01AngleWide_5 x0 x1)))
def v_spec_l01AngleWide_7 (x0 : Nat) (x1 : Nat) : Nat := (fmul .f64 (fmul .f64 (v_spec_l01AngleWide_3 x0 x1) (v_spec_l01AngleWide_3 x0 x1)) (fsub .f64 (fdiv .f64 4607182418800017408
      (ofInt .f64 9)) (v_spec_l01AngleWide_6 x0 x1)))
def v_spec_l01AngleWide_8 (x0 : Nat) (x1 : Nat) : Nat := (fmul .f64 (fmul .f64 (v_spec_l01AngleWide_3 x0 x1) (v_spec_l01AngleWide_3 x0 x1)) (fsub .f64 (fdiv .f64 4607182418800017408
      (ofInt .f64 7)) (v_spec_l01AngleWide_7 x0 x1)))
def v_spec_l01AngleWide_9 (x0 : Nat) (x1 : Nat) : Nat := (fmul .f64 (fmul .f64 (v_spec_l01AngleWide_3 x0 x1) (v_spec_l01AngleWide_3 x0 x1)) (fsub .f64 (fdiv .f64 4607182418800017408
      (ofInt .f64 5)) (v_spec_l01AngleWide_8 x0 x1)))
def v_spec_l01AngleWide_10 (x0 : Nat) (x1 : Nat) : Nat := (fmul .f64 (fmul .f64 (v_spec_l01AngleWide_3 x0 x1) (v_spec_l01AngleWide_3 x0 x1)) (fsub .f64 (fdiv .f64
      4607182418800017408 (ofInt .f64 3)) (v_spec_l01AngleWide_9 x0 x1)))
def v_spec_l01AngleWide_11 (x0 : Nat) (x1 : Nat) : Nat := (fmul .f64 4620693217682128896 (fmul .f64 (v_spec_l01AngleWide_3 x0 x1) (fsub .f64 (fdiv .f64 4607182418800017408 (ofInt
      .f64 1)) (v_spec_l01AngleWide_10 x0 x1))))
def v_spec_l01AngleWide_12 (x0 : Nat) (x1 : Nat) : Nat := (if (flt .f64 (fabs x1) (fabs x0)) = true then (fsub .f64 4598175219545276416 (fdiv .f64 (v_spec_l01AngleWide_11 x0 x1)
      4618760256179416344)) else (fdiv .f64 (v_spec_l01AngleWide_11 x0 x1) 4618760256179416344))
def m_spec_l01AngleWide (x0 : Nat) (x1 : Nat) : Nat := (if (feq .f64 (fsub .f64 x0 x0) 0) = true then (if (feq .f64 (fsub .f64 x1 x1) 0) = true then (if (feq .f64 x1 0) = true then
      (if (feq .f64 x0 0) = true then 0 else (if (flt .f64 x0 0) = true then (fneg .f64 (if (flt .f64 x1 0) = true then (fsub .f64 4602678819172646912 (v_spec_l01AngleWide_12 x0
      x1)) else (v_spec_l01AngleWide_12 x0 x1))) else (if (flt .f64 x1 0) = true then (fsub .f64 4602678819172646912 (v_spec_l01AngleWide_12 x0 x1)) else (v_spec_l01AngleWide_12 x0
      x1)))) else (if (flt .f64 x0 0) = true then (fneg .f64 (if (flt .f64 x1 0) = true then (fsub .f64 4602678819172646912 (v_spec_l01AngleWide_12 x0 x1)) else
      (v_spec_l01AngleWide_12 x0 x1))) else (if (flt .f64 x1 0) = true then (fsub .f64 4602678819172646912 (v_spec_l01AngleWide_12 x0 x1)) else (v_spec_l01AngleWide_12 x0 x1))))
      else (m_math_NaN)) else (m_math_NaN))
def g_spec_l01AngleWide : List AV → Option AV
  | [.flt .f64 y0, .flt .f64 y1] => some (.flt .f64 (m_spec_l01AngleWide y0 y1))
  | _ => none
def ic193 : ICode := (.seq (.reg [⟨(some 4), none, (.mov (.c (.flt .f64 0)))⟩] [0, 1]) (.seq (.seq (.reg [⟨(some 14), none, (.mov (.t 0))⟩, ⟨(some 15), none, (.mov (.t 0))⟩, ⟨(some
      16), none, (.bin .sub false (.t 14) (.t 15))⟩, ⟨(some 17), none, (.bin .neq false (.t 16) (.c (.flt .f64 0)))⟩, ⟨(some 18), none, (.mov (.t 17))⟩, ⟨(some 19), (some (18,
      false)), (.mov (.t 1))⟩, ⟨(some 20), (some (18, false)), (.mov (.t 1))⟩, ⟨(some 21), (some (18, false)), (.bin .sub false (.t 19) (.t 20))⟩, ⟨(some 22), (some (18, false)),
      (.bin .neq false (.t 21) (.c (.flt .f64 0)))⟩, ⟨(some 23), none, (.pick (.t 18) (.c (.bool true)) (.t 22))⟩] [0, 1, 23]) (.cond (.t 23) (.seq (.reg [⟨(some 24), none, (.call
      (.fn 116) [] [])⟩, ⟨(some 4), none, (.mov (.t 24))⟩] [4]) .ret) .skip)) (.seq (.seq (.reg [⟨(some 25), none, (.mov (.t 1))⟩, ⟨(some 26), none, (.bin .eql false (.t 25) (.c
      (.flt .f64 0)))⟩, ⟨(some 27), none, (.mov (.t 26))⟩, ⟨(some 28), (some (27, true)), (.mov (.t 0))⟩, ⟨(some 29), (some (27, true)), (.bin .eql false (.t 28) (.c (.flt .f64
      0)))⟩, ⟨(some 30), none, (.pick (.t 27) (.t 29) (.c (.bool false)))⟩] [0, 1, 30]) (.cond (.t 30) (.seq (.reg [⟨(some 4), none, (.mov (.c (.flt .f64 0)))⟩] [4]) .ret) .skip))
      (.seq (.reg [⟨(some 31), none, (.mov (.t 0))⟩, ⟨(some 32), none, (.call (.fn 114) [(.t 31)] [])⟩, ⟨(some 5), none, (.mov (.t 32))⟩] [0, 1, 5]) (.seq (.reg [⟨(some 33), none,
      (.mov (.t 1))⟩, ⟨(some 34), none, (.call (.fn 114) [(.t 33)] [])⟩, ⟨(some 6), none, (.mov (.t 34))⟩] [0, 1, 5, 6]) (.seq (.reg [⟨(some 35), none, (.mov (.t 5))⟩, ⟨(some 36),
      none, (.mov (.t 6))⟩, ⟨(some 37), none, (.bin .gtr false (.t 35) (.t 36))⟩, ⟨(some 7), none, (.mov (.t 37))⟩] [0, 1, 5, 6, 7]) (.seq (.reg [⟨(some 8), none, (.mov (.c (.flt
      .f64 0)))⟩] [0, 1, 5, 6, 7]) (.seq (.seq (.reg [⟨(some 38), none, (.mov (.t 7))⟩] [0, 1, 5, 6, 7, 38]) (.cond (.t 38) (.reg [⟨(some 39), none, (.mov (.t 6))⟩, ⟨(some 40),
      none, (.mov (.t 5))⟩, ⟨(some 41), none, (.bin .quo false (.t 39) (.t 40))⟩, ⟨(some 8), none, (.mov (.t 41))⟩] [0, 1, 7, 8]) (.reg [⟨(some 42), none, (.mov (.t 5))⟩, ⟨(some
      43), none, (.mov (.t 6))⟩, ⟨(some 44), none, (.bin .quo false (.t 42) (.t 43))⟩, ⟨(some 8), none, (.mov (.t 44))⟩] [0, 1, 7, 8]))) (.seq (.seq (.reg [⟨(some 9), none, (.mov
      (.c (.int .i64 0)))⟩] [0, 1, 7, 8, 9]) (.block 0 (.loop (.seq (.seq (.reg [⟨(some 45), none, (.mov (.t 9))⟩, ⟨(some 46), none, (.bin .lss false (.t 45) (.c (.int .i64 3)))⟩]
      [0, 1, 7, 8, 9, 46]) (.cond (.t 46) .skip (.exit 0))) (.seq (.block 1 (.reg [⟨(some 49), none, (.mov (.t 8))⟩, ⟨(some 50), none, (.mov (.t 8))⟩, ⟨(some 51), none, (.mov (.t
      8))⟩, ⟨(some 52), none, (.bin .mul false (.t 50) (.t 51))⟩, ⟨(some 53), none, (.bin .add false (.c (.flt .f64 4607182418800017408)) (.t 52))⟩, ⟨(some 54), none, (.call (.fn
      72) [(.t 53)] [])⟩, ⟨(some 55), none, (.bin .add false (.c (.flt .f64 4607182418800017408)) (.t 54))⟩, ⟨(some 56), none, (.bin .quo false (.t 49) (.t 55))⟩, ⟨(some 8), none,
      (.mov (.t 56))⟩] [0, 1, 7, 8, 9])) (.reg [⟨(some 47), none, (.mov (.t 9))⟩, ⟨(some 48), none, (.bin .add false (.t 47) (.c (.int .i64 1)))⟩, ⟨(some 9), none, (.mov (.t 48))⟩]
      [0, 1, 7, 8, 9])))))) (.seq (.reg [⟨(some 57), none, (.mov (.t 8))⟩, ⟨(some 58), none, (.mov (.t 8))⟩, ⟨(some 59), none, (.bin .mul false (.t 57) (.t 58))⟩, ⟨(some 10), none,
      (.mov (.t 59))⟩] [0, 1, 7, 8, 10]) (.seq (.reg [⟨(some 11), none, (.mov (.c (.flt .f64 0)))⟩] [0, 1, 7, 8, 10, 11]) (.seq (.seq (.reg [⟨(some 12), none, (.mov (.c (.int .i64
      15)))⟩] [0, 1, 7, 8, 10, 11, 12]) (.block 2 (.loop (.seq (.seq (.reg [⟨(some 60), none, (.mov (.t 12))⟩, ⟨(some 61), none, (.bin .geq false (.t 60) (.c (.int .i64 1)))⟩] [0,
      1, 7, 8, 10, 11, 12, 61]) (.cond (.t 61) .skip (.exit 2))) (.seq (.block 3 (.reg [⟨(some 64), none, (.mov (.t 12))⟩, ⟨(some 65), none, (.conv (.flt .f64) (.t 64))⟩, ⟨(some
      66), none, (.bin .quo false (.c (.flt .f64 4607182418800017408)) (.t 65))⟩, ⟨(some 67), none, (.mov (.t 10))⟩, ⟨(some 68), none, (.mov (.t 11))⟩, ⟨(some 69), none, (.bin .mul
      false (.t 67) (.t 68))⟩, ⟨(some 70), none, (.bin .sub false (.t 66) (.t 69))⟩, ⟨(some 11), none, (.mov (.t 70))⟩] [0, 1, 7, 8, 10, 11, 12])) (.reg [⟨(some 62), none, (.mov (.t
      12))⟩, ⟨(some 63), none, (.bin .sub false (.t 62) (.c (.int .i64 2)))⟩, ⟨(some 12), none, (.mov (.t 63))⟩] [0, 1, 7, 8, 10, 11, 12])))))) (.seq (.reg [⟨(some 71), none, (.mov
      (.t 8))⟩, ⟨(some 72), none, (.mov (.t 11))⟩, ⟨(some 73), none, (.bin .mul false (.t 71) (.t 72))⟩, ⟨(some 74), none, (.bin .mul false (.c (.flt .f64 4620693217682128896)) (.t
      73))⟩, ⟨(some 75), none, (.bin .quo false (.t 74) (.c (.flt .f64 4618760256179416344)))⟩, ⟨(some 13), none, (.mov (.t 75))⟩] [0, 1, 7, 13]) (.seq (.seq (.reg [⟨(some 76),
      none, (.mov (.t 7))⟩] [0, 1, 13, 76]) (.cond (.t 76) (.reg [⟨(some 77), none, (.mov (.t 13))⟩, ⟨(some 78), none, (.bin .sub false (.c (.flt .f64 4598175219545276416)) (.t
      77))⟩, ⟨(some 13), none, (.mov (.t 78))⟩] [0, 1, 13]) .skip)) (.seq (.seq (.reg [⟨(some 79), none, (.mov (.t 1))⟩, ⟨(some 80), none, (.bin .lss false (.t 79) (.c (.flt .f64
      0)))⟩] [0, 13, 80]) (.cond (.t 80) (.reg [⟨(some 81), none, (.mov (.t 13))⟩, ⟨(some 82), none, (.bin .sub false (.c (.flt .f64 4602678819172646912)) (.t 81))⟩, ⟨(some 13),
      none, (.mov (.t 82))⟩] [0, 13]) .skip)) (.seq (.seq (.reg [⟨(some 83), none, (.mov (.t 0))⟩, ⟨(some 84), none, (.bin .lss false (.t 83) (.c (.flt .f64 0)))⟩] [13, 84]) (.cond
      (.t 84) (.seq (.reg [⟨(some 85), none, (.mov (.t 13))⟩, ⟨(some 86), none, (.un .neg (.t 85))⟩, ⟨(some 4), none, (.mov (.t 86))⟩] [4]) .ret) .skip)) (.seq (.reg [⟨(some 87),
      none, (.mov (.t 13))⟩, ⟨(some 4), none, (.mov (.t 87))⟩] [4]) .ret)))))))))))))))))
def cp193 : CP := CP.mk [] [] [[0, 1], [0, 1, 23], [4], [0, 1, 30], [4], [0, 1, 5], [0, 1, 5, 6], [0, 1, 5, 6, 7], [0, 1, 5, 6, 7], [0, 1, 5, 6, 7, 38], [0, 1, 7, 8], [0, 1, 7, 8],
      [0, 1, 7, 8, 9], [0, 1, 7, 8, 9, 46], [0, 1, 7, 8, 9], [0, 1, 7, 8, 9], [0, 1, 7, 8, 10], [0, 1, 7, 8, 10, 11], [0, 1, 7, 8, 10, 11, 12], [0, 1, 7, 8, 10, 11, 12, 61], [0, 1,
      7, 8, 10, 11, 12], [0, 1, 7, 8, 10, 11, 12], [0, 1, 7, 13], [0, 1, 13, 76], [0, 1, 13], [0, 13, 80], [0, 13], [13, 84], [4], [4]] 88 [] []
theorem fc193_0 : IntKind.wrap .i64 (-1) = (-1) := by decide
theorem fc193_1 : IntKind.wrap .i64 0 = 0 := by decide
theorem fc193_2 : IntKind.wrap .i64 1 = 1 := by decide
theorem fc193_3 : IntKind.wrap .i64 10 = 10 := by decide
theorem fc193_4 : IntKind.wrap .i64 11 = 11 := by decide
theorem fc193_5 : IntKind.wrap .i64 110 = 110 := by decide
theorem fc193_6 : IntKind.wrap .i64 12 = 12 := by decide
theorem fc193_7 : IntKind.wrap .i64 13 = 13 := by decide
theorem fc193_8 : IntKind.wrap .i64 14 = 14 := by decide
theorem fc193_9 : IntKind.wrap .i64 15 = 15 := by decide
theorem fc193_10 : IntKind.wrap .i64 156 = 156 := by decide
theorem fc193_11 : IntKind.wrap .i64 16 = 16 := by decide
theorem fc193_12 : IntKind.wrap .i64 17 = 17 := by decide
theorem fc193_13 : IntKind.wrap .i64 2 = 2 := by decide
theorem fc193_14 : IntKind.wrap .i64 20 = 20 := by decide
theorem fc193_15 : IntKind.wrap .i64 210 = 210 := by decide
theorem fc193_16 : IntKind.wrap .i64 272 = 272 := by decide
theorem fc193_17 : IntKind.wrap .i64 3 = 3 := by decide
theorem fc193_18 : IntKind.wrap .i64 4 = 4 := by decide
theorem fc193_19 : IntKind.wrap .i64 42 = 42 := by decide
theorem fc193_20 : IntKind.wrap .i64 5 = 5 := by decide
theorem fc193_21 : IntKind.wrap .i64 6 = 6 := by decide
theorem fc193_22 : IntKind.wrap .i64 7 = 7 := by decide
theorem fc193_23 : IntKind.wrap .i64 72 = 72 := by decide
theorem fc193_24 : IntKind.wrap .i64 8 = 8 := by decide
theorem fc193_25 : IntKind.wrap .i64 9 = 9 := by decide
theorem s193 : ∀ vs r, g_spec_l01AngleWide vs = some r → SaysM Try.prog .any 193 vs r := by
  intro vs r h
  unfold g_spec_l01AngleWide at h
  split at h
  · rename_i y0 y1
    cases h
    refine spec_of (m := .any) (tab := tabOf [(72, wM .any g_math_Sqrt), (114, wM .any g_abs), (116, wM .any g_math_NaN)]) (cp := cp193) (ic := ic193) (rvl := [(.t 4)]) hm (tabOk_cons (m := .any) s72 (tabOk_cons (m := .any) s114 (tabOk_cons (m := .any) s116 tabOk_nil))) Try.func193 rfl rfl rfl (by kernel_rfl) rfl (Nat.le_of_ble_eq_true rfl) (Nat.le_of_ble_eq_true rfl) ?_
    show eA _ _ _ _
    unfold ic193
    simp only [
        grpA, vsliceS, grpS, grpD, grpF, grpL, eop, vop, bop, uop, fltop, convop, endOk, newE, new1, freshL, Md.isNew, outV, pureV, pureX, pure1, AV.cells, AV.one, storable, laid,
              refless, refless1, vload, loadC, storeC, vnil, vfaddr, vextract, flatT, flatE, flatC, vconv, vmm, vidxA, viaddrA, vfield, vlen, elemsOf, dF32, dF64, dI64, dU8, dBool,
              dStr, esOk, elemsS, vsliceX, bnd, ownV, ownC, own1, ownT, isSl, nSl, endL, Md.isOwn, purge, purgeH, purgeB, purgeE, hasName, name1, List.any_cons, List.any_nil,
              Md.isWr, pureV.pureP, Option.map, reduceIte, Nat.reduceEqDiff, Nat.reduceAdd, Nat.reduceMul, Nat.reduceLT, Nat.reduceLeDiff, List.mapM_cons, List.mapM_nil,
              Option.pure_def, Option.bind_eq_bind, Option.bind_some, implies_true, forall_const, beq_self_eq_true, decide_true, decide_false, eq_self, Int.reduceEq, Int.reduceLE,
              Int.reduceLT, if_true, if_false, fc193_0, fc193_1, fc193_2, fc193_3, fc193_4, fc193_5, fc193_6, fc193_7, fc193_8, fc193_9, fc193_10, fc193_11, fc193_12, fc193_13,
              fc193_14, fc193_15, fc193_16, fc193_17, fc193_18, fc193_19, fc193_20, fc193_21, fc193_22, fc193_23, fc193_24, fc193_25, Int.reduceAdd, Int.reduceSub, Int.reduceMul,
              Int.reduceNeg, Int.reducePow, Nat.reducePow, Int.reduceToNat, Nat.reduceSub, List.replicate, Nat.reduceBEq, wAs, wA, wC, zipW, noDupN, grpE, g_math_Sqrt, g_abs,
              g_math_NaN, ↓b_pick, ePk_true, ePk_false]
    repeat' (first
      | ((first | (refine eGI_of (fun h => ?_) (fun h => ?_)) | (refine eCc_of (fun h => ?_) (fun h => ?_)) | (refine ePk_of (fun h => ?_) (fun h => ?_)) | (have h := True.intro; refine KW_refl ?_) | (have h := True.intro; refine eA_loop ?_)) <;> (try simp only [Bool.not_eq_true', Bool.not_eq_false'] at h) <;> simp only [h,
        grpA, vsliceS, grpS, grpD, grpF, grpL, eop, vop, bop, uop, fltop, convop, endOk, newE, new1, freshL, Md.isNew, outV, pureV, pureX, pure1, AV.cells, AV.one, storable, laid,
              refless, refless1, vload, loadC, storeC, vnil, vfaddr, vextract, flatT, flatE, flatC, vconv, vmm, vidxA, viaddrA, vfield, vlen, elemsOf, dF32, dF64, dI64, dU8, dBool,
              dStr, esOk, elemsS, vsliceX, bnd, ownV, ownC, own1, ownT, isSl, nSl, endL, Md.isOwn, purge, purgeH, purgeB, purgeE, hasName, name1, List.any_cons, List.any_nil,
              Md.isWr, pureV.pureP, Option.map, reduceIte, Nat.reduceEqDiff, Nat.reduceAdd, Nat.reduceMul, Nat.reduceLT, Nat.reduceLeDiff, List.mapM_cons, List.mapM_nil,
              Option.pure_def, Option.bind_eq_bind, Option.bind_some, implies_true, forall_const, beq_self_eq_true, decide_true, decide_false, eq_self, Int.reduceEq, Int.reduceLE,
              Int.reduceLT, if_true, if_false, fc193_0, fc193_1, fc193_2, fc193_3, fc193_4, fc193_5, fc193_6, fc193_7, fc193_8, fc193_9, fc193_10, fc193_11, fc193_12, fc193_13,
              fc193_14, fc193_15, fc193_16, fc193_17, fc193_18, fc193_19, fc193_20, fc193_21, fc193_22, fc193_23, fc193_24, fc193_25, Int.reduceAdd, Int.reduceSub, Int.reduceMul,
              Int.reduceNeg, Int.reducePow, Nat.reducePow, Int.reduceToNat, Nat.reduceSub, List.replicate, Nat.reduceBEq, wAs, wA, wC, zipW, noDupN, grpE, g_math_Sqrt, g_abs,
              g_math_NaN, ↓b_pick, ePk_true, ePk_false]))
    all_goals (try simp only [*, m_spec_l01AngleWide, v_spec_l01AngleWide_0, v_spec_l01AngleWide_1, v_spec_l01AngleWide_2, v_spec_l01AngleWide_3, v_spec_l01AngleWide_4, v_spec_l01AngleWide_5, v_spec_l01AngleWide_6, v_spec_l01AngleWide_7, v_spec_l01AngleWide_8, v_spec_l01AngleWide_9, v_spec_l01AngleWide_10, v_spec_l01AngleWide_11, v_spec_l01AngleWide_12, Bool.and_true, Bool.true_and, Bool.and_false, Bool.false_and, Bool.or_true, Bool.true_or, Bool.or_false, Bool.false_or, Bool.not_true, Bool.not_false, Bool.false_eq_true, if_true, if_false, reduceIte, decide_true, decide_false])
    all_goals (try (simp_all; done))
  · cases h
def m_spec_l01Angle (x0 : Nat) (x1 : Nat) : Nat := (m_spec_l01Narrow (m_spec_l01AngleWide (widen x0) (widen x1)))
def p_spec_l01Angle (x0 : Nat) (x1 : Nat) : Bool := (p_spec_l01Narrow (m_spec_l01AngleWide (widen x0) (widen x1)))
def g_spec_l01Angle : List AV → Option AV
  | [.flt .f32 y0, .flt .f32 y1] => if p_spec_l01Angle y0 y1 = true then some (.flt .f32 (m_spec_l01Angle y0 y1)) else none
  | _ => none
def ic167 : ICode := (.seq (.reg [⟨(some 4), none, (.mov (.c (.flt .f32 0)))⟩] [0, 1]) (.seq (.reg [⟨(some 5), none, (.mov (.t 0))⟩, ⟨(some 6), none, (.conv (.flt .f64) (.t 5))⟩,
      ⟨(some 7), none, (.mov (.t 1))⟩, ⟨(some 8), none, (.conv (.flt .f64) (.t 7))⟩, ⟨(some 9), none, (.call (.fn 193) [(.t 6), (.t 8)] [])⟩, ⟨(some 10), none, (.call (.fn 170) [(.t
      9)] [])⟩, ⟨(some 4), none, (.mov (.t 10))⟩] [4]) .ret))
def cp167 : CP := CP.mk [] [] [[0, 1], [4]] 11 [] []
theorem fc167_0 : IntKind.wrap .i64 (-1) = (-1) := by decide
theorem fc167_1 : IntKind.wrap .i64 0 = 0 := by decide
theorem fc167_2 : IntKind.wrap .i64 1 = 1 := by decide
theorem fc167_3 : IntKind.wrap .i64 10 = 10 := by decide
theorem fc167_4 : IntKind.wrap .i64 11 = 11 := by decide
theorem fc167_5 : IntKind.wrap .i64 110 = 110 := by decide
theorem fc167_6 : IntKind.wrap .i64 12 = 12 := by decide
theorem fc167_7 : IntKind.wrap .i64 13 = 13 := by decide
theorem fc167_8 : IntKind.wrap .i64 14 = 14 := by decide
theorem fc167_9 : IntKind.wrap .i64 15 = 15 := by decide
theorem fc167_10 : IntKind.wrap .i64 156 = 156 := by decide
theorem fc167_11 : IntKind.wrap .i64 16 = 16 := by decide
theorem fc167_12 : IntKind.wrap .i64 17 = 17 := by decide
theorem fc167_13 : IntKind.wrap .i64 2 = 2 := by decide
theorem fc167_14 : IntKind.wrap .i64 20 = 20 := by decide
theorem fc167_15 : IntKind.wrap .i64 210 = 210 := by decide
theorem fc167_16 : IntKind.wrap .i64 272 = 272 := by decide
theorem fc167_17 : IntKind.wrap .i64 3 = 3 := by decide
theorem fc167_18 : IntKind.wrap .i64 4 = 4 := by decide
theorem fc167_19 : IntKind.wrap .i64 42 = 42 := by decide
theorem fc167_20 : IntKind.wrap .i64 5 = 5 := by decide
theorem fc167_21 : IntKind.wrap .i64 6 = 6 := by decide
theorem fc167_22 : IntKind.wrap .i64 7 = 7 := by decide
theorem fc167_23 : IntKind.wrap .i64 72 = 72 := by decide
theorem fc167_24 : IntKind.wrap .i64 8 = 8 := by decide
theorem fc167_25 : IntKind.wrap .i64 9 = 9 := by decide
theorem s167 : ∀ vs r, g_spec_l01Angle vs = some r → SaysM Try.prog .any 167 vs r := by
  intro vs r h
  unfold g_spec_l01Angle at h
  split at h
  · rename_i y0 y1
    split at h
    · rename_i hp
      cases h
      refine spec_of (m := .any) (tab := tabOf [(170, wM .any g_spec_l01Narrow), (193, wM .any g_spec_l01AngleWide)]) (cp := cp167) (ic := ic167) (rvl := [(.t 4)]) hm (tabOk_cons (m := .any) s170 (tabOk_cons (m := .any) s193 tabOk_nil)) Try.func167 rfl rfl rfl (by kernel_rfl) rfl (Nat.le_of_ble_eq_true rfl) (Nat.le_of_ble_eq_true rfl) ?_
      show eA _ _ _ _
      unfold ic167
      simp only [p_spec_l01Angle, Bool.and_eq_true, Bool.or_eq_true, decide_eq_true_eq, Bool.not_eq_true', decide_eq_false_iff_not] at hp
      simp only [
          hp, grpA, vsliceS, grpS, grpD, grpF, grpL, eop, vop, bop, uop, fltop, convop, endOk, newE, new1, freshL, Md.isNew, outV, pureV, pureX, pure1, AV.cells, AV.one, storable,
                laid, refless, refless1, vload, loadC, storeC, vnil, vfaddr, vextract, flatT, flatE, flatC, vconv, vmm, vidxA, viaddrA, vfield, vlen, elemsOf, dF32, dF64, dI64, dU8,
                dBool, dStr, esOk, elemsS, vsliceX, bnd, ownV, ownC, own1, ownT, isSl, nSl, endL, Md.isOwn, purge, purgeH, purgeB, purgeE, hasName, name1, List.any_cons,
                List.any_nil, Md.isWr, pureV.pureP, Option.map, reduceIte, Nat.reduceEqDiff, Nat.reduceAdd, Nat.reduceMul, Nat.reduceLT, Nat.reduceLeDiff, List.mapM_cons,
                List.mapM_nil, Option.pure_def, Option.bind_eq_bind, Option.bind_some, implies_true, forall_const, beq_self_eq_true, decide_true, decide_false, eq_self,
                Int.reduceEq, Int.reduceLE, Int.reduceLT, if_true, if_false, fc167_0, fc167_1, fc167_2, fc167_3, fc167_4, fc167_5, fc167_6, fc167_7, fc167_8, fc167_9, fc167_10,
                fc167_11, fc167_12, fc167_13, fc167_14, fc167_15, fc167_16, fc167_17, fc167_18, fc167_19, fc167_20, fc167_21, fc167_22, fc167_23, fc167_24, fc167_25, Int.reduceAdd,
                Int.reduceSub, Int.reduceMul, Int.reduceNeg, Int.reducePow, Nat.reducePow, Int.reduceToNat, Nat.reduceSub, List.replicate, Nat.reduceBEq, wAs, wA, wC, zipW, noDupN,
                grpE, g_spec_l01Narrow, g_spec_l01AngleWide]
      repeat' (first
        | ((first | (refine eGI_of (fun h => ?_) (fun h => ?_)) | (refine eCc_of (fun h => ?_) (fun h => ?_))) <;> (try simp only [Bool.not_eq_true', Bool.not_eq_false'] at h) <;> (try simp only [h, reduceCtorEq, Bool.not_eq_true', decide_eq_false_iff_not, Bool.not_true, Bool.not_false, Bool.false_or, Bool.true_or, Bool.true_and, Bool.false_and, Bool.and_eq_true, Bool.or_eq_true, if_true, if_false, reduceIte, Bool.false_eq_true, and_true, true_and, false_or, or_false, decide_eq_true_eq, not_false_eq_true, not_true_eq_false] at hp) <;> (try (have h2 := h; simp only [decide_eq_true_eq, decide_eq_false_iff_not] at h2; (first | (replace h2 := eq_false h2) | (replace h2 := eq_true h2)); simp only [h2, if_true, if_false, false_or, true_or, or_true, or_false, and_true, true_and, not_false_eq_true, not_true_eq_false] at hp)) <;> simp only [h,
          hp, grpA, vsliceS, grpS, grpD, grpF, grpL, eop, vop, bop, uop, fltop, convop, endOk, newE, new1, freshL, Md.isNew, outV, pureV, pureX, pure1, AV.cells, AV.one, storable,
                laid, refless, refless1, vload, loadC, storeC, vnil, vfaddr, vextract, flatT, flatE, flatC, vconv, vmm, vidxA, viaddrA, vfield, vlen, elemsOf, dF32, dF64, dI64, dU8,
                dBool, dStr, esOk, elemsS, vsliceX, bnd, ownV, ownC, own1, ownT, isSl, nSl, endL, Md.isOwn, purge, purgeH, purgeB, purgeE, hasName, name1, List.any_cons,
                List.any_nil, Md.isWr, pureV.pureP, Option.map, reduceIte, Nat.reduceEqDiff, Nat.reduceAdd, Nat.reduceMul, Nat.reduceLT, Nat.reduceLeDiff, List.mapM_cons,
                List.mapM_nil, Option.pure_def, Option.bind_eq_bind, Option.bind_some, implies_true, forall_const, beq_self_eq_true, decide_true, decide_false, eq_self,
                Int.reduceEq, Int.reduceLE, Int.reduceLT, if_true, if_false, fc167_0, fc167_1, fc167_2, fc167_3, fc167_4, fc167_5, fc167_6, fc167_7, fc167_8, fc167_9, fc167_10,
                fc167_11, fc167_12, fc167_13, fc167_14, fc167_15, fc167_16, fc167_17, fc167_18, fc167_19, fc167_20, fc167_21, fc167_22, fc167_23, fc167_24, fc167_25, Int.reduceAdd,
                Int.reduceSub, Int.reduceMul, Int.reduceNeg, Int.reducePow, Nat.reducePow, Int.reduceToNat, Nat.reduceSub, List.replicate, Nat.reduceBEq, wAs, wA, wC, zipW, noDupN,
                grpE, g_spec_l01Narrow, g_spec_l01AngleWide]))
      all_goals (try simp only [*, m_spec_l01Angle, Bool.and_true, Bool.true_and, Bool.and_false, Bool.false_and, Bool.or_true, Bool.true_or, Bool.or_false, Bool.false_or, Bool.not_true, Bool.not_false, Bool.false_eq_true, if_true, if_false, reduceIte, decide_true, decide_false])
      all_goals (try (simp_all; done))
    · cases h
  · cases h
def m_spec_l02Angle (x0 : (Nat × Nat × Nat × Nat)) : Nat := (fmul .f32 1073741824 (m_spec_l01Angle (m_spec_l01Long (m_spec_l02Axis x0)) (m_spec_l02Size x0.1)))
def p_spec_l02Angle (x0 : (Nat × Nat × Nat × Nat)) : Bool := ((p_spec_l01Long (m_spec_l02Axis x0)) && ((p_spec_l02Size x0.1) && (p_spec_l01Angle (m_spec_l01Long (m_spec_l02Axis x0))
      (m_spec_l02Size x0.1))))
def g_spec_l02Angle : List AV → Option AV
  | [.agg [.flt .f32 y0, .flt .f32 y1, .flt .f32 y2, .flt .f32 y3]] => if p_spec_l02Angle (y0, y1, y2, y3) = true then some (.flt .f32
      (m_spec_l02Angle (y0, y1, y2, y3))) else none
  | _ => none
def ic122 : ICode := (.seq (.reg [⟨(some 1), none, (.box 4 (.t 0))⟩, ⟨(some 2), none, (.mov (.c (.flt .f32 0)))⟩] [1]) (.seq (.reg [⟨(some 3), none, (.load (some 4) (.t 1))⟩, ⟨(some
      4), none, (.call (.fn 119) [(.t 3)] [])⟩, ⟨(some 5), none, (.call (.fn 168) [(.t 4)] [])⟩, ⟨(some 6), none, (.faddr 0 (.t 1))⟩, ⟨(some 7), none, (.load none (.t 6))⟩, ⟨(some
      8), none, (.call (.fn 169) [(.t 7)] [])⟩, ⟨(some 9), none, (.call (.fn 167) [(.t 5), (.t 8)] [])⟩, ⟨(some 10), none, (.bin .mul false (.c (.flt .f32 1073741824)) (.t 9))⟩,
      ⟨(some 2), none, (.mov (.t 10))⟩] [2]) .ret))
def cp122 : CP := CP.mk [] [] [[1], [2]] 11 [] []
theorem fc122_0 : IntKind.wrap .i64 (-1) = (-1) := by decide
theorem fc122_1 : IntKind.wrap .i64 0 = 0 := by decide
theorem fc122_2 : IntKind.wrap .i64 1 = 1 := by decide
theorem fc122_3 : IntKind.wrap .i64 10 = 10 := by decide
theorem fc122_4 : IntKind.wrap .i64 11 = 11 := by decide
theorem fc122_5 : IntKind.wrap .i64 110 = 110 := by decide
theorem fc122_6 : IntKind.wrap .i64 12 = 12 := by decide
theorem fc122_7 : IntKind.wrap .i64 13 = 13 := by decide
theorem fc122_8 : IntKind.wrap .i64 14 = 14 := by decide
theorem fc122_9 : IntKind.wrap .i64 15 = 15 := by decide
theorem fc122_10 : IntKind.wrap .i64 156 = 156 := by decide
theorem fc122_11 : IntKind.wrap .i64 16 = 16 := by decide
theorem fc122_12 : IntKind.wrap .i64 17 = 17 := by decide
theorem fc122_13 : IntKind.wrap .i64 2 = 2 := by decide
theorem fc122_14 : IntKind.wrap .i64 20 = 20 := by decide
theorem fc122_15 : IntKind.wrap .i64 210 = 210 := by decide
theorem fc122_16 : IntKind.wrap .i64 272 = 272 := by decide
theorem fc122_17 : IntKind.wrap .i64 3 = 3 := by decide
theorem fc122_18 : IntKind.wrap .i64 4 = 4 := by decide
theorem fc122_19 : IntKind.wrap .i64 42 = 42 := by decide
theorem fc122_20 : IntKind.wrap .i64 5 = 5 := by decide
theorem fc122_21 : IntKind.wrap .i64 6 = 6 := by decide
theorem fc122_22 : IntKind.wrap .i64 7 = 7 := by decide
theorem fc122_23 : IntKind.wrap .i64 72 = 72 := by decide
theorem fc122_24 : IntKind.wrap .i64 8 = 8 := by decide
theorem fc122_25 : IntKind.wrap .i64 9 = 9 := by decide
theorem s122 : ∀ vs r, g_spec_l02Angle vs = some r → SaysM Try.prog .any 122 vs r := by
  intro vs r h
  unfold g_spec_l02Angle at h
  split at h
  · rename_i y0 y1 y2 y3
    split at h
    · rename_i hp
      cases h
      refine spec_of (m := .any) (tab := tabOf [(119, wM .any g_spec_l02Axis), (167, wM .any g_spec_l01Angle), (168, wM .any g_spec_l01Long), (169, wM .any g_spec_l02Size)]) (cp := cp122) (ic := ic122) (rvl := [(.t 2)]) hm (tabOk_cons (m := .any) s119 (tabOk_cons (m := .any) s167 (tabOk_cons (m := .any) s168 (tabOk_cons (m := .any) s169 tabOk_nil)))) Try.func122 rfl rfl rfl (by kernel_rfl) rfl (Nat.le_of_ble_eq_true rfl) (Nat.le_of_ble_eq_true rfl) ?_
      show eA _ _ _ _
      unfold ic122
      simp only [p_spec_l02Angle, Bool.and_eq_true, Bool.or_eq_true, decide_eq_true_eq, Bool.not_eq_true', decide_eq_false_iff_not] at hp
      simp only [
          hp, grpA, vsliceS, grpS, grpD, grpF, grpL, eop, vop, bop, uop, fltop, convop, endOk, newE, new1, freshL, Md.isNew, outV, pureV, pureX, pure1, AV.cells, AV.one, storable,
                laid, refless, refless1, vload, loadC, storeC, vnil, vfaddr, vextract, flatT, flatE, flatC, vconv, vmm, vidxA, viaddrA, vfield, vlen, elemsOf, dF32, dF64, dI64, dU8,
                dBool, dStr, esOk, elemsS, vsliceX, bnd, ownV, ownC, own1, ownT, isSl, nSl, endL, Md.isOwn, purge, purgeH, purgeB, purgeE, hasName, name1, List.any_cons,
                List.any_nil, Md.isWr, pureV.pureP, Option.map, reduceIte, Nat.reduceEqDiff, Nat.reduceAdd, Nat.reduceMul, Nat.reduceLT, Nat.reduceLeDiff, List.mapM_cons,
                List.mapM_nil, Option.pure_def, Option.bind_eq_bind, Option.bind_some, implies_true, forall_const, beq_self_eq_true, decide_true, decide_false, eq_self,
                Int.reduceEq, Int.reduceLE, Int.reduceLT, if_true, if_false, fc122_0, fc122_1, fc122_2, fc122_3, fc122_4, fc122_5, fc122_6, fc122_7, fc122_8, fc122_9, fc122_10,
                fc122_11, fc122_12, fc122_13, fc122_14, fc122_15, fc122_16, fc122_17, fc122_18, fc122_19, fc122_20, fc122_21, fc122_22, fc122_23, fc122_24, fc122_25, Int.reduceAdd,
                Int.reduceSub, Int.reduceMul, Int.reduceNeg, Int.reducePow, Nat.reducePow, Int.reduceToNat, Nat.reduceSub, List.replicate, Nat.reduceBEq, wAs, wA, wC, zipW, noDupN,
                grpE, g_spec_l02Axis, g_spec_l01Angle, g_spec_l01Long, g_spec_l02Size]
      repeat' (first
        | ((first | (refine eGI_of (fun h => ?_) (fun h => ?_)) | (refine eCc_of (fun h => ?_) (fun h => ?_))) <;> (try simp only [Bool.not_eq_true', Bool.not_eq_false'] at h) <;> (try simp only [h, reduceCtorEq, Bool.not_eq_true', decide_eq_false_iff_not, Bool.not_true, Bool.not_false, Bool.false_or, Bool.true_or, Bool.true_and, Bool.false_and, Bool.and_eq_true, Bool.or_eq_true, if_true, if_false, reduceIte, Bool.false_eq_true, and_true, true_and, false_or, or_false, decide_eq_true_eq, not_false_eq_true, not_true_eq_false] at hp) <;> (try (have h2 := h; simp only [decide_eq_true_eq, decide_eq_false_iff_not] at h2; (first | (replace h2 := eq_false h2) | (replace h2 := eq_true h2)); simp only [h2, if_true, if_false, false_or, true_or, or_true, or_false, and_true, true_and, not_false_eq_true, not_true_eq_false] at hp)) <;> simp only [h,
          hp, grpA, vsliceS, grpS, grpD, grpF, grpL, eop, vop, bop, uop, fltop, convop, endOk, newE, new1, freshL, Md.isNew, outV, pureV, pureX, pure1, AV.cells, AV.one, storable,
                laid, refless, refless1, vload, loadC, storeC, vnil, vfaddr, vextract, flatT, flatE, flatC, vconv, vmm, vidxA, viaddrA, vfield, vlen, elemsOf, dF32, dF64, dI64, dU8,
                dBool, dStr, esOk, elemsS, vsliceX, bnd, ownV, ownC, own1, ownT, isSl, nSl, endL, Md.isOwn, purge, purgeH, purgeB, purgeE, hasName, name1, List.any_cons,
                List.any_nil, Md.isWr, pureV.pureP, Option.map, reduceIte, Nat.reduceEqDiff, Nat.reduceAdd, Nat.reduceMul, Nat.reduceLT, Nat.reduceLeDiff, List.mapM_cons,
                List.mapM_nil, Option.pure_def, Option.bind_eq_bind, Option.bind_some, implies_true, forall_const, beq_self_eq_true, decide_true, decide_false, eq_self,
                Int.reduceEq, Int.reduceLE, Int.reduceLT, if_true, if_false, fc122_0, fc122_1, fc122_2, fc122_3, fc122_4, fc122_5, fc122_6, fc122_7, fc122_8, fc122_9, fc122_10,
                fc122_11, fc122_12, fc122_13, fc122_14, fc122_15, fc122_16, fc122_17, fc122_18, fc122_19, fc122_20, fc122_21, fc122_22, fc122_23, fc122_24, fc122_25, Int.reduceAdd,
                Int.reduceSub, Int.reduceMul, Int.reduceNeg, Int.reducePow, Nat.reducePow, Int.reduceToNat, Nat.reduceSub, List.replicate, Nat.reduceBEq, wAs, wA, wC, zipW, noDupN,
                grpE, g_spec_l02Axis, g_spec_l01Angle, g_spec_l01Long, g_spec_l02Size]))
      all_goals (try simp only [*, m_spec_l02Angle, Bool.and_true, Bool.true_and, Bool.and_false, Bool.false_and, Bool.or_true, Bool.true_or, Bool.or_false, Bool.false_or, Bool.not_true, Bool.not_false, Bool.false_eq_true, if_true, if_false, reduceIte, decide_true, decide_false])
      all_goals (try (simp_all; done))
    · cases h
  · cases h
def v_spec_AxisOf_0 (x0 : (Nat × Nat × Nat × Nat)) : Nat := (fdiv .f32 (if (flt .f32 x0.1 0) = true then (x0.1, (fneg .f32 x0.2.1), (fneg .f32 x0.2.2.1), (fneg .f32 x0.2.2.2)) else
      x0).2.1 (m_spec_l01Long (m_spec_l02Axis x0)))
def v_spec_AxisOf_1 (x0 : (Nat × Nat × Nat × Nat)) : Nat := (fdiv .f32 (if (flt .f32 x0.1 0) = true then (x0.1, (fneg .f32 x0.2.1), (fneg .f32 x0.2.2.1), (fneg .f32 x0.2.2.2)) else
      x0).2.2.1 (m_spec_l01Long (m_spec_l02Axis x0)))
def v_spec_AxisOf_2 (x0 : (Nat × Nat × Nat × Nat)) : Nat := (fdiv .f32 (if (flt .f32 x0.1 0) = true then (x0.1, (fneg .f32 x0.2.1), (fneg .f32 x0.2.2.1), (fneg .f32 x0.2.2.2)) else
      x0).2.2.2 (m_spec_l01Long (m_spec_l02Axis x0)))
def m_spec_AxisOf (x0 : (Nat × Nat × Nat × Nat)) : (Nat × Nat × Nat) := (if (feq .f32 (m_spec_l01Long (m_spec_l02Axis x0)) 0) = true then (0, 0, 1065353216) else (if
      (m_spec_l01Finite (m_spec_l01Long (m_spec_l02Axis x0))) = true then ((v_spec_AxisOf_0 x0), (v_spec_AxisOf_1 x0), (v_spec_AxisOf_2 x0)) else (0, 0, 1065353216)))
def p_spec_AxisOf (x0 : (Nat × Nat × Nat × Nat)) : Bool := (p_spec_l01Long (m_spec_l02Axis x0))
def g_spec_AxisOf : List AV → Option AV
  | [.agg [.flt .f32 y0, .flt .f32 y1, .flt .f32 y2, .flt .f32 y3]] => if p_spec_AxisOf (y0, y1, y2, y3) = true then some (AV.agg [(.flt .f32
      (m_spec_AxisOf (y0, y1, y2, y3)).1), (.flt .f32 (m_spec_AxisOf (y0, y1, y2, y3)).2.1), (.flt .f32 (m_spec_AxisOf (y0, y1, y2, y3)).2.2)]) else none
  | _ => none
def ic172 : ICode := (.seq (.reg [⟨(some 1), none, (.box 4 (.t 0))⟩, ⟨(some 2), none, (.alloc (.agg [(.flt .f32 0), (.flt .f32 0), (.flt .f32 0)]))⟩] [1, 2]) (.seq (.reg [⟨(some 4),
      none, (.load (some 4) (.t 1))⟩, ⟨(some 5), none, (.call (.fn 119) [(.t 4)] [])⟩, ⟨(some 6), none, (.call (.fn 168) [(.t 5)] [])⟩, ⟨(some 3), none, (.mov (.t 6))⟩] [1, 2, 3])
      (.seq (.seq (.reg [⟨(some 7), none, (.mov (.t 3))⟩, ⟨(some 8), none, (.bin .eql false (.t 7) (.c (.flt .f32 0)))⟩, ⟨(some 9), none, (.mov (.t 8))⟩, ⟨(some 10), (some (9,
      false)), (.mov (.t 3))⟩, ⟨(some 11), (some (9, false)), (.call (.fn 165) [(.t 10)] [])⟩, ⟨(some 12), (some (9, false)), (.un .not (.t 11))⟩, ⟨(some 13), none, (.pick (.t 9)
      (.c (.bool true)) (.t 12))⟩] [1, 2, 3, 13]) (.cond (.t 13) (.seq (.reg [⟨(some 14), none, (.build [(.flt .f32 0), (.flt .f32 0), (.flt .f32 0)] [(2, 1, (.c (.flt .f32
      1065353216)))])⟩, ⟨none, none, (.store 3 (.t 2) (.t 14))⟩] [2]) .ret) .skip)) (.seq (.seq (.reg [⟨(some 15), none, (.faddr 0 (.t 1))⟩, ⟨(some 16), none, (.load none (.t 15))⟩,
      ⟨(some 17), none, (.bin .lss false (.t 16) (.c (.flt .f32 0)))⟩] [1, 2, 3, 17]) (.cond (.t 17) (.reg [⟨(some 18), none, (.faddr 0 (.t 1))⟩, ⟨(some 19), none, (.load none (.t
      18))⟩, ⟨(some 20), none, (.faddr 1 (.t 1))⟩, ⟨(some 21), none, (.load none (.t 20))⟩, ⟨(some 22), none, (.un .neg (.t 21))⟩, ⟨(some 23), none, (.faddr 2 (.t 1))⟩, ⟨(some 24),
      none, (.load none (.t 23))⟩, ⟨(some 25), none, (.un .neg (.t 24))⟩, ⟨(some 26), none, (.faddr 3 (.t 1))⟩, ⟨(some 27), none, (.load none (.t 26))⟩, ⟨(some 28), none, (.un .neg
      (.t 27))⟩, ⟨(some 29), none, (.build [(.flt .f32 0), (.flt .f32 0), (.flt .f32 0), (.flt .f32 0)] [(0, 1, (.t 19)), (1, 1, (.t 22)), (2, 1, (.t 25)), (3, 1, (.t 28))])⟩,
      ⟨none, none, (.store 4 (.t 1) (.t 29))⟩] [1, 2, 3]) .skip)) (.seq (.reg [⟨(some 30), none, (.faddr 1 (.t 1))⟩, ⟨(some 31), none, (.load none (.t 30))⟩, ⟨(some 32), none, (.mov
      (.t 3))⟩, ⟨(some 33), none, (.bin .quo false (.t 31) (.t 32))⟩, ⟨(some 34), none, (.faddr 2 (.t 1))⟩, ⟨(some 35), none, (.load none (.t 34))⟩, ⟨(some 36), none, (.mov (.t
      3))⟩, ⟨(some 37), none, (.bin .quo false (.t 35) (.t 36))⟩, ⟨(some 38), none, (.faddr 3 (.t 1))⟩, ⟨(some 39), none, (.load none (.t 38))⟩, ⟨(some 40), none, (.mov (.t 3))⟩,
      ⟨(some 41), none, (.bin .quo false (.t 39) (.t 40))⟩, ⟨(some 42), none, (.build [(.flt .f32 0), (.flt .f32 0), (.flt .f32 0)] [(0, 1, (.t 33)), (1, 1, (.t 37)), (2, 1, (.t
      41))])⟩, ⟨none, none, (.store 3 (.t 2) (.t 42))⟩] [2]) .ret)))))
def cp172 : CP := CP.mk [] [] [[1, 2], [1, 2, 3], [1, 2, 3, 13], [2], [1, 2, 3, 17], [1, 2, 3], [2]] 43 [] []
theorem fc172_0 : IntKind.wrap .i64 (-1) = (-1) := by decide
theorem fc172_1 : IntKind.wrap .i64 0 = 0 := by decide
theorem fc172_2 : IntKind.wrap .i64 1 = 1 := by decide
theorem fc172_3 : IntKind.wrap .i64 10 = 10 := by decide
theorem fc172_4 : IntKind.wrap .i64 11 = 11 := by decide
theorem fc172_5 : IntKind.wrap .i64 110 = 110 := by decide
theorem fc172_6 : IntKind.wrap .i64 12 = 12 := by decide
theorem fc172_7 : IntKind.wrap .i64 13 = 13 := by decide
theorem fc172_8 : IntKind.wrap .i64 14 = 14 := by decide
theorem fc172_9 : IntKind.wrap .i64 15 = 15 := by decide
theorem fc172_10 : IntKind.wrap .i64 156 = 156 := by decide
theorem fc172_11 : IntKind.wrap .i64 16 = 16 := by decide
theorem fc172_12 : IntKind.wrap .i64 17 = 17 := by decide
theorem fc172_13 : IntKind.wrap .i64 2 = 2 := by decide
theorem fc172_14 : IntKind.wrap .i64 20 = 20 := by decide
theorem fc172_15 : IntKind.wrap .i64 210 = 210 := by decide
theorem fc172_16 : IntKind.wrap .i64 272 = 272 := by decide
theorem fc172_17 : IntKind.wrap .i64 3 = 3 := by decide
theorem fc172_18 : IntKind.wrap .i64 4 = 4 := by decide
theorem fc172_19 : IntKind.wrap .i64 42 = 42 := by decide
theorem fc172_20 : IntKind.wrap .i64 5 = 5 := by decide
theorem fc172_21 : IntKind.wrap .i64 6 = 6 := by decide
theorem fc172_22 : IntKind.wrap .i64 7 = 7 := by decide
theorem fc172_23 : IntKind.wrap .i64 72 = 72 := by decide
theorem fc172_24 : IntKind.wrap .i64 8 = 8 := by decide
theorem fc172_25 : IntKind.wrap .i64 9 = 9 := by decide
theorem s172 : ∀ vs r, g_spec_AxisOf vs = some r → SaysM Try.prog .any 172 vs r := by
  intro vs r h
  unfold g_spec_AxisOf at h
  split at h
  · rename_i y0 y1 y2 y3
    split at h
    · rename_i hp
      cases h
      refine spec_of (m := .any) (tab := tabOf [(119, wM .any g_spec_l02Axis), (165, wM .any g_spec_l01Finite), (168, wM .any g_spec_l01Long)]) (cp := cp172) (ic := ic172) (rvl := [(.c 2 (some 3))]) hm (tabOk_cons (m := .any) s119 (tabOk_cons (m := .any) s165 (tabOk_cons (m := .any) s168 tabOk_nil))) Try.func172 rfl rfl rfl (by kernel_rfl) rfl (Nat.le_of_ble_eq_true rfl) (Nat.le_of_ble_eq_true rfl) ?_
      show eA _ _ _ _
      unfold ic172
      simp only [p_spec_AxisOf, v_spec_AxisOf_0, v_spec_AxisOf_1, v_spec_AxisOf_2, Bool.and_eq_true, Bool.or_eq_true, decide_eq_true_eq, Bool.not_eq_true', decide_eq_false_iff_not] at hp
      simp only [
          hp, grpA, vsliceS, grpS, grpD, grpF, grpL, eop, vop, bop, uop, fltop, convop, endOk, newE, new1, freshL, Md.isNew, outV, pureV, pureX, pure1, AV.cells, AV.one, storable,
                laid, refless, refless1, vload, loadC, storeC, vnil, vfaddr, vextract, flatT, flatE, flatC, vconv, vmm, vidxA, viaddrA, vfield, vlen, elemsOf, dF32, dF64, dI64, dU8,
                dBool, dStr, esOk, elemsS, vsliceX, bnd, ownV, ownC, own1, ownT, isSl, nSl, endL, Md.isOwn, purge, purgeH, purgeB, purgeE, hasName, name1, List.any_cons,
                List.any_nil, Md.isWr, pureV.pureP, Option.map, reduceIte, Nat.reduceEqDiff, Nat.reduceAdd, Nat.reduceMul, Nat.reduceLT, Nat.reduceLeDiff, List.mapM_cons,
                List.mapM_nil, Option.pure_def, Option.bind_eq_bind, Option.bind_some, implies_true, forall_const, beq_self_eq_true, decide_true, decide_false, eq_self,
                Int.reduceEq, Int.reduceLE, Int.reduceLT, if_true, if_false, fc172_0, fc172_1, fc172_2, fc172_3, fc172_4, fc172_5, fc172_6, fc172_7, fc172_8, fc172_9, fc172_10,
                fc172_11, fc172_12, fc172_13, fc172_14, fc172_15, fc172_16, fc172_17, fc172_18, fc172_19, fc172_20, fc172_21, fc172_22, fc172_23, fc172_24, fc172_25, Int.reduceAdd,
                Int.reduceSub, Int.reduceMul, Int.reduceNeg, Int.reducePow, Nat.reducePow, Int.reduceToNat, Nat.reduceSub, List.replicate, Nat.reduceBEq, wAs, wA, wC, zipW, noDupN,
                grpE, g_spec_l02Axis, g_spec_l01Finite, g_spec_l01Long, ↓b_pick, ePk_true, ePk_false]
      repeat' (first
        | ((first | (refine eGI_of (fun h => ?_) (fun h => ?_)) | (refine eCc_of (fun h => ?_) (fun h => ?_)) | (refine ePk_of (fun h => ?_) (fun h => ?_))) <;> (try simp only [Bool.not_eq_true', Bool.not_eq_false'] at h) <;> (try simp only [h, reduceCtorEq, Bool.not_eq_true', decide_eq_false_iff_not, Bool.not_true, Bool.not_false, Bool.false_or, Bool.true_or, Bool.true_and, Bool.false_and, Bool.and_eq_true, Bool.or_eq_true, if_true, if_false, reduceIte, Bool.false_eq_true, and_true, true_and, false_or, or_false, decide_eq_true_eq, not_false_eq_true, not_true_eq_false] at hp) <;> (try (have h2 := h; simp only [decide_eq_true_eq, decide_eq_false_iff_not] at h2; (first | (replace h2 := eq_false h2) | (replace h2 := eq_true h2)); simp only [h2, if_true, if_false, false_or, true_or, or_true, or_false, and_true, true_and, not_false_eq_true, not_true_eq_false] at hp)) <;> simp only [h,
          hp, grpA, vsliceS, grpS, grpD, grpF, grpL, eop, vop, bop, uop, fltop, convop, endOk, newE, new1, freshL, Md.isNew, outV, pureV, pureX, pure1, AV.cells, AV.one, storable,
                laid, refless, refless1, vload, loadC, storeC, vnil, vfaddr, vextract, flatT, flatE, flatC, vconv, vmm, vidxA, viaddrA, vfield, vlen, elemsOf, dF32, dF64, dI64, dU8,
                dBool, dStr, esOk, elemsS, vsliceX, bnd, ownV, ownC, own1, ownT, isSl, nSl, endL, Md.isOwn, purge, purgeH, purgeB, purgeE, hasName, name1, List.any_cons,
                List.any_nil, Md.isWr, pureV.pureP, Option.map, reduceIte, Nat.reduceEqDiff, Nat.reduceAdd, Nat.reduceMul, Nat.reduceLT, Nat.reduceLeDiff, List.mapM_cons,
                List.mapM_nil, Option.pure_def, Option.bind_eq_bind, Option.bind_some, implies_true, forall_const, beq_self_eq_true, decide_true, decide_false, eq_self,
                Int.reduceEq, Int.reduceLE, Int.reduceLT, if_true, if_false, fc172_0, fc172_1, fc172_2, fc172_3, fc172_4, fc172_5, fc172_6, fc172_7, fc172_8, fc172_9, fc172_10,
                fc172_11, fc172_12, fc172_13, fc172_14, fc172_15, fc172_16, fc172_17, fc172_18, fc172_19, fc172_20, fc172_21, fc172_22, fc172_23, fc172_24, fc172_25, Int.reduceAdd,
                Int.reduceSub, Int.reduceMul, Int.reduceNeg, Int.reducePow, Nat.reducePow, Int.reduceToNat, Nat.reduceSub, List.replicate, Nat.reduceBEq, wAs, wA, wC, zipW, noDupN,
                grpE, g_spec_l02Axis, g_spec_l01Finite, g_spec_l01Long, ↓b_pick, ePk_true, ePk_false]))
      all_goals (try simp only [*, m_spec_AxisOf, v_spec_AxisOf_0, v_spec_AxisOf_1, v_spec_AxisOf_2, Bool.and_true, Bool.true_and, Bool.and_false, Bool.false_and, Bool.or_true, Bool.true_or, Bool.or_false, Bool.false_or, Bool.not_true, Bool.not_false, Bool.false_eq_true, if_true, if_false, reduceIte, decide_true, decide_false])
      all_goals (try (simp_all; done))
    · cases h
  · cases h
def m_spec_l04Axis (x0 : (Nat × Nat × Nat × Nat)) : (Nat × Nat × Nat) := (m_spec_AxisOf x0)
def p_spec_l04Axis (x0 : (Nat × Nat × Nat × Nat)) : Bool := (p_spec_AxisOf x0)
def g_spec_l04Axis : List AV → Option AV
  | [.agg [.flt .f32 y0, .flt .f32 y1, .flt .f32 y2, .flt .f32 y3]] => if p_spec_l04Axis (y0, y1, y2, y3) = true then some (AV.agg [(.flt
      .f32 (m_spec_l04Axis (y0, y1, y2, y3)).1), (.flt .f32 (m_spec_l04Axis (y0, y1, y2, y3)).2.1), (.flt .f32 (m_spec_l04Axis (y0, y1, y2, y3)).2.2)]) else none
  | _ => none
def ic124 : ICode := (.seq (.reg [⟨(some 1), none, (.box 4 (.t 0))⟩, ⟨(some 2), none, (.alloc (.agg [(.flt .f32 0), (.flt .f32 0), (.flt .f32 0)]))⟩] [1, 2]) (.seq (.reg [⟨(some 3),
      none, (.load (some 4) (.t 1))⟩, ⟨(some 4), none, (.call (.fn 172) [(.t 3)] [])⟩, ⟨none, none, (.store 3 (.t 2) (.t 4))⟩] [2]) .ret))
def cp124 : CP := CP.mk [] [] [[1, 2], [2]] 5 [] []
theorem fc124_0 : IntKind.wrap .i64 (-1) = (-1) := by decide
theorem fc124_1 : IntKind.wrap .i64 0 = 0 := by decide
theorem fc124_2 : IntKind.wrap .i64 1 = 1 := by decide
theorem fc124_3 : IntKind.wrap .i64 10 = 10 := by decide
theorem fc124_4 : IntKind.wrap .i64 11 = 11 := by decide
theorem fc124_5 : IntKind.wrap .i64 110 = 110 := by decide
theorem fc124_6 : IntKind.wrap .i64 12 = 12 := by decide
theorem fc124_7 : IntKind.wrap .i64 13 = 13 := by decide
theorem fc124_8 : IntKind.wrap .i64 14 = 14 := by decide
theorem fc124_9 : IntKind.wrap .i64 15 = 15 := by decide
theorem fc124_10 : IntKind.wrap .i64 156 = 156 := by decide
theorem fc124_11 : IntKind.wrap .i64 16 = 16 := by decide
theorem fc124_12 : IntKind.wrap .i64 17 = 17 := by decide
theorem fc124_13 : IntKind.wrap .i64 2 = 2 := by decide
theorem fc124_14 : IntKind.wrap .i64 20 = 20 := by decide
theorem fc124_15 : IntKind.wrap .i64 210 = 210 := by decide
theorem fc124_16 : IntKind.wrap .i64 272 = 272 := by decide
theorem fc124_17 : IntKind.wrap .i64 3 = 3 := by decide
theorem fc124_18 : IntKind.wrap .i64 4 = 4 := by decide
theorem fc124_19 : IntKind.wrap .i64 42 = 42 := by decide
theorem fc124_20 : IntKind.wrap .i64 5 = 5 := by decide
theorem fc124_21 : IntKind.wrap .i64 6 = 6 := by decide
theorem fc124_22 : IntKind.wrap .i64 7 = 7 := by decide
theorem fc124_23 : IntKind.wrap .i64 72 = 72 := by decide
theorem fc124_24 : IntKind.wrap .i64 8 = 8 := by decide
theorem fc124_25 : IntKind.wrap .i64 9 = 9 := by decide
theorem s124 : ∀ vs r, g_spec_l04Axis vs = some r → SaysM Try.prog .any 124 vs r := by
  intro vs r h
  unfold g_spec_l04Axis at h
  split at h
  · rename_i y0 y1 y2 y3
    split at h
    · rename_i hp
      cases h
      refine spec_of (m := .any) (tab := tabOf [(172, wM .any g_spec_AxisOf)]) (cp := cp124) (ic := ic124) (rvl := [(.c 2 (some 3))]) hm (tabOk_cons (m := .any) s172 tabOk_nil) Try.func124 rfl rfl rfl (by kernel_rfl) rfl (Nat.le_of_ble_eq_true rfl) (Nat.le_of_ble_eq_true rfl) ?_
      show eA _ _ _ _
      unfold ic124
      simp only [p_spec_l04Axis, Bool.and_eq_true, Bool.or_eq_true, decide_eq_true_eq, Bool.not_eq_true', decide_eq_false_iff_not] at hp
      simp only [
          hp, grpA, vsliceS, grpS, grpD, grpF, grpL, eop, vop, bop, uop, fltop, convop, endOk, newE, new1, freshL, Md.isNew, outV, pureV, pureX, pure1, AV.cells, AV.one, storable,
                laid, refless, refless1, vload, loadC, storeC, vnil, vfaddr, vextract, flatT, flatE, flatC, vconv, vmm, vidxA, viaddrA, vfield, vlen, elemsOf, dF32, dF64, dI64, dU8,
                dBool, dStr, esOk, elemsS, vsliceX, bnd, ownV, ownC, own1, ownT, isSl, nSl, endL, Md.isOwn, purge, purgeH, purgeB, purgeE, hasName, name1, List.any_cons,
                List.any_nil, Md.isWr, pureV.pureP, Option.map, reduceIte, Nat.reduceEqDiff, Nat.reduceAdd, Nat.reduceMul, Nat.reduceLT, Nat.reduceLeDiff, List.mapM_cons,
                List.mapM_nil, Option.pure_def, Option.bind_eq_bind, Option.bind_some, implies_true, forall_const, beq_self_eq_true, decide_true, decide_false, eq_self,
                Int.reduceEq, Int.reduceLE, Int.reduceLT, if_true, if_false, fc124_0, fc124_1, fc124_2, fc124_3, fc124_4, fc124_5, fc124_6, fc124_7, fc124_8, fc124_9, fc124_10,
                fc124_11, fc124_12, fc124_13, fc124_14, fc124_15, fc124_16, fc124_17, fc124_18, fc124_19, fc124_20, fc124_21, fc124_22, fc124_23, fc124_24, fc124_25, Int.reduceAdd,
                Int.reduceSub, Int.reduceMul, Int.reduceNeg, Int.reducePow, Nat.reducePow, Int.reduceToNat, Nat.reduceSub, List.replicate, Nat.reduceBEq, wAs, wA, wC, zipW, noDupN,
                grpE, g_spec_AxisOf]
      repeat' (first
        | ((first | (refine eGI_of (fun h => ?_) (fun h => ?_)) | (refine eCc_of (fun h => ?_) (fun h => ?_))) <;> (try simp only [Bool.not_eq_true', Bool.not_eq_false'] at h) <;> (try simp only [h, reduceCtorEq, Bool.not_eq_true', decide_eq_false_iff_not, Bool.not_true, Bool.not_false, Bool.false_or, Bool.true_or, Bool.true_and, Bool.false_and, Bool.and_eq_true, Bool.or_eq_true, if_true, if_false, reduceIte, Bool.false_eq_true, and_true, true_and, false_or, or_false, decide_eq_true_eq, not_false_eq_true, not_true_eq_false] at hp) <;> (try (have h2 := h; simp only [decide_eq_true_eq, decide_eq_false_iff_not] at h2; (first | (replace h2 := eq_false h2) | (replace h2 := eq_true h2)); simp only [h2, if_true, if_false, false_or, true_or, or_true, or_false, and_true, true_and, not_false_eq_true, not_true_eq_false] at hp)) <;> simp only [h,
          hp, grpA, vsliceS, grpS, grpD, grpF, grpL, eop, vop, bop, uop, fltop, convop, endOk, newE, new1, freshL, Md.isNew, outV, pureV, pureX, pure1, AV.cells, AV.one, storable,
                laid, refless, refless1, vload, loadC, storeC, vnil, vfaddr, vextract, flatT, flatE, flatC, vconv, vmm, vidxA, viaddrA, vfield, vlen, elemsOf, dF32, dF64, dI64, dU8,
                dBool, dStr, esOk, elemsS, vsliceX, bnd, ownV, ownC, own1, ownT, isSl, nSl, endL, Md.isOwn, purge, purgeH, purgeB, purgeE, hasName, name1, List.any_cons,
                List.any_nil, Md.isWr, pureV.pureP, Option.map, reduceIte, Nat.reduceEqDiff, Nat.reduceAdd, Nat.reduceMul, Nat.reduceLT, Nat.reduceLeDiff, List.mapM_cons,
                List.mapM_nil, Option.pure_def, Option.bind_eq_bind, Option.bind_some, implies_true, forall_const, beq_self_eq_true, decide_true, decide_false, eq_self,
                Int.reduceEq, Int.reduceLE, Int.reduceLT, if_true, if_false, fc124_0, fc124_1, fc124_2, fc124_3, fc124_4, fc124_5, fc124_6, fc124_7, fc124_8, fc124_9, fc124_10,
                fc124_11, fc124_12, fc124_13, fc124_14, fc124_15, fc124_16, fc124_17, fc124_18, fc124_19, fc124_20, fc124_21, fc124_22, fc124_23, fc124_24, fc124_25, Int.reduceAdd,
                Int.reduceSub, Int.reduceMul, Int.reduceNeg, Int.reducePow, Nat.reducePow, Int.reduceToNat, Nat.reduceSub, List.replicate, Nat.reduceBEq, wAs, wA, wC, zipW, noDupN,
                grpE, g_spec_AxisOf]))
      all_goals (try simp only [*, m_spec_l04Axis, Bool.and_true, Bool.true_and, Bool.and_false, Bool.false_and, Bool.or_true, Bool.true_or, Bool.or_false, Bool.false_or, Bool.not_true, Bool.not_false, Bool.false_eq_true, if_true, if_false, reduceIte, decide_true, decide_false])
      all_goals (try (simp_all; done))
    · cases h
  · cases h
def v_spec_l01SineWide_0 (x0 : Nat) : Nat := (if (flt .f64 (fsub .f64 x0 (ofInt .f64 (f2iV .f64 x0))) 0) = true then (fadd .f64 (fsub .f64 x0 (ofInt .f64 (f2iV .f64 x0)))
      4607182418800017408) else (fsub .f64 x0 (ofInt .f64 (f2iV .f64 x0))))
def v_spec_l01SineWide_1 (x0 : Nat) : Nat := (if (fle .f64 4602678819172646912 (v_spec_l01SineWide_0 x0)) = true then (fsub .f64 (v_spec_l01SineWide_0 x0) 4602678819172646912) else
      (v_spec_l01SineWide_0 x0))
def v_spec_l01SineWide_2 (x0 : Nat) : Nat := (if (flt .f64 4598175219545276416 (v_spec_l01SineWide_1 x0)) = true then (fsub .f64 4602678819172646912 (v_spec_l01SineWide_1 x0)) else
      (v_spec_l01SineWide_1 x0))
def v_spec_l01SineWide_3 (x0 : Nat) : Nat := (fdiv .f64 (fmul .f64 (fmul .f64 (fmul .f64 (v_spec_l01SineWide_2 x0) 4618760256179416344) (fmul .f64 (v_spec_l01SineWide_2 x0)
      4618760256179416344)) 4607182418800017408) (ofInt .f64 272))
def v_spec_l01SineWide_4 (x0 : Nat) : Nat := (fmul .f64 (fmul .f64 (fmul .f64 (v_spec_l01SineWide_2 x0) 4618760256179416344) (fmul .f64 (v_spec_l01SineWide_2 x0)
      4618760256179416344)) (fsub .f64 4607182418800017408 (v_spec_l01SineWide_3 x0)))
def v_spec_l01SineWide_5 (x0 : Nat) : Nat := (fmul .f64 (fmul .f64 (fmul .f64 (v_spec_l01SineWide_2 x0) 4618760256179416344) (fmul .f64 (v_spec_l01SineWide_2 x0)
      4618760256179416344)) (fsub .f64 4607182418800017408 (fdiv .f64 (v_spec_l01SineWide_4 x0) (ofInt .f64 210))))
def v_spec_l01SineWide_6 (x0 : Nat) : Nat := (fmul .f64 (fmul .f64 (fmul .f64 (v_spec_l01SineWide_2 x0) 4618760256179416344) (fmul .f64 (v_spec_l01SineWide_2 x0)
      4618760256179416344)) (fsub .f64 4607182418800017408 (fdiv .f64 (v_spec_l01SineWide_5 x0) (ofInt .f64 156))))
def v_spec_l01SineWide_7 (x0 : Nat) : Nat := (fmul .f64 (fmul .f64 (fmul .f64 (v_spec_l01SineWide_2 x0) 4618760256179416344) (fmul .f64 (v_spec_l01SineWide_2 x0)
      4618760256179416344)) (fsub .f64 4607182418800017408 (fdiv .f64 (v_spec_l01SineWide_6 x0) (ofInt .f64 110))))
def v_spec_l01SineWide_8 (x0 : Nat) : Nat := (fmul .f64 (fmul .f64 (fmul .f64 (v_spec_l01SineWide_2 x0) 4618760256179416344) (fmul .f64 (v_spec_l01SineWide_2 x0)
      4618760256179416344)) (fsub .f64 4607182418800017408 (fdiv .f64 (v_spec_l01SineWide_7 x0) (ofInt .f64 72))))
def v_spec_l01SineWide_9 (x0 : Nat) : Nat := (fmul .f64 (fmul .f64 (fmul .f64 (v_spec_l01SineWide_2 x0) 4618760256179416344) (fmul .f64 (v_spec_l01SineWide_2 x0)
      4618760256179416344)) (fsub .f64 4607182418800017408 (fdiv .f64 (v_spec_l01SineWide_8 x0) (ofInt .f64 42))))
def v_spec_l01SineWide_10 (x0 : Nat) : Nat := (fmul .f64 (fmul .f64 (fmul .f64 (v_spec_l01SineWide_2 x0) 4618760256179416344) (fmul .f64 (v_spec_l01SineWide_2 x0)
      4618760256179416344)) (fsub .f64 4607182418800017408 (fdiv .f64 (v_spec_l01SineWide_9 x0) (ofInt .f64 20))))
def v_spec_l01SineWide_11 (x0 : Nat) : Nat := (fneg .f64 (fmul .f64 (fmul .f64 (v_spec_l01SineWide_2 x0) 4618760256179416344) (fsub .f64 4607182418800017408 (fdiv .f64
      (v_spec_l01SineWide_10 x0) (ofInt .f64 6)))))
def m_spec_l01SineWide (x0 : Nat) : Nat := (if (feq .f64 (fsub .f64 x0 x0) 0) = true then (if (fle .f64 4841369599423283200 x0) = true then 0 else (if (fle .f64 x0
      14064741636278059008) = true then 0 else (if (fle .f64 4602678819172646912 (v_spec_l01SineWide_0 x0)) = true then (v_spec_l01SineWide_11 x0) else (fmul .f64 (fmul .f64
      (v_spec_l01SineWide_2 x0) 4618760256179416344) (fsub .f64 4607182418800017408 (fdiv .f64 (v_spec_l01SineWide_10 x0) (ofInt .f64 6))))))) else (m_math_NaN))
def p_spec_l01SineWide (x0 : Nat) : Bool := (!(feq .f64 (fsub .f64 x0 x0) 0) || ((fle .f64 4841369599423283200 x0) || ((fle .f64 x0 14064741636278059008) || (f2iOk .i64 .f64 x0))))
def g_spec_l01SineWide : List AV → Option AV
  | [.flt .f64 y0] => if p_spec_l01SineWide y0 = true then some (.flt .f64 (m_spec_l01SineWide y0)) else none
  | _ => none
def ic171 : ICode := (.seq (.reg [⟨(some 2), none, (.mov (.c (.flt .f64 0)))⟩] [0]) (.seq (.seq (.reg [⟨(some 9), none, (.mov (.t 0))⟩, ⟨(some 10), none, (.mov (.t 0))⟩, ⟨(some 11),
      none, (.bin .sub false (.t 9) (.t 10))⟩, ⟨(some 12), none, (.bin .neq false (.t 11) (.c (.flt .f64 0)))⟩] [0, 12]) (.cond (.t 12) (.seq (.reg [⟨(some 13), none, (.call (.fn
      116) [] [])⟩, ⟨(some 2), none, (.mov (.t 13))⟩] [2]) .ret) .skip)) (.seq (.seq (.reg [⟨(some 14), none, (.mov (.t 0))⟩, ⟨(some 15), none, (.bin .geq false (.t 14) (.c (.flt
      .f64 4841369599423283200)))⟩, ⟨(some 16), none, (.mov (.t 15))⟩, ⟨(some 17), (some (16, false)), (.mov (.t 0))⟩, ⟨(some 18), (some (16, false)), (.bin .leq false (.t 17) (.c
      (.flt .f64 14064741636278059008)))⟩, ⟨(some 19), none, (.pick (.t 16) (.c (.bool true)) (.t 18))⟩] [0, 19]) (.cond (.t 19) (.seq (.reg [⟨(some 2), none, (.mov (.c (.flt .f64
      0)))⟩] [2]) .ret) .skip)) (.seq (.reg [⟨(some 20), none, (.mov (.t 0))⟩, ⟨(some 21), none, (.mov (.t 0))⟩, ⟨(some 22), none, (.conv (.int .i64) (.t 21))⟩, ⟨(some 23), none,
      (.conv (.flt .f64) (.t 22))⟩, ⟨(some 24), none, (.bin .sub false (.t 20) (.t 23))⟩, ⟨(some 3), none, (.mov (.t 24))⟩] [3]) (.seq (.seq (.reg [⟨(some 25), none, (.mov (.t 3))⟩,
      ⟨(some 26), none, (.bin .lss false (.t 25) (.c (.flt .f64 0)))⟩] [3, 26]) (.cond (.t 26) (.reg [⟨(some 27), none, (.mov (.t 3))⟩, ⟨(some 28), none, (.bin .add false (.t 27)
      (.c (.flt .f64 4607182418800017408)))⟩, ⟨(some 3), none, (.mov (.t 28))⟩] [3]) .skip)) (.seq (.reg [⟨(some 29), none, (.mov (.t 3))⟩, ⟨(some 30), none, (.bin .geq false (.t
      29) (.c (.flt .f64 4602678819172646912)))⟩, ⟨(some 4), none, (.mov (.t 30))⟩] [3, 4]) (.seq (.seq (.reg [⟨(some 31), none, (.mov (.t 4))⟩] [3, 4, 31]) (.cond (.t 31) (.reg
      [⟨(some 32), none, (.mov (.t 3))⟩, ⟨(some 33), none, (.bin .sub false (.t 32) (.c (.flt .f64 4602678819172646912)))⟩, ⟨(some 3), none, (.mov (.t 33))⟩] [3, 4]) .skip)) (.seq
      (.seq (.reg [⟨(some 34), none, (.mov (.t 3))⟩, ⟨(some 35), none, (.bin .gtr false (.t 34) (.c (.flt .f64 4598175219545276416)))⟩] [3, 4, 35]) (.cond (.t 35) (.reg [⟨(some 36),
      none, (.mov (.t 3))⟩, ⟨(some 37), none, (.bin .sub false (.c (.flt .f64 4602678819172646912)) (.t 36))⟩, ⟨(some 3), none, (.mov (.t 37))⟩] [3, 4]) .skip)) (.seq (.reg [⟨(some
      38), none, (.mov (.t 3))⟩, ⟨(some 39), none, (.bin .mul false (.t 38) (.c (.flt .f64 4618760256179416344)))⟩, ⟨(some 5), none, (.mov (.t 39))⟩] [4, 5]) (.seq (.reg [⟨(some
      40), none, (.mov (.t 5))⟩, ⟨(some 41), none, (.mov (.t 5))⟩, ⟨(some 42), none, (.bin .mul false (.t 40) (.t 41))⟩, ⟨(some 6), none, (.mov (.t 42))⟩] [4, 5, 6]) (.seq (.reg
      [⟨(some 7), none, (.mov (.c (.flt .f64 4607182418800017408)))⟩] [4, 5, 6, 7]) (.seq (.seq (.reg [⟨(some 8), none, (.mov (.c (.int .i64 8)))⟩] [4, 5, 6, 7, 8]) (.block 0 (.loop
      (.seq (.seq (.reg [⟨(some 43), none, (.mov (.t 8))⟩, ⟨(some 44), none, (.bin .geq false (.t 43) (.c (.int .i64 1)))⟩] [4, 5, 6, 7, 8, 44]) (.cond (.t 44) .skip (.exit 0)))
      (.seq (.block 1 (.reg [⟨(some 47), none, (.mov (.t 6))⟩, ⟨(some 48), none, (.mov (.t 7))⟩, ⟨(some 49), none, (.bin .mul false (.t 47) (.t 48))⟩, ⟨(some 50), none, (.mov (.t
      8))⟩, ⟨(some 51), none, (.bin .mul false (.c (.int .i64 2)) (.t 50))⟩, ⟨(some 52), none, (.mov (.t 8))⟩, ⟨(some 53), none, (.bin .mul false (.c (.int .i64 2)) (.t 52))⟩,
      ⟨(some 54), none, (.bin .add false (.t 53) (.c (.int .i64 1)))⟩, ⟨(some 55), none, (.bin .mul false (.t 51) (.t 54))⟩, ⟨(some 56), none, (.conv (.flt .f64) (.t 55))⟩, ⟨(some
      57), none, (.bin .quo false (.t 49) (.t 56))⟩, ⟨(some 58), none, (.bin .sub false (.c (.flt .f64 4607182418800017408)) (.t 57))⟩, ⟨(some 7), none, (.mov (.t 58))⟩] [4, 5, 6,
      7, 8])) (.reg [⟨(some 45), none, (.mov (.t 8))⟩, ⟨(some 46), none, (.bin .sub false (.t 45) (.c (.int .i64 1)))⟩, ⟨(some 8), none, (.mov (.t 46))⟩] [4, 5, 6, 7, 8])))))) (.seq
      (.seq (.reg [⟨(some 59), none, (.mov (.t 4))⟩] [5, 7, 59]) (.cond (.t 59) (.seq (.reg [⟨(some 60), none, (.mov (.t 5))⟩, ⟨(some 61), none, (.mov (.t 7))⟩, ⟨(some 62), none,
      (.bin .mul false (.t 60) (.t 61))⟩, ⟨(some 63), none, (.un .neg (.t 62))⟩, ⟨(some 2), none, (.mov (.t 63))⟩] [2]) .ret) .skip)) (.seq (.reg [⟨(some 64), none, (.mov (.t 5))⟩,
      ⟨(some 65), none, (.mov (.t 7))⟩, ⟨(some 66), none, (.bin .mul false (.t 64) (.t 65))⟩, ⟨(some 2), none, (.mov (.t 66))⟩] [2]) .ret))))))))))))))
def cp171 : CP := CP.mk [] [] [[0], [0, 12], [2], [0, 19], [2], [3], [3, 26], [3], [3, 4], [3, 4, 31], [3, 4], [3, 4, 35], [3, 4], [4, 5], [4, 5, 6], [4, 5, 6, 7], [4, 5, 6, 7, 8],
      [4, 5, 6, 7, 8, 44], [4, 5, 6, 7, 8], [4, 5, 6, 7, 8], [5, 7, 59], [2], [2]] 67 [] []
theorem fc171_0 : IntKind.wrap .i64 (-1) = (-1) := by decide
theorem fc171_1 : IntKind.wrap .i64 0 = 0 := by decide
theorem fc171_2 : IntKind.wrap .i64 1 = 1 := by decide
theorem fc171_3 : IntKind.wrap .i64 10 = 10 := by decide
theorem fc171_4 : IntKind.wrap .i64 11 = 11 := by decide
theorem fc171_5 : IntKind.wrap .i64 110 = 110 := by decide
theorem fc171_6 : IntKind.wrap .i64 12 = 12 := by decide
theorem fc171_7 : IntKind.wrap .i64 13 = 13 := by decide
theorem fc171_8 : IntKind.wrap .i64 14 = 14 := by decide
theorem fc171_9 : IntKind.wrap .i64 15 = 15 := by decide
theorem fc171_10 : IntKind.wrap .i64 156 = 156 := by decide
theorem fc171_11 : IntKind.wrap .i64 16 = 16 := by decide
theorem fc171_12 : IntKind.wrap .i64 17 = 17 := by decide
theorem fc171_13 : IntKind.wrap .i64 2 = 2 := by decide
theorem fc171_14 : IntKind.wrap .i64 20 = 20 := by decide
theorem fc171_15 : IntKind.wrap .i64 210 = 210 := by decide
theorem fc171_16 : IntKind.wrap .i64 272 = 272 := by decide
theorem fc171_17 : IntKind.wrap .i64 3 = 3 := by decide
theorem fc171_18 : IntKind.wrap .i64 4 = 4 := by decide
theorem fc171_19 : IntKind.wrap .i64 42 = 42 := by decide
theorem fc171_20 : IntKind.wrap .i64 5 = 5 := by decide
theorem fc171_21 : IntKind.wrap .i64 6 = 6 := by decide
theorem fc171_22 : IntKind.wrap .i64 7 = 7 := by decide
theorem fc171_23 : IntKind.wrap .i64 72 = 72 := by decide
theorem fc171_24 : IntKind.wrap .i64 8 = 8 := by decide
theorem fc171_25 : IntKind.wrap .i64 9 = 9 := by decide
theorem s171 : ∀ vs r, g_spec_l01SineWide vs = some r → SaysM Try.prog .any 171 vs r := by
  intro vs r h
  unfold g_spec_l01SineWide at h
  split at h
  · rename_i y0
    split at h
    · rename_i hp
      cases h
      refine spec_of (m := .any) (tab := tabOf [(116, wM .any g_math_NaN)]) (cp := cp171) (ic := ic171) (rvl := [(.t 2)]) hm (tabOk_cons (m := .any) s116 tabOk_nil) Try.func171 rfl rfl rfl (by kernel_rfl) rfl (Nat.le_of_ble_eq_true rfl) (Nat.le_of_ble_eq_true rfl) ?_
      show eA _ _ _ _
      unfold ic171
      simp only [p_spec_l01SineWide, v_spec_l01SineWide_0, v_spec_l01SineWide_1, v_spec_l01SineWide_2, v_spec_l01SineWide_3, v_spec_l01SineWide_4, v_spec_l01SineWide_5, v_spec_l01SineWide_6, v_spec_l01SineWide_7, v_spec_l01SineWide_8, v_spec_l01SineWide_9, v_spec_l01SineWide_10, v_spec_l01SineWide_11, Bool.and_eq_true, Bool.or_eq_true, decide_eq_true_eq, Bool.not_eq_true', decide_eq_false_iff_not] at hp
      simp only [
          hp, grpA, vsliceS, grpS, grpD, grpF, grpL, eop, vop, bop, uop, fltop, convop, endOk, newE, new1, freshL, Md.isNew, outV, pureV, pureX, pure1, AV.cells, AV.one, storable,
                laid, refless, refless1, vload, loadC, storeC, vnil, vfaddr, vextract, flatT, flatE, flatC, vconv, vmm, vidxA, viaddrA, vfield, vlen, elemsOf, dF32, dF64, dI64, dU8,
                dBool, dStr, esOk, elemsS, vsliceX, bnd, ownV, ownC, own1, ownT, isSl, nSl, endL, Md.isOwn, purge, purgeH, purgeB, purgeE, hasName, name1, List.any_cons,
                List.any_nil, Md.isWr, pureV.pureP, Option.map, reduceIte, Nat.reduceEqDiff, Nat.reduceAdd, Nat.reduceMul, Nat.reduceLT, Nat.reduceLeDiff, List.mapM_cons,
                List.mapM_nil, Option.pure_def, Option.bind_eq_bind, Option.bind_some, implies_true, forall_const, beq_self_eq_true, decide_true, decide_false, eq_self,
                Int.reduceEq, Int.reduceLE, Int.reduceLT, if_true, if_false, fc171_0, fc171_1, fc171_2, fc171_3, fc171_4, fc171_5, fc171_6, fc171_7, fc171_8, fc171_9, fc171_10,
                fc171_11, fc171_12, fc171_13, fc171_14, fc171_15, fc171_16, fc171_17, fc171_18, fc171_19, fc171_20, fc171_21, fc171_22, fc171_23, fc171_24, fc171_25, Int.reduceAdd,
                Int.reduceSub, Int.reduceMul, Int.reduceNeg, Int.reducePow, Nat.reducePow, Int.reduceToNat, Nat.reduceSub, List.replicate, Nat.reduceBEq, wAs, wA, wC, zipW, noDupN,
                grpE, g_math_NaN, ↓b_pick, ePk_true, ePk_false]
      repeat' (first
        | ((first | (refine eGI_of (fun h => ?_) (fun h => ?_)) | (refine eCc_of (fun h => ?_) (fun h => ?_)) | (refine ePk_of (fun h => ?_) (fun h => ?_)) | (have h := True.intro; refine KW_refl ?_) | (have h := True.intro; refine eA_loop ?_)) <;> (try simp only [Bool.not_eq_true', Bool.not_eq_false'] at h) <;> (try simp only [h, reduceCtorEq, Bool.not_eq_true', decide_eq_false_iff_not, Bool.not_true, Bool.not_false, Bool.false_or, Bool.true_or, Bool.true_and, Bool.false_and, Bool.and_eq_true, Bool.or_eq_true, if_true, if_false, reduceIte, Bool.false_eq_true, and_true, true_and, false_or, or_false, decide_eq_true_eq, not_false_eq_true, not_true_eq_false] at hp) <;> (try (have h2 := h; simp only [decide_eq_true_eq, decide_eq_false_iff_not] at h2; (first | (replace h2 := eq_false h2) | (replace h2 := eq_true h2)); simp only [h2, if_true, if_false, false_or, true_or, or_true, or_false, and_true, true_and, not_false_eq_true, not_true_eq_false] at hp)) <;> simp only [h,
          hp, grpA, vsliceS, grpS, grpD, grpF, grpL, eop, vop, bop, uop, fltop, convop, endOk, newE, new1, freshL, Md.isNew, outV, pureV, pureX, pure1, AV.cells, AV.one, storable,
                laid, refless, refless1, vload, loadC, storeC, vnil, vfaddr, vextract, flatT, flatE, flatC, vconv, vmm, vidxA, viaddrA, vfield, vlen, elemsOf, dF32, dF64, dI64, dU8,
                dBool, dStr, esOk, elemsS, vsliceX, bnd, ownV, ownC, own1, ownT, isSl, nSl, endL, Md.isOwn, purge, purgeH, purgeB, purgeE, hasName, name1, List.any_cons,
                List.any_nil, Md.isWr, pureV.pureP, Option.map, reduceIte, Nat.reduceEqDiff, Nat.reduceAdd, Nat.reduceMul, Nat.reduceLT, Nat.reduceLeDiff, List.mapM_cons,
                List.mapM_nil, Option.pure_def, Option.bind_eq_bind, Option.bind_some, implies_true, forall_const, beq_self_eq_true, decide_true, decide_false, eq_self,
                Int.reduceEq, Int.reduceLE, Int.reduceLT, if_true, if_false, fc171_0, fc171_1, fc171_2, fc171_3, fc171_4, fc171_5, fc171_6, fc171_7, fc171_8, fc171_9, fc171_10,
                fc171_11, fc171_12, fc171_13, fc171_14, fc171_15, fc171_16, fc171_17, fc171_18, fc171_19, fc171_20, fc171_21, fc171_22, fc171_23, fc171_24, fc171_25, Int.reduceAdd,
                Int.reduceSub, Int.reduceMul, Int.reduceNeg, Int.reducePow, Nat.reducePow, Int.reduceToNat, Nat.reduceSub, List.replicate, Nat.reduceBEq, wAs, wA, wC, zipW, noDupN,
                grpE, g_math_NaN, ↓b_pick, ePk_true, ePk_false]))
      all_goals (try simp only [*, m_spec_l01SineWide, v_spec_l01SineWide_0, v_spec_l01SineWide_1, v_spec_l01SineWide_2, v_spec_l01SineWide_3, v_spec_l01SineWide_4, v_spec_l01SineWide_5, v_spec_l01SineWide_6, v_spec_l01SineWide_7, v_spec_l01SineWide_8, v_spec_l01SineWide_9, v_spec_l01SineWide_10, v_spec_l01SineWide_11, Bool.and_true, Bool.true_and, Bool.and_false, Bool.false_and, Bool.or_true, Bool.true_or, Bool.or_false, Bool.false_or, Bool.not_true, Bool.not_false, Bool.false_eq_true, if_true, if_false, reduceIte, decide_true, decide_false])
      all_goals (try (simp_all; done))
    · cases h
  · cases h
def m_spec_l02About (x0 : (Nat × Nat × Nat)) (x1 : Nat) : (Nat × Nat × Nat × Nat) := (if (feq .f32 (m_spec_l01Long x0) 0) = true then (m_spec_l02No) else (if (m_spec_l01Finite
      (m_spec_l01Long x0)) = true then ((m_spec_l01Narrow (m_spec_l01SineWide (fadd .f64 (fdiv .f64 (widen x1) 4611686018427387904) 4598175219545276416))), (fmul .f32 (fdiv .f32
      x0.1 (m_spec_l01Long x0)) (m_spec_l01Narrow (m_spec_l01SineWide (fdiv .f64 (widen x1) 4611686018427387904)))), (fmul .f32 (fdiv .f32 x0.2.1 (m_spec_l01Long x0))
      (m_spec_l01Narrow (m_spec_l01SineWide (fdiv .f64 (widen x1) 4611686018427387904)))), (fmul .f32 (fdiv .f32 x0.2.2 (m_spec_l01Long x0)) (m_spec_l01Narrow (m_spec_l01SineWide
      (fdiv .f64 (widen x1) 4611686018427387904))))) else (m_spec_l02No)))
def p_spec_l02About (x0 : (Nat × Nat × Nat)) (x1 : Nat) : Bool := ((p_spec_l01Long x0) && ((feq .f32 (m_spec_l01Long x0) 0) || (!(m_spec_l01Finite (m_spec_l01Long x0)) ||
      ((p_spec_l01SineWide (fdiv .f64 (widen x1) 4611686018427387904)) && ((p_spec_l01Narrow (m_spec_l01SineWide (fdiv .f64 (widen x1) 4611686018427387904))) && ((p_spec_l01SineWide
      (fadd .f64 (fdiv .f64 (widen x1) 4611686018427387904) 4598175219545276416)) && (p_spec_l01Narrow (m_spec_l01SineWide (fadd .f64 (fdiv .f64 (widen x1) 4611686018427387904)
      4598175219545276416)))))))))
def g_spec_l02About : List AV → Option AV
  | [.agg [.flt .f32 y0, .flt .f32 y1, .flt .f32 y2], .flt .f32 y3] => if p_spec_l02About (y0, y1, y2) y3 = true then some (AV.agg [(.flt
      .f32 (m_spec_l02About (y0, y1, y2) y3).1), (.flt .f32 (m_spec_l02About (y0, y1, y2) y3).2.1), (.flt .f32 (m_spec_l02About (y0, y1, y2) y3).2.2.1), (.flt .f32 (m_spec_l02About
      (y0, y1, y2) y3).2.2.2)]) else none
  | _ => none
def ic123 : ICode := (.seq (.reg [⟨(some 2), none, (.box 3 (.t 0))⟩, ⟨(some 4), none, (.alloc (.agg [(.flt .f32 0), (.flt .f32 0), (.flt .f32 0), (.flt .f32 0)]))⟩] [1, 2, 4]) (.seq
      (.reg [⟨(some 9), none, (.load (some 3) (.t 2))⟩, ⟨(some 10), none, (.call (.fn 168) [(.t 9)] [])⟩, ⟨(some 5), none, (.mov (.t 10))⟩] [1, 2, 4, 5]) (.seq (.seq (.reg [⟨(some
      11), none, (.mov (.t 5))⟩, ⟨(some 12), none, (.bin .eql false (.t 11) (.c (.flt .f32 0)))⟩, ⟨(some 13), none, (.mov (.t 12))⟩, ⟨(some 14), (some (13, false)), (.mov (.t 5))⟩,
      ⟨(some 15), (some (13, false)), (.call (.fn 165) [(.t 14)] [])⟩, ⟨(some 16), (some (13, false)), (.un .not (.t 15))⟩, ⟨(some 17), none, (.pick (.t 13) (.c (.bool true)) (.t
      16))⟩] [1, 2, 4, 5, 17]) (.cond (.t 17) (.seq (.reg [⟨(some 18), none, (.call (.fn 166) [] [])⟩, ⟨none, none, (.store 4 (.t 4) (.t 18))⟩] [4]) .ret) .skip)) (.seq (.reg
      [⟨(some 19), none, (.mov (.t 1))⟩, ⟨(some 20), none, (.conv (.flt .f64) (.t 19))⟩, ⟨(some 21), none, (.bin .quo false (.t 20) (.c (.flt .f64 4611686018427387904)))⟩, ⟨(some
      6), none, (.mov (.t 21))⟩] [2, 4, 5, 6]) (.seq (.reg [⟨(some 22), none, (.mov (.t 6))⟩, ⟨(some 23), none, (.call (.fn 171) [(.t 22)] [])⟩, ⟨(some 24), none, (.call (.fn 170)
      [(.t 23)] [])⟩, ⟨(some 7), none, (.mov (.t 24))⟩] [2, 4, 5, 6, 7]) (.seq (.reg [⟨(some 25), none, (.mov (.t 6))⟩, ⟨(some 26), none, (.bin .add false (.t 25) (.c (.flt .f64
      4598175219545276416)))⟩, ⟨(some 27), none, (.call (.fn 171) [(.t 26)] [])⟩, ⟨(some 28), none, (.call (.fn 170) [(.t 27)] [])⟩, ⟨(some 8), none, (.mov (.t 28))⟩] [2, 4, 5, 7,
      8]) (.seq (.reg [⟨(some 29), none, (.mov (.t 8))⟩, ⟨(some 30), none, (.faddr 0 (.t 2))⟩, ⟨(some 31), none, (.load none (.t 30))⟩, ⟨(some 32), none, (.mov (.t 5))⟩, ⟨(some 33),
      none, (.bin .quo false (.t 31) (.t 32))⟩, ⟨(some 34), none, (.mov (.t 7))⟩, ⟨(some 35), none, (.bin .mul false (.t 33) (.t 34))⟩, ⟨(some 36), none, (.faddr 1 (.t 2))⟩, ⟨(some
      37), none, (.load none (.t 36))⟩, ⟨(some 38), none, (.mov (.t 5))⟩, ⟨(some 39), none, (.bin .quo false (.t 37) (.t 38))⟩, ⟨(some 40), none, (.mov (.t 7))⟩, ⟨(some 41), none,
      (.bin .mul false (.t 39) (.t 40))⟩, ⟨(some 42), none, (.faddr 2 (.t 2))⟩, ⟨(some 43), none, (.load none (.t 42))⟩, ⟨(some 44), none, (.mov (.t 5))⟩, ⟨(some 45), none, (.bin
      .quo false (.t 43) (.t 44))⟩, ⟨(some 46), none, (.mov (.t 7))⟩, ⟨(some 47), none, (.bin .mul false (.t 45) (.t 46))⟩, ⟨(some 48), none, (.build [(.flt .f32 0), (.flt .f32 0),
      (.flt .f32 0), (.flt .f32 0)] [(0, 1, (.t 29)), (1, 1, (.t 35)), (2, 1, (.t 41)), (3, 1, (.t 47))])⟩, ⟨none, none, (.store 4 (.t 4) (.t 48))⟩] [4]) .ret)))))))
def cp123 : CP := CP.mk [] [] [[1, 2, 4], [1, 2, 4, 5], [1, 2, 4, 5, 17], [4], [2, 4, 5, 6], [2, 4, 5, 6, 7], [2, 4, 5, 7, 8], [4]] 49 [] []
theorem fc123_0 : IntKind.wrap .i64 (-1) = (-1) := by decide
theorem fc123_1 : IntKind.wrap .i64 0 = 0 := by decide
theorem fc123_2 : IntKind.wrap .i64 1 = 1 := by decide
theorem fc123_3 : IntKind.wrap .i64 10 = 10 := by decide
theorem fc123_4 : IntKind.wrap .i64 11 = 11 := by decide
theorem fc123_5 : IntKind.wrap .i64 110 = 110 := by decide
theorem fc123_6 : IntKind.wrap .i64 12 = 12 := by decide
theorem fc123_7 : IntKind.wrap .i64 13 = 13 := by decide
theorem fc123_8 : IntKind.wrap .i64 14 = 14 := by decide
theorem fc123_9 : IntKind.wrap .i64 15 = 15 := by decide
theorem fc123_10 : IntKind.wrap .i64 156 = 156 := by decide
theorem fc123_11 : IntKind.wrap .i64 16 = 16 := by decide
theorem fc123_12 : IntKind.wrap .i64 17 = 17 := by decide
theorem fc123_13 : IntKind.wrap .i64 2 = 2 := by decide
theorem fc123_14 : IntKind.wrap .i64 20 = 20 := by decide
theorem fc123_15 : IntKind.wrap .i64 210 = 210 := by decide
theorem fc123_16 : IntKind.wrap .i64 272 = 272 := by decide
theorem fc123_17 : IntKind.wrap .i64 3 = 3 := by decide
theorem fc123_18 : IntKind.wrap .i64 4 = 4 := by decide
theorem fc123_19 : IntKind.wrap .i64 42 = 42 := by decide
theorem fc123_20 : IntKind.wrap .i64 5 = 5 := by decide
theorem fc123_21 : IntKind.wrap .i64 6 = 6 := by decide
theorem fc123_22 : IntKind.wrap .i64 7 = 7 := by decide
theorem fc123_23 : IntKind.wrap .i64 72 = 72 := by decide
theorem fc123_24 : IntKind.wrap .i64 8 = 8 := by decide
theorem fc123_25 : IntKind.wrap .i64 9 = 9 := by decide
theorem s123 : ∀ vs r, g_spec_l02About vs = some r → SaysM Try.prog .any 123 vs r := by
  intro vs r h
  unfold g_spec_l02About at h
  split at h
  · rename_i y0 y1 y2 y3
    split at h
    · rename_i hp
      cases h
      refine spec_of (m := .any) (tab := tabOf [(165, wM .any g_spec_l01Finite), (166, wM .any g_spec_l02No), (168, wM .any g_spec_l01Long), (170, wM .any g_spec_l01Narrow), (171, wM .any g_spec_l01SineWide)]) (cp := cp123) (ic := ic123) (rvl := [(.c 4 (some 4))]) hm (tabOk_cons (m := .any) s165 (tabOk_cons (m := .any) s166 (tabOk_cons (m := .any) s168 (tabOk_cons (m := .any) s170 (tabOk_cons (m := .any) s171 tabOk_nil))))) Try.func123 rfl rfl rfl (by kernel_rfl) rfl (Nat.le_of_ble_eq_true rfl) (Nat.le_of_ble_eq_true rfl) ?_
      show eA _ _ _ _
      unfold ic123
      simp only [p_spec_l02About, Bool.and_eq_true, Bool.or_eq_true, decide_eq_true_eq, Bool.not_eq_true', decide_eq_false_iff_not] at hp
      simp only [
          hp, grpA, vsliceS, grpS, grpD, grpF, grpL, eop, vop, bop, uop, fltop, convop, endOk, newE, new1, freshL, Md.isNew, outV, pureV, pureX, pure1, AV.cells, AV.one, storable,
                laid, refless, refless1, vload, loadC, storeC, vnil, vfaddr, vextract, flatT, flatE, flatC, vconv, vmm, vidxA, viaddrA, vfield, vlen, elemsOf, dF32, dF64, dI64, dU8,
                dBool, dStr, esOk, elemsS, vsliceX, bnd, ownV, ownC, own1, ownT, isSl, nSl, endL, Md.isOwn, purge, purgeH, purgeB, purgeE, hasName, name1, List.any_cons,
                List.any_nil, Md.isWr, pureV.pureP, Option.map, reduceIte, Nat.reduceEqDiff, Nat.reduceAdd, Nat.reduceMul, Nat.reduceLT, Nat.reduceLeDiff, List.mapM_cons,
                List.mapM_nil, Option.pure_def, Option.bind_eq_bind, Option.bind_some, implies_true, forall_const, beq_self_eq_true, decide_true, decide_false, eq_self,
                Int.reduceEq, Int.reduceLE, Int.reduceLT, if_true, if_false, fc123_0, fc123_1, fc123_2, fc123_3, fc123_4, fc123_5, fc123_6, fc123_7, fc123_8, fc123_9, fc123_10,
                fc123_11, fc123_12, fc123_13, fc123_14, fc123_15, fc123_16, fc123_17, fc123_18, fc123_19, fc123_20, fc123_21, fc123_22, fc123_23, fc123_24, fc123_25, Int.reduceAdd,
                Int.reduceSub, Int.reduceMul, Int.reduceNeg, Int.reducePow, Nat.reducePow, Int.reduceToNat, Nat.reduceSub, List.replicate, Nat.reduceBEq, wAs, wA, wC, zipW, noDupN,
                grpE, g_spec_l01Finite, g_spec_l02No, g_spec_l01Long, g_spec_l01Narrow, g_spec_l01SineWide, ↓b_pick, ePk_true, ePk_false]
      repeat' (first
        | ((first | (refine eGI_of (fun h => ?_) (fun h => ?_)) | (refine eCc_of (fun h => ?_) (fun h => ?_)) | (refine ePk_of (fun h => ?_) (fun h => ?_))) <;> (try simp only [Bool.not_eq_true', Bool.not_eq_false'] at h) <;> (try simp only [h, reduceCtorEq, Bool.not_eq_true', decide_eq_false_iff_not, Bool.not_true, Bool.not_false, Bool.false_or, Bool.true_or, Bool.true_and, Bool.false_and, Bool.and_eq_true, Bool.or_eq_true, if_true, if_false, reduceIte, Bool.false_eq_true, and_true, true_and, false_or, or_false, decide_eq_true_eq, not_false_eq_true, not_true_eq_false] at hp) <;> (try (have h2 := h; simp only [decide_eq_true_eq, decide_eq_false_iff_not] at h2; (first | (replace h2 := eq_false h2) | (replace h2 := eq_true h2)); simp only [h2, if_true, if_false, false_or, true_or, or_true, or_false, and_true, true_and, not_false_eq_true, not_true_eq_false] at hp)) <;> simp only [h,
          hp, grpA, vsliceS, grpS, grpD, grpF, grpL, eop, vop, bop, uop, fltop, convop, endOk, newE, new1, freshL, Md.isNew, outV, pureV, pureX, pure1, AV.cells, AV.one, storable,
                laid, refless, refless1, vload, loadC, storeC, vnil, vfaddr, vextract, flatT, flatE, flatC, vconv, vmm, vidxA, viaddrA, vfield, vlen, elemsOf, dF32, dF64, dI64, dU8,
                dBool, dStr, esOk, elemsS, vsliceX, bnd, ownV, ownC, own1, ownT, isSl, nSl, endL, Md.isOwn, purge, purgeH, purgeB, purgeE, hasName, name1, List.any_cons,
                List.any_nil, Md.isWr, pureV.pureP, Option.map, reduceIte, Nat.reduceEqDiff, Nat.reduceAdd, Nat.reduceMul, Nat.reduceLT, Nat.reduceLeDiff, List.mapM_cons,
                List.mapM_nil, Option.pure_def, Option.bind_eq_bind, Option.bind_some, implies_true, forall_const, beq_self_eq_true, decide_true, decide_false, eq_self,
                Int.reduceEq, Int.reduceLE, Int.reduceLT, if_true, if_false, fc123_0, fc123_1, fc123_2, fc123_3, fc123_4, fc123_5, fc123_6, fc123_7, fc123_8, fc123_9, fc123_10,
                fc123_11, fc123_12, fc123_13, fc123_14, fc123_15, fc123_16, fc123_17, fc123_18, fc123_19, fc123_20, fc123_21, fc123_22, fc123_23, fc123_24, fc123_25, Int.reduceAdd,
                Int.reduceSub, Int.reduceMul, Int.reduceNeg, Int.reducePow, Nat.reducePow, Int.reduceToNat, Nat.reduceSub, List.replicate, Nat.reduceBEq, wAs, wA, wC, zipW, noDupN,
                grpE, g_spec_l01Finite, g_spec_l02No, g_spec_l01Long, g_spec_l01Narrow, g_spec_l01SineWide, ↓b_pick, ePk_true, ePk_false]))
      all_goals (try simp only [*, m_spec_l02About, Bool.and_true, Bool.true_and, Bool.and_false, Bool.false_and, Bool.or_true, Bool.true_or, Bool.or_false, Bool.false_or, Bool.not_true, Bool.not_false, Bool.false_eq_true, if_true, if_false, reduceIte, decide_true, decide_false])
      all_goals (try (simp_all; done))
    · cases h
  · cases h
def m_spec_l04Limit (x0 : (Nat × Nat × Nat × Nat)) (x1 : Nat) : (Nat × Nat × Nat × Nat) := (if (flt .f32 x1 (m_spec_l02Angle x0)) = true then (m_spec_l02About (m_spec_l04Axis x0)
      x1) else x0)
def p_spec_l04Limit (x0 : (Nat × Nat × Nat × Nat)) (x1 : Nat) : Bool := ((p_spec_l02Angle x0) && (!(flt .f32 x1 (m_spec_l02Angle x0)) || ((p_spec_l04Axis x0) && (p_spec_l02About
      (m_spec_l04Axis x0) x1))))
def g_spec_l04Limit : List AV → Option AV
  | [.agg [.flt .f32 y0, .flt .f32 y1, .flt .f32 y2, .flt .f32 y3], .flt .f32 y4] => if p_spec_l04Limit (y0, y1, y2, y3) y4 = true then
      some (AV.agg [(.flt .f32 (m_spec_l04Limit (y0, y1, y2, y3) y4).1), (.flt .f32 (m_spec_l04Limit (y0, y1, y2, y3) y4).2.1), (.flt .f32 (m_spec_l04Limit (y0, y1, y2, y3)
      y4).2.2.1), (.flt .f32 (m_spec_l04Limit (y0, y1, y2, y3) y4).2.2.2)]) else none
  | _ => none
def ic76 : ICode := (.seq (.reg [⟨(some 2), none, (.box 4 (.t 0))⟩, ⟨(some 4), none, (.alloc (.agg [(.flt .f32 0), (.flt .f32 0), (.flt .f32 0), (.flt .f32 0)]))⟩] [1, 2, 4]) (.seq
      (.seq (.reg [⟨(some 5), none, (.load (some 4) (.t 2))⟩, ⟨(some 6), none, (.call (.fn 122) [(.t 5)] [])⟩, ⟨(some 7), none, (.mov (.t 1))⟩, ⟨(some 8), none, (.bin .gtr false (.t
      6) (.t 7))⟩] [1, 2, 4, 8]) (.cond (.t 8) (.seq (.reg [⟨(some 9), none, (.load (some 4) (.t 2))⟩, ⟨(some 10), none, (.call (.fn 124) [(.t 9)] [])⟩, ⟨(some 11), none, (.mov (.t
      1))⟩, ⟨(some 12), none, (.call (.fn 123) [(.t 10), (.t 11)] [])⟩, ⟨none, none, (.store 4 (.t 4) (.t 12))⟩] [4]) .ret) .skip)) (.seq (.reg [⟨(some 13), none, (.load (some 4)
      (.t 2))⟩, ⟨none, none, (.store 4 (.t 4) (.t 13))⟩] [4]) .ret)))
def cp76 : CP := CP.mk [] [] [[1, 2, 4], [1, 2, 4, 8], [4], [4]] 14 [] []
theorem fc76_0 : IntKind.wrap .i64 (-1) = (-1) := by decide
theorem fc76_1 : IntKind.wrap .i64 0 = 0 := by decide
theorem fc76_2 : IntKind.wrap .i64 1 = 1 := by decide
theorem fc76_3 : IntKind.wrap .i64 10 = 10 := by decide
theorem fc76_4 : IntKind.wrap .i64 11 = 11 := by decide
theorem fc76_5 : IntKind.wrap .i64 110 = 110 := by decide
theorem fc76_6 : IntKind.wrap .i64 12 = 12 := by decide
theorem fc76_7 : IntKind.wrap .i64 13 = 13 := by decide
theorem fc76_8 : IntKind.wrap .i64 14 = 14 := by decide
theorem fc76_9 : IntKind.wrap .i64 15 = 15 := by decide
theorem fc76_10 : IntKind.wrap .i64 156 = 156 := by decide
theorem fc76_11 : IntKind.wrap .i64 16 = 16 := by decide
theorem fc76_12 : IntKind.wrap .i64 17 = 17 := by decide
theorem fc76_13 : IntKind.wrap .i64 2 = 2 := by decide
theorem fc76_14 : IntKind.wrap .i64 20 = 20 := by decide
theorem fc76_15 : IntKind.wrap .i64 210 = 210 := by decide
theorem fc76_16 : IntKind.wrap .i64 272 = 272 := by decide
theorem fc76_17 : IntKind.wrap .i64 3 = 3 := by decide
theorem fc76_18 : IntKind.wrap .i64 4 = 4 := by decide
theorem fc76_19 : IntKind.wrap .i64 42 = 42 := by decide
theorem fc76_20 : IntKind.wrap .i64 5 = 5 := by decide
theorem fc76_21 : IntKind.wrap .i64 6 = 6 := by decide
theorem fc76_22 : IntKind.wrap .i64 7 = 7 := by decide
theorem fc76_23 : IntKind.wrap .i64 72 = 72 := by decide
theorem fc76_24 : IntKind.wrap .i64 8 = 8 := by decide
theorem fc76_25 : IntKind.wrap .i64 9 = 9 := by decide
theorem s76 : ∀ vs r, g_spec_l04Limit vs = some r → SaysM Try.prog .any 76 vs r := by
  intro vs r h
  unfold g_spec_l04Limit at h
  split at h
  · rename_i y0 y1 y2 y3 y4
    split at h
    · rename_i hp
      cases h
      refine spec_of (m := .any) (tab := tabOf [(122, wM .any g_spec_l02Angle), (123, wM .any g_spec_l02About), (124, wM .any g_spec_l04Axis)]) (cp := cp76) (ic := ic76) (rvl := [(.c 4 (some 4))]) hm (tabOk_cons (m := .any) s122 (tabOk_cons (m := .any) s123 (tabOk_cons (m := .any) s124 tabOk_nil))) Try.func76 rfl rfl rfl (by kernel_rfl) rfl (Nat.le_of_ble_eq_true rfl) (Nat.le_of_ble_eq_true rfl) ?_
      show eA _ _ _ _
      unfold ic76
      simp only [p_spec_l04Limit, Bool.and_eq_true, Bool.or_eq_true, decide_eq_true_eq, Bool.not_eq_true', decide_eq_false_iff_not] at hp
      simp only [
          hp, grpA, vsliceS, grpS, grpD, grpF, grpL, eop, vop, bop, uop, fltop, convop, endOk, newE, new1, freshL, Md.isNew, outV, pureV, pureX, pure1, AV.cells, AV.one, storable,
                laid, refless, refless1, vload, loadC, storeC, vnil, vfaddr, vextract, flatT, flatE, flatC, vconv, vmm, vidxA, viaddrA, vfield, vlen, elemsOf, dF32, dF64, dI64, dU8,
                dBool, dStr, esOk, elemsS, vsliceX, bnd, ownV, ownC, own1, ownT, isSl, nSl, endL, Md.isOwn, purge, purgeH, purgeB, purgeE, hasName, name1, List.any_cons,
                List.any_nil, Md.isWr, pureV.pureP, Option.map, reduceIte, Nat.reduceEqDiff, Nat.reduceAdd, Nat.reduceMul, Nat.reduceLT, Nat.reduceLeDiff, List.mapM_cons,
                List.mapM_nil, Option.pure_def, Option.bind_eq_bind, Option.bind_some, implies_true, forall_const, beq_self_eq_true, decide_true, decide_false, eq_self,
                Int.reduceEq, Int.reduceLE, Int.reduceLT, if_true, if_false, fc76_0, fc76_1, fc76_2, fc76_3, fc76_4, fc76_5, fc76_6, fc76_7, fc76_8, fc76_9, fc76_10, fc76_11,
                fc76_12, fc76_13, fc76_14, fc76_15, fc76_16, fc76_17, fc76_18, fc76_19, fc76_20, fc76_21, fc76_22, fc76_23, fc76_24, fc76_25, Int.reduceAdd, Int.reduceSub,
                Int.reduceMul, Int.reduceNeg, Int.reducePow, Nat.reducePow, Int.reduceToNat, Nat.reduceSub, List.replicate, Nat.reduceBEq, wAs, wA, wC, zipW, noDupN, grpE,
                g_spec_l02Angle, g_spec_l02About, g_spec_l04Axis]
      repeat' (first
        | ((first | (refine eGI_of (fun h => ?_) (fun h => ?_)) | (refine eCc_of (fun h => ?_) (fun h => ?_))) <;> (try simp only [Bool.not_eq_true', Bool.not_eq_false'] at h) <;> (try simp only [h, reduceCtorEq, Bool.not_eq_true', decide_eq_false_iff_not, Bool.not_true, Bool.not_false, Bool.false_or, Bool.true_or, Bool.true_and, Bool.false_and, Bool.and_eq_true, Bool.or_eq_true, if_true, if_false, reduceIte, Bool.false_eq_true, and_true, true_and, false_or, or_false, decide_eq_true_eq, not_false_eq_true, not_true_eq_false] at hp) <;> (try (have h2 := h; simp only [decide_eq_true_eq, decide_eq_false_iff_not] at h2; (first | (replace h2 := eq_false h2) | (replace h2 := eq_true h2)); simp only [h2, if_true, if_false, false_or, true_or, or_true, or_false, and_true, true_and, not_false_eq_true, not_true_eq_false] at hp)) <;> simp only [h,
          hp, grpA, vsliceS, grpS, grpD, grpF, grpL, eop, vop, bop, uop, fltop, convop, endOk, newE, new1, freshL, Md.isNew, outV, pureV, pureX, pure1, AV.cells, AV.one, storable,
                laid, refless, refless1, vload, loadC, storeC, vnil, vfaddr, vextract, flatT, flatE, flatC, vconv, vmm, vidxA, viaddrA, vfield, vlen, elemsOf, dF32, dF64, dI64, dU8,
                dBool, dStr, esOk, elemsS, vsliceX, bnd, ownV, ownC, own1, ownT, isSl, nSl, endL, Md.isOwn, purge, purgeH, purgeB, purgeE, hasName, name1, List.any_cons,
                List.any_nil, Md.isWr, pureV.pureP, Option.map, reduceIte, Nat.reduceEqDiff, Nat.reduceAdd, Nat.reduceMul, Nat.reduceLT, Nat.reduceLeDiff, List.mapM_cons,
                List.mapM_nil, Option.pure_def, Option.bind_eq_bind, Option.bind_some, implies_true, forall_const, beq_self_eq_true, decide_true, decide_false, eq_self,
                Int.reduceEq, Int.reduceLE, Int.reduceLT, if_true, if_false, fc76_0, fc76_1, fc76_2, fc76_3, fc76_4, fc76_5, fc76_6, fc76_7, fc76_8, fc76_9, fc76_10, fc76_11,
                fc76_12, fc76_13, fc76_14, fc76_15, fc76_16, fc76_17, fc76_18, fc76_19, fc76_20, fc76_21, fc76_22, fc76_23, fc76_24, fc76_25, Int.reduceAdd, Int.reduceSub,
                Int.reduceMul, Int.reduceNeg, Int.reducePow, Nat.reducePow, Int.reduceToNat, Nat.reduceSub, List.replicate, Nat.reduceBEq, wAs, wA, wC, zipW, noDupN, grpE,
                g_spec_l02Angle, g_spec_l02About, g_spec_l04Axis]))
      all_goals (try simp only [*, m_spec_l04Limit, Bool.and_true, Bool.true_and, Bool.and_false, Bool.false_and, Bool.or_true, Bool.true_or, Bool.or_false, Bool.false_or, Bool.not_true, Bool.not_false, Bool.false_eq_true, if_true, if_false, reduceIte, decide_true, decide_false])
      all_goals (try (simp_all; done))
    · cases h
  · cases h
def m_spec_LimitCone (x0 : (Nat × Nat × Nat × Nat)) (x1 : (Nat × Nat × Nat)) (x2 : Nat) : (Nat × Nat × Nat × Nat) := (m_spec_l02Mul (m_spec_l04Limit (m_spec_l02Parts x0 x1).1 x2)
      (m_spec_l02Parts x0 x1).2)
def p_spec_LimitCone (x0 : (Nat × Nat × Nat × Nat)) (x1 : (Nat × Nat × Nat)) (x2 : Nat) : Bool := ((p_spec_l02Parts x0 x1) && (p_spec_l04Limit (m_spec_l02Parts x0 x1).1 x2))
def g_spec_LimitCone : List AV → Option AV
  | [.agg [.flt .f32 y0, .flt .f32 y1, .flt .f32 y2, .flt .f32 y3], .agg [.flt .f32 y4, .flt .f32 y5, .flt .f32 y6], .flt .f32 y7] => if
      p_spec_LimitCone (y0, y1, y2, y3) (y4, y5, y6) y7 = true then some (AV.agg [(.flt .f32 (m_spec_LimitCone (y0, y1, y2, y3) (y4, y5, y6) y7).1), (.flt .f32 (m_spec_LimitCone
      (y0, y1, y2, y3) (y4, y5, y6) y7).2.1), (.flt .f32 (m_spec_LimitCone (y0, y1, y2, y3) (y4, y5, y6) y7).2.2.1), (.flt .f32 (m_spec_LimitCone (y0, y1, y2, y3) (y4, y5, y6)
      y7).2.2.2)]) else none
  | _ => none
def ic33 : ICode := (.seq (.reg [⟨(some 3), none, (.box 4 (.t 0))⟩, ⟨(some 4), none, (.box 3 (.t 1))⟩, ⟨(some 6), none, (.alloc (.agg [(.flt .f32 0), (.flt .f32 0), (.flt .f32 0),
      (.flt .f32 0)]))⟩] [2, 3, 4, 6]) (.seq (.reg [⟨(some 10), none, (.load (some 4) (.t 3))⟩, ⟨(some 11), none, (.load (some 3) (.t 4))⟩, ⟨(some 12), none, (.call (.fn 74) [(.t
      10), (.t 11)] [])⟩, ⟨(some 9), none, (.mov (.t 12))⟩, ⟨(some 13), none, (.extract (.t 9) 0)⟩, ⟨(some 14), none, (.extract (.t 9) 1)⟩, ⟨(some 7), none, (.alloc (.agg [(.flt
      .f32 0), (.flt .f32 0), (.flt .f32 0), (.flt .f32 0)]))⟩, ⟨(some 8), none, (.alloc (.agg [(.flt .f32 0), (.flt .f32 0), (.flt .f32 0), (.flt .f32 0)]))⟩, ⟨none, none, (.store
      4 (.t 7) (.t 13))⟩, ⟨none, none, (.store 4 (.t 8) (.t 14))⟩] [2, 6, 7, 8]) (.seq (.reg [⟨(some 15), none, (.load (some 4) (.t 7))⟩, ⟨(some 16), none, (.mov (.t 2))⟩, ⟨(some
      17), none, (.call (.fn 76) [(.t 15), (.t 16)] [])⟩, ⟨(some 18), none, (.load (some 4) (.t 8))⟩, ⟨(some 19), none, (.call (.fn 75) [(.t 17), (.t 18)] [])⟩, ⟨none, none, (.store
      4 (.t 6) (.t 19))⟩] [6]) .ret)))
def cp33 : CP := CP.mk [] [] [[2, 3, 4, 6], [2, 6, 7, 8], [6]] 20 [] []
theorem fc33_0 : IntKind.wrap .i64 (-1) = (-1) := by decide
theorem fc33_1 : IntKind.wrap .i64 0 = 0 := by decide
theorem fc33_2 : IntKind.wrap .i64 1 = 1 := by decide
theorem fc33_3 : IntKind.wrap .i64 10 = 10 := by decide
theorem fc33_4 : IntKind.wrap .i64 11 = 11 := by decide
theorem fc33_5 : IntKind.wrap .i64 110 = 110 := by decide
theorem fc33_6 : IntKind.wrap .i64 12 = 12 := by decide
theorem fc33_7 : IntKind.wrap .i64 13 = 13 := by decide
theorem fc33_8 : IntKind.wrap .i64 14 = 14 := by decide
theorem fc33_9 : IntKind.wrap .i64 15 = 15 := by decide
theorem fc33_10 : IntKind.wrap .i64 156 = 156 := by decide
theorem fc33_11 : IntKind.wrap .i64 16 = 16 := by decide
theorem fc33_12 : IntKind.wrap .i64 17 = 17 := by decide
theorem fc33_13 : IntKind.wrap .i64 2 = 2 := by decide
theorem fc33_14 : IntKind.wrap .i64 20 = 20 := by decide
theorem fc33_15 : IntKind.wrap .i64 210 = 210 := by decide
theorem fc33_16 : IntKind.wrap .i64 272 = 272 := by decide
theorem fc33_17 : IntKind.wrap .i64 3 = 3 := by decide
theorem fc33_18 : IntKind.wrap .i64 4 = 4 := by decide
theorem fc33_19 : IntKind.wrap .i64 42 = 42 := by decide
theorem fc33_20 : IntKind.wrap .i64 5 = 5 := by decide
theorem fc33_21 : IntKind.wrap .i64 6 = 6 := by decide
theorem fc33_22 : IntKind.wrap .i64 7 = 7 := by decide
theorem fc33_23 : IntKind.wrap .i64 72 = 72 := by decide
theorem fc33_24 : IntKind.wrap .i64 8 = 8 := by decide
theorem fc33_25 : IntKind.wrap .i64 9 = 9 := by decide
theorem s33 : ∀ vs r, g_spec_LimitCone vs = some r → SaysM Try.prog .any 33 vs r := by
  intro vs r h
  unfold g_spec_LimitCone at h
  split at h
  · rename_i y0 y1 y2 y3 y4 y5 y6 y7
    split at h
    · rename_i hp
      cases h
      refine spec_of (m := .any) (tab := tabOf [(74, wM .any g_spec_l02Parts), (75, wM .any g_spec_l02Mul), (76, wM .any g_spec_l04Limit)]) (cp := cp33) (ic := ic33) (rvl := [(.c 6 (some 4))]) hm (tabOk_cons (m := .any) s74 (tabOk_cons (m := .any) s75 (tabOk_cons (m := .any) s76 tabOk_nil))) Try.func33 rfl rfl rfl (by kernel_rfl) rfl (Nat.le_of_ble_eq_true rfl) (Nat.le_of_ble_eq_true rfl) ?_
      show eA _ _ _ _
      unfold ic33
      simp only [p_spec_LimitCone, Bool.and_eq_true, Bool.or_eq_true, decide_eq_true_eq, Bool.not_eq_true', decide_eq_false_iff_not] at hp
      simp only [
          hp, grpA, vsliceS, grpS, grpD, grpF, grpL, eop, vop, bop, uop, fltop, convop, endOk, newE, new1, freshL, Md.isNew, outV, pureV, pureX, pure1, AV.cells, AV.one, storable,
                laid, refless, refless1, vload, loadC, storeC, vnil, vfaddr, vextract, flatT, flatE, flatC, vconv, vmm, vidxA, viaddrA, vfield, vlen, elemsOf, dF32, dF64, dI64, dU8,
                dBool, dStr, esOk, elemsS, vsliceX, bnd, ownV, ownC, own1, ownT, isSl, nSl, endL, Md.isOwn, purge, purgeH, purgeB, purgeE, hasName, name1, List.any_cons,
                List.any_nil, Md.isWr, pureV.pureP, Option.map, reduceIte, Nat.reduceEqDiff, Nat.reduceAdd, Nat.reduceMul, Nat.reduceLT, Nat.reduceLeDiff, List.mapM_cons,
                List.mapM_nil, Option.pure_def, Option.bind_eq_bind, Option.bind_some, implies_true, forall_const, beq_self_eq_true, decide_true, decide_false, eq_self,
                Int.reduceEq, Int.reduceLE, Int.reduceLT, if_true, if_false, fc33_0, fc33_1, fc33_2, fc33_3, fc33_4, fc33_5, fc33_6, fc33_7, fc33_8, fc33_9, fc33_10, fc33_11,
                fc33_12, fc33_13, fc33_14, fc33_15, fc33_16, fc33_17, fc33_18, fc33_19, fc33_20, fc33_21, fc33_22, fc33_23, fc33_24, fc33_25, Int.reduceAdd, Int.reduceSub,
                Int.reduceMul, Int.reduceNeg, Int.reducePow, Nat.reducePow, Int.reduceToNat, Nat.reduceSub, List.replicate, Nat.reduceBEq, wAs, wA, wC, zipW, noDupN, grpE,
                g_spec_l02Parts, g_spec_l02Mul, g_spec_l04Limit]
      repeat' (first
        | ((first | (refine eGI_of (fun h => ?_) (fun h => ?_)) | (refine eCc_of (fun h => ?_) (fun h => ?_))) <;> (try simp only [Bool.not_eq_true', Bool.not_eq_false'] at h) <;> (try simp only [h, reduceCtorEq, Bool.not_eq_true', decide_eq_false_iff_not, Bool.not_true, Bool.not_false, Bool.false_or, Bool.true_or, Bool.true_and, Bool.false_and, Bool.and_eq_true, Bool.or_eq_true, if_true, if_false, reduceIte, Bool.false_eq_true, and_true, true_and, false_or, or_false, decide_eq_true_eq, not_false_eq_true, not_true_eq_false] at hp) <;> (try (have h2 := h; simp only [decide_eq_true_eq, decide_eq_false_iff_not] at h2; (first | (replace h2 := eq_false h2) | (replace h2 := eq_true h2)); simp only [h2, if_true, if_false, false_or, true_or, or_true, or_false, and_true, true_and, not_false_eq_true, not_true_eq_false] at hp)) <;> simp only [h,
          hp, grpA, vsliceS, grpS, grpD, grpF, grpL, eop, vop, bop, uop, fltop, convop, endOk, newE, new1, freshL, Md.isNew, outV, pureV, pureX, pure1, AV.cells, AV.one, storable,
                laid, refless, refless1, vload, loadC, storeC, vnil, vfaddr, vextract, flatT, flatE, flatC, vconv, vmm, vidxA, viaddrA, vfield, vlen, elemsOf, dF32, dF64, dI64, dU8,
                dBool, dStr, esOk, elemsS, vsliceX, bnd, ownV, ownC, own1, ownT, isSl, nSl, endL, Md.isOwn, purge, purgeH, purgeB, purgeE, hasName, name1, List.any_cons,
                List.any_nil, Md.isWr, pureV.pureP, Option.map, reduceIte, Nat.reduceEqDiff, Nat.reduceAdd, Nat.reduceMul, Nat.reduceLT, Nat.reduceLeDiff, List.mapM_cons,
                List.mapM_nil, Option.pure_def, Option.bind_eq_bind, Option.bind_some, implies_true, forall_const, beq_self_eq_true, decide_true, decide_false, eq_self,
                Int.reduceEq, Int.reduceLE, Int.reduceLT, if_true, if_false, fc33_0, fc33_1, fc33_2, fc33_3, fc33_4, fc33_5, fc33_6, fc33_7, fc33_8, fc33_9, fc33_10, fc33_11,
                fc33_12, fc33_13, fc33_14, fc33_15, fc33_16, fc33_17, fc33_18, fc33_19, fc33_20, fc33_21, fc33_22, fc33_23, fc33_24, fc33_25, Int.reduceAdd, Int.reduceSub,
                Int.reduceMul, Int.reduceNeg, Int.reducePow, Nat.reducePow, Int.reduceToNat, Nat.reduceSub, List.replicate, Nat.reduceBEq, wAs, wA, wC, zipW, noDupN, grpE,
                g_spec_l02Parts, g_spec_l02Mul, g_spec_l04Limit]))
      all_goals (try simp only [*, m_spec_LimitCone, Bool.and_true, Bool.true_and, Bool.and_false, Bool.false_and, Bool.or_true, Bool.true_or, Bool.or_false, Bool.false_or, Bool.not_true, Bool.not_false, Bool.false_eq_true, if_true, if_false, reduceIte, decide_true, decide_false])
      all_goals (try (simp_all; done))
    · cases h
  · cases h
def m_impl_Turn_vector (x0 : (Nat × Nat × Nat × Nat)) : (Nat × Nat × Nat) := x0.2
def g_impl_Turn_vector : List AV → Option AV
  | [.agg [.flt .f32 y0, .flt .f32 y1, .flt .f32 y2, .flt .f32 y3]] => some (AV.agg [(.flt .f32 (m_impl_Turn_vector (y0, y1, y2,
      y3)).1), (.flt .f32 (m_impl_Turn_vector (y0, y1, y2, y3)).2.1), (.flt .f32 (m_impl_Turn_vector (y0, y1, y2, y3)).2.2)])
  | _ => none
def ic128 : ICode := (.seq (.reg [⟨(some 1), none, (.box 4 (.t 0))⟩, ⟨(some 2), none, (.alloc (.agg [(.flt .f32 0), (.flt .f32 0), (.flt .f32 0)]))⟩] [1, 2]) (.seq (.reg [⟨(some 3),
      none, (.faddr 1 (.t 1))⟩, ⟨(some 4), none, (.load none (.t 3))⟩, ⟨(some 5), none, (.faddr 2 (.t 1))⟩, ⟨(some 6), none, (.load none (.t 5))⟩, ⟨(some 7), none, (.faddr 3 (.t
      1))⟩, ⟨(some 8), none, (.load none (.t 7))⟩, ⟨(some 9), none, (.build [(.flt .f32 0), (.flt .f32 0), (.flt .f32 0)] [(0, 1, (.t 4)), (1, 1, (.t 6)), (2, 1, (.t 8))])⟩, ⟨none,
      none, (.store 3 (.t 2) (.t 9))⟩] [2]) .ret))
def cp128 : CP := CP.mk [] [] [[1, 2], [2]] 10 [] []
theorem fc128_0 : IntKind.wrap .i64 (-1) = (-1) := by decide
theorem fc128_1 : IntKind.wrap .i64 0 = 0 := by decide
theorem fc128_2 : IntKind.wrap .i64 1 = 1 := by decide
theorem fc128_3 : IntKind.wrap .i64 10 = 10 := by decide
theorem fc128_4 : IntKind.wrap .i64 11 = 11 := by decide
theorem fc128_5 : IntKind.wrap .i64 110 = 110 := by decide
theorem fc128_6 : IntKind.wrap .i64 12 = 12 := by decide
theorem fc128_7 : IntKind.wrap .i64 13 = 13 := by decide
theorem fc128_8 : IntKind.wrap .i64 14 = 14 := by decide
theorem fc128_9 : IntKind.wrap .i64 15 = 15 := by decide
theorem fc128_10 : IntKind.wrap .i64 156 = 156 := by decide
theorem fc128_11 : IntKind.wrap .i64 16 = 16 := by decide
theorem fc128_12 : IntKind.wrap .i64 17 = 17 := by decide
theorem fc128_13 : IntKind.wrap .i64 2 = 2 := by decide
theorem fc128_14 : IntKind.wrap .i64 20 = 20 := by decide
theorem fc128_15 : IntKind.wrap .i64 210 = 210 := by decide
theorem fc128_16 : IntKind.wrap .i64 272 = 272 := by decide
theorem fc128_17 : IntKind.wrap .i64 3 = 3 := by decide
theorem fc128_18 : IntKind.wrap .i64 4 = 4 := by decide
theorem fc128_19 : IntKind.wrap .i64 42 = 42 := by decide
theorem fc128_20 : IntKind.wrap .i64 5 = 5 := by decide
theorem fc128_21 : IntKind.wrap .i64 6 = 6 := by decide
theorem fc128_22 : IntKind.wrap .i64 7 = 7 := by decide
theorem fc128_23 : IntKind.wrap .i64 72 = 72 := by decide
theorem fc128_24 : IntKind.wrap .i64 8 = 8 := by decide
theorem fc128_25 : IntKind.wrap .i64 9 = 9 := by decide
theorem s128 : ∀ vs r, g_impl_Turn_vector vs = some r → SaysM Try.prog .any 128 vs r := by
  intro vs r h
  unfold g_impl_Turn_vector at h
  split at h
  · rename_i y0 y1 y2 y3
    cases h
    refine spec_of (m := .any) (tab := tabOf []) (cp := cp128) (ic := ic128) (rvl := [(.c 2 (some 3))]) hm tabOk_nil Try.func128 rfl rfl rfl (by kernel_rfl) rfl (Nat.le_of_ble_eq_true rfl) (Nat.le_of_ble_eq_true rfl) ?_
    show eA _ _ _ _
    unfold ic128
    simp only [
        grpA, vsliceS, grpS, grpD, grpF, grpL, eop, vop, bop, uop, fltop, convop, endOk, newE, new1, freshL, Md.isNew, outV, pureV, pureX, pure1, AV.cells, AV.one, storable, laid,
              refless, refless1, vload, loadC, storeC, vnil, vfaddr, vextract, flatT, flatE, flatC, vconv, vmm, vidxA, viaddrA, vfield, vlen, elemsOf, dF32, dF64, dI64, dU8, dBool,
              dStr, esOk, elemsS, vsliceX, bnd, ownV, ownC, own1, ownT, isSl, nSl, endL, Md.isOwn, purge, purgeH, purgeB, purgeE, hasName, name1, List.any_cons, List.any_nil,
              Md.isWr, pureV.pureP, Option.map, reduceIte, Nat.reduceEqDiff, Nat.reduceAdd, Nat.reduceMul, Nat.reduceLT, Nat.reduceLeDiff, List.mapM_cons, List.mapM_nil,
              Option.pure_def, Option.bind_eq_bind, Option.bind_some, implies_true, forall_const, beq_self_eq_true, decide_true, decide_false, eq_self, Int.reduceEq, Int.reduceLE,
              Int.reduceLT, if_true, if_false, fc128_0, fc128_1, fc128_2, fc128_3, fc128_4, fc128_5, fc128_6, fc128_7, fc128_8, fc128_9, fc128_10, fc128_11, fc128_12, fc128_13,
              fc128_14, fc128_15, fc128_16, fc128_17, fc128_18, fc128_19, fc128_20, fc128_21, fc128_22, fc128_23, fc128_24, fc128_25, Int.reduceAdd, Int.reduceSub, Int.reduceMul,
              Int.reduceNeg, Int.reducePow, Nat.reducePow, Int.reduceToNat, Nat.reduceSub, List.replicate, Nat.reduceBEq, wAs, wA, wC, zipW, noDupN, grpE]
    repeat' (first
      | ((first | (refine eGI_of (fun h => ?_) (fun h => ?_)) | (refine eCc_of (fun h => ?_) (fun h => ?_))) <;> (try simp only [Bool.not_eq_true', Bool.not_eq_false'] at h) <;> simp only [h,
        grpA, vsliceS, grpS, grpD, grpF, grpL, eop, vop, bop, uop, fltop, convop, endOk, newE, new1, freshL, Md.isNew, outV, pureV, pureX, pure1, AV.cells, AV.one, storable, laid,
              refless, refless1, vload, loadC, storeC, vnil, vfaddr, vextract, flatT, flatE, flatC, vconv, vmm, vidxA, viaddrA, vfield, vlen, elemsOf, dF32, dF64, dI64, dU8, dBool,
              dStr, esOk, elemsS, vsliceX, bnd, ownV, ownC, own1, ownT, isSl, nSl, endL, Md.isOwn, purge, purgeH, purgeB, purgeE, hasName, name1, List.any_cons, List.any_nil,
              Md.isWr, pureV.pureP, Option.map, reduceIte, Nat.reduceEqDiff, Nat.reduceAdd, Nat.reduceMul, Nat.reduceLT, Nat.reduceLeDiff, List.mapM_cons, List.mapM_nil,
              Option.pure_def, Option.bind_eq_bind, Option.bind_some, implies_true, forall_const, beq_self_eq_true, decide_true, decide_false, eq_self, Int.reduceEq, Int.reduceLE,
              Int.reduceLT, if_true, if_false, fc128_0, fc128_1, fc128_2, fc128_3, fc128_4, fc128_5, fc128_6, fc128_7, fc128_8, fc128_9, fc128_10, fc128_11, fc128_12, fc128_13,
              fc128_14, fc128_15, fc128_16, fc128_17, fc128_18, fc128_19, fc128_20, fc128_21, fc128_22, fc128_23, fc128_24, fc128_25, Int.reduceAdd, Int.reduceSub, Int.reduceMul,
              Int.reduceNeg, Int.reducePow, Nat.reducePow, Int.reduceToNat, Nat.reduceSub, List.replicate, Nat.reduceBEq, wAs, wA, wC, zipW, noDupN, grpE]))
    all_goals (try simp only [*, m_impl_Turn_vector, Bool.and_true, Bool.true_and, Bool.and_false, Bool.false_and, Bool.or_true, Bool.true_or, Bool.or_false, Bool.false_or, Bool.not_true, Bool.not_false, Bool.false_eq_true, if_true, if_false, reduceIte, decide_true, decide_false])
    all_goals (try (simp_all; done))
  · cases h
def m_impl_InnerOf (x0 : (Nat × Nat × Nat)) (x1 : (Nat × Nat × Nat)) : Nat := (fadd .f32 (fadd .f32 (fmul .f32 x0.1 x1.1) (fmul .f32 x0.2.1 x1.2.1)) (fmul .f32 x0.2.2 x1.2.2))
def g_impl_InnerOf : List AV → Option AV
  | [.agg [.flt .f32 y0, .flt .f32 y1, .flt .f32 y2], .agg [.flt .f32 y3, .flt .f32 y4, .flt .f32 y5]] => some (.flt .f32 (m_impl_InnerOf
      (y0, y1, y2) (y3, y4, y5)))
  | _ => none
def ic127 : ICode := (.seq (.reg [⟨(some 2), none, (.box 3 (.t 0))⟩, ⟨(some 3), none, (.box 3 (.t 1))⟩, ⟨(some 4), none, (.mov (.c (.flt .f32 0)))⟩] [2, 3]) (.seq (.reg [⟨(some 5),
      none, (.faddr 0 (.t 2))⟩, ⟨(some 6), none, (.load none (.t 5))⟩, ⟨(some 7), none, (.faddr 0 (.t 3))⟩, ⟨(some 8), none, (.load none (.t 7))⟩, ⟨(some 9), none, (.bin .mul false
      (.t 6) (.t 8))⟩, ⟨(some 10), none, (.faddr 1 (.t 2))⟩, ⟨(some 11), none, (.load none (.t 10))⟩, ⟨(some 12), none, (.faddr 1 (.t 3))⟩, ⟨(some 13), none, (.load none (.t 12))⟩,
      ⟨(some 14), none, (.bin .mul false (.t 11) (.t 13))⟩, ⟨(some 15), none, (.bin .add false (.t 9) (.t 14))⟩, ⟨(some 16), none, (.faddr 2 (.t 2))⟩, ⟨(some 17), none, (.load none
      (.t 16))⟩, ⟨(some 18), none, (.faddr 2 (.t 3))⟩, ⟨(some 19), none, (.load none (.t 18))⟩, ⟨(some 20), none, (.bin .mul false (.t 17) (.t 19))⟩, ⟨(some 21), none, (.bin .add
      false (.t 15) (.t 20))⟩, ⟨(some 4), none, (.mov (.t 21))⟩] [4]) .ret))
def cp127 : CP := CP.mk [] [] [[2, 3], [4]] 22 [] []
theorem fc127_0 : IntKind.wrap .i64 (-1) = (-1) := by decide
theorem fc127_1 : IntKind.wrap .i64 0 = 0 := by decide
theorem fc127_2 : IntKind.wrap .i64 1 = 1 := by decide
theorem fc127_3 : IntKind.wrap .i64 10 = 10 := by decide
theorem fc127_4 : IntKind.wrap .i64 11 = 11 := by decide
theorem fc127_5 : IntKind.wrap .i64 110 = 110 := by decide
theorem fc127_6 : IntKind.wrap .i64 12 = 12 := by decide
theorem fc127_7 : IntKind.wrap .i64 13 = 13 := by decide
theorem fc127_8 : IntKind.wrap .i64 14 = 14 := by decide
theorem fc127_9 : IntKind.wrap .i64 15 = 15 := by decide
theorem fc127_10 : IntKind.wrap .i64 156 = 156 := by decide
theorem fc127_11 : IntKind.wrap .i64 16 = 16 := by decide
theorem fc127_12 : IntKind.wrap .i64 17 = 17 := by decide
theorem fc127_13 : IntKind.wrap .i64 2 = 2 := by decide
theorem fc127_14 : IntKind.wrap .i64 20 = 20 := by decide
theorem fc127_15 : IntKind.wrap .i64 210 = 210 := by decide
theorem fc127_16 : IntKind.wrap .i64 272 = 272 := by decide
theorem fc127_17 : IntKind.wrap .i64 3 = 3 := by decide
theorem fc127_18 : IntKind.wrap .i64 4 = 4 := by decide
theorem fc127_19 : IntKind.wrap .i64 42 = 42 := by decide
theorem fc127_20 : IntKind.wrap .i64 5 = 5 := by decide
theorem fc127_21 : IntKind.wrap .i64 6 = 6 := by decide
theorem fc127_22 : IntKind.wrap .i64 7 = 7 := by decide
theorem fc127_23 : IntKind.wrap .i64 72 = 72 := by decide
theorem fc127_24 : IntKind.wrap .i64 8 = 8 := by decide
theorem fc127_25 : IntKind.wrap .i64 9 = 9 := by decide
theorem s127 : ∀ vs r, g_impl_InnerOf vs = some r → SaysM Try.prog .any 127 vs r := by
  intro vs r h
  unfold g_impl_InnerOf at h
  split at h
  · rename_i y0 y1 y2 y3 y4 y5
    cases h
    refine spec_of (m := .any) (tab := tabOf []) (cp := cp127) (ic := ic127) (rvl := [(.t 4)]) hm tabOk_nil Try.func127 rfl rfl rfl (by kernel_rfl) rfl (Nat.le_of_ble_eq_true rfl) (Nat.le_of_ble_eq_true rfl) ?_
    show eA _ _ _ _
    unfold ic127
    simp only [
        grpA, vsliceS, grpS, grpD, grpF, grpL, eop, vop, bop, uop, fltop, convop, endOk, newE, new1, freshL, Md.isNew, outV, pureV, pureX, pure1, AV.cells, AV.one, storable, laid,
              refless, refless1, vload, loadC, storeC, vnil, vfaddr, vextract, flatT, flatE, flatC, vconv, vmm, vidxA, viaddrA, vfield, vlen, elemsOf, dF32, dF64, dI64, dU8, dBool,
              dStr, esOk, elemsS, vsliceX, bnd, ownV, ownC, own1, ownT, isSl, nSl, endL, Md.isOwn, purge, purgeH, purgeB, purgeE, hasName, name1, List.any_cons, List.any_nil,
              Md.isWr, pureV.pureP, Option.map, reduceIte, Nat.reduceEqDiff, Nat.reduceAdd, Nat.reduceMul, Nat.reduceLT, Nat.reduceLeDiff, List.mapM_cons, List.mapM_nil,
              Option.pure_def, Option.bind_eq_bind, Option.bind_some, implies_true, forall_const, beq_self_eq_true, decide_true, decide_false, eq_self, Int.reduceEq, Int.reduceLE,
              Int.reduceLT, if_true, if_false, fc127_0, fc127_1, fc127_2, fc127_3, fc127_4, fc127_5, fc127_6, fc127_7, fc127_8, fc127_9, fc127_10, fc127_11, fc127_12, fc127_13,
              fc127_14, fc127_15, fc127_16, fc127_17, fc127_18, fc127_19, fc127_20, fc127_21, fc127_22, fc127_23, fc127_24, fc127_25, Int.reduceAdd, Int.reduceSub, Int.reduceMul,
              Int.reduceNeg, Int.reducePow, Nat.reducePow, Int.reduceToNat, Nat.reduceSub, List.replicate, Nat.reduceBEq, wAs, wA, wC, zipW, noDupN, grpE]
    repeat' (first
      | ((first | (refine eGI_of (fun h => ?_) (fun h => ?_)) | (refine eCc_of (fun h => ?_) (fun h => ?_))) <;> (try simp only [Bool.not_eq_true', Bool.not_eq_false'] at h) <;> simp only [h,
        grpA, vsliceS, grpS, grpD, grpF, grpL, eop, vop, bop, uop, fltop, convop, endOk, newE, new1, freshL, Md.isNew, outV, pureV, pureX, pure1, AV.cells, AV.one, storable, laid,
              refless, refless1, vload, loadC, storeC, vnil, vfaddr, vextract, flatT, flatE, flatC, vconv, vmm, vidxA, viaddrA, vfield, vlen, elemsOf, dF32, dF64, dI64, dU8, dBool,
              dStr, esOk, elemsS, vsliceX, bnd, ownV, ownC, own1, ownT, isSl, nSl, endL, Md.isOwn, purge, purgeH, purgeB, purgeE, hasName, name1, List.any_cons, List.any_nil,
              Md.isWr, pureV.pureP, Option.map, reduceIte, Nat.reduceEqDiff, Nat.reduceAdd, Nat.reduceMul, Nat.reduceLT, Nat.reduceLeDiff, List.mapM_cons, List.mapM_nil,
              Option.pure_def, Option.bind_eq_bind, Option.bind_some, implies_true, forall_const, beq_self_eq_true, decide_true, decide_false, eq_self, Int.reduceEq, Int.reduceLE,
              Int.reduceLT, if_true, if_false, fc127_0, fc127_1, fc127_2, fc127_3, fc127_4, fc127_5, fc127_6, fc127_7, fc127_8, fc127_9, fc127_10, fc127_11, fc127_12, fc127_13,
              fc127_14, fc127_15, fc127_16, fc127_17, fc127_18, fc127_19, fc127_20, fc127_21, fc127_22, fc127_23, fc127_24, fc127_25, Int.reduceAdd, Int.reduceSub, Int.reduceMul,
              Int.reduceNeg, Int.reducePow, Nat.reducePow, Int.reduceToNat, Nat.reduceSub, List.replicate, Nat.reduceBEq, wAs, wA, wC, zipW, noDupN, grpE]))
    all_goals (try simp only [*, m_impl_InnerOf, Bool.and_true, Bool.true_and, Bool.and_false, Bool.false_and, Bool.or_true, Bool.true_or, Bool.or_false, Bool.false_or, Bool.not_true, Bool.not_false, Bool.false_eq_true, if_true, if_false, reduceIte, decide_true, decide_false])
    all_goals (try (simp_all; done))
  · cases h
def m_impl_ScaleVector (x0 : (Nat × Nat × Nat)) (x1 : Nat) : (Nat × Nat × Nat) := ((fmul .f32 x0.1 x1), (fmul .f32 x0.2.1 x1), (fmul .f32 x0.2.2 x1))
def g_impl_ScaleVector : List AV → Option AV
  | [.agg [.flt .f32 y0, .flt .f32 y1, .flt .f32 y2], .flt .f32 y3] => some (AV.agg [(.flt .f32 (m_impl_ScaleVector (y0, y1, y2) y3).1),
      (.flt .f32 (m_impl_ScaleVector (y0, y1, y2) y3).2.1), (.flt .f32 (m_impl_ScaleVector (y0, y1, y2) y3).2.2)])
  | _ => none
def ic59 : ICode := (.seq (.reg [⟨(some 2), none, (.box 3 (.t 0))⟩, ⟨(some 4), none, (.alloc (.agg [(.flt .f32 0), (.flt .f32 0), (.flt .f32 0)]))⟩] [1, 2, 4]) (.seq (.reg [⟨(some
      5), none, (.faddr 0 (.t 2))⟩, ⟨(some 6), none, (.load none (.t 5))⟩, ⟨(some 7), none, (.mov (.t 1))⟩, ⟨(some 8), none, (.bin .mul false (.t 6) (.t 7))⟩, ⟨(some 9), none,
      (.faddr 1 (.t 2))⟩, ⟨(some 10), none, (.load none (.t 9))⟩, ⟨(some 11), none, (.mov (.t 1))⟩, ⟨(some 12), none, (.bin .mul false (.t 10) (.t 11))⟩, ⟨(some 13), none, (.faddr 2
      (.t 2))⟩, ⟨(some 14), none, (.load none (.t 13))⟩, ⟨(some 15), none, (.mov (.t 1))⟩, ⟨(some 16), none, (.bin .mul false (.t 14) (.t 15))⟩, ⟨(some 17), none, (.build [(.flt
      .f32 0), (.flt .f32 0), (.flt .f32 0)] [(0, 1, (.t 8)), (1, 1, (.t 12)), (2, 1, (.t 16))])⟩, ⟨none, none, (.store 3 (.t 4) (.t 17))⟩] [4]) .ret))
def cp59 : CP := CP.mk [] [] [[1, 2, 4], [4]] 18 [] []
theorem fc59_0 : IntKind.wrap .i64 (-1) = (-1) := by decide
theorem fc59_1 : IntKind.wrap .i64 0 = 0 := by decide
theorem fc59_2 : IntKind.wrap .i64 1 = 1 := by decide
theorem fc59_3 : IntKind.wrap .i64 10 = 10 := by decide
theorem fc59_4 : IntKind.wrap .i64 11 = 11 := by decide
theorem fc59_5 : IntKind.wrap .i64 110 = 110 := by decide
theorem fc59_6 : IntKind.wrap .i64 12 = 12 := by decide
theorem fc59_7 : IntKind.wrap .i64 13 = 13 := by decide
theorem fc59_8 : IntKind.wrap .i64 14 = 14 := by decide
theorem fc59_9 : IntKind.wrap .i64 15 = 15 := by decide
theorem fc59_10 : IntKind.wrap .i64 156 = 156 := by decide
theorem fc59_11 : IntKind.wrap .i64 16 = 16 := by decide
theorem fc59_12 : IntKind.wrap .i64 17 = 17 := by decide
theorem fc59_13 : IntKind.wrap .i64 2 = 2 := by decide
theorem fc59_14 : IntKind.wrap .i64 20 = 20 := by decide
theorem fc59_15 : IntKind.wrap .i64 210 = 210 := by decide
theorem fc59_16 : IntKind.wrap .i64 272 = 272 := by decide
theorem fc59_17 : IntKind.wrap .i64 3 = 3 := by decide
theorem fc59_18 : IntKind.wrap .i64 4 = 4 := by decide
theorem fc59_19 : IntKind.wrap .i64 42 = 42 := by decide
theorem fc59_20 : IntKind.wrap .i64 5 = 5 := by decide
theorem fc59_21 : IntKind.wrap .i64 6 = 6 := by decide
theorem fc59_22 : IntKind.wrap .i64 7 = 7 := by decide
theorem fc59_23 : IntKind.wrap .i64 72 = 72 := by decide
theorem fc59_24 : IntKind.wrap .i64 8 = 8 := by decide
theorem fc59_25 : IntKind.wrap .i64 9 = 9 := by decide
theorem s59 : ∀ vs r, g_impl_ScaleVector vs = some r → SaysM Try.prog .any 59 vs r := by
  intro vs r h
  unfold g_impl_ScaleVector at h
  split at h
  · rename_i y0 y1 y2 y3
    cases h
    refine spec_of (m := .any) (tab := tabOf []) (cp := cp59) (ic := ic59) (rvl := [(.c 4 (some 3))]) hm tabOk_nil Try.func59 rfl rfl rfl (by kernel_rfl) rfl (Nat.le_of_ble_eq_true rfl) (Nat.le_of_ble_eq_true rfl) ?_
    show eA _ _ _ _
    unfold ic59
    simp only [
        grpA, vsliceS, grpS, grpD, grpF, grpL, eop, vop, bop, uop, fltop, convop, endOk, newE, new1, freshL, Md.isNew, outV, pureV, pureX, pure1, AV.cells, AV.one, storable, laid,
              refless, refless1, vload, loadC, storeC, vnil, vfaddr, vextract, flatT, flatE, flatC, vconv, vmm, vidxA, viaddrA, vfield, vlen, elemsOf, dF32, dF64, dI64, dU8, dBool,
              dStr, esOk, elemsS, vsliceX, bnd, ownV, ownC, own1, ownT, isSl, nSl, endL, Md.isOwn, purge, purgeH, purgeB, purgeE, hasName, name1, List.any_cons, List.any_nil,
              Md.isWr, pureV.pureP, Option.map, reduceIte, Nat.reduceEqDiff, Nat.reduceAdd, Nat.reduceMul, Nat.reduceLT, Nat.reduceLeDiff, List.mapM_cons, List.mapM_nil,
              Option.pure_def, Option.bind_eq_bind, Option.bind_some, implies_true, forall_const, beq_self_eq_true, decide_true, decide_false, eq_self, Int.reduceEq, Int.reduceLE,
              Int.reduceLT, if_true, if_false, fc59_0, fc59_1, fc59_2, fc59_3, fc59_4, fc59_5, fc59_6, fc59_7, fc59_8, fc59_9, fc59_10, fc59_11, fc59_12, fc59_13, fc59_14, fc59_15,
              fc59_16, fc59_17, fc59_18, fc59_19, fc59_20, fc59_21, fc59_22, fc59_23, fc59_24, fc59_25, Int.reduceAdd, Int.reduceSub, Int.reduceMul, Int.reduceNeg, Int.reducePow,
              Nat.reducePow, Int.reduceToNat, Nat.reduceSub, List.replicate, Nat.reduceBEq, wAs, wA, wC, zipW, noDupN, grpE]
    repeat' (first
      | ((first | (refine eGI_of (fun h => ?_) (fun h => ?_)) | (refine eCc_of (fun h => ?_) (fun h => ?_))) <;> (try simp only [Bool.not_eq_true', Bool.not_eq_false'] at h) <;> simp only [h,
        grpA, vsliceS, grpS, grpD, grpF, grpL, eop, vop, bop, uop, fltop, convop, endOk, newE, new1, freshL, Md.isNew, outV, pureV, pureX, pure1, AV.cells, AV.one, storable, laid,
              refless, refless1, vload, loadC, storeC, vnil, vfaddr, vextract, flatT, flatE, flatC, vconv, vmm, vidxA, viaddrA, vfield, vlen, elemsOf, dF32, dF64, dI64, dU8, dBool,
              dStr, esOk, elemsS, vsliceX, bnd, ownV, ownC, own1, ownT, isSl, nSl, endL, Md.isOwn, purge, purgeH, purgeB, purgeE, hasName, name1, List.any_cons, List.any_nil,
              Md.isWr, pureV.pureP, Option.map, reduceIte, Nat.reduceEqDiff, Nat.reduceAdd, Nat.reduceMul, Nat.reduceLT, Nat.reduceLeDiff, List.mapM_cons, List.mapM_nil,
              Option.pure_def, Option.bind_eq_bind, Option.bind_some, implies_true, forall_const, beq_self_eq_true, decide_true, decide_false, eq_self, Int.reduceEq, Int.reduceLE,
              Int.reduceLT, if_true, if_false, fc59_0, fc59_1, fc59_2, fc59_3, fc59_4, fc59_5, fc59_6, fc59_7, fc59_8, fc59_9, fc59_10, fc59_11, fc59_12, fc59_13, fc59_14, fc59_15,
              fc59_16, fc59_17, fc59_18, fc59_19, fc59_20, fc59_21, fc59_22, fc59_23, fc59_24, fc59_25, Int.reduceAdd, Int.reduceSub, Int.reduceMul, Int.reduceNeg, Int.reducePow,
              Nat.reducePow, Int.reduceToNat, Nat.reduceSub, List.replicate, Nat.reduceBEq, wAs, wA, wC, zipW, noDupN, grpE]))
    all_goals (try simp only [*, m_impl_ScaleVector, Bool.and_true, Bool.true_and, Bool.and_false, Bool.false_and, Bool.or_true, Bool.true_or, Bool.or_false, Bool.false_or, Bool.not_true, Bool.not_false, Bool.false_eq_true, if_true, if_false, reduceIte, decide_true, decide_false])
    all_goals (try (simp_all; done))
  · cases h
def m_impl_turnOf (x0 : Nat) (x1 : (Nat × Nat × Nat)) : (Nat × Nat × Nat × Nat) := (x0, x1.1, x1.2.1, x1.2.2)
def g_impl_turnOf : List AV → Option AV
  | [.flt .f32 y0, .agg [.flt .f32 y1, .flt .f32 y2, .flt .f32 y3]] => some (AV.agg [(.flt .f32 (m_impl_turnOf y0 (y1, y2, y3)).1), (.flt
      .f32 (m_impl_turnOf y0 (y1, y2, y3)).2.1), (.flt .f32 (m_impl_turnOf y0 (y1, y2, y3)).2.2.1), (.flt .f32 (m_impl_turnOf y0 (y1, y2, y3)).2.2.2)])
  | _ => none
def ic126 : ICode := (.seq (.reg [⟨(some 3), none, (.box 3 (.t 1))⟩, ⟨(some 4), none, (.alloc (.agg [(.flt .f32 0), (.flt .f32 0), (.flt .f32 0), (.flt .f32 0)]))⟩] [0, 3, 4]) (.seq
      (.reg [⟨(some 5), none, (.mov (.t 0))⟩, ⟨(some 6), none, (.faddr 0 (.t 3))⟩, ⟨(some 7), none, (.load none (.t 6))⟩, ⟨(some 8), none, (.faddr 1 (.t 3))⟩, ⟨(some 9), none,
      (.load none (.t 8))⟩, ⟨(some 10), none, (.faddr 2 (.t 3))⟩, ⟨(some 11), none, (.load none (.t 10))⟩, ⟨(some 12), none, (.build [(.flt .f32 0), (.flt .f32 0), (.flt .f32 0),
      (.flt .f32 0)] [(0, 1, (.t 5)), (1, 1, (.t 7)), (2, 1, (.t 9)), (3, 1, (.t 11))])⟩, ⟨none, none, (.store 4 (.t 4) (.t 12))⟩] [4]) .ret))
def cp126 : CP := CP.mk [] [] [[0, 3, 4], [4]] 13 [] []
theorem fc126_0 : IntKind.wrap .i64 (-1) = (-1) := by decide
theorem fc126_1 : IntKind.wrap .i64 0 = 0 := by decide
theorem fc126_2 : IntKind.wrap .i64 1 = 1 := by decide
theorem fc126_3 : IntKind.wrap .i64 10 = 10 := by decide
theorem fc126_4 : IntKind.wrap .i64 11 = 11 := by decide
theorem fc126_5 : IntKind.wrap .i64 110 = 110 := by decide
theorem fc126_6 : IntKind.wrap .i64 12 = 12 := by decide
theorem fc126_7 : IntKind.wrap .i64 13 = 13 := by decide
theorem fc126_8 : IntKind.wrap .i64 14 = 14 := by decide
theorem fc126_9 : IntKind.wrap .i64 15 = 15 := by decide
theorem fc126_10 : IntKind.wrap .i64 156 = 156 := by decide
theorem fc126_11 : IntKind.wrap .i64 16 = 16 := by decide
theorem fc126_12 : IntKind.wrap .i64 17 = 17 := by decide
theorem fc126_13 : IntKind.wrap .i64 2 = 2 := by decide
theorem fc126_14 : IntKind.wrap .i64 20 = 20 := by decide
theorem fc126_15 : IntKind.wrap .i64 210 = 210 := by decide
theorem fc126_16 : IntKind.wrap .i64 272 = 272 := by decide
theorem fc126_17 : IntKind.wrap .i64 3 = 3 := by decide
theorem fc126_18 : IntKind.wrap .i64 4 = 4 := by decide
theorem fc126_19 : IntKind.wrap .i64 42 = 42 := by decide
theorem fc126_20 : IntKind.wrap .i64 5 = 5 := by decide
theorem fc126_21 : IntKind.wrap .i64 6 = 6 := by decide
theorem fc126_22 : IntKind.wrap .i64 7 = 7 := by decide
theorem fc126_23 : IntKind.wrap .i64 72 = 72 := by decide
theorem fc126_24 : IntKind.wrap .i64 8 = 8 := by decide
theorem fc126_25 : IntKind.wrap .i64 9 = 9 := by decide
end Go.Proofs
