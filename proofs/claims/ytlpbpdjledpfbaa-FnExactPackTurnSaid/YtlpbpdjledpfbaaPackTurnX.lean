/- What functions that FnExactPackTurn reaches compute, and that the program's and the reference's answers are the same. No conditions. -/
import Derived.Test.YtlpbpdjledpfbaaFwF
import Derived.Test.YtlpbpdjledpfbaaProg
import Derived.KernelRfl
set_option maxRecDepth 100000
set_option maxHeartbeats 4000000
set_option linter.all false
namespace Go.Proofs
open Go.Ab
theorem hm : Try.prog.follows .mixedOrders = true := by kernel_rfl
theorem fc0 : IntKind.wrap .i64 1 = 1 := by decide
theorem fc1 : IntKind.wrap .i64 2 = 2 := by decide
def grpK := And.intro fc0 fc1
def m_laws_toTurn (x0 : (Nat × Nat × Nat × Nat)) : (Nat × Nat × Nat × Nat) := x0
def g_laws_toTurn : List AV → Option AV
  | [.agg [.flt .f32 y0, .flt .f32 y1, .flt .f32 y2, .flt .f32 y3]] => some (AV.agg [(.flt .f32 (m_laws_toTurn (y0, y1, y2, y3)).1), (.flt .f32 (m_laws_toTurn (y0, y1, y2, y3)).2.1), (.flt .f32 (m_laws_toTurn (y0, y1, y2, y3)).2.2.1), (.flt .f32 (m_laws_toTurn (y0, y1, y2, y3)).2.2.2)])
  | _ => none
def ic25 : ICode := (.seq (.reg [⟨(some 1), none, (.box 4 (.t 0))⟩, ⟨(some 2), none, (.alloc (.agg [(.flt .f32 0), (.flt .f32 0), (.flt .f32 0), (.flt .f32 0)]))⟩] [1, 2]) (.seq (.reg [⟨(some 3), none, (.alloc (.agg [(.flt .f32 0), (.flt .f32 0), (.flt .f32 0), (.flt .f32 0)]))⟩] [1, 2, 3]) (.seq (.reg [⟨(some 4), none, (.faddr 0 (.t 1))⟩, ⟨(some 5), none, (.load none (.t 4))⟩, ⟨(some 6), none, (.faddr 0 (.t 3))⟩, ⟨none, none, (.store 1 (.t 6) (.t 5))⟩] [1, 2, 3]) (.seq (.reg [⟨(some 7), none, (.faddr 1 (.t 1))⟩, ⟨(some 8), none, (.load none (.t 7))⟩, ⟨(some 9), none, (.faddr 1 (.t 3))⟩, ⟨none, none, (.store 1 (.t 9) (.t 8))⟩] [1, 2, 3]) (.seq (.reg [⟨(some 10), none, (.faddr 2 (.t 1))⟩, ⟨(some 11), none, (.load none (.t 10))⟩, ⟨(some 12), none, (.faddr 2 (.t 3))⟩, ⟨none, none, (.store 1 (.t 12) (.t 11))⟩] [1, 2, 3]) (.seq (.reg [⟨(some 13), none, (.faddr 3 (.t 1))⟩, ⟨(some 14), none, (.load none (.t 13))⟩, ⟨(some 15), none, (.faddr 3 (.t 3))⟩, ⟨none, none, (.store 1 (.t 15) (.t 14))⟩] [2, 3]) (.seq (.reg [⟨(some 16), none, (.load (some 4) (.t 3))⟩, ⟨none, none, (.store 4 (.t 2) (.t 16))⟩] [2]) .ret)))))))
def cp25 : CP := CP.mk [] [] [[1, 2], [1, 2, 3], [1, 2, 3], [1, 2, 3], [1, 2, 3], [2, 3], [2]] 17 [] []
theorem s25 : ∀ vs r, g_laws_toTurn vs = some r → SaysM Try.prog .any 25 vs r := by
  intro vs r h
  unfold g_laws_toTurn at h
  split at h
  · rename_i y0 y1 y2 y3
    cases h
    refine spec_of (m := .any) (tab := tabOf []) (cp := cp25) (ic := ic25) (rvl := [(.c 2 (some 4))]) hm tabOk_nil Try.func25 rfl rfl rfl (by kernel_rfl) rfl (Nat.le_of_ble_eq_true rfl) (Nat.le_of_ble_eq_true rfl) ?_
    show eA _ _ _ _
    unfold ic25
    simp only [
        grpA, vsliceS, grpS, grpD, grpF, grpL, eop, vop, bop, uop, fltop, convop, endOk, newE, new1, freshL, Md.isNew, outV, pureV, pureX, pure1, AV.cells, AV.one, storable, laid, refless, refless1, vload, loadC, storeC, vnil, vfaddr, vextract, flatT, flatE, flatC, vconv, vmm, vidxA, viaddrA, vfield, vlen, elemsOf, dF32, dF64, dI64, dU8, dBool, dStr, esOk, elemsS, vsliceX, bnd, ownV, ownC, own1, ownT, isSl, nSl, endL, Md.isOwn, purge, purgeH, purgeB, purgeE, hasName, name1, List.any_cons, List.any_nil, Md.isWr, pureV.pureP, Option.map, reduceIte, Nat.reduceEqDiff, Nat.reduceAdd, Nat.reduceMul, Nat.reduceLT, Nat.reduceLeDiff, List.mapM_cons, List.mapM_nil, Option.pure_def, Option.bind_eq_bind, Option.bind_some, implies_true, forall_const, beq_self_eq_true, decide_true, decide_false, eq_self, Int.reduceEq, Int.reduceLE, Int.reduceLT, if_true, if_false, grpK, Int.reduceAdd, Int.reduceSub, Int.reduceMul, Int.reduceNeg, Int.reducePow, Nat.reducePow, Int.reduceToNat, Nat.reduceSub, List.replicate, Nat.reduceBEq, wAs, wA, wC, zipW, noDupN, grpE, beq_true, beq_false]
    all_goals (try simp only [*, m_laws_toTurn, Bool.and_true, Bool.true_and, Bool.and_false, Bool.false_and, Bool.or_true, Bool.true_or, Bool.or_false, Bool.false_or, Bool.not_true, Bool.not_false, Bool.false_eq_true, if_true, if_false, reduceIte, decide_true, decide_false])
    all_goals (try (simp_all; done))
  · cases h
def m_spec_l01Finite (x0 : Nat) : Bool := (feq .f32 (fsub .f32 x0 x0) 0)
def g_spec_l01Finite : List AV → Option AV
  | [.flt .f32 y0] => some (.bool (m_spec_l01Finite y0))
  | _ => none
def ic88 : ICode := (.seq (.reg [⟨(some 2), none, (.mov (.c (.bool false)))⟩] [0]) (.seq (.reg [⟨(some 3), none, (.mov (.t 0))⟩, ⟨(some 4), none, (.mov (.t 0))⟩, ⟨(some 5), none, (.bin .sub false (.t 3) (.t 4))⟩, ⟨(some 6), none, (.bin .eql false (.t 5) (.c (.flt .f32 0)))⟩, ⟨(some 2), none, (.mov (.t 6))⟩] [2]) .ret))
def cp88 : CP := CP.mk [] [] [[0], [2]] 7 [] []
theorem s88 : ∀ vs r, g_spec_l01Finite vs = some r → SaysM Try.prog .any 88 vs r := by
  intro vs r h
  unfold g_spec_l01Finite at h
  split at h
  · rename_i y0
    cases h
    refine spec_of (m := .any) (tab := tabOf []) (cp := cp88) (ic := ic88) (rvl := [(.t 2)]) hm tabOk_nil Try.func88 rfl rfl rfl (by kernel_rfl) rfl (Nat.le_of_ble_eq_true rfl) (Nat.le_of_ble_eq_true rfl) ?_
    show eA _ _ _ _
    unfold ic88
    simp only [
        grpA, vsliceS, grpS, grpD, grpF, grpL, eop, vop, bop, uop, fltop, convop, endOk, newE, new1, freshL, Md.isNew, outV, pureV, pureX, pure1, AV.cells, AV.one, storable, laid, refless, refless1, vload, loadC, storeC, vnil, vfaddr, vextract, flatT, flatE, flatC, vconv, vmm, vidxA, viaddrA, vfield, vlen, elemsOf, dF32, dF64, dI64, dU8, dBool, dStr, esOk, elemsS, vsliceX, bnd, ownV, ownC, own1, ownT, isSl, nSl, endL, Md.isOwn, purge, purgeH, purgeB, purgeE, hasName, name1, List.any_cons, List.any_nil, Md.isWr, pureV.pureP, Option.map, reduceIte, Nat.reduceEqDiff, Nat.reduceAdd, Nat.reduceMul, Nat.reduceLT, Nat.reduceLeDiff, List.mapM_cons, List.mapM_nil, Option.pure_def, Option.bind_eq_bind, Option.bind_some, implies_true, forall_const, beq_self_eq_true, decide_true, decide_false, eq_self, Int.reduceEq, Int.reduceLE, Int.reduceLT, if_true, if_false, grpK, Int.reduceAdd, Int.reduceSub, Int.reduceMul, Int.reduceNeg, Int.reducePow, Nat.reducePow, Int.reduceToNat, Nat.reduceSub, List.replicate, Nat.reduceBEq, wAs, wA, wC, zipW, noDupN, grpE, beq_true, beq_false]
    all_goals (try simp only [*, m_spec_l01Finite, Bool.and_true, Bool.true_and, Bool.and_false, Bool.false_and, Bool.or_true, Bool.true_or, Bool.or_false, Bool.false_or, Bool.not_true, Bool.not_false, Bool.false_eq_true, if_true, if_false, reduceIte, decide_true, decide_false])
    all_goals (try (simp_all; done))
  · cases h
def m_spec_l06Turn (x0 : (Nat × Nat × Nat × Nat)) : Bool := (if (m_spec_l01Finite x0.1) = true then (if (m_spec_l01Finite x0.2.1) = true then (if (m_spec_l01Finite x0.2.2.1) = true then (m_spec_l01Finite x0.2.2.2) else false) else false) else false)
def g_spec_l06Turn : List AV → Option AV
  | [.agg [.flt .f32 y0, .flt .f32 y1, .flt .f32 y2, .flt .f32 y3]] => some (.bool (m_spec_l06Turn (y0, y1, y2, y3)))
  | _ => none
def ic56 : ICode := (.seq (.reg [⟨(some 1), none, (.box 4 (.t 0))⟩, ⟨(some 2), none, (.mov (.c (.bool false)))⟩] [1]) (.seq (.reg [⟨(some 3), none, (.faddr 0 (.t 1))⟩, ⟨(some 4), none, (.load none (.t 3))⟩, ⟨(some 5), none, (.call (.fn 88) [(.t 4)] [])⟩, ⟨(some 6), none, (.mov (.t 5))⟩, ⟨(some 7), (some (6, true)), (.faddr 1 (.t 1))⟩, ⟨(some 8), (some (6, true)), (.load none (.t 7))⟩, ⟨(some 9), (some (6, true)), (.call (.fn 88) [(.t 8)] [])⟩, ⟨(some 10), none, (.pick (.t 6) (.t 9) (.c (.bool false)))⟩, ⟨(some 11), none, (.mov (.t 10))⟩, ⟨(some 12), (some (11, true)), (.faddr 2 (.t 1))⟩, ⟨(some 13), (some (11, true)), (.load none (.t 12))⟩, ⟨(some 14), (some (11, true)), (.call (.fn 88) [(.t 13)] [])⟩, ⟨(some 15), none, (.pick (.t 11) (.t 14) (.c (.bool false)))⟩, ⟨(some 16), none, (.mov (.t 15))⟩, ⟨(some 17), (some (16, true)), (.faddr 3 (.t 1))⟩, ⟨(some 18), (some (16, true)), (.load none (.t 17))⟩, ⟨(some 19), (some (16, true)), (.call (.fn 88) [(.t 18)] [])⟩, ⟨(some 20), none, (.pick (.t 16) (.t 19) (.c (.bool false)))⟩, ⟨(some 2), none, (.mov (.t 20))⟩] [2]) .ret))
def cp56 : CP := CP.mk [] [] [[1], [2]] 21 [] []
theorem s56 : ∀ vs r, g_spec_l06Turn vs = some r → SaysM Try.prog .any 56 vs r := by
  intro vs r h
  unfold g_spec_l06Turn at h
  split at h
  · rename_i y0 y1 y2 y3
    cases h
    refine spec_of (m := .any) (tab := tabOf [(88, wM .any g_spec_l01Finite)]) (cp := cp56) (ic := ic56) (rvl := [(.t 2)]) hm (tabOk_cons (m := .any) s88 tabOk_nil) Try.func56 rfl rfl rfl (by kernel_rfl) rfl (Nat.le_of_ble_eq_true rfl) (Nat.le_of_ble_eq_true rfl) ?_
    show eA _ _ _ _
    unfold ic56
    refine eS_to ?_
    repeat' (first
      | ((first | (have h := True.intro; refine eS_of ?_) | (refine eGI_of (fun h => ?_) (fun h => ?_)) | (refine eCc_of (fun h => ?_) (fun h => ?_)) | (refine ePk_of (fun h => ?_) (fun h => ?_))) <;> (try simp only [Bool.not_eq_true', Bool.not_eq_false'] at h) <;> (try first | exact absurd (Eq.trans (Eq.symm h) (by assumption)) Bool.false_ne_true | exact absurd (Eq.trans (Eq.symm h) (by assumption)) (Ne.symm Bool.false_ne_true)) <;> simp only [h,
        grpA, vsliceS, grpS, grpD, grpF, grpL, eop, vop, bop, uop, fltop, convop, endOk, newE, new1, freshL, Md.isNew, outV, pureV, pureX, pure1, AV.cells, AV.one, storable, laid, refless, refless1, vload, loadC, storeC, vnil, vfaddr, vextract, flatT, flatE, flatC, vconv, vmm, vidxA, viaddrA, vfield, vlen, elemsOf, dF32, dF64, dI64, dU8, dBool, dStr, esOk, elemsS, vsliceX, bnd, ownV, ownC, own1, ownT, isSl, nSl, endL, Md.isOwn, purge, purgeH, purgeB, purgeE, hasName, name1, List.any_cons, List.any_nil, Md.isWr, pureV.pureP, Option.map, reduceIte, Nat.reduceEqDiff, Nat.reduceAdd, Nat.reduceMul, Nat.reduceLT, Nat.reduceLeDiff, List.mapM_cons, List.mapM_nil, Option.pure_def, Option.bind_eq_bind, Option.bind_some, implies_true, forall_const, beq_self_eq_true, decide_true, decide_false, eq_self, Int.reduceEq, Int.reduceLE, Int.reduceLT, if_true, if_false, grpK, Int.reduceAdd, Int.reduceSub, Int.reduceMul, Int.reduceNeg, Int.reducePow, Nat.reducePow, Int.reduceToNat, Nat.reduceSub, List.replicate, Nat.reduceBEq, wAs, wA, wC, zipW, noDupN, grpE, beq_true, beq_false, g_spec_l01Finite, ↓b_pick, ePk_true, ePk_false]))
    all_goals (try simp only [*, m_spec_l06Turn, Bool.and_true, Bool.true_and, Bool.and_false, Bool.false_and, Bool.or_true, Bool.true_or, Bool.or_false, Bool.false_or, Bool.not_true, Bool.not_false, Bool.false_eq_true, if_true, if_false, reduceIte, decide_true, decide_false])
    all_goals (try (simp_all; done))
  · cases h
def m_spec_l00In (x0 : Int) (x1 : Int) (x2 : Int) : Bool := (if (decide (x1 ≤ x0)) = true then (decide (x0 ≤ x2)) else false)
def g_spec_l00In : List AV → Option AV
  | [.int .i64 y0, .int .i64 y1, .int .i64 y2] => some (.bool (m_spec_l00In y0 y1 y2))
  | _ => none
def ic44 : ICode := (.seq (.reg [⟨(some 6), none, (.mov (.c (.bool false)))⟩] [0, 1, 2]) (.seq (.reg [⟨(some 7), none, (.mov (.t 0))⟩, ⟨(some 8), none, (.mov (.t 1))⟩, ⟨(some 9), none, (.bin .geq false (.t 7) (.t 8))⟩, ⟨(some 10), none, (.mov (.t 9))⟩, ⟨(some 11), (some (10, true)), (.mov (.t 0))⟩, ⟨(some 12), (some (10, true)), (.mov (.t 2))⟩, ⟨(some 13), (some (10, true)), (.bin .leq false (.t 11) (.t 12))⟩, ⟨(some 14), none, (.pick (.t 10) (.t 13) (.c (.bool false)))⟩, ⟨(some 6), none, (.mov (.t 14))⟩] [6]) .ret))
def cp44 : CP := CP.mk [] [] [[0, 1, 2], [6]] 15 [] []
theorem s44 : ∀ vs r, g_spec_l00In vs = some r → SaysM Try.prog .any 44 vs r := by
  intro vs r h
  unfold g_spec_l00In at h
  split at h
  · rename_i y0 y1 y2
    cases h
    refine spec_of (m := .any) (tab := tabOf []) (cp := cp44) (ic := ic44) (rvl := [(.t 6)]) hm tabOk_nil Try.func44 rfl rfl rfl (by kernel_rfl) rfl (Nat.le_of_ble_eq_true rfl) (Nat.le_of_ble_eq_true rfl) ?_
    show eA _ _ _ _
    unfold ic44
    refine eS_to ?_
    repeat' (first
      | ((first | (have h := True.intro; refine eS_of ?_) | (refine eGI_of (fun h => ?_) (fun h => ?_)) | (refine eCc_of (fun h => ?_) (fun h => ?_)) | (refine ePk_of (fun h => ?_) (fun h => ?_))) <;> (try simp only [Bool.not_eq_true', Bool.not_eq_false'] at h) <;> (try first | exact absurd (Eq.trans (Eq.symm h) (by assumption)) Bool.false_ne_true | exact absurd (Eq.trans (Eq.symm h) (by assumption)) (Ne.symm Bool.false_ne_true)) <;> simp only [h,
        grpA, vsliceS, grpS, grpD, grpF, grpL, eop, vop, bop, uop, fltop, convop, endOk, newE, new1, freshL, Md.isNew, outV, pureV, pureX, pure1, AV.cells, AV.one, storable, laid, refless, refless1, vload, loadC, storeC, vnil, vfaddr, vextract, flatT, flatE, flatC, vconv, vmm, vidxA, viaddrA, vfield, vlen, elemsOf, dF32, dF64, dI64, dU8, dBool, dStr, esOk, elemsS, vsliceX, bnd, ownV, ownC, own1, ownT, isSl, nSl, endL, Md.isOwn, purge, purgeH, purgeB, purgeE, hasName, name1, List.any_cons, List.any_nil, Md.isWr, pureV.pureP, Option.map, reduceIte, Nat.reduceEqDiff, Nat.reduceAdd, Nat.reduceMul, Nat.reduceLT, Nat.reduceLeDiff, List.mapM_cons, List.mapM_nil, Option.pure_def, Option.bind_eq_bind, Option.bind_some, implies_true, forall_const, beq_self_eq_true, decide_true, decide_false, eq_self, Int.reduceEq, Int.reduceLE, Int.reduceLT, if_true, if_false, grpK, Int.reduceAdd, Int.reduceSub, Int.reduceMul, Int.reduceNeg, Int.reducePow, Nat.reducePow, Int.reduceToNat, Nat.reduceSub, List.replicate, Nat.reduceBEq, wAs, wA, wC, zipW, noDupN, grpE, beq_true, beq_false, ↓b_pick, ePk_true, ePk_false]))
    all_goals (try simp only [*, m_spec_l00In, Bool.and_true, Bool.true_and, Bool.and_false, Bool.false_and, Bool.or_true, Bool.true_or, Bool.or_false, Bool.false_or, Bool.not_true, Bool.not_false, Bool.false_eq_true, if_true, if_false, reduceIte, decide_true, decide_false])
    all_goals (try (simp_all; done))
  · cases h
def m_spec_l06Bits (x0 : Int) : Bool := (m_spec_l00In x0 2 16)
def g_spec_l06Bits : List AV → Option AV
  | [.int .i64 y0] => some (.bool (m_spec_l06Bits y0))
  | _ => none
def ic47 : ICode := (.seq (.reg [⟨(some 2), none, (.mov (.c (.bool false)))⟩] [0]) (.seq (.reg [⟨(some 3), none, (.mov (.t 0))⟩, ⟨(some 4), none, (.call (.fn 44) [(.t 3), (.c (.int .i64 2)), (.c (.int .i64 16))] [])⟩, ⟨(some 2), none, (.mov (.t 4))⟩] [2]) .ret))
def cp47 : CP := CP.mk [] [] [[0], [2]] 5 [] []
theorem s47 : ∀ vs r, g_spec_l06Bits vs = some r → SaysM Try.prog .any 47 vs r := by
  intro vs r h
  unfold g_spec_l06Bits at h
  split at h
  · rename_i y0
    cases h
    refine spec_of (m := .any) (tab := tabOf [(44, wM .any g_spec_l00In)]) (cp := cp47) (ic := ic47) (rvl := [(.t 2)]) hm (tabOk_cons (m := .any) s44 tabOk_nil) Try.func47 rfl rfl rfl (by kernel_rfl) rfl (Nat.le_of_ble_eq_true rfl) (Nat.le_of_ble_eq_true rfl) ?_
    show eA _ _ _ _
    unfold ic47
    simp only [
        grpA, vsliceS, grpS, grpD, grpF, grpL, eop, vop, bop, uop, fltop, convop, endOk, newE, new1, freshL, Md.isNew, outV, pureV, pureX, pure1, AV.cells, AV.one, storable, laid, refless, refless1, vload, loadC, storeC, vnil, vfaddr, vextract, flatT, flatE, flatC, vconv, vmm, vidxA, viaddrA, vfield, vlen, elemsOf, dF32, dF64, dI64, dU8, dBool, dStr, esOk, elemsS, vsliceX, bnd, ownV, ownC, own1, ownT, isSl, nSl, endL, Md.isOwn, purge, purgeH, purgeB, purgeE, hasName, name1, List.any_cons, List.any_nil, Md.isWr, pureV.pureP, Option.map, reduceIte, Nat.reduceEqDiff, Nat.reduceAdd, Nat.reduceMul, Nat.reduceLT, Nat.reduceLeDiff, List.mapM_cons, List.mapM_nil, Option.pure_def, Option.bind_eq_bind, Option.bind_some, implies_true, forall_const, beq_self_eq_true, decide_true, decide_false, eq_self, Int.reduceEq, Int.reduceLE, Int.reduceLT, if_true, if_false, grpK, Int.reduceAdd, Int.reduceSub, Int.reduceMul, Int.reduceNeg, Int.reducePow, Nat.reducePow, Int.reduceToNat, Nat.reduceSub, List.replicate, Nat.reduceBEq, wAs, wA, wC, zipW, noDupN, grpE, beq_true, beq_false, g_spec_l00In]
    all_goals (try simp only [*, m_spec_l06Bits, Bool.and_true, Bool.true_and, Bool.and_false, Bool.false_and, Bool.or_true, Bool.true_or, Bool.or_false, Bool.false_or, Bool.not_true, Bool.not_false, Bool.false_eq_true, if_true, if_false, reduceIte, decide_true, decide_false])
    all_goals (try (simp_all; done))
  · cases h
def m_spec_l02Inner (x0 : (Nat × Nat × Nat × Nat)) (x1 : (Nat × Nat × Nat × Nat)) : Nat := (fadd .f32 (fadd .f32 (fadd .f32 (fmul .f32 x0.1 x1.1) (fmul .f32 x0.2.1 x1.2.1)) (fmul .f32 x0.2.2.1 x1.2.2.1)) (fmul .f32 x0.2.2.2 x1.2.2.2))
def g_spec_l02Inner : List AV → Option AV
  | [.agg [.flt .f32 y0, .flt .f32 y1, .flt .f32 y2, .flt .f32 y3], .agg [.flt .f32 y4, .flt .f32 y5, .flt .f32 y6, .flt .f32 y7]] => some (.flt .f32 (m_spec_l02Inner (y0, y1, y2, y3) (y4, y5, y6, y7)))
  | _ => none
def ic102 : ICode := (.seq (.reg [⟨(some 2), none, (.box 4 (.t 0))⟩, ⟨(some 3), none, (.box 4 (.t 1))⟩, ⟨(some 4), none, (.mov (.c (.flt .f32 0)))⟩] [2, 3]) (.seq (.reg [⟨(some 6), none, (.faddr 0 (.t 2))⟩, ⟨(some 7), none, (.load none (.t 6))⟩, ⟨(some 8), none, (.faddr 0 (.t 3))⟩, ⟨(some 9), none, (.load none (.t 8))⟩, ⟨(some 10), none, (.bin .mul false (.t 7) (.t 9))⟩, ⟨(some 11), none, (.faddr 1 (.t 2))⟩, ⟨(some 12), none, (.load none (.t 11))⟩, ⟨(some 13), none, (.faddr 1 (.t 3))⟩, ⟨(some 14), none, (.load none (.t 13))⟩, ⟨(some 15), none, (.bin .mul false (.t 12) (.t 14))⟩, ⟨(some 16), none, (.bin .add false (.t 10) (.t 15))⟩, ⟨(some 5), none, (.mov (.t 16))⟩] [2, 3, 5]) (.seq (.reg [⟨(some 17), none, (.mov (.t 5))⟩, ⟨(some 18), none, (.faddr 2 (.t 2))⟩, ⟨(some 19), none, (.load none (.t 18))⟩, ⟨(some 20), none, (.faddr 2 (.t 3))⟩, ⟨(some 21), none, (.load none (.t 20))⟩, ⟨(some 22), none, (.bin .mul false (.t 19) (.t 21))⟩, ⟨(some 23), none, (.bin .add false (.t 17) (.t 22))⟩, ⟨(some 5), none, (.mov (.t 23))⟩] [2, 3, 5]) (.seq (.reg [⟨(some 24), none, (.mov (.t 5))⟩, ⟨(some 25), none, (.faddr 3 (.t 2))⟩, ⟨(some 26), none, (.load none (.t 25))⟩, ⟨(some 27), none, (.faddr 3 (.t 3))⟩, ⟨(some 28), none, (.load none (.t 27))⟩, ⟨(some 29), none, (.bin .mul false (.t 26) (.t 28))⟩, ⟨(some 30), none, (.bin .add false (.t 24) (.t 29))⟩, ⟨(some 4), none, (.mov (.t 30))⟩] [4]) .ret))))
def cp102 : CP := CP.mk [] [] [[2, 3], [2, 3, 5], [2, 3, 5], [4]] 31 [] []
theorem s102 : ∀ vs r, g_spec_l02Inner vs = some r → SaysM Try.prog .any 102 vs r := by
  intro vs r h
  unfold g_spec_l02Inner at h
  split at h
  · rename_i y0 y1 y2 y3 y4 y5 y6 y7
    cases h
    refine spec_of (m := .any) (tab := tabOf []) (cp := cp102) (ic := ic102) (rvl := [(.t 4)]) hm tabOk_nil Try.func102 rfl rfl rfl (by kernel_rfl) rfl (Nat.le_of_ble_eq_true rfl) (Nat.le_of_ble_eq_true rfl) ?_
    show eA _ _ _ _
    unfold ic102
    simp only [
        grpA, vsliceS, grpS, grpD, grpF, grpL, eop, vop, bop, uop, fltop, convop, endOk, newE, new1, freshL, Md.isNew, outV, pureV, pureX, pure1, AV.cells, AV.one, storable, laid, refless, refless1, vload, loadC, storeC, vnil, vfaddr, vextract, flatT, flatE, flatC, vconv, vmm, vidxA, viaddrA, vfield, vlen, elemsOf, dF32, dF64, dI64, dU8, dBool, dStr, esOk, elemsS, vsliceX, bnd, ownV, ownC, own1, ownT, isSl, nSl, endL, Md.isOwn, purge, purgeH, purgeB, purgeE, hasName, name1, List.any_cons, List.any_nil, Md.isWr, pureV.pureP, Option.map, reduceIte, Nat.reduceEqDiff, Nat.reduceAdd, Nat.reduceMul, Nat.reduceLT, Nat.reduceLeDiff, List.mapM_cons, List.mapM_nil, Option.pure_def, Option.bind_eq_bind, Option.bind_some, implies_true, forall_const, beq_self_eq_true, decide_true, decide_false, eq_self, Int.reduceEq, Int.reduceLE, Int.reduceLT, if_true, if_false, grpK, Int.reduceAdd, Int.reduceSub, Int.reduceMul, Int.reduceNeg, Int.reducePow, Nat.reducePow, Int.reduceToNat, Nat.reduceSub, List.replicate, Nat.reduceBEq, wAs, wA, wC, zipW, noDupN, grpE, beq_true, beq_false]
    all_goals (try simp only [*, m_spec_l02Inner, Bool.and_true, Bool.true_and, Bool.and_false, Bool.false_and, Bool.or_true, Bool.true_or, Bool.or_false, Bool.false_or, Bool.not_true, Bool.not_false, Bool.false_eq_true, if_true, if_false, reduceIte, decide_true, decide_false])
    all_goals (try (simp_all; done))
  · cases h
theorem s104 : ∀ vs r, g_sqrt vs = some r → SaysM Try.prog .any 104 vs r := t_sqrt Try.func104 (by kernel_rfl) rfl (by kernel_rfl) (by kernel_rfl)
def m_math_Sqrt (x0 : Nat) : Nat := (fsqrt x0)
def g_math_Sqrt : List AV → Option AV
  | [.flt .f64 y0] => some (.flt .f64 (m_math_Sqrt y0))
  | _ => none
def ic84 : ICode := (.seq (.reg [⟨(some 2), none, (.mov (.c (.flt .f64 0)))⟩] [0]) (.seq (.reg [⟨(some 3), none, (.mov (.t 0))⟩, ⟨(some 4), none, (.call (.fn 104) [(.t 3)] [])⟩, ⟨(some 2), none, (.mov (.t 4))⟩] [2]) .ret))
def cp84 : CP := CP.mk [] [] [[0], [2]] 5 [] []
theorem s84 : ∀ vs r, g_math_Sqrt vs = some r → SaysM Try.prog .any 84 vs r := by
  intro vs r h
  unfold g_math_Sqrt at h
  split at h
  · rename_i y0
    cases h
    refine spec_of (m := .any) (tab := tabOf [(104, wM .any g_sqrt)]) (cp := cp84) (ic := ic84) (rvl := [(.t 2)]) hm (tabOk_cons (m := .any) s104 tabOk_nil) Try.func84 rfl rfl rfl (by kernel_rfl) rfl (Nat.le_of_ble_eq_true rfl) (Nat.le_of_ble_eq_true rfl) ?_
    show eA _ _ _ _
    unfold ic84
    simp only [
        grpA, vsliceS, grpS, grpD, grpF, grpL, eop, vop, bop, uop, fltop, convop, endOk, newE, new1, freshL, Md.isNew, outV, pureV, pureX, pure1, AV.cells, AV.one, storable, laid, refless, refless1, vload, loadC, storeC, vnil, vfaddr, vextract, flatT, flatE, flatC, vconv, vmm, vidxA, viaddrA, vfield, vlen, elemsOf, dF32, dF64, dI64, dU8, dBool, dStr, esOk, elemsS, vsliceX, bnd, ownV, ownC, own1, ownT, isSl, nSl, endL, Md.isOwn, purge, purgeH, purgeB, purgeE, hasName, name1, List.any_cons, List.any_nil, Md.isWr, pureV.pureP, Option.map, reduceIte, Nat.reduceEqDiff, Nat.reduceAdd, Nat.reduceMul, Nat.reduceLT, Nat.reduceLeDiff, List.mapM_cons, List.mapM_nil, Option.pure_def, Option.bind_eq_bind, Option.bind_some, implies_true, forall_const, beq_self_eq_true, decide_true, decide_false, eq_self, Int.reduceEq, Int.reduceLE, Int.reduceLT, if_true, if_false, grpK, Int.reduceAdd, Int.reduceSub, Int.reduceMul, Int.reduceNeg, Int.reducePow, Nat.reducePow, Int.reduceToNat, Nat.reduceSub, List.replicate, Nat.reduceBEq, wAs, wA, wC, zipW, noDupN, grpE, beq_true, beq_false, g_sqrt]
    all_goals (try simp only [*, m_math_Sqrt, Bool.and_true, Bool.true_and, Bool.and_false, Bool.false_and, Bool.or_true, Bool.true_or, Bool.or_false, Bool.false_or, Bool.not_true, Bool.not_false, Bool.false_eq_true, if_true, if_false, reduceIte, decide_true, decide_false])
    all_goals (try (simp_all; done))
  · cases h
def m_spec_l01Narrow (x0 : Nat) : Nat := (narrow x0)
def p_spec_l01Narrow (x0 : Nat) : Bool := (narrowOk x0)
def g_spec_l01Narrow : List AV → Option AV
  | [.flt .f64 y0] => if p_spec_l01Narrow y0 = true then some (.flt .f32 (m_spec_l01Narrow y0)) else none
  | _ => none
def ic101 : ICode := (.seq (.reg [⟨(some 2), none, (.mov (.c (.flt .f32 0)))⟩] [0]) (.seq (.reg [⟨(some 3), none, (.mov (.t 0))⟩, ⟨(some 4), none, (.conv (.flt .f32) (.t 3))⟩, ⟨(some 2), none, (.mov (.t 4))⟩] [2]) .ret))
def cp101 : CP := CP.mk [] [] [[0], [2]] 5 [] []
theorem s101 : ∀ vs r, g_spec_l01Narrow vs = some r → SaysM Try.prog .any 101 vs r := by
  intro vs r h
  unfold g_spec_l01Narrow at h
  split at h
  · rename_i y0
    split at h
    · rename_i hp
      cases h
      refine spec_of (m := .any) (tab := tabOf []) (cp := cp101) (ic := ic101) (rvl := [(.t 2)]) hm tabOk_nil Try.func101 rfl rfl rfl (by kernel_rfl) rfl (Nat.le_of_ble_eq_true rfl) (Nat.le_of_ble_eq_true rfl) ?_
      show eA _ _ _ _
      unfold ic101
      simp only [p_spec_l01Narrow, Bool.and_eq_true, Bool.or_eq_true, decide_eq_true_eq, Bool.not_eq_true', decide_eq_false_iff_not] at hp
      simp only [
          hp, grpA, vsliceS, grpS, grpD, grpF, grpL, eop, vop, bop, uop, fltop, convop, endOk, newE, new1, freshL, Md.isNew, outV, pureV, pureX, pure1, AV.cells, AV.one, storable, laid, refless, refless1, vload, loadC, storeC, vnil, vfaddr, vextract, flatT, flatE, flatC, vconv, vmm, vidxA, viaddrA, vfield, vlen, elemsOf, dF32, dF64, dI64, dU8, dBool, dStr, esOk, elemsS, vsliceX, bnd, ownV, ownC, own1, ownT, isSl, nSl, endL, Md.isOwn, purge, purgeH, purgeB, purgeE, hasName, name1, List.any_cons, List.any_nil, Md.isWr, pureV.pureP, Option.map, reduceIte, Nat.reduceEqDiff, Nat.reduceAdd, Nat.reduceMul, Nat.reduceLT, Nat.reduceLeDiff, List.mapM_cons, List.mapM_nil, Option.pure_def, Option.bind_eq_bind, Option.bind_some, implies_true, forall_const, beq_self_eq_true, decide_true, decide_false, eq_self, Int.reduceEq, Int.reduceLE, Int.reduceLT, if_true, if_false, grpK, Int.reduceAdd, Int.reduceSub, Int.reduceMul, Int.reduceNeg, Int.reducePow, Nat.reducePow, Int.reduceToNat, Nat.reduceSub, List.replicate, Nat.reduceBEq, wAs, wA, wC, zipW, noDupN, grpE, beq_true, beq_false]
      all_goals (try simp only [*, m_spec_l01Narrow, Bool.and_true, Bool.true_and, Bool.and_false, Bool.false_and, Bool.or_true, Bool.true_or, Bool.or_false, Bool.false_or, Bool.not_true, Bool.not_false, Bool.false_eq_true, if_true, if_false, reduceIte, decide_true, decide_false])
      all_goals (try (simp_all; done))
    · cases h
  · cases h
def m_spec_l01Sqrt (x0 : Nat) : Nat := (m_spec_l01Narrow (m_math_Sqrt (widen x0)))
def p_spec_l01Sqrt (x0 : Nat) : Bool := (p_spec_l01Narrow (m_math_Sqrt (widen x0)))
def g_spec_l01Sqrt : List AV → Option AV
  | [.flt .f32 y0] => if p_spec_l01Sqrt y0 = true then some (.flt .f32 (m_spec_l01Sqrt y0)) else none
  | _ => none
def ic82 : ICode := (.seq (.reg [⟨(some 2), none, (.mov (.c (.flt .f32 0)))⟩] [0]) (.seq (.reg [⟨(some 3), none, (.mov (.t 0))⟩, ⟨(some 4), none, (.conv (.flt .f64) (.t 3))⟩, ⟨(some 5), none, (.call (.fn 84) [(.t 4)] [])⟩, ⟨(some 6), none, (.call (.fn 101) [(.t 5)] [])⟩, ⟨(some 2), none, (.mov (.t 6))⟩] [2]) .ret))
def cp82 : CP := CP.mk [] [] [[0], [2]] 7 [] []
theorem s82 : ∀ vs r, g_spec_l01Sqrt vs = some r → SaysM Try.prog .any 82 vs r := by
  intro vs r h
  unfold g_spec_l01Sqrt at h
  split at h
  · rename_i y0
    split at h
    · rename_i hp
      cases h
      refine spec_of (m := .any) (tab := tabOf [(84, wM .any g_math_Sqrt), (101, wM .any g_spec_l01Narrow)]) (cp := cp82) (ic := ic82) (rvl := [(.t 2)]) hm (tabOk_cons (m := .any) s84 (tabOk_cons (m := .any) s101 tabOk_nil)) Try.func82 rfl rfl rfl (by kernel_rfl) rfl (Nat.le_of_ble_eq_true rfl) (Nat.le_of_ble_eq_true rfl) ?_
      show eA _ _ _ _
      unfold ic82
      simp only [p_spec_l01Sqrt, Bool.and_eq_true, Bool.or_eq_true, decide_eq_true_eq, Bool.not_eq_true', decide_eq_false_iff_not] at hp
      simp only [
          hp, grpA, vsliceS, grpS, grpD, grpF, grpL, eop, vop, bop, uop, fltop, convop, endOk, newE, new1, freshL, Md.isNew, outV, pureV, pureX, pure1, AV.cells, AV.one, storable, laid, refless, refless1, vload, loadC, storeC, vnil, vfaddr, vextract, flatT, flatE, flatC, vconv, vmm, vidxA, viaddrA, vfield, vlen, elemsOf, dF32, dF64, dI64, dU8, dBool, dStr, esOk, elemsS, vsliceX, bnd, ownV, ownC, own1, ownT, isSl, nSl, endL, Md.isOwn, purge, purgeH, purgeB, purgeE, hasName, name1, List.any_cons, List.any_nil, Md.isWr, pureV.pureP, Option.map, reduceIte, Nat.reduceEqDiff, Nat.reduceAdd, Nat.reduceMul, Nat.reduceLT, Nat.reduceLeDiff, List.mapM_cons, List.mapM_nil, Option.pure_def, Option.bind_eq_bind, Option.bind_some, implies_true, forall_const, beq_self_eq_true, decide_true, decide_false, eq_self, Int.reduceEq, Int.reduceLE, Int.reduceLT, if_true, if_false, grpK, Int.reduceAdd, Int.reduceSub, Int.reduceMul, Int.reduceNeg, Int.reducePow, Nat.reducePow, Int.reduceToNat, Nat.reduceSub, List.replicate, Nat.reduceBEq, wAs, wA, wC, zipW, noDupN, grpE, beq_true, beq_false, g_math_Sqrt, g_spec_l01Narrow]
      all_goals (try simp only [*, m_spec_l01Sqrt, Bool.and_true, Bool.true_and, Bool.and_false, Bool.false_and, Bool.or_true, Bool.true_or, Bool.or_false, Bool.false_or, Bool.not_true, Bool.not_false, Bool.false_eq_true, if_true, if_false, reduceIte, decide_true, decide_false])
      all_goals (try (simp_all; done))
    · cases h
  · cases h
def m_spec_l02No  : (Nat × Nat × Nat × Nat) := (1065353216, 0, 0, 0)
def g_spec_l02No : List AV → Option AV
  | [] => some (AV.agg [(.flt .f32 (m_spec_l02No).1), (.flt .f32 (m_spec_l02No).2.1), (.flt .f32 (m_spec_l02No).2.2.1), (.flt .f32 (m_spec_l02No).2.2.2)])
  | _ => none
def ic103 : ICode := (.seq (.reg [⟨(some 0), none, (.alloc (.agg [(.flt .f32 0), (.flt .f32 0), (.flt .f32 0), (.flt .f32 0)]))⟩] [0]) (.seq (.reg [⟨(some 1), none, (.build [(.flt .f32 0), (.flt .f32 0), (.flt .f32 0), (.flt .f32 0)] [(0, 1, (.c (.flt .f32 1065353216)))])⟩, ⟨none, none, (.store 4 (.t 0) (.t 1))⟩] [0]) .ret))
def cp103 : CP := CP.mk [] [] [[0], [0]] 2 [] []
theorem s103 : ∀ vs r, g_spec_l02No vs = some r → SaysM Try.prog .any 103 vs r := by
  intro vs r h
  unfold g_spec_l02No at h
  split at h
  · cases h
    refine spec_of (m := .any) (tab := tabOf []) (cp := cp103) (ic := ic103) (rvl := [(.c 0 (some 4))]) hm tabOk_nil Try.func103 rfl rfl rfl (by kernel_rfl) rfl (Nat.le_of_ble_eq_true rfl) (Nat.le_of_ble_eq_true rfl) ?_
    show eA _ _ _ _
    unfold ic103
    simp only [
        grpA, vsliceS, grpS, grpD, grpF, grpL, eop, vop, bop, uop, fltop, convop, endOk, newE, new1, freshL, Md.isNew, outV, pureV, pureX, pure1, AV.cells, AV.one, storable, laid, refless, refless1, vload, loadC, storeC, vnil, vfaddr, vextract, flatT, flatE, flatC, vconv, vmm, vidxA, viaddrA, vfield, vlen, elemsOf, dF32, dF64, dI64, dU8, dBool, dStr, esOk, elemsS, vsliceX, bnd, ownV, ownC, own1, ownT, isSl, nSl, endL, Md.isOwn, purge, purgeH, purgeB, purgeE, hasName, name1, List.any_cons, List.any_nil, Md.isWr, pureV.pureP, Option.map, reduceIte, Nat.reduceEqDiff, Nat.reduceAdd, Nat.reduceMul, Nat.reduceLT, Nat.reduceLeDiff, List.mapM_cons, List.mapM_nil, Option.pure_def, Option.bind_eq_bind, Option.bind_some, implies_true, forall_const, beq_self_eq_true, decide_true, decide_false, eq_self, Int.reduceEq, Int.reduceLE, Int.reduceLT, if_true, if_false, grpK, Int.reduceAdd, Int.reduceSub, Int.reduceMul, Int.reduceNeg, Int.reducePow, Nat.reducePow, Int.reduceToNat, Nat.reduceSub, List.replicate, Nat.reduceBEq, wAs, wA, wC, zipW, noDupN, grpE, beq_true, beq_false]
    all_goals (try simp only [*, m_spec_l02No, Bool.and_true, Bool.true_and, Bool.and_false, Bool.false_and, Bool.or_true, Bool.true_or, Bool.or_false, Bool.false_or, Bool.not_true, Bool.not_false, Bool.false_eq_true, if_true, if_false, reduceIte, decide_true, decide_false])
    all_goals (try (simp_all; done))
  · cases h
def m_spec_l02Mend (x0 : (Nat × Nat × Nat × Nat)) : (Nat × Nat × Nat × Nat) := (if (feq .f32 (m_spec_l01Sqrt (m_spec_l02Inner x0 x0)) 0) = true then (m_spec_l02No) else (if (m_spec_l01Finite (m_spec_l01Sqrt (m_spec_l02Inner x0 x0))) = true then ((fdiv .f32 x0.1 (m_spec_l01Sqrt (m_spec_l02Inner x0 x0))), (fdiv .f32 x0.2.1 (m_spec_l01Sqrt (m_spec_l02Inner x0 x0))), (fdiv .f32 x0.2.2.1 (m_spec_l01Sqrt (m_spec_l02Inner x0 x0))), (fdiv .f32 x0.2.2.2 (m_spec_l01Sqrt (m_spec_l02Inner x0 x0)))) else (m_spec_l02No)))
def p_spec_l02Mend (x0 : (Nat × Nat × Nat × Nat)) : Bool := (p_spec_l01Sqrt (m_spec_l02Inner x0 x0))
def g_spec_l02Mend : List AV → Option AV
  | [.agg [.flt .f32 y0, .flt .f32 y1, .flt .f32 y2, .flt .f32 y3]] => if p_spec_l02Mend (y0, y1, y2, y3) = true then some (AV.agg [(.flt .f32 (m_spec_l02Mend (y0, y1, y2, y3)).1), (.flt .f32 (m_spec_l02Mend (y0, y1, y2, y3)).2.1), (.flt .f32 (m_spec_l02Mend (y0, y1, y2, y3)).2.2.1), (.flt .f32 (m_spec_l02Mend (y0, y1, y2, y3)).2.2.2)]) else none
  | _ => none
def ic83 : ICode := (.seq (.reg [⟨(some 1), none, (.box 4 (.t 0))⟩, ⟨(some 2), none, (.alloc (.agg [(.flt .f32 0), (.flt .f32 0), (.flt .f32 0), (.flt .f32 0)]))⟩] [1, 2]) (.seq (.reg [⟨(some 4), none, (.load (some 4) (.t 1))⟩, ⟨(some 5), none, (.load (some 4) (.t 1))⟩, ⟨(some 6), none, (.call (.fn 102) [(.t 4), (.t 5)] [])⟩, ⟨(some 7), none, (.call (.fn 82) [(.t 6)] [])⟩, ⟨(some 3), none, (.mov (.t 7))⟩] [1, 2, 3]) (.seq (.seq (.reg [⟨(some 8), none, (.mov (.t 3))⟩, ⟨(some 9), none, (.bin .eql false (.t 8) (.c (.flt .f32 0)))⟩, ⟨(some 10), none, (.mov (.t 9))⟩, ⟨(some 11), (some (10, false)), (.mov (.t 3))⟩, ⟨(some 12), (some (10, false)), (.call (.fn 88) [(.t 11)] [])⟩, ⟨(some 13), (some (10, false)), (.un .not (.t 12))⟩, ⟨(some 14), none, (.pick (.t 10) (.c (.bool true)) (.t 13))⟩] [1, 2, 3, 14]) (.cond (.t 14) (.seq (.reg [⟨(some 15), none, (.call (.fn 103) [] [])⟩, ⟨none, none, (.store 4 (.t 2) (.t 15))⟩] [2]) .ret) .skip)) (.seq (.reg [⟨(some 16), none, (.faddr 0 (.t 1))⟩, ⟨(some 17), none, (.load none (.t 16))⟩, ⟨(some 18), none, (.mov (.t 3))⟩, ⟨(some 19), none, (.bin .quo false (.t 17) (.t 18))⟩, ⟨(some 20), none, (.faddr 1 (.t 1))⟩, ⟨(some 21), none, (.load none (.t 20))⟩, ⟨(some 22), none, (.mov (.t 3))⟩, ⟨(some 23), none, (.bin .quo false (.t 21) (.t 22))⟩, ⟨(some 24), none, (.faddr 2 (.t 1))⟩, ⟨(some 25), none, (.load none (.t 24))⟩, ⟨(some 26), none, (.mov (.t 3))⟩, ⟨(some 27), none, (.bin .quo false (.t 25) (.t 26))⟩, ⟨(some 28), none, (.faddr 3 (.t 1))⟩, ⟨(some 29), none, (.load none (.t 28))⟩, ⟨(some 30), none, (.mov (.t 3))⟩, ⟨(some 31), none, (.bin .quo false (.t 29) (.t 30))⟩, ⟨(some 32), none, (.build [(.flt .f32 0), (.flt .f32 0), (.flt .f32 0), (.flt .f32 0)] [(0, 1, (.t 19)), (1, 1, (.t 23)), (2, 1, (.t 27)), (3, 1, (.t 31))])⟩, ⟨none, none, (.store 4 (.t 2) (.t 32))⟩] [2]) .ret))))
def cp83 : CP := CP.mk [] [] [[1, 2], [1, 2, 3], [1, 2, 3, 14], [2], [2]] 33 [] []
theorem s83 : ∀ vs r, g_spec_l02Mend vs = some r → SaysM Try.prog .any 83 vs r := by
  intro vs r h
  unfold g_spec_l02Mend at h
  split at h
  · rename_i y0 y1 y2 y3
    split at h
    · rename_i hp
      cases h
      refine spec_of (m := .any) (tab := tabOf [(82, wM .any g_spec_l01Sqrt), (88, wM .any g_spec_l01Finite), (102, wM .any g_spec_l02Inner), (103, wM .any g_spec_l02No)]) (cp := cp83) (ic := ic83) (rvl := [(.c 2 (some 4))]) hm (tabOk_cons (m := .any) s82 (tabOk_cons (m := .any) s88 (tabOk_cons (m := .any) s102 (tabOk_cons (m := .any) s103 tabOk_nil)))) Try.func83 rfl rfl rfl (by kernel_rfl) rfl (Nat.le_of_ble_eq_true rfl) (Nat.le_of_ble_eq_true rfl) ?_
      show eA _ _ _ _
      unfold ic83
      simp only [p_spec_l02Mend, Bool.and_eq_true, Bool.or_eq_true, decide_eq_true_eq, Bool.not_eq_true', decide_eq_false_iff_not] at hp
      refine eS_to ?_
      repeat' (first
        | ((first | (have h := True.intro; refine eS_of ?_) | (refine eGI_of (fun h => ?_) (fun h => ?_)) | (refine eCc_of (fun h => ?_) (fun h => ?_)) | (refine ePk_of (fun h => ?_) (fun h => ?_))) <;> (try simp only [Bool.not_eq_true', Bool.not_eq_false'] at h) <;> (try first | exact absurd (Eq.trans (Eq.symm h) (by assumption)) Bool.false_ne_true | exact absurd (Eq.trans (Eq.symm h) (by assumption)) (Ne.symm Bool.false_ne_true)) <;> (try simp only [h, reduceCtorEq, grpN, Int.reduceEq, Int.reduceLT, Int.reduceLE, if_true, if_false, reduceIte] at hp) <;> (first | (have h2 := h; simp only [decide_eq_true_eq, decide_eq_false_iff_not] at h2; (first | (replace h2 := eq_false h2) | (replace h2 := eq_true h2)); (try simp only [h2, reduceCtorEq, grpN, Int.reduceEq, Int.reduceLT, Int.reduceLE, if_true, if_false, reduceIte] at hp); replace hp := And.intro h2 hp) | (replace hp := And.intro h hp) | skip) <;> simp only [h,
          hp, grpA, vsliceS, grpS, grpD, grpF, grpL, eop, vop, bop, uop, fltop, convop, endOk, newE, new1, freshL, Md.isNew, outV, pureV, pureX, pure1, AV.cells, AV.one, storable, laid, refless, refless1, vload, loadC, storeC, vnil, vfaddr, vextract, flatT, flatE, flatC, vconv, vmm, vidxA, viaddrA, vfield, vlen, elemsOf, dF32, dF64, dI64, dU8, dBool, dStr, esOk, elemsS, vsliceX, bnd, ownV, ownC, own1, ownT, isSl, nSl, endL, Md.isOwn, purge, purgeH, purgeB, purgeE, hasName, name1, List.any_cons, List.any_nil, Md.isWr, pureV.pureP, Option.map, reduceIte, Nat.reduceEqDiff, Nat.reduceAdd, Nat.reduceMul, Nat.reduceLT, Nat.reduceLeDiff, List.mapM_cons, List.mapM_nil, Option.pure_def, Option.bind_eq_bind, Option.bind_some, implies_true, forall_const, beq_self_eq_true, decide_true, decide_false, eq_self, Int.reduceEq, Int.reduceLE, Int.reduceLT, if_true, if_false, grpK, Int.reduceAdd, Int.reduceSub, Int.reduceMul, Int.reduceNeg, Int.reducePow, Nat.reducePow, Int.reduceToNat, Nat.reduceSub, List.replicate, Nat.reduceBEq, wAs, wA, wC, zipW, noDupN, grpE, beq_true, beq_false, g_spec_l01Sqrt, g_spec_l01Finite, g_spec_l02Inner, g_spec_l02No, ↓b_pick, ePk_true, ePk_false]))
      all_goals (try simp only [*, m_spec_l02Mend, Bool.and_true, Bool.true_and, Bool.and_false, Bool.false_and, Bool.or_true, Bool.true_or, Bool.or_false, Bool.false_or, Bool.not_true, Bool.not_false, Bool.false_eq_true, if_true, if_false, reduceIte, decide_true, decide_false])
      all_goals (try (simp_all; done))
    · cases h
  · cases h
def m_spec_l06List (x0 : (Nat × Nat × Nat × Nat)) : (List Nat) := [x0.1, x0.2.1, x0.2.2.1, x0.2.2.2]
def g_spec_l06List : List AV → Option AV
  | [.agg [.flt .f32 y0, .flt .f32 y1, .flt .f32 y2, .flt .f32 y3]] => some (.sl (List.map (AV.flt .f32) (m_spec_l06List (y0, y1, y2, y3))))
  | _ => none
def ic89 : ICode := (.seq (.reg [⟨(some 1), none, (.box 4 (.t 0))⟩, ⟨(some 2), none, (.mov (.c .snil))⟩] [1]) (.seq (.reg [⟨(some 3), none, (.faddr 0 (.t 1))⟩, ⟨(some 4), none, (.load none (.t 3))⟩, ⟨(some 5), none, (.faddr 1 (.t 1))⟩, ⟨(some 6), none, (.load none (.t 5))⟩, ⟨(some 7), none, (.faddr 2 (.t 1))⟩, ⟨(some 8), none, (.load none (.t 7))⟩, ⟨(some 9), none, (.faddr 3 (.t 1))⟩, ⟨(some 10), none, (.load none (.t 9))⟩, ⟨(some 11), none, (.bslice 1 4 (.flt .f32 0) [(0, (.t 4)), (1, (.t 6)), (2, (.t 8)), (3, (.t 10))])⟩, ⟨(some 2), none, (.mov (.t 11))⟩] [2]) .ret))
def cp89 : CP := CP.mk [] [] [[1], [2]] 12 [] []
theorem s89 : ∀ vs r, g_spec_l06List vs = some r → SaysM Try.prog (.own [1]) 89 vs r := by
  intro vs r h
  unfold g_spec_l06List at h
  split at h
  · rename_i y0 y1 y2 y3
    cases h
    refine spec_of (m := (.own [1])) (tab := tabOf []) (cp := cp89) (ic := ic89) (rvl := [(.t 2)]) hm tabOk_nil Try.func89 rfl rfl rfl (by kernel_rfl) rfl (Nat.le_of_ble_eq_true rfl) (Nat.le_of_ble_eq_true rfl) ?_
    show eA _ _ _ _
    unfold ic89
    simp only [
        grpA, vsliceS, grpS, grpD, grpF, grpL, eop, vop, bop, uop, fltop, convop, endOk, newE, new1, freshL, Md.isNew, outV, pureV, pureX, pure1, AV.cells, AV.one, storable, laid, refless, refless1, vload, loadC, storeC, vnil, vfaddr, vextract, flatT, flatE, flatC, vconv, vmm, vidxA, viaddrA, vfield, vlen, elemsOf, dF32, dF64, dI64, dU8, dBool, dStr, esOk, elemsS, vsliceX, bnd, ownV, ownC, own1, ownT, isSl, nSl, endL, Md.isOwn, purge, purgeH, purgeB, purgeE, hasName, name1, List.any_cons, List.any_nil, Md.isWr, pureV.pureP, Option.map, reduceIte, Nat.reduceEqDiff, Nat.reduceAdd, Nat.reduceMul, Nat.reduceLT, Nat.reduceLeDiff, List.mapM_cons, List.mapM_nil, Option.pure_def, Option.bind_eq_bind, Option.bind_some, implies_true, forall_const, beq_self_eq_true, decide_true, decide_false, eq_self, Int.reduceEq, Int.reduceLE, Int.reduceLT, if_true, if_false, grpK, Int.reduceAdd, Int.reduceSub, Int.reduceMul, Int.reduceNeg, Int.reducePow, Nat.reducePow, Int.reduceToNat, Nat.reduceSub, List.replicate, Nat.reduceBEq, wAs, wA, wC, zipW, noDupN, grpE, beq_true, beq_false]
    all_goals (try simp only [*, m_spec_l06List, Bool.and_true, Bool.true_and, Bool.and_false, Bool.false_and, Bool.or_true, Bool.true_or, Bool.or_false, Bool.false_or, Bool.not_true, Bool.not_false, Bool.false_eq_true, if_true, if_false, reduceIte, decide_true, decide_false])
    all_goals (try (simp_all; done))
  · cases h
theorem s111 : ∀ vs r, g_f32bits vs = some r → SaysM Try.prog .any 111 vs r := t_f32bits Try.func111 (by kernel_rfl) rfl (by kernel_rfl) (by kernel_rfl)
def m_spec_l01Bits (x0 : Nat) : Int := (if (feq .f32 x0 x0) = true then (IntKind.wrap .i64 ((x0 : Nat) : Int)) else 2143289344)
def p_spec_l01Bits (x0 : Nat) : Bool := (!(feq .f32 x0 x0) || (feq .f32 x0 x0))
def g_spec_l01Bits : List AV → Option AV
  | [.flt .f32 y0] => if p_spec_l01Bits y0 = true then some (.int .i64 (m_spec_l01Bits y0)) else none
  | _ => none
def ic107 : ICode := (.seq (.reg [⟨(some 2), none, (.mov (.c (.int .i64 0)))⟩] [0]) (.seq (.seq (.reg [⟨(some 3), none, (.mov (.t 0))⟩, ⟨(some 4), none, (.mov (.t 0))⟩, ⟨(some 5), none, (.bin .neq false (.t 3) (.t 4))⟩] [0, 5]) (.cond (.t 5) (.seq (.reg [⟨(some 2), none, (.mov (.c (.int .i64 2143289344)))⟩] [2]) .ret) .skip)) (.seq (.reg [⟨(some 6), none, (.mov (.t 0))⟩, ⟨(some 7), none, (.call (.fn 111) [(.t 6)] [])⟩, ⟨(some 8), none, (.conv (.int .i64) (.t 7))⟩, ⟨(some 2), none, (.mov (.t 8))⟩] [2]) .ret)))
def cp107 : CP := CP.mk [] [] [[0], [0, 5], [2], [2]] 9 [] []
theorem s107 : ∀ vs r, g_spec_l01Bits vs = some r → SaysM Try.prog .any 107 vs r := by
  intro vs r h
  unfold g_spec_l01Bits at h
  split at h
  · rename_i y0
    split at h
    · rename_i hp
      cases h
      refine spec_of (m := .any) (tab := tabOf [(111, wM .any g_f32bits)]) (cp := cp107) (ic := ic107) (rvl := [(.t 2)]) hm (tabOk_cons (m := .any) s111 tabOk_nil) Try.func107 rfl rfl rfl (by kernel_rfl) rfl (Nat.le_of_ble_eq_true rfl) (Nat.le_of_ble_eq_true rfl) ?_
      show eA _ _ _ _
      unfold ic107
      simp only [p_spec_l01Bits, Bool.and_eq_true, Bool.or_eq_true, decide_eq_true_eq, Bool.not_eq_true', decide_eq_false_iff_not] at hp
      refine eS_to ?_
      repeat' (first
        | ((first | (have h := True.intro; refine eS_of ?_) | (refine eGI_of (fun h => ?_) (fun h => ?_)) | (refine eCc_of (fun h => ?_) (fun h => ?_))) <;> (try simp only [Bool.not_eq_true', Bool.not_eq_false'] at h) <;> (try first | exact absurd (Eq.trans (Eq.symm h) (by assumption)) Bool.false_ne_true | exact absurd (Eq.trans (Eq.symm h) (by assumption)) (Ne.symm Bool.false_ne_true)) <;> (try simp only [h, reduceCtorEq, grpN, Int.reduceEq, Int.reduceLT, Int.reduceLE, if_true, if_false, reduceIte] at hp) <;> (first | (have h2 := h; simp only [decide_eq_true_eq, decide_eq_false_iff_not] at h2; (first | (replace h2 := eq_false h2) | (replace h2 := eq_true h2)); (try simp only [h2, reduceCtorEq, grpN, Int.reduceEq, Int.reduceLT, Int.reduceLE, if_true, if_false, reduceIte] at hp); replace hp := And.intro h2 hp) | (replace hp := And.intro h hp) | skip) <;> simp only [h,
          hp, grpA, vsliceS, grpS, grpD, grpF, grpL, eop, vop, bop, uop, fltop, convop, endOk, newE, new1, freshL, Md.isNew, outV, pureV, pureX, pure1, AV.cells, AV.one, storable, laid, refless, refless1, vload, loadC, storeC, vnil, vfaddr, vextract, flatT, flatE, flatC, vconv, vmm, vidxA, viaddrA, vfield, vlen, elemsOf, dF32, dF64, dI64, dU8, dBool, dStr, esOk, elemsS, vsliceX, bnd, ownV, ownC, own1, ownT, isSl, nSl, endL, Md.isOwn, purge, purgeH, purgeB, purgeE, hasName, name1, List.any_cons, List.any_nil, Md.isWr, pureV.pureP, Option.map, reduceIte, Nat.reduceEqDiff, Nat.reduceAdd, Nat.reduceMul, Nat.reduceLT, Nat.reduceLeDiff, List.mapM_cons, List.mapM_nil, Option.pure_def, Option.bind_eq_bind, Option.bind_some, implies_true, forall_const, beq_self_eq_true, decide_true, decide_false, eq_self, Int.reduceEq, Int.reduceLE, Int.reduceLT, if_true, if_false, grpK, Int.reduceAdd, Int.reduceSub, Int.reduceMul, Int.reduceNeg, Int.reducePow, Nat.reducePow, Int.reduceToNat, Nat.reduceSub, List.replicate, Nat.reduceBEq, wAs, wA, wC, zipW, noDupN, grpE, beq_true, beq_false, g_f32bits]))
      all_goals (try simp only [*, m_spec_l01Bits, Bool.and_true, Bool.true_and, Bool.and_false, Bool.false_and, Bool.or_true, Bool.true_or, Bool.or_false, Bool.false_or, Bool.not_true, Bool.not_false, Bool.false_eq_true, if_true, if_false, reduceIte, decide_true, decide_false])
      all_goals (try (simp_all; done))
    · cases h
  · cases h
theorem s110 : ∀ vs r, g_f32from vs = some r → SaysM Try.prog .any 110 vs r := t_f32from Try.func110 (by kernel_rfl) rfl (by kernel_rfl) (by kernel_rfl)
def m_spec_l01From (x0 : Int) : Nat := (cn .f32 (Int.toNat (IntKind.wrap .u32 x0)))
def g_spec_l01From : List AV → Option AV
  | [.int .i64 y0] => some (.flt .f32 (m_spec_l01From y0))
  | _ => none
def ic106 : ICode := (.seq (.reg [⟨(some 2), none, (.mov (.c (.flt .f32 0)))⟩] [0]) (.seq (.reg [⟨(some 3), none, (.mov (.t 0))⟩, ⟨(some 4), none, (.conv (.int .u32) (.t 3))⟩, ⟨(some 5), none, (.call (.fn 110) [(.t 4)] [])⟩, ⟨(some 2), none, (.mov (.t 5))⟩] [2]) .ret))
def cp106 : CP := CP.mk [] [] [[0], [2]] 6 [] []
theorem s106 : ∀ vs r, g_spec_l01From vs = some r → SaysM Try.prog .any 106 vs r := by
  intro vs r h
  unfold g_spec_l01From at h
  split at h
  · rename_i y0
    cases h
    refine spec_of (m := .any) (tab := tabOf [(110, wM .any g_f32from)]) (cp := cp106) (ic := ic106) (rvl := [(.t 2)]) hm (tabOk_cons (m := .any) s110 tabOk_nil) Try.func106 rfl rfl rfl (by kernel_rfl) rfl (Nat.le_of_ble_eq_true rfl) (Nat.le_of_ble_eq_true rfl) ?_
    show eA _ _ _ _
    unfold ic106
    simp only [
        grpA, vsliceS, grpS, grpD, grpF, grpL, eop, vop, bop, uop, fltop, convop, endOk, newE, new1, freshL, Md.isNew, outV, pureV, pureX, pure1, AV.cells, AV.one, storable, laid, refless, refless1, vload, loadC, storeC, vnil, vfaddr, vextract, flatT, flatE, flatC, vconv, vmm, vidxA, viaddrA, vfield, vlen, elemsOf, dF32, dF64, dI64, dU8, dBool, dStr, esOk, elemsS, vsliceX, bnd, ownV, ownC, own1, ownT, isSl, nSl, endL, Md.isOwn, purge, purgeH, purgeB, purgeE, hasName, name1, List.any_cons, List.any_nil, Md.isWr, pureV.pureP, Option.map, reduceIte, Nat.reduceEqDiff, Nat.reduceAdd, Nat.reduceMul, Nat.reduceLT, Nat.reduceLeDiff, List.mapM_cons, List.mapM_nil, Option.pure_def, Option.bind_eq_bind, Option.bind_some, implies_true, forall_const, beq_self_eq_true, decide_true, decide_false, eq_self, Int.reduceEq, Int.reduceLE, Int.reduceLT, if_true, if_false, grpK, Int.reduceAdd, Int.reduceSub, Int.reduceMul, Int.reduceNeg, Int.reducePow, Nat.reducePow, Int.reduceToNat, Nat.reduceSub, List.replicate, Nat.reduceBEq, wAs, wA, wC, zipW, noDupN, grpE, beq_true, beq_false, g_f32from]
    all_goals (try simp only [*, m_spec_l01From, Bool.and_true, Bool.true_and, Bool.and_false, Bool.false_and, Bool.or_true, Bool.true_or, Bool.or_false, Bool.false_or, Bool.not_true, Bool.not_false, Bool.false_eq_true, if_true, if_false, reduceIte, decide_true, decide_false])
    all_goals (try (simp_all; done))
  · cases h
def m_spec_l02Size (x0 : Nat) : Nat := (m_spec_l01From (bitop .andNot .i64 (m_spec_l01Bits x0) 2147483648))
def p_spec_l02Size (x0 : Nat) : Bool := (p_spec_l01Bits x0)
def g_spec_l02Size : List AV → Option AV
  | [.flt .f32 y0] => if p_spec_l02Size y0 = true then some (.flt .f32 (m_spec_l02Size y0)) else none
  | _ => none
def ic90 : ICode := (.seq (.reg [⟨(some 2), none, (.mov (.c (.flt .f32 0)))⟩] [0]) (.seq (.reg [⟨(some 3), none, (.mov (.t 0))⟩, ⟨(some 4), none, (.call (.fn 107) [(.t 3)] [])⟩, ⟨(some 5), none, (.bin .andNot false (.t 4) (.c (.int .i64 2147483648)))⟩, ⟨(some 6), none, (.call (.fn 106) [(.t 5)] [])⟩, ⟨(some 2), none, (.mov (.t 6))⟩] [2]) .ret))
def cp90 : CP := CP.mk [] [] [[0], [2]] 7 [] []
theorem s90 : ∀ vs r, g_spec_l02Size vs = some r → SaysM Try.prog .any 90 vs r := by
  intro vs r h
  unfold g_spec_l02Size at h
  split at h
  · rename_i y0
    split at h
    · rename_i hp
      cases h
      refine spec_of (m := .any) (tab := tabOf [(106, wM .any g_spec_l01From), (107, wM .any g_spec_l01Bits)]) (cp := cp90) (ic := ic90) (rvl := [(.t 2)]) hm (tabOk_cons (m := .any) s106 (tabOk_cons (m := .any) s107 tabOk_nil)) Try.func90 rfl rfl rfl (by kernel_rfl) rfl (Nat.le_of_ble_eq_true rfl) (Nat.le_of_ble_eq_true rfl) ?_
      show eA _ _ _ _
      unfold ic90
      simp only [p_spec_l02Size, Bool.and_eq_true, Bool.or_eq_true, decide_eq_true_eq, Bool.not_eq_true', decide_eq_false_iff_not] at hp
      simp only [
          hp, grpA, vsliceS, grpS, grpD, grpF, grpL, eop, vop, bop, uop, fltop, convop, endOk, newE, new1, freshL, Md.isNew, outV, pureV, pureX, pure1, AV.cells, AV.one, storable, laid, refless, refless1, vload, loadC, storeC, vnil, vfaddr, vextract, flatT, flatE, flatC, vconv, vmm, vidxA, viaddrA, vfield, vlen, elemsOf, dF32, dF64, dI64, dU8, dBool, dStr, esOk, elemsS, vsliceX, bnd, ownV, ownC, own1, ownT, isSl, nSl, endL, Md.isOwn, purge, purgeH, purgeB, purgeE, hasName, name1, List.any_cons, List.any_nil, Md.isWr, pureV.pureP, Option.map, reduceIte, Nat.reduceEqDiff, Nat.reduceAdd, Nat.reduceMul, Nat.reduceLT, Nat.reduceLeDiff, List.mapM_cons, List.mapM_nil, Option.pure_def, Option.bind_eq_bind, Option.bind_some, implies_true, forall_const, beq_self_eq_true, decide_true, decide_false, eq_self, Int.reduceEq, Int.reduceLE, Int.reduceLT, if_true, if_false, grpK, Int.reduceAdd, Int.reduceSub, Int.reduceMul, Int.reduceNeg, Int.reducePow, Nat.reducePow, Int.reduceToNat, Nat.reduceSub, List.replicate, Nat.reduceBEq, wAs, wA, wC, zipW, noDupN, grpE, beq_true, beq_false, g_spec_l01From, g_spec_l01Bits]
      all_goals (try simp only [*, m_spec_l02Size, Bool.and_true, Bool.true_and, Bool.and_false, Bool.false_and, Bool.or_true, Bool.true_or, Bool.or_false, Bool.false_or, Bool.not_true, Bool.not_false, Bool.false_eq_true, if_true, if_false, reduceIte, decide_true, decide_false])
      all_goals (try (simp_all; done))
    · cases h
  · cases h
def m_spec_l06Most (x0 : Int) : Int := (IntKind.wrap .i64 ((IntKind.wrap .i64 (1 * 2 ^ (min ((IntKind.wrap .u64 x0) : Int).toNat 64))) - 1))
def p_spec_l06Most (x0 : Int) : Bool := (decide (0 ≤ (IntKind.wrap .u64 x0)))
def g_spec_l06Most : List AV → Option AV
  | [.int .i64 y0] => if p_spec_l06Most y0 = true then some (.int .i64 (m_spec_l06Most y0)) else none
  | _ => none
def ic80 : ICode := (.seq (.reg [⟨(some 2), none, (.mov (.c (.int .i64 0)))⟩] [0]) (.seq (.reg [⟨(some 3), none, (.mov (.t 0))⟩, ⟨(some 4), none, (.conv (.int .u64) (.t 3))⟩, ⟨(some 5), none, (.bin .shl false (.c (.int .i64 1)) (.t 4))⟩, ⟨(some 6), none, (.bin .sub false (.t 5) (.c (.int .i64 1)))⟩, ⟨(some 2), none, (.mov (.t 6))⟩] [2]) .ret))
def cp80 : CP := CP.mk [] [] [[0], [2]] 7 [] []
theorem s80 : ∀ vs r, g_spec_l06Most vs = some r → SaysM Try.prog .any 80 vs r := by
  intro vs r h
  unfold g_spec_l06Most at h
  split at h
  · rename_i y0
    split at h
    · rename_i hp
      cases h
      refine spec_of (m := .any) (tab := tabOf []) (cp := cp80) (ic := ic80) (rvl := [(.t 2)]) hm tabOk_nil Try.func80 rfl rfl rfl (by kernel_rfl) rfl (Nat.le_of_ble_eq_true rfl) (Nat.le_of_ble_eq_true rfl) ?_
      show eA _ _ _ _
      unfold ic80
      simp only [p_spec_l06Most, Bool.and_eq_true, Bool.or_eq_true, decide_eq_true_eq, Bool.not_eq_true', decide_eq_false_iff_not] at hp
      simp only [
          hp, grpA, vsliceS, grpS, grpD, grpF, grpL, eop, vop, bop, uop, fltop, convop, endOk, newE, new1, freshL, Md.isNew, outV, pureV, pureX, pure1, AV.cells, AV.one, storable, laid, refless, refless1, vload, loadC, storeC, vnil, vfaddr, vextract, flatT, flatE, flatC, vconv, vmm, vidxA, viaddrA, vfield, vlen, elemsOf, dF32, dF64, dI64, dU8, dBool, dStr, esOk, elemsS, vsliceX, bnd, ownV, ownC, own1, ownT, isSl, nSl, endL, Md.isOwn, purge, purgeH, purgeB, purgeE, hasName, name1, List.any_cons, List.any_nil, Md.isWr, pureV.pureP, Option.map, reduceIte, Nat.reduceEqDiff, Nat.reduceAdd, Nat.reduceMul, Nat.reduceLT, Nat.reduceLeDiff, List.mapM_cons, List.mapM_nil, Option.pure_def, Option.bind_eq_bind, Option.bind_some, implies_true, forall_const, beq_self_eq_true, decide_true, decide_false, eq_self, Int.reduceEq, Int.reduceLE, Int.reduceLT, if_true, if_false, grpK, Int.reduceAdd, Int.reduceSub, Int.reduceMul, Int.reduceNeg, Int.reducePow, Nat.reducePow, Int.reduceToNat, Nat.reduceSub, List.replicate, Nat.reduceBEq, wAs, wA, wC, zipW, noDupN, grpE, beq_true, beq_false]
      all_goals (try simp only [*, m_spec_l06Most, Bool.and_true, Bool.true_and, Bool.and_false, Bool.false_and, Bool.or_true, Bool.true_or, Bool.or_false, Bool.false_or, Bool.not_true, Bool.not_false, Bool.false_eq_true, if_true, if_false, reduceIte, decide_true, decide_false])
      all_goals (try (simp_all; done))
    · cases h
  · cases h
theorem s93 : ∀ vs r, g_integral .even vs = some r → SaysM Try.prog .any 93 vs r := t_integral (name := "math.RoundToEven") Try.func93 (by kernel_rfl) rfl (by kernel_rfl) (by kernel_rfl)
def v_spec_l06Code_0 (x0 : Nat) (x1 : Nat) (x2 : Nat) (x3 : Int) : Bool := (flt .f64 (ofInt .f64 (m_spec_l06Most x3)) (integral .even (fmul .f64 (fdiv .f64 (fsub .f64 (widen x0) (widen x1)) (fsub .f64 (widen x2) (widen x1))) (ofInt .f64 (m_spec_l06Most x3)))))
def m_spec_l06Code (x0 : Nat) (x1 : Nat) (x2 : Nat) (x3 : Int) : Int := (if (flt .f64 (integral .even (fmul .f64 (fdiv .f64 (fsub .f64 (widen x0) (widen x1)) (fsub .f64 (widen x2) (widen x1))) (ofInt .f64 (m_spec_l06Most x3)))) 0) = true then 0 else (if (v_spec_l06Code_0 x0 x1 x2 x3) = true then (m_spec_l06Most x3) else (f2iV .f64 (integral .even (fmul .f64 (fdiv .f64 (fsub .f64 (widen x0) (widen x1)) (fsub .f64 (widen x2) (widen x1))) (ofInt .f64 (m_spec_l06Most x3)))))))
def p_spec_l06Code (x0 : Nat) (x1 : Nat) (x2 : Nat) (x3 : Int) : Bool := ((p_spec_l06Most x3) && ((flt .f64 (integral .even (fmul .f64 (fdiv .f64 (fsub .f64 (widen x0) (widen x1)) (fsub .f64 (widen x2) (widen x1))) (ofInt .f64 (m_spec_l06Most x3)))) 0) || ((v_spec_l06Code_0 x0 x1 x2 x3) || (f2iOk .i64 .f64 (integral .even (fmul .f64 (fdiv .f64 (fsub .f64 (widen x0) (widen x1)) (fsub .f64 (widen x2) (widen x1))) (ofInt .f64 (m_spec_l06Most x3))))))))
def g_spec_l06Code : List AV → Option AV
  | [.flt .f32 y0, .flt .f32 y1, .flt .f32 y2, .int .i64 y3] => if p_spec_l06Code y0 y1 y2 y3 = true then some (.int .i64 (m_spec_l06Code y0 y1 y2 y3)) else none
  | _ => none
def ic91 : ICode := (.seq (.reg [⟨(some 8), none, (.mov (.c (.int .i64 0)))⟩] [0, 1, 2, 3]) (.seq (.reg [⟨(some 11), none, (.mov (.t 0))⟩, ⟨(some 12), none, (.conv (.flt .f64) (.t 11))⟩, ⟨(some 13), none, (.mov (.t 1))⟩, ⟨(some 14), none, (.conv (.flt .f64) (.t 13))⟩, ⟨(some 15), none, (.bin .sub false (.t 12) (.t 14))⟩, ⟨(some 16), none, (.mov (.t 2))⟩, ⟨(some 17), none, (.conv (.flt .f64) (.t 16))⟩, ⟨(some 18), none, (.mov (.t 1))⟩, ⟨(some 19), none, (.conv (.flt .f64) (.t 18))⟩, ⟨(some 20), none, (.bin .sub false (.t 17) (.t 19))⟩, ⟨(some 21), none, (.bin .quo false (.t 15) (.t 20))⟩, ⟨(some 9), none, (.mov (.t 21))⟩] [3, 9]) (.seq (.reg [⟨(some 22), none, (.mov (.t 9))⟩, ⟨(some 23), none, (.mov (.t 3))⟩, ⟨(some 24), none, (.call (.fn 80) [(.t 23)] [])⟩, ⟨(some 25), none, (.conv (.flt .f64) (.t 24))⟩, ⟨(some 26), none, (.bin .mul false (.t 22) (.t 25))⟩, ⟨(some 27), none, (.call (.fn 93) [(.t 26)] [])⟩, ⟨(some 10), none, (.mov (.t 27))⟩] [3, 10]) (.seq (.seq (.reg [⟨(some 28), none, (.mov (.t 10))⟩, ⟨(some 29), none, (.bin .lss false (.t 28) (.c (.flt .f64 0)))⟩] [3, 10, 29]) (.cond (.t 29) (.seq (.reg [⟨(some 8), none, (.mov (.c (.int .i64 0)))⟩] [8]) .ret) .skip)) (.seq (.seq (.reg [⟨(some 30), none, (.mov (.t 10))⟩, ⟨(some 31), none, (.mov (.t 3))⟩, ⟨(some 32), none, (.call (.fn 80) [(.t 31)] [])⟩, ⟨(some 33), none, (.conv (.flt .f64) (.t 32))⟩, ⟨(some 34), none, (.bin .gtr false (.t 30) (.t 33))⟩] [3, 10, 34]) (.cond (.t 34) (.seq (.reg [⟨(some 35), none, (.mov (.t 3))⟩, ⟨(some 36), none, (.call (.fn 80) [(.t 35)] [])⟩, ⟨(some 8), none, (.mov (.t 36))⟩] [8]) .ret) .skip)) (.seq (.reg [⟨(some 37), none, (.mov (.t 10))⟩, ⟨(some 38), none, (.conv (.int .i64) (.t 37))⟩, ⟨(some 8), none, (.mov (.t 38))⟩] [8]) .ret))))))
def cp91 : CP := CP.mk [] [] [[0, 1, 2, 3], [3, 9], [3, 10], [3, 10, 29], [8], [3, 10, 34], [8], [8]] 39 [] []
theorem s91 : ∀ vs r, g_spec_l06Code vs = some r → SaysM Try.prog .any 91 vs r := by
  intro vs r h
  unfold g_spec_l06Code at h
  split at h
  · rename_i y0 y1 y2 y3
    split at h
    · rename_i hp
      cases h
      refine spec_of (m := .any) (tab := tabOf [(80, wM .any g_spec_l06Most), (93, wM .any (g_integral .even))]) (cp := cp91) (ic := ic91) (rvl := [(.t 8)]) hm (tabOk_cons (m := .any) s80 (tabOk_cons (m := .any) s93 tabOk_nil)) Try.func91 rfl rfl rfl (by kernel_rfl) rfl (Nat.le_of_ble_eq_true rfl) (Nat.le_of_ble_eq_true rfl) ?_
      show eA _ _ _ _
      unfold ic91
      simp only [p_spec_l06Code, v_spec_l06Code_0, Bool.and_eq_true, Bool.or_eq_true, decide_eq_true_eq, Bool.not_eq_true', decide_eq_false_iff_not] at hp
      refine eS_to ?_
      repeat' (first
        | ((first | (have h := True.intro; refine eS_of ?_) | (refine eGI_of (fun h => ?_) (fun h => ?_)) | (refine eCc_of (fun h => ?_) (fun h => ?_))) <;> (try simp only [Bool.not_eq_true', Bool.not_eq_false'] at h) <;> (try first | exact absurd (Eq.trans (Eq.symm h) (by assumption)) Bool.false_ne_true | exact absurd (Eq.trans (Eq.symm h) (by assumption)) (Ne.symm Bool.false_ne_true)) <;> (try simp only [h, reduceCtorEq, grpN, Int.reduceEq, Int.reduceLT, Int.reduceLE, if_true, if_false, reduceIte] at hp) <;> (first | (have h2 := h; simp only [decide_eq_true_eq, decide_eq_false_iff_not] at h2; (first | (replace h2 := eq_false h2) | (replace h2 := eq_true h2)); (try simp only [h2, reduceCtorEq, grpN, Int.reduceEq, Int.reduceLT, Int.reduceLE, if_true, if_false, reduceIte] at hp); replace hp := And.intro h2 hp) | (replace hp := And.intro h hp) | skip) <;> simp only [h,
          hp, grpA, vsliceS, grpS, grpD, grpF, grpL, eop, vop, bop, uop, fltop, convop, endOk, newE, new1, freshL, Md.isNew, outV, pureV, pureX, pure1, AV.cells, AV.one, storable, laid, refless, refless1, vload, loadC, storeC, vnil, vfaddr, vextract, flatT, flatE, flatC, vconv, vmm, vidxA, viaddrA, vfield, vlen, elemsOf, dF32, dF64, dI64, dU8, dBool, dStr, esOk, elemsS, vsliceX, bnd, ownV, ownC, own1, ownT, isSl, nSl, endL, Md.isOwn, purge, purgeH, purgeB, purgeE, hasName, name1, List.any_cons, List.any_nil, Md.isWr, pureV.pureP, Option.map, reduceIte, Nat.reduceEqDiff, Nat.reduceAdd, Nat.reduceMul, Nat.reduceLT, Nat.reduceLeDiff, List.mapM_cons, List.mapM_nil, Option.pure_def, Option.bind_eq_bind, Option.bind_some, implies_true, forall_const, beq_self_eq_true, decide_true, decide_false, eq_self, Int.reduceEq, Int.reduceLE, Int.reduceLT, if_true, if_false, grpK, Int.reduceAdd, Int.reduceSub, Int.reduceMul, Int.reduceNeg, Int.reducePow, Nat.reducePow, Int.reduceToNat, Nat.reduceSub, List.replicate, Nat.reduceBEq, wAs, wA, wC, zipW, noDupN, grpE, beq_true, beq_false, g_spec_l06Most, g_integral]))
      all_goals (try simp only [*, m_spec_l06Code, v_spec_l06Code_0, Bool.and_true, Bool.true_and, Bool.and_false, Bool.false_and, Bool.or_true, Bool.true_or, Bool.or_false, Bool.false_or, Bool.not_true, Bool.not_false, Bool.false_eq_true, if_true, if_false, reduceIte, decide_true, decide_false])
      all_goals (try (simp_all; done))
    · cases h
  · cases h
def v_spec_l06Pack_0 (x0 : (Nat × Nat × Nat × Nat)) (z0_0 : Int) (z0_1 : Int) : Int := (if (flt .f32 (m_spec_l02Size (atI (m_spec_l06List (m_spec_l02Mend x0)) z0_0)) (m_spec_l02Size (atI (m_spec_l06List (m_spec_l02Mend x0)) z0_1))) = true then z0_1 else z0_0)
def l_spec_l06Pack_0 (x0 : (Nat × Nat × Nat × Nat)) (x1 : Int) : Nat → Int → Int → Option Int
  | 0, _, _ => none
  | n + 1, z0_0, z0_1 => (if (decide (z0_1 < 4)) = true then (need (inB z0_1 (List.length (m_spec_l06List (m_spec_l02Mend x0)))) (need (p_spec_l02Size (atI (m_spec_l06List (m_spec_l02Mend x0)) z0_1)) (need (inB z0_0 (List.length (m_spec_l06List (m_spec_l02Mend x0)))) (need (p_spec_l02Size (atI (m_spec_l06List (m_spec_l02Mend x0)) z0_0)) (l_spec_l06Pack_0 x0 x1 n (v_spec_l06Pack_0 x0 z0_0 z0_1) (IntKind.wrap .i64 (z0_1 + 1))))))) else (some z0_0))
def v_spec_l06Pack_4 (x0 : (Nat × Nat × Nat × Nat)) (x1 : Int) (z1_1 : Int) : Nat := (if (flt .f32 (atI (m_spec_l06List (m_spec_l02Mend x0)) (Option.getD (l_spec_l06Pack_0 x0 x1 5 0 1) default)) 0) = true then (fneg .f32 (atI (m_spec_l06List (m_spec_l02Mend x0)) z1_1)) else (atI (m_spec_l06List (m_spec_l02Mend x0)) z1_1))
def v_spec_l06Pack_5 (x0 : (Nat × Nat × Nat × Nat)) (x1 : Int) (z1_0 : Int) (z1_1 : Int) : Int := (IntKind.wrap .i64 ((IntKind.wrap .i64 (z1_0 * 2 ^ (min ((IntKind.wrap .u64 x1) : Int).toNat 64))) + (m_spec_l06Code (v_spec_l06Pack_4 x0 x1 z1_1) 3208642560 1061158912 x1)))
def l_spec_l06Pack_1 (x0 : (Nat × Nat × Nat × Nat)) (x1 : Int) : Nat → Int → Int → Option Int
  | 0, _, _ => none
  | n + 1, z1_0, z1_1 => (if (decide (z1_1 < 4)) = true then (need (inB z1_1 (List.length (m_spec_l06List (m_spec_l02Mend x0)))) (need (inB (Option.getD (l_spec_l06Pack_0 x0 x1 5 0 1) default) (List.length (m_spec_l06List (m_spec_l02Mend x0)))) (need ((decide (z1_1 = (Option.getD (l_spec_l06Pack_0 x0 x1 5 0 1) default))) || ((decide (0 ≤ (IntKind.wrap .u64 x1))) && (p_spec_l06Code (v_spec_l06Pack_4 x0 x1 z1_1) 3208642560 1061158912 x1))) (l_spec_l06Pack_1 x0 x1 n (if (decide (z1_1 = (Option.getD (l_spec_l06Pack_0 x0 x1 5 0 1) default))) = true then z1_0 else (v_spec_l06Pack_5 x0 x1 z1_0 z1_1)) (IntKind.wrap .i64 (z1_1 + 1)))))) else (some z1_0))
def m_spec_l06Pack (x0 : (Nat × Nat × Nat × Nat)) (x1 : Int) : Int := (Option.getD (l_spec_l06Pack_1 x0 x1 6 (Option.getD (l_spec_l06Pack_0 x0 x1 5 0 1) default) 0) default)
def p_spec_l06Pack (x0 : (Nat × Nat × Nat × Nat)) (x1 : Int) : Bool := ((p_spec_l02Mend x0) && ((Option.isSome (l_spec_l06Pack_0 x0 x1 5 0 1)) && (Option.isSome (l_spec_l06Pack_1 x0 x1 6 (Option.getD (l_spec_l06Pack_0 x0 x1 5 0 1) default) 0))))
def g_spec_l06Pack : List AV → Option AV
  | [.agg [.flt .f32 y0, .flt .f32 y1, .flt .f32 y2, .flt .f32 y3], .int .i64 y4] => if p_spec_l06Pack (y0, y1, y2, y3) y4 = true then some (.int .i64 (m_spec_l06Pack (y0, y1, y2, y3) y4)) else none
  | _ => none
def lb57_0 : ICode := (.seq (.seq (.reg [⟨(some 14), none, (.mov (.t 7))⟩, ⟨(some 15), none, (.bin .lss false (.t 14) (.c (.int .i64 4)))⟩] [1, 5, 6, 7, 15]) (.cond (.t 15) .skip (.exit 0))) (.seq (.block 1 (.seq (.reg [⟨(some 18), none, (.mov (.t 5))⟩, ⟨(some 19), none, (.mov (.t 7))⟩, ⟨(some 20), none, (.iaddrS 1 (.t 18) (.t 19))⟩, ⟨(some 21), none, (.load none (.t 20))⟩, ⟨(some 22), none, (.call (.fn 90) [(.t 21)] [])⟩, ⟨(some 23), none, (.mov (.t 5))⟩, ⟨(some 24), none, (.mov (.t 6))⟩, ⟨(some 25), none, (.iaddrS 1 (.t 23) (.t 24))⟩, ⟨(some 26), none, (.load none (.t 25))⟩, ⟨(some 27), none, (.call (.fn 90) [(.t 26)] [])⟩, ⟨(some 28), none, (.bin .gtr false (.t 22) (.t 27))⟩] [1, 5, 6, 7, 28]) (.cond (.t 28) (.reg [⟨(some 29), none, (.mov (.t 7))⟩, ⟨(some 6), none, (.mov (.t 29))⟩] [1, 5, 6, 7]) .skip))) (.reg [⟨(some 16), none, (.mov (.t 7))⟩, ⟨(some 17), none, (.bin .add false (.t 16) (.c (.int .i64 1)))⟩, ⟨(some 7), none, (.mov (.t 17))⟩] [1, 5, 6, 7])))
def lb57_1 : ICode := (.seq (.seq (.reg [⟨(some 31), none, (.mov (.t 9))⟩, ⟨(some 32), none, (.bin .lss false (.t 31) (.c (.int .i64 4)))⟩] [1, 5, 6, 8, 9, 32]) (.cond (.t 32) .skip (.exit 2))) (.seq (.block 3 (.seq (.reg [⟨(some 35), none, (.mov (.t 5))⟩, ⟨(some 36), none, (.mov (.t 9))⟩, ⟨(some 37), none, (.iaddrS 1 (.t 35) (.t 36))⟩, ⟨(some 38), none, (.load none (.t 37))⟩, ⟨(some 10), none, (.mov (.t 38))⟩] [1, 5, 6, 8, 9, 10]) (.seq (.seq (.reg [⟨(some 39), none, (.mov (.t 5))⟩, ⟨(some 40), none, (.mov (.t 6))⟩, ⟨(some 41), none, (.iaddrS 1 (.t 39) (.t 40))⟩, ⟨(some 42), none, (.load none (.t 41))⟩, ⟨(some 43), none, (.bin .lss false (.t 42) (.c (.flt .f32 0)))⟩] [1, 5, 6, 8, 9, 10, 43]) (.cond (.t 43) (.reg [⟨(some 44), none, (.mov (.t 10))⟩, ⟨(some 45), none, (.un .neg (.t 44))⟩, ⟨(some 10), none, (.mov (.t 45))⟩] [1, 5, 6, 8, 9, 10]) .skip)) (.seq (.reg [⟨(some 46), none, (.mov (.t 9))⟩, ⟨(some 47), none, (.mov (.t 6))⟩, ⟨(some 48), none, (.bin .neq false (.t 46) (.t 47))⟩] [1, 5, 6, 8, 9, 10, 48]) (.cond (.t 48) (.reg [⟨(some 49), none, (.mov (.t 8))⟩, ⟨(some 50), none, (.mov (.t 1))⟩, ⟨(some 51), none, (.conv (.int .u64) (.t 50))⟩, ⟨(some 52), none, (.bin .shl false (.t 49) (.t 51))⟩, ⟨(some 53), none, (.mov (.t 10))⟩, ⟨(some 54), none, (.mov (.t 1))⟩, ⟨(some 55), none, (.call (.fn 91) [(.t 53), (.c (.flt .f32 3208642560)), (.c (.flt .f32 1061158912)), (.t 54)] [])⟩, ⟨(some 56), none, (.bin .add false (.t 52) (.t 55))⟩, ⟨(some 8), none, (.mov (.t 56))⟩] [1, 5, 6, 8, 9]) .skip))))) (.reg [⟨(some 33), none, (.mov (.t 9))⟩, ⟨(some 34), none, (.bin .add false (.t 33) (.c (.int .i64 1)))⟩, ⟨(some 9), none, (.mov (.t 34))⟩] [1, 5, 6, 8, 9])))
def ic57 : ICode := (.seq (.reg [⟨(some 2), none, (.box 4 (.t 0))⟩, ⟨(some 4), none, (.mov (.c (.int .i64 0)))⟩] [1, 2]) (.seq (.reg [⟨(some 11), none, (.load (some 4) (.t 2))⟩, ⟨(some 12), none, (.call (.fn 83) [(.t 11)] [])⟩, ⟨(some 13), none, (.call (.fn 89) [(.t 12)] [])⟩, ⟨(some 5), none, (.mov (.t 13))⟩] [1, 5]) (.seq (.reg [⟨(some 6), none, (.mov (.c (.int .i64 0)))⟩] [1, 5, 6]) (.seq (.seq (.reg [⟨(some 7), none, (.mov (.c (.int .i64 1)))⟩] [1, 5, 6, 7]) (.block 0 (.loop lb57_0))) (.seq (.reg [⟨(some 30), none, (.mov (.t 6))⟩, ⟨(some 8), none, (.mov (.t 30))⟩] [1, 5, 6, 8]) (.seq (.seq (.reg [⟨(some 9), none, (.mov (.c (.int .i64 0)))⟩] [1, 5, 6, 8, 9]) (.block 2 (.loop lb57_1))) (.seq (.reg [⟨(some 57), none, (.mov (.t 8))⟩, ⟨(some 4), none, (.mov (.t 57))⟩] [4]) .ret)))))))
def cp57 : CP := CP.mk [] [] [[1, 2], [1, 5], [1, 5, 6], [1, 5, 6, 7], [1, 5, 6, 7, 15], [1, 5, 6, 7], [1, 5, 6, 7, 28], [1, 5, 6, 7], [1, 5, 6, 8], [1, 5, 6, 8, 9], [1, 5, 6, 8, 9, 32], [1, 5, 6, 8, 9], [1, 5, 6, 8, 9, 10], [1, 5, 6, 8, 9, 10, 43], [1, 5, 6, 8, 9, 10], [1, 5, 6, 8, 9, 10, 48], [1, 5, 6, 8, 9], [4]] 58 [] []
theorem sl57_0 (x0 : (Nat × Nat × Nat × Nat)) (x1 : Int) : ∀ (n : Nat) (z0_0 : Int) (z0_1 : Int) (o : Int) (K : IExit → St → Prop), l_spec_l06Pack_0 x0 x1 n z0_0 z0_1 = some o → (∀ st, Wk st (⟨[(1, (.int .i64 x1)), (5, (.sl (List.map (AV.flt .f32) (m_spec_l06List (m_spec_l02Mend x0))))), (6, (.int .i64 o))], []⟩ : St) → K (.exit 0) st) → eA (tabOf [(83, wM .any g_spec_l02Mend), (89, wM (.own [1]) g_spec_l06List), (90, wM .any g_spec_l02Size), (91, wM .any g_spec_l06Code)]) (.loop lb57_0) (⟨[(1, (.int .i64 x1)), (5, (.sl (List.map (AV.flt .f32) (m_spec_l06List (m_spec_l02Mend x0))))), (6, (.int .i64 z0_0)), (7, (.int .i64 z0_1))], []⟩ : St) K := by
  intro n
  induction n with
  | zero =>
    intro z0_0 z0_1 o K h h0
    simp only [l_spec_l06Pack_0, reduceCtorEq] at h
  | succ n ih =>
    intro z0_0 z0_1 o K h h0
    refine eA_loop ?_
    unfold lb57_0
    unfold l_spec_l06Pack_0 at h
    (try simp only [need_iff, v_spec_l06Pack_0, v_spec_l06Pack_4, v_spec_l06Pack_5] at h)
    simp only [
      need_iff, h, grpA, vsliceS, grpS, grpD, grpF, grpL, eop, vop, bop, uop, fltop, convop, endOk, newE, new1, freshL, Md.isNew, outV, pureV, pureX, pure1, AV.cells, AV.one, storable, laid, refless, refless1, vload, loadC, storeC, vnil, vfaddr, vextract, flatT, flatE, flatC, vconv, vmm, vidxA, viaddrA, vfield, vlen, elemsOf, dF32, dF64, dI64, dU8, dBool, dStr, esOk, elemsS, vsliceX, bnd, ownV, ownC, own1, ownT, isSl, nSl, endL, Md.isOwn, purge, purgeH, purgeB, purgeE, hasName, name1, List.any_cons, List.any_nil, Md.isWr, pureV.pureP, Option.map, reduceIte, Nat.reduceEqDiff, Nat.reduceAdd, Nat.reduceMul, Nat.reduceLT, Nat.reduceLeDiff, List.mapM_cons, List.mapM_nil, Option.pure_def, Option.bind_eq_bind, Option.bind_some, implies_true, forall_const, beq_self_eq_true, decide_true, decide_false, eq_self, Int.reduceEq, Int.reduceLE, Int.reduceLT, if_true, if_false, grpK, Int.reduceAdd, Int.reduceSub, Int.reduceMul, Int.reduceNeg, Int.reducePow, Nat.reducePow, Int.reduceToNat, Nat.reduceSub, List.replicate, Nat.reduceBEq, wAs, wA, wC, zipW, noDupN, grpE, beq_true, beq_false, g_spec_l02Mend, g_spec_l06List, g_spec_l02Size, g_spec_l06Code]
    repeat' (first
      | ((first | (refine eGI_of (fun hc => ?_) (fun hc => ?_)) | (refine eCc_of (fun hc => ?_) (fun hc => ?_)) | (have hc := True.intro; refine KW_refl ?_)) <;> (try simp only [Bool.not_eq_true', Bool.not_eq_false'] at hc) <;> (try simp only [hc, need_iff, reduceCtorEq, grpN, Int.reduceEq, Int.reduceLT, Int.reduceLE, if_true, if_false, reduceIte] at h) <;> (first | (have hc2 := hc; simp only [decide_eq_true_eq, decide_eq_false_iff_not] at hc2; (first | (replace hc2 := eq_false hc2) | (replace hc2 := eq_true hc2)); (try simp only [hc2, need_iff, reduceCtorEq, grpN, Int.reduceEq, Int.reduceLT, Int.reduceLE, if_true, if_false, reduceIte] at h); replace h := And.intro hc2 h) | (replace h := And.intro hc h) | skip) <;> simp only [hc,
      need_iff, h, grpA, vsliceS, grpS, grpD, grpF, grpL, eop, vop, bop, uop, fltop, convop, endOk, newE, new1, freshL, Md.isNew, outV, pureV, pureX, pure1, AV.cells, AV.one, storable, laid, refless, refless1, vload, loadC, storeC, vnil, vfaddr, vextract, flatT, flatE, flatC, vconv, vmm, vidxA, viaddrA, vfield, vlen, elemsOf, dF32, dF64, dI64, dU8, dBool, dStr, esOk, elemsS, vsliceX, bnd, ownV, ownC, own1, ownT, isSl, nSl, endL, Md.isOwn, purge, purgeH, purgeB, purgeE, hasName, name1, List.any_cons, List.any_nil, Md.isWr, pureV.pureP, Option.map, reduceIte, Nat.reduceEqDiff, Nat.reduceAdd, Nat.reduceMul, Nat.reduceLT, Nat.reduceLeDiff, List.mapM_cons, List.mapM_nil, Option.pure_def, Option.bind_eq_bind, Option.bind_some, implies_true, forall_const, beq_self_eq_true, decide_true, decide_false, eq_self, Int.reduceEq, Int.reduceLE, Int.reduceLT, if_true, if_false, grpK, Int.reduceAdd, Int.reduceSub, Int.reduceMul, Int.reduceNeg, Int.reducePow, Nat.reducePow, Int.reduceToNat, Nat.reduceSub, List.replicate, Nat.reduceBEq, wAs, wA, wC, zipW, noDupN, grpE, beq_true, beq_false, g_spec_l02Mend, g_spec_l06List, g_spec_l02Size, g_spec_l06Code]))
    all_goals (have hf := h)
    all_goals (repeat (replace h := And.right h))
    all_goals ((first | (refine eA_wk (wk_norm (ks := [1, 5, 6, 7]) (ls := []) ?_) (eA_cast ?_ (ih _ _ _ _ h h0))) | (cases h; have h := True.intro; refine h0 _ (Wk.cast (wk_norm (ks := [1, 5, 6]) (ls := []) ?_) ?_))) <;> simp only [normOk, optIn, blkIn, nameIn, normS, List.map_append, List.length_append, List.map_set, List.length_set, List.map_replicate, List.length_replicate, List.map_nil, List.map_cons,
      need_iff, h, hf, grpA, vsliceS, grpS, grpD, grpF, grpL, eop, vop, bop, uop, fltop, convop, endOk, newE, new1, freshL, Md.isNew, outV, pureV, pureX, pure1, AV.cells, AV.one, storable, laid, refless, refless1, vload, loadC, storeC, vnil, vfaddr, vextract, flatT, flatE, flatC, vconv, vmm, vidxA, viaddrA, vfield, vlen, elemsOf, dF32, dF64, dI64, dU8, dBool, dStr, esOk, elemsS, vsliceX, bnd, ownV, ownC, own1, ownT, isSl, nSl, endL, Md.isOwn, purge, purgeH, purgeB, purgeE, hasName, name1, List.any_cons, List.any_nil, Md.isWr, pureV.pureP, Option.map, reduceIte, Nat.reduceEqDiff, Nat.reduceAdd, Nat.reduceMul, Nat.reduceLT, Nat.reduceLeDiff, List.mapM_cons, List.mapM_nil, Option.pure_def, Option.bind_eq_bind, Option.bind_some, implies_true, forall_const, beq_self_eq_true, decide_true, decide_false, eq_self, Int.reduceEq, Int.reduceLE, Int.reduceLT, if_true, if_false, grpK, Int.reduceAdd, Int.reduceSub, Int.reduceMul, Int.reduceNeg, Int.reducePow, Nat.reducePow, Int.reduceToNat, Nat.reduceSub, List.replicate, Nat.reduceBEq, wAs, wA, wC, zipW, noDupN, grpE, beq_true, beq_false, g_spec_l02Mend, g_spec_l06List, g_spec_l02Size, g_spec_l06Code] <;> first | rfl | (simp only [Nat.add_comm]; done))
theorem sl57_1 (x0 : (Nat × Nat × Nat × Nat)) (x1 : Int) : ∀ (n : Nat) (z1_0 : Int) (z1_1 : Int) (o : Int) (K : IExit → St → Prop), l_spec_l06Pack_1 x0 x1 n z1_0 z1_1 = some o → (∀ st, Wk st (⟨[(8, (.int .i64 o))], []⟩ : St) → K (.exit 2) st) → eA (tabOf [(83, wM .any g_spec_l02Mend), (89, wM (.own [1]) g_spec_l06List), (90, wM .any g_spec_l02Size), (91, wM .any g_spec_l06Code)]) (.loop lb57_1) (⟨[(1, (.int .i64 x1)), (5, (.sl (List.map (AV.flt .f32) (m_spec_l06List (m_spec_l02Mend x0))))), (6, (.int .i64 (Option.getD (l_spec_l06Pack_0 x0 x1 5 0 1) default))), (8, (.int .i64 z1_0)), (9, (.int .i64 z1_1))], []⟩ : St) K := by
  intro n
  induction n with
  | zero =>
    intro z1_0 z1_1 o K h h0
    simp only [l_spec_l06Pack_1, reduceCtorEq] at h
  | succ n ih =>
    intro z1_0 z1_1 o K h h0
    refine eA_loop ?_
    unfold lb57_1
    unfold l_spec_l06Pack_1 at h
    (try simp only [need_iff, v_spec_l06Pack_0, v_spec_l06Pack_4, v_spec_l06Pack_5] at h)
    simp only [
      need_iff, h, grpA, vsliceS, grpS, grpD, grpF, grpL, eop, vop, bop, uop, fltop, convop, endOk, newE, new1, freshL, Md.isNew, outV, pureV, pureX, pure1, AV.cells, AV.one, storable, laid, refless, refless1, vload, loadC, storeC, vnil, vfaddr, vextract, flatT, flatE, flatC, vconv, vmm, vidxA, viaddrA, vfield, vlen, elemsOf, dF32, dF64, dI64, dU8, dBool, dStr, esOk, elemsS, vsliceX, bnd, ownV, ownC, own1, ownT, isSl, nSl, endL, Md.isOwn, purge, purgeH, purgeB, purgeE, hasName, name1, List.any_cons, List.any_nil, Md.isWr, pureV.pureP, Option.map, reduceIte, Nat.reduceEqDiff, Nat.reduceAdd, Nat.reduceMul, Nat.reduceLT, Nat.reduceLeDiff, List.mapM_cons, List.mapM_nil, Option.pure_def, Option.bind_eq_bind, Option.bind_some, implies_true, forall_const, beq_self_eq_true, decide_true, decide_false, eq_self, Int.reduceEq, Int.reduceLE, Int.reduceLT, if_true, if_false, grpK, Int.reduceAdd, Int.reduceSub, Int.reduceMul, Int.reduceNeg, Int.reducePow, Nat.reducePow, Int.reduceToNat, Nat.reduceSub, List.replicate, Nat.reduceBEq, wAs, wA, wC, zipW, noDupN, grpE, beq_true, beq_false, g_spec_l02Mend, g_spec_l06List, g_spec_l02Size, g_spec_l06Code]
    repeat' (first
      | ((first | (refine eGI_of (fun hc => ?_) (fun hc => ?_)) | (refine eCc_of (fun hc => ?_) (fun hc => ?_)) | (have hc := True.intro; refine KW_refl ?_)) <;> (try simp only [Bool.not_eq_true', Bool.not_eq_false'] at hc) <;> (try simp only [hc, need_iff, reduceCtorEq, grpN, Int.reduceEq, Int.reduceLT, Int.reduceLE, if_true, if_false, reduceIte] at h) <;> (first | (have hc2 := hc; simp only [decide_eq_true_eq, decide_eq_false_iff_not] at hc2; (first | (replace hc2 := eq_false hc2) | (replace hc2 := eq_true hc2)); (try simp only [hc2, need_iff, reduceCtorEq, grpN, Int.reduceEq, Int.reduceLT, Int.reduceLE, if_true, if_false, reduceIte] at h); replace h := And.intro hc2 h) | (replace h := And.intro hc h) | skip) <;> simp only [hc,
      need_iff, h, grpA, vsliceS, grpS, grpD, grpF, grpL, eop, vop, bop, uop, fltop, convop, endOk, newE, new1, freshL, Md.isNew, outV, pureV, pureX, pure1, AV.cells, AV.one, storable, laid, refless, refless1, vload, loadC, storeC, vnil, vfaddr, vextract, flatT, flatE, flatC, vconv, vmm, vidxA, viaddrA, vfield, vlen, elemsOf, dF32, dF64, dI64, dU8, dBool, dStr, esOk, elemsS, vsliceX, bnd, ownV, ownC, own1, ownT, isSl, nSl, endL, Md.isOwn, purge, purgeH, purgeB, purgeE, hasName, name1, List.any_cons, List.any_nil, Md.isWr, pureV.pureP, Option.map, reduceIte, Nat.reduceEqDiff, Nat.reduceAdd, Nat.reduceMul, Nat.reduceLT, Nat.reduceLeDiff, List.mapM_cons, List.mapM_nil, Option.pure_def, Option.bind_eq_bind, Option.bind_some, implies_true, forall_const, beq_self_eq_true, decide_true, decide_false, eq_self, Int.reduceEq, Int.reduceLE, Int.reduceLT, if_true, if_false, grpK, Int.reduceAdd, Int.reduceSub, Int.reduceMul, Int.reduceNeg, Int.reducePow, Nat.reducePow, Int.reduceToNat, Nat.reduceSub, List.replicate, Nat.reduceBEq, wAs, wA, wC, zipW, noDupN, grpE, beq_true, beq_false, g_spec_l02Mend, g_spec_l06List, g_spec_l02Size, g_spec_l06Code]))
    all_goals (have hf := h)
    all_goals (repeat (replace h := And.right h))
    all_goals ((first | (refine eA_wk (wk_norm (ks := [1, 5, 6, 8, 9]) (ls := []) ?_) (eA_cast ?_ (ih _ _ _ _ h h0))) | (cases h; have h := True.intro; refine h0 _ (Wk.cast (wk_norm (ks := [8]) (ls := []) ?_) ?_))) <;> simp only [normOk, optIn, blkIn, nameIn, normS, List.map_append, List.length_append, List.map_set, List.length_set, List.map_replicate, List.length_replicate, List.map_nil, List.map_cons,
      need_iff, h, hf, grpA, vsliceS, grpS, grpD, grpF, grpL, eop, vop, bop, uop, fltop, convop, endOk, newE, new1, freshL, Md.isNew, outV, pureV, pureX, pure1, AV.cells, AV.one, storable, laid, refless, refless1, vload, loadC, storeC, vnil, vfaddr, vextract, flatT, flatE, flatC, vconv, vmm, vidxA, viaddrA, vfield, vlen, elemsOf, dF32, dF64, dI64, dU8, dBool, dStr, esOk, elemsS, vsliceX, bnd, ownV, ownC, own1, ownT, isSl, nSl, endL, Md.isOwn, purge, purgeH, purgeB, purgeE, hasName, name1, List.any_cons, List.any_nil, Md.isWr, pureV.pureP, Option.map, reduceIte, Nat.reduceEqDiff, Nat.reduceAdd, Nat.reduceMul, Nat.reduceLT, Nat.reduceLeDiff, List.mapM_cons, List.mapM_nil, Option.pure_def, Option.bind_eq_bind, Option.bind_some, implies_true, forall_const, beq_self_eq_true, decide_true, decide_false, eq_self, Int.reduceEq, Int.reduceLE, Int.reduceLT, if_true, if_false, grpK, Int.reduceAdd, Int.reduceSub, Int.reduceMul, Int.reduceNeg, Int.reducePow, Nat.reducePow, Int.reduceToNat, Nat.reduceSub, List.replicate, Nat.reduceBEq, wAs, wA, wC, zipW, noDupN, grpE, beq_true, beq_false, g_spec_l02Mend, g_spec_l06List, g_spec_l02Size, g_spec_l06Code] <;> first | rfl | (simp only [Nat.add_comm]; done))
theorem s57 : ∀ vs r, g_spec_l06Pack vs = some r → SaysM Try.prog .any 57 vs r := by
  intro vs r h
  unfold g_spec_l06Pack at h
  split at h
  · rename_i y0 y1 y2 y3 y4
    split at h
    · rename_i hp
      cases h
      refine spec_of (m := .any) (tab := tabOf [(83, wM .any g_spec_l02Mend), (89, wM (.own [1]) g_spec_l06List), (90, wM .any g_spec_l02Size), (91, wM .any g_spec_l06Code)]) (cp := cp57) (ic := ic57) (rvl := [(.t 4)]) hm (tabOk_cons (m := .any) s83 (tabOk_cons (m := (.own [1])) s89 (tabOk_cons (m := .any) s90 (tabOk_cons (m := .any) s91 tabOk_nil)))) Try.func57 rfl rfl rfl (by kernel_rfl) rfl (Nat.le_of_ble_eq_true rfl) (Nat.le_of_ble_eq_true rfl) ?_
      show eA _ _ _ _
      unfold ic57
      simp only [p_spec_l06Pack, v_spec_l06Pack_0, v_spec_l06Pack_4, v_spec_l06Pack_5, Bool.and_eq_true, Bool.or_eq_true, decide_eq_true_eq, Bool.not_eq_true', decide_eq_false_iff_not] at hp
      refine eS_to ?_
      repeat' (first
        | ((first | (have h := True.intro; refine eS_of ?_) | (refine eGI_of (fun h => ?_) (fun h => ?_)) | (refine eCc_of (fun h => ?_) (fun h => ?_)) | (have h := True.intro; refine KW_refl ?_)) <;> (try simp only [Bool.not_eq_true', Bool.not_eq_false'] at h) <;> (try first | exact absurd (Eq.trans (Eq.symm h) (by assumption)) Bool.false_ne_true | exact absurd (Eq.trans (Eq.symm h) (by assumption)) (Ne.symm Bool.false_ne_true)) <;> (try simp only [h, reduceCtorEq, grpN, Int.reduceEq, Int.reduceLT, Int.reduceLE, if_true, if_false, reduceIte] at hp) <;> (first | (have h2 := h; simp only [decide_eq_true_eq, decide_eq_false_iff_not] at h2; (first | (replace h2 := eq_false h2) | (replace h2 := eq_true h2)); (try simp only [h2, reduceCtorEq, grpN, Int.reduceEq, Int.reduceLT, Int.reduceLE, if_true, if_false, reduceIte] at hp); replace hp := And.intro h2 hp) | (replace hp := And.intro h hp) | skip) <;> simp only [h,
          hp, grpA, vsliceS, grpS, grpD, grpF, grpL, eop, vop, bop, uop, fltop, convop, endOk, newE, new1, freshL, Md.isNew, outV, pureV, pureX, pure1, AV.cells, AV.one, storable, laid, refless, refless1, vload, loadC, storeC, vnil, vfaddr, vextract, flatT, flatE, flatC, vconv, vmm, vidxA, viaddrA, vfield, vlen, elemsOf, dF32, dF64, dI64, dU8, dBool, dStr, esOk, elemsS, vsliceX, bnd, ownV, ownC, own1, ownT, isSl, nSl, endL, Md.isOwn, purge, purgeH, purgeB, purgeE, hasName, name1, List.any_cons, List.any_nil, Md.isWr, pureV.pureP, Option.map, reduceIte, Nat.reduceEqDiff, Nat.reduceAdd, Nat.reduceMul, Nat.reduceLT, Nat.reduceLeDiff, List.mapM_cons, List.mapM_nil, Option.pure_def, Option.bind_eq_bind, Option.bind_some, implies_true, forall_const, beq_self_eq_true, decide_true, decide_false, eq_self, Int.reduceEq, Int.reduceLE, Int.reduceLT, if_true, if_false, grpK, Int.reduceAdd, Int.reduceSub, Int.reduceMul, Int.reduceNeg, Int.reducePow, Nat.reducePow, Int.reduceToNat, Nat.reduceSub, List.replicate, Nat.reduceBEq, wAs, wA, wC, zipW, noDupN, grpE, beq_true, beq_false, g_spec_l02Mend, g_spec_l06List, g_spec_l02Size, g_spec_l06Code])
        | (refine eA_wk (wk_norm (ks := [1, 5, 6, 7]) (ls := []) ?_) (eA_cast ?_ (sl57_0 (y0, y1, y2, y3) y4 _ _ _ _ _ (getD_some (d := default) (x := (l_spec_l06Pack_0 (y0, y1, y2, y3) y4 5 0 1)) ?_) ?_)); (iterate 2 (simp only [nilS, nilV, normOk, optIn, blkIn, nameIn, normS, List.map_append, List.length_append, List.map_set, List.length_set, List.map_replicate, List.length_replicate, List.map_nil, List.map_cons,
          hp, grpA, vsliceS, grpS, grpD, grpF, grpL, eop, vop, bop, uop, fltop, convop, endOk, newE, new1, freshL, Md.isNew, outV, pureV, pureX, pure1, AV.cells, AV.one, storable, laid, refless, refless1, vload, loadC, storeC, vnil, vfaddr, vextract, flatT, flatE, flatC, vconv, vmm, vidxA, viaddrA, vfield, vlen, elemsOf, dF32, dF64, dI64, dU8, dBool, dStr, esOk, elemsS, vsliceX, bnd, ownV, ownC, own1, ownT, isSl, nSl, endL, Md.isOwn, purge, purgeH, purgeB, purgeE, hasName, name1, List.any_cons, List.any_nil, Md.isWr, pureV.pureP, Option.map, reduceIte, Nat.reduceEqDiff, Nat.reduceAdd, Nat.reduceMul, Nat.reduceLT, Nat.reduceLeDiff, List.mapM_cons, List.mapM_nil, Option.pure_def, Option.bind_eq_bind, Option.bind_some, implies_true, forall_const, beq_self_eq_true, decide_true, decide_false, eq_self, Int.reduceEq, Int.reduceLE, Int.reduceLT, if_true, if_false, grpK, Int.reduceAdd, Int.reduceSub, Int.reduceMul, Int.reduceNeg, Int.reducePow, Nat.reducePow, Int.reduceToNat, Nat.reduceSub, List.replicate, Nat.reduceBEq, wAs, wA, wC, zipW, noDupN, grpE, beq_true, beq_false, g_spec_l02Mend, g_spec_l06List, g_spec_l02Size, g_spec_l06Code] <;> first | rfl | (simp only [Nat.add_comm]; done))); (simp only [hp]); (
        intro st2 hw; (try simp only [reduceCtorEq, grpN, Int.reduceEq, Int.reduceLT, Int.reduceLE, if_true, if_false, reduceIte] at hp); (try replace hp := And.intro ht hp); simp only [
Kq_exit, Kq_normal, Kq_ret, Kb_exit, Kb_normal, Kb_ret, Kl_exit, Kl_normal, Kl_ret, reduceIte, Nat.reduceEqDiff, if_true, if_false, eq_self]; refine KW_of hw ?_; simp only [
          hp, grpA, vsliceS, grpS, grpD, grpF, grpL, eop, vop, bop, uop, fltop, convop, endOk, newE, new1, freshL, Md.isNew, outV, pureV, pureX, pure1, AV.cells, AV.one, storable, laid, refless, refless1, vload, loadC, storeC, vnil, vfaddr, vextract, flatT, flatE, flatC, vconv, vmm, vidxA, viaddrA, vfield, vlen, elemsOf, dF32, dF64, dI64, dU8, dBool, dStr, esOk, elemsS, vsliceX, bnd, ownV, ownC, own1, ownT, isSl, nSl, endL, Md.isOwn, purge, purgeH, purgeB, purgeE, hasName, name1, List.any_cons, List.any_nil, Md.isWr, pureV.pureP, Option.map, reduceIte, Nat.reduceEqDiff, Nat.reduceAdd, Nat.reduceMul, Nat.reduceLT, Nat.reduceLeDiff, List.mapM_cons, List.mapM_nil, Option.pure_def, Option.bind_eq_bind, Option.bind_some, implies_true, forall_const, beq_self_eq_true, decide_true, decide_false, eq_self, Int.reduceEq, Int.reduceLE, Int.reduceLT, if_true, if_false, grpK, Int.reduceAdd, Int.reduceSub, Int.reduceMul, Int.reduceNeg, Int.reducePow, Nat.reducePow, Int.reduceToNat, Nat.reduceSub, List.replicate, Nat.reduceBEq, wAs, wA, wC, zipW, noDupN, grpE, beq_true, beq_false, g_spec_l02Mend, g_spec_l06List, g_spec_l02Size, g_spec_l06Code]))
        | (refine eA_wk (wk_norm (ks := [1, 5, 6, 8, 9]) (ls := []) ?_) (eA_cast ?_ (sl57_1 (y0, y1, y2, y3) y4 _ _ _ _ _ (getD_some (d := default) (x := (l_spec_l06Pack_1 (y0, y1, y2, y3) y4 6 (Option.getD (l_spec_l06Pack_0 (y0, y1, y2, y3) y4 5 0 1) default) 0)) ?_) ?_)); (iterate 2 (simp only [nilS, nilV, normOk, optIn, blkIn, nameIn, normS, List.map_append, List.length_append, List.map_set, List.length_set, List.map_replicate, List.length_replicate, List.map_nil, List.map_cons,
          hp, grpA, vsliceS, grpS, grpD, grpF, grpL, eop, vop, bop, uop, fltop, convop, endOk, newE, new1, freshL, Md.isNew, outV, pureV, pureX, pure1, AV.cells, AV.one, storable, laid, refless, refless1, vload, loadC, storeC, vnil, vfaddr, vextract, flatT, flatE, flatC, vconv, vmm, vidxA, viaddrA, vfield, vlen, elemsOf, dF32, dF64, dI64, dU8, dBool, dStr, esOk, elemsS, vsliceX, bnd, ownV, ownC, own1, ownT, isSl, nSl, endL, Md.isOwn, purge, purgeH, purgeB, purgeE, hasName, name1, List.any_cons, List.any_nil, Md.isWr, pureV.pureP, Option.map, reduceIte, Nat.reduceEqDiff, Nat.reduceAdd, Nat.reduceMul, Nat.reduceLT, Nat.reduceLeDiff, List.mapM_cons, List.mapM_nil, Option.pure_def, Option.bind_eq_bind, Option.bind_some, implies_true, forall_const, beq_self_eq_true, decide_true, decide_false, eq_self, Int.reduceEq, Int.reduceLE, Int.reduceLT, if_true, if_false, grpK, Int.reduceAdd, Int.reduceSub, Int.reduceMul, Int.reduceNeg, Int.reducePow, Nat.reducePow, Int.reduceToNat, Nat.reduceSub, List.replicate, Nat.reduceBEq, wAs, wA, wC, zipW, noDupN, grpE, beq_true, beq_false, g_spec_l02Mend, g_spec_l06List, g_spec_l02Size, g_spec_l06Code] <;> first | rfl | (simp only [Nat.add_comm]; done))); (simp only [hp]); (
        intro st2 hw; (try simp only [reduceCtorEq, grpN, Int.reduceEq, Int.reduceLT, Int.reduceLE, if_true, if_false, reduceIte] at hp); (try replace hp := And.intro ht hp); simp only [
Kq_exit, Kq_normal, Kq_ret, Kb_exit, Kb_normal, Kb_ret, Kl_exit, Kl_normal, Kl_ret, reduceIte, Nat.reduceEqDiff, if_true, if_false, eq_self]; refine KW_of hw ?_; simp only [
          hp, grpA, vsliceS, grpS, grpD, grpF, grpL, eop, vop, bop, uop, fltop, convop, endOk, newE, new1, freshL, Md.isNew, outV, pureV, pureX, pure1, AV.cells, AV.one, storable, laid, refless, refless1, vload, loadC, storeC, vnil, vfaddr, vextract, flatT, flatE, flatC, vconv, vmm, vidxA, viaddrA, vfield, vlen, elemsOf, dF32, dF64, dI64, dU8, dBool, dStr, esOk, elemsS, vsliceX, bnd, ownV, ownC, own1, ownT, isSl, nSl, endL, Md.isOwn, purge, purgeH, purgeB, purgeE, hasName, name1, List.any_cons, List.any_nil, Md.isWr, pureV.pureP, Option.map, reduceIte, Nat.reduceEqDiff, Nat.reduceAdd, Nat.reduceMul, Nat.reduceLT, Nat.reduceLeDiff, List.mapM_cons, List.mapM_nil, Option.pure_def, Option.bind_eq_bind, Option.bind_some, implies_true, forall_const, beq_self_eq_true, decide_true, decide_false, eq_self, Int.reduceEq, Int.reduceLE, Int.reduceLT, if_true, if_false, grpK, Int.reduceAdd, Int.reduceSub, Int.reduceMul, Int.reduceNeg, Int.reducePow, Nat.reducePow, Int.reduceToNat, Nat.reduceSub, List.replicate, Nat.reduceBEq, wAs, wA, wC, zipW, noDupN, grpE, beq_true, beq_false, g_spec_l02Mend, g_spec_l06List, g_spec_l02Size, g_spec_l06Code])))
      all_goals (try simp only [*, m_spec_l06Pack, v_spec_l06Pack_0, v_spec_l06Pack_4, v_spec_l06Pack_5, Bool.and_true, Bool.true_and, Bool.and_false, Bool.false_and, Bool.or_true, Bool.true_or, Bool.or_false, Bool.false_or, Bool.not_true, Bool.not_false, Bool.false_eq_true, if_true, if_false, reduceIte, decide_true, decide_false])
      all_goals (try (simp_all; done))
    · cases h
  · cases h
def m_spec_PackTurn (x0 : (Nat × Nat × Nat × Nat)) (x1 : Int) : (Int × Bool) := (if (m_spec_l06Turn x0) = true then (if (m_spec_l06Bits x1) = true then ((m_spec_l06Pack x0 x1), true) else (0, false)) else (0, false))
def p_spec_PackTurn (x0 : (Nat × Nat × Nat × Nat)) (x1 : Int) : Bool := (!(m_spec_l06Turn x0) || (!(m_spec_l06Bits x1) || (p_spec_l06Pack x0 x1)))
def g_spec_PackTurn : List AV → Option AV
  | [.agg [.flt .f32 y0, .flt .f32 y1, .flt .f32 y2, .flt .f32 y3], .int .i64 y4] => if p_spec_PackTurn (y0, y1, y2, y3) y4 = true then some (AV.tup [(.int .i64 (m_spec_PackTurn (y0, y1, y2, y3) y4).1), (.bool (m_spec_PackTurn (y0, y1, y2, y3) y4).2)]) else none
  | _ => none
def ic24 : ICode := (.seq (.reg [⟨(some 2), none, (.box 4 (.t 0))⟩, ⟨(some 4), none, (.mov (.c (.int .i64 0)))⟩, ⟨(some 5), none, (.mov (.c (.bool false)))⟩] [1, 2]) (.seq (.seq (.reg [⟨(some 6), none, (.load (some 4) (.t 2))⟩, ⟨(some 7), none, (.call (.fn 56) [(.t 6)] [])⟩, ⟨(some 8), none, (.un .not (.t 7))⟩, ⟨(some 9), none, (.mov (.t 8))⟩, ⟨(some 10), (some (9, false)), (.mov (.t 1))⟩, ⟨(some 11), (some (9, false)), (.call (.fn 47) [(.t 10)] [])⟩, ⟨(some 12), (some (9, false)), (.un .not (.t 11))⟩, ⟨(some 13), none, (.pick (.t 9) (.c (.bool true)) (.t 12))⟩] [1, 2, 13]) (.cond (.t 13) (.seq (.reg [⟨(some 4), none, (.mov (.c (.int .i64 0)))⟩, ⟨(some 5), none, (.mov (.c (.bool false)))⟩] [4, 5]) .ret) .skip)) (.seq (.reg [⟨(some 14), none, (.load (some 4) (.t 2))⟩, ⟨(some 15), none, (.mov (.t 1))⟩, ⟨(some 16), none, (.call (.fn 57) [(.t 14), (.t 15)] [])⟩, ⟨(some 4), none, (.mov (.t 16))⟩, ⟨(some 5), none, (.mov (.c (.bool true)))⟩] [4, 5]) .ret)))
def cp24 : CP := CP.mk [] [] [[1, 2], [1, 2, 13], [4, 5], [4, 5]] 17 [] []
theorem s24 : ∀ vs r, g_spec_PackTurn vs = some r → SaysM Try.prog .any 24 vs r := by
  intro vs r h
  unfold g_spec_PackTurn at h
  split at h
  · rename_i y0 y1 y2 y3 y4
    split at h
    · rename_i hp
      cases h
      refine spec_of (m := .any) (tab := tabOf [(47, wM .any g_spec_l06Bits), (56, wM .any g_spec_l06Turn), (57, wM .any g_spec_l06Pack)]) (cp := cp24) (ic := ic24) (rvl := [(.t 4), (.t 5)]) hm (tabOk_cons (m := .any) s47 (tabOk_cons (m := .any) s56 (tabOk_cons (m := .any) s57 tabOk_nil))) Try.func24 rfl rfl rfl (by kernel_rfl) rfl (Nat.le_of_ble_eq_true rfl) (Nat.le_of_ble_eq_true rfl) ?_
      show eA _ _ _ _
      unfold ic24
      simp only [p_spec_PackTurn, Bool.and_eq_true, Bool.or_eq_true, decide_eq_true_eq, Bool.not_eq_true', decide_eq_false_iff_not] at hp
      refine eS_to ?_
      repeat' (first
        | ((first | (have h := True.intro; refine eS_of ?_) | (refine eGI_of (fun h => ?_) (fun h => ?_)) | (refine eCc_of (fun h => ?_) (fun h => ?_)) | (refine ePk_of (fun h => ?_) (fun h => ?_))) <;> (try simp only [Bool.not_eq_true', Bool.not_eq_false'] at h) <;> (try first | exact absurd (Eq.trans (Eq.symm h) (by assumption)) Bool.false_ne_true | exact absurd (Eq.trans (Eq.symm h) (by assumption)) (Ne.symm Bool.false_ne_true)) <;> (try simp only [h, reduceCtorEq, grpN, Int.reduceEq, Int.reduceLT, Int.reduceLE, if_true, if_false, reduceIte] at hp) <;> (first | (have h2 := h; simp only [decide_eq_true_eq, decide_eq_false_iff_not] at h2; (first | (replace h2 := eq_false h2) | (replace h2 := eq_true h2)); (try simp only [h2, reduceCtorEq, grpN, Int.reduceEq, Int.reduceLT, Int.reduceLE, if_true, if_false, reduceIte] at hp); replace hp := And.intro h2 hp) | (replace hp := And.intro h hp) | skip) <;> simp only [h,
          hp, grpA, vsliceS, grpS, grpD, grpF, grpL, eop, vop, bop, uop, fltop, convop, endOk, newE, new1, freshL, Md.isNew, outV, pureV, pureX, pure1, AV.cells, AV.one, storable, laid, refless, refless1, vload, loadC, storeC, vnil, vfaddr, vextract, flatT, flatE, flatC, vconv, vmm, vidxA, viaddrA, vfield, vlen, elemsOf, dF32, dF64, dI64, dU8, dBool, dStr, esOk, elemsS, vsliceX, bnd, ownV, ownC, own1, ownT, isSl, nSl, endL, Md.isOwn, purge, purgeH, purgeB, purgeE, hasName, name1, List.any_cons, List.any_nil, Md.isWr, pureV.pureP, Option.map, reduceIte, Nat.reduceEqDiff, Nat.reduceAdd, Nat.reduceMul, Nat.reduceLT, Nat.reduceLeDiff, List.mapM_cons, List.mapM_nil, Option.pure_def, Option.bind_eq_bind, Option.bind_some, implies_true, forall_const, beq_self_eq_true, decide_true, decide_false, eq_self, Int.reduceEq, Int.reduceLE, Int.reduceLT, if_true, if_false, grpK, Int.reduceAdd, Int.reduceSub, Int.reduceMul, Int.reduceNeg, Int.reducePow, Nat.reducePow, Int.reduceToNat, Nat.reduceSub, List.replicate, Nat.reduceBEq, wAs, wA, wC, zipW, noDupN, grpE, beq_true, beq_false, g_spec_l06Bits, g_spec_l06Turn, g_spec_l06Pack, ↓b_pick, ePk_true, ePk_false]))
      all_goals (try simp only [*, m_spec_PackTurn, Bool.and_true, Bool.true_and, Bool.and_false, Bool.false_and, Bool.or_true, Bool.true_or, Bool.or_false, Bool.false_or, Bool.not_true, Bool.not_false, Bool.false_eq_true, if_true, if_false, reduceIte, decide_true, decide_false])
      all_goals (try (simp_all; done))
    · cases h
  · cases h
def m_impl_InnerOfTurns (x0 : (Nat × Nat × Nat × Nat)) (x1 : (Nat × Nat × Nat × Nat)) : Nat := (fadd .f32 (fadd .f32 (fadd .f32 (fmul .f32 x0.1 x1.1) (fmul .f32 x0.2.1 x1.2.1)) (fmul .f32 x0.2.2.1 x1.2.2.1)) (fmul .f32 x0.2.2.2 x1.2.2.2))
def g_impl_InnerOfTurns : List AV → Option AV
  | [.agg [.flt .f32 y0, .flt .f32 y1, .flt .f32 y2, .flt .f32 y3], .agg [.flt .f32 y4, .flt .f32 y5, .flt .f32 y6, .flt .f32 y7]] => some (.flt .f32 (m_impl_InnerOfTurns (y0, y1, y2, y3) (y4, y5, y6, y7)))
  | _ => none
def ic105 : ICode := (.seq (.reg [⟨(some 2), none, (.box 4 (.t 0))⟩, ⟨(some 3), none, (.box 4 (.t 1))⟩, ⟨(some 4), none, (.mov (.c (.flt .f32 0)))⟩] [2, 3]) (.seq (.reg [⟨(some 5), none, (.faddr 0 (.t 2))⟩, ⟨(some 6), none, (.load none (.t 5))⟩, ⟨(some 7), none, (.faddr 0 (.t 3))⟩, ⟨(some 8), none, (.load none (.t 7))⟩, ⟨(some 9), none, (.bin .mul false (.t 6) (.t 8))⟩, ⟨(some 10), none, (.faddr 1 (.t 2))⟩, ⟨(some 11), none, (.load none (.t 10))⟩, ⟨(some 12), none, (.faddr 1 (.t 3))⟩, ⟨(some 13), none, (.load none (.t 12))⟩, ⟨(some 14), none, (.bin .mul false (.t 11) (.t 13))⟩, ⟨(some 15), none, (.bin .add false (.t 9) (.t 14))⟩, ⟨(some 16), none, (.faddr 2 (.t 2))⟩, ⟨(some 17), none, (.load none (.t 16))⟩, ⟨(some 18), none, (.faddr 2 (.t 3))⟩, ⟨(some 19), none, (.load none (.t 18))⟩, ⟨(some 20), none, (.bin .mul false (.t 17) (.t 19))⟩, ⟨(some 21), none, (.bin .add false (.t 15) (.t 20))⟩, ⟨(some 22), none, (.faddr 3 (.t 2))⟩, ⟨(some 23), none, (.load none (.t 22))⟩, ⟨(some 24), none, (.faddr 3 (.t 3))⟩, ⟨(some 25), none, (.load none (.t 24))⟩, ⟨(some 26), none, (.bin .mul false (.t 23) (.t 25))⟩, ⟨(some 27), none, (.bin .add false (.t 21) (.t 26))⟩, ⟨(some 4), none, (.mov (.t 27))⟩] [4]) .ret))
def cp105 : CP := CP.mk [] [] [[2, 3], [4]] 28 [] []
theorem s105 : ∀ vs r, g_impl_InnerOfTurns vs = some r → SaysM Try.prog .any 105 vs r := by
  intro vs r h
  unfold g_impl_InnerOfTurns at h
  split at h
  · rename_i y0 y1 y2 y3 y4 y5 y6 y7
    cases h
    refine spec_of (m := .any) (tab := tabOf []) (cp := cp105) (ic := ic105) (rvl := [(.t 4)]) hm tabOk_nil Try.func105 rfl rfl rfl (by kernel_rfl) rfl (Nat.le_of_ble_eq_true rfl) (Nat.le_of_ble_eq_true rfl) ?_
    show eA _ _ _ _
    unfold ic105
    simp only [
        grpA, vsliceS, grpS, grpD, grpF, grpL, eop, vop, bop, uop, fltop, convop, endOk, newE, new1, freshL, Md.isNew, outV, pureV, pureX, pure1, AV.cells, AV.one, storable, laid, refless, refless1, vload, loadC, storeC, vnil, vfaddr, vextract, flatT, flatE, flatC, vconv, vmm, vidxA, viaddrA, vfield, vlen, elemsOf, dF32, dF64, dI64, dU8, dBool, dStr, esOk, elemsS, vsliceX, bnd, ownV, ownC, own1, ownT, isSl, nSl, endL, Md.isOwn, purge, purgeH, purgeB, purgeE, hasName, name1, List.any_cons, List.any_nil, Md.isWr, pureV.pureP, Option.map, reduceIte, Nat.reduceEqDiff, Nat.reduceAdd, Nat.reduceMul, Nat.reduceLT, Nat.reduceLeDiff, List.mapM_cons, List.mapM_nil, Option.pure_def, Option.bind_eq_bind, Option.bind_some, implies_true, forall_const, beq_self_eq_true, decide_true, decide_false, eq_self, Int.reduceEq, Int.reduceLE, Int.reduceLT, if_true, if_false, grpK, Int.reduceAdd, Int.reduceSub, Int.reduceMul, Int.reduceNeg, Int.reducePow, Nat.reducePow, Int.reduceToNat, Nat.reduceSub, List.replicate, Nat.reduceBEq, wAs, wA, wC, zipW, noDupN, grpE, beq_true, beq_false]
    all_goals (try simp only [*, m_impl_InnerOfTurns, Bool.and_true, Bool.true_and, Bool.and_false, Bool.false_and, Bool.or_true, Bool.true_or, Bool.or_false, Bool.false_or, Bool.not_true, Bool.not_false, Bool.false_eq_true, if_true, if_false, reduceIte, decide_true, decide_false])
    all_goals (try (simp_all; done))
  · cases h
def m_impl_RootNumber (x0 : Nat) : Nat := (narrow (m_math_Sqrt (widen x0)))
def p_impl_RootNumber (x0 : Nat) : Bool := (narrowOk (m_math_Sqrt (widen x0)))
def g_impl_RootNumber : List AV → Option AV
  | [.flt .f32 y0] => if p_impl_RootNumber y0 = true then some (.flt .f32 (m_impl_RootNumber y0)) else none
  | _ => none
def ic53 : ICode := (.seq (.reg [⟨(some 2), none, (.mov (.c (.flt .f32 0)))⟩] [0]) (.seq (.reg [⟨(some 3), none, (.mov (.t 0))⟩, ⟨(some 4), none, (.conv (.flt .f64) (.t 3))⟩, ⟨(some 5), none, (.call (.fn 84) [(.t 4)] [])⟩, ⟨(some 6), none, (.conv (.flt .f32) (.t 5))⟩, ⟨(some 2), none, (.mov (.t 6))⟩] [2]) .ret))
def cp53 : CP := CP.mk [] [] [[0], [2]] 7 [] []
theorem s53 : ∀ vs r, g_impl_RootNumber vs = some r → SaysM Try.prog .any 53 vs r := by
  intro vs r h
  unfold g_impl_RootNumber at h
  split at h
  · rename_i y0
    split at h
    · rename_i hp
      cases h
      refine spec_of (m := .any) (tab := tabOf [(84, wM .any g_math_Sqrt)]) (cp := cp53) (ic := ic53) (rvl := [(.t 2)]) hm (tabOk_cons (m := .any) s84 tabOk_nil) Try.func53 rfl rfl rfl (by kernel_rfl) rfl (Nat.le_of_ble_eq_true rfl) (Nat.le_of_ble_eq_true rfl) ?_
      show eA _ _ _ _
      unfold ic53
      simp only [p_impl_RootNumber, Bool.and_eq_true, Bool.or_eq_true, decide_eq_true_eq, Bool.not_eq_true', decide_eq_false_iff_not] at hp
      simp only [
          hp, grpA, vsliceS, grpS, grpD, grpF, grpL, eop, vop, bop, uop, fltop, convop, endOk, newE, new1, freshL, Md.isNew, outV, pureV, pureX, pure1, AV.cells, AV.one, storable, laid, refless, refless1, vload, loadC, storeC, vnil, vfaddr, vextract, flatT, flatE, flatC, vconv, vmm, vidxA, viaddrA, vfield, vlen, elemsOf, dF32, dF64, dI64, dU8, dBool, dStr, esOk, elemsS, vsliceX, bnd, ownV, ownC, own1, ownT, isSl, nSl, endL, Md.isOwn, purge, purgeH, purgeB, purgeE, hasName, name1, List.any_cons, List.any_nil, Md.isWr, pureV.pureP, Option.map, reduceIte, Nat.reduceEqDiff, Nat.reduceAdd, Nat.reduceMul, Nat.reduceLT, Nat.reduceLeDiff, List.mapM_cons, List.mapM_nil, Option.pure_def, Option.bind_eq_bind, Option.bind_some, implies_true, forall_const, beq_self_eq_true, decide_true, decide_false, eq_self, Int.reduceEq, Int.reduceLE, Int.reduceLT, if_true, if_false, grpK, Int.reduceAdd, Int.reduceSub, Int.reduceMul, Int.reduceNeg, Int.reducePow, Nat.reducePow, Int.reduceToNat, Nat.reduceSub, List.replicate, Nat.reduceBEq, wAs, wA, wC, zipW, noDupN, grpE, beq_true, beq_false, g_math_Sqrt]
      all_goals (try simp only [*, m_impl_RootNumber, Bool.and_true, Bool.true_and, Bool.and_false, Bool.false_and, Bool.or_true, Bool.true_or, Bool.or_false, Bool.false_or, Bool.not_true, Bool.not_false, Bool.false_eq_true, if_true, if_false, reduceIte, decide_true, decide_false])
      all_goals (try (simp_all; done))
    · cases h
  · cases h
def m_impl_LengthOfTurn (x0 : (Nat × Nat × Nat × Nat)) : Nat := (m_impl_RootNumber (m_impl_InnerOfTurns x0 x0))
def p_impl_LengthOfTurn (x0 : (Nat × Nat × Nat × Nat)) : Bool := (p_impl_RootNumber (m_impl_InnerOfTurns x0 x0))
def g_impl_LengthOfTurn : List AV → Option AV
  | [.agg [.flt .f32 y0, .flt .f32 y1, .flt .f32 y2, .flt .f32 y3]] => if p_impl_LengthOfTurn (y0, y1, y2, y3) = true then some (.flt .f32 (m_impl_LengthOfTurn (y0, y1, y2, y3))) else none
  | _ => none
def ic85 : ICode := (.seq (.reg [⟨(some 1), none, (.box 4 (.t 0))⟩, ⟨(some 2), none, (.mov (.c (.flt .f32 0)))⟩] [1]) (.seq (.reg [⟨(some 3), none, (.load (some 4) (.t 1))⟩, ⟨(some 4), none, (.load (some 4) (.t 1))⟩, ⟨(some 5), none, (.call (.fn 105) [(.t 3), (.t 4)] [])⟩, ⟨(some 6), none, (.call (.fn 53) [(.t 5)] [])⟩, ⟨(some 2), none, (.mov (.t 6))⟩] [2]) .ret))
def cp85 : CP := CP.mk [] [] [[1], [2]] 7 [] []
theorem s85 : ∀ vs r, g_impl_LengthOfTurn vs = some r → SaysM Try.prog .any 85 vs r := by
  intro vs r h
  unfold g_impl_LengthOfTurn at h
  split at h
  · rename_i y0 y1 y2 y3
    split at h
    · rename_i hp
      cases h
      refine spec_of (m := .any) (tab := tabOf [(53, wM .any g_impl_RootNumber), (105, wM .any g_impl_InnerOfTurns)]) (cp := cp85) (ic := ic85) (rvl := [(.t 2)]) hm (tabOk_cons (m := .any) s53 (tabOk_cons (m := .any) s105 tabOk_nil)) Try.func85 rfl rfl rfl (by kernel_rfl) rfl (Nat.le_of_ble_eq_true rfl) (Nat.le_of_ble_eq_true rfl) ?_
      show eA _ _ _ _
      unfold ic85
      simp only [p_impl_LengthOfTurn, Bool.and_eq_true, Bool.or_eq_true, decide_eq_true_eq, Bool.not_eq_true', decide_eq_false_iff_not] at hp
      simp only [
          hp, grpA, vsliceS, grpS, grpD, grpF, grpL, eop, vop, bop, uop, fltop, convop, endOk, newE, new1, freshL, Md.isNew, outV, pureV, pureX, pure1, AV.cells, AV.one, storable, laid, refless, refless1, vload, loadC, storeC, vnil, vfaddr, vextract, flatT, flatE, flatC, vconv, vmm, vidxA, viaddrA, vfield, vlen, elemsOf, dF32, dF64, dI64, dU8, dBool, dStr, esOk, elemsS, vsliceX, bnd, ownV, ownC, own1, ownT, isSl, nSl, endL, Md.isOwn, purge, purgeH, purgeB, purgeE, hasName, name1, List.any_cons, List.any_nil, Md.isWr, pureV.pureP, Option.map, reduceIte, Nat.reduceEqDiff, Nat.reduceAdd, Nat.reduceMul, Nat.reduceLT, Nat.reduceLeDiff, List.mapM_cons, List.mapM_nil, Option.pure_def, Option.bind_eq_bind, Option.bind_some, implies_true, forall_const, beq_self_eq_true, decide_true, decide_false, eq_self, Int.reduceEq, Int.reduceLE, Int.reduceLT, if_true, if_false, grpK, Int.reduceAdd, Int.reduceSub, Int.reduceMul, Int.reduceNeg, Int.reducePow, Nat.reducePow, Int.reduceToNat, Nat.reduceSub, List.replicate, Nat.reduceBEq, wAs, wA, wC, zipW, noDupN, grpE, beq_true, beq_false, g_impl_RootNumber, g_impl_InnerOfTurns]
      all_goals (try simp only [*, m_impl_LengthOfTurn, Bool.and_true, Bool.true_and, Bool.and_false, Bool.false_and, Bool.or_true, Bool.true_or, Bool.or_false, Bool.false_or, Bool.not_true, Bool.not_false, Bool.false_eq_true, if_true, if_false, reduceIte, decide_true, decide_false])
      all_goals (try (simp_all; done))
    · cases h
  · cases h
def m_impl_IsFinite (x0 : Nat) : Bool := (feq .f32 (fsub .f32 x0 x0) 0)
def g_impl_IsFinite : List AV → Option AV
  | [.flt .f32 y0] => some (.bool (m_impl_IsFinite y0))
  | _ => none
def ic60 : ICode := (.seq (.reg [⟨(some 2), none, (.mov (.c (.bool false)))⟩] [0]) (.seq (.reg [⟨(some 3), none, (.mov (.t 0))⟩, ⟨(some 4), none, (.mov (.t 0))⟩, ⟨(some 5), none, (.bin .sub false (.t 3) (.t 4))⟩, ⟨(some 6), none, (.bin .eql false (.t 5) (.c (.flt .f32 0)))⟩, ⟨(some 2), none, (.mov (.t 6))⟩] [2]) .ret))
def cp60 : CP := CP.mk [] [] [[0], [2]] 7 [] []
theorem s60 : ∀ vs r, g_impl_IsFinite vs = some r → SaysM Try.prog .any 60 vs r := by
  intro vs r h
  unfold g_impl_IsFinite at h
  split at h
  · rename_i y0
    cases h
    refine spec_of (m := .any) (tab := tabOf []) (cp := cp60) (ic := ic60) (rvl := [(.t 2)]) hm tabOk_nil Try.func60 rfl rfl rfl (by kernel_rfl) rfl (Nat.le_of_ble_eq_true rfl) (Nat.le_of_ble_eq_true rfl) ?_
    show eA _ _ _ _
    unfold ic60
    simp only [
        grpA, vsliceS, grpS, grpD, grpF, grpL, eop, vop, bop, uop, fltop, convop, endOk, newE, new1, freshL, Md.isNew, outV, pureV, pureX, pure1, AV.cells, AV.one, storable, laid, refless, refless1, vload, loadC, storeC, vnil, vfaddr, vextract, flatT, flatE, flatC, vconv, vmm, vidxA, viaddrA, vfield, vlen, elemsOf, dF32, dF64, dI64, dU8, dBool, dStr, esOk, elemsS, vsliceX, bnd, ownV, ownC, own1, ownT, isSl, nSl, endL, Md.isOwn, purge, purgeH, purgeB, purgeE, hasName, name1, List.any_cons, List.any_nil, Md.isWr, pureV.pureP, Option.map, reduceIte, Nat.reduceEqDiff, Nat.reduceAdd, Nat.reduceMul, Nat.reduceLT, Nat.reduceLeDiff, List.mapM_cons, List.mapM_nil, Option.pure_def, Option.bind_eq_bind, Option.bind_some, implies_true, forall_const, beq_self_eq_true, decide_true, decide_false, eq_self, Int.reduceEq, Int.reduceLE, Int.reduceLT, if_true, if_false, grpK, Int.reduceAdd, Int.reduceSub, Int.reduceMul, Int.reduceNeg, Int.reducePow, Nat.reducePow, Int.reduceToNat, Nat.reduceSub, List.replicate, Nat.reduceBEq, wAs, wA, wC, zipW, noDupN, grpE, beq_true, beq_false]
    all_goals (try simp only [*, m_impl_IsFinite, Bool.and_true, Bool.true_and, Bool.and_false, Bool.false_and, Bool.or_true, Bool.true_or, Bool.or_false, Bool.false_or, Bool.not_true, Bool.not_false, Bool.false_eq_true, if_true, if_false, reduceIte, decide_true, decide_false])
    all_goals (try (simp_all; done))
  · cases h
def m_impl_isLength (x0 : Nat) : Bool := (if (m_impl_IsFinite x0) = true then (!(feq .f32 x0 0)) else false)
def g_impl_isLength : List AV → Option AV
  | [.flt .f32 y0] => some (.bool (m_impl_isLength y0))
  | _ => none
def ic86 : ICode := (.seq (.reg [⟨(some 2), none, (.mov (.c (.bool false)))⟩] [0]) (.seq (.reg [⟨(some 3), none, (.mov (.t 0))⟩, ⟨(some 4), none, (.call (.fn 60) [(.t 3)] [])⟩, ⟨(some 5), none, (.mov (.t 4))⟩, ⟨(some 6), (some (5, true)), (.mov (.t 0))⟩, ⟨(some 7), (some (5, true)), (.bin .neq false (.t 6) (.c (.flt .f32 0)))⟩, ⟨(some 8), none, (.pick (.t 5) (.t 7) (.c (.bool false)))⟩, ⟨(some 2), none, (.mov (.t 8))⟩] [2]) .ret))
def cp86 : CP := CP.mk [] [] [[0], [2]] 9 [] []
theorem s86 : ∀ vs r, g_impl_isLength vs = some r → SaysM Try.prog .any 86 vs r := by
  intro vs r h
  unfold g_impl_isLength at h
  split at h
  · rename_i y0
    cases h
    refine spec_of (m := .any) (tab := tabOf [(60, wM .any g_impl_IsFinite)]) (cp := cp86) (ic := ic86) (rvl := [(.t 2)]) hm (tabOk_cons (m := .any) s60 tabOk_nil) Try.func86 rfl rfl rfl (by kernel_rfl) rfl (Nat.le_of_ble_eq_true rfl) (Nat.le_of_ble_eq_true rfl) ?_
    show eA _ _ _ _
    unfold ic86
    refine eS_to ?_
    repeat' (first
      | ((first | (have h := True.intro; refine eS_of ?_) | (refine eGI_of (fun h => ?_) (fun h => ?_)) | (refine eCc_of (fun h => ?_) (fun h => ?_)) | (refine ePk_of (fun h => ?_) (fun h => ?_))) <;> (try simp only [Bool.not_eq_true', Bool.not_eq_false'] at h) <;> (try first | exact absurd (Eq.trans (Eq.symm h) (by assumption)) Bool.false_ne_true | exact absurd (Eq.trans (Eq.symm h) (by assumption)) (Ne.symm Bool.false_ne_true)) <;> simp only [h,
        grpA, vsliceS, grpS, grpD, grpF, grpL, eop, vop, bop, uop, fltop, convop, endOk, newE, new1, freshL, Md.isNew, outV, pureV, pureX, pure1, AV.cells, AV.one, storable, laid, refless, refless1, vload, loadC, storeC, vnil, vfaddr, vextract, flatT, flatE, flatC, vconv, vmm, vidxA, viaddrA, vfield, vlen, elemsOf, dF32, dF64, dI64, dU8, dBool, dStr, esOk, elemsS, vsliceX, bnd, ownV, ownC, own1, ownT, isSl, nSl, endL, Md.isOwn, purge, purgeH, purgeB, purgeE, hasName, name1, List.any_cons, List.any_nil, Md.isWr, pureV.pureP, Option.map, reduceIte, Nat.reduceEqDiff, Nat.reduceAdd, Nat.reduceMul, Nat.reduceLT, Nat.reduceLeDiff, List.mapM_cons, List.mapM_nil, Option.pure_def, Option.bind_eq_bind, Option.bind_some, implies_true, forall_const, beq_self_eq_true, decide_true, decide_false, eq_self, Int.reduceEq, Int.reduceLE, Int.reduceLT, if_true, if_false, grpK, Int.reduceAdd, Int.reduceSub, Int.reduceMul, Int.reduceNeg, Int.reducePow, Nat.reducePow, Int.reduceToNat, Nat.reduceSub, List.replicate, Nat.reduceBEq, wAs, wA, wC, zipW, noDupN, grpE, beq_true, beq_false, g_impl_IsFinite, ↓b_pick, ePk_true, ePk_false]))
    all_goals (try simp only [*, m_impl_isLength, Bool.and_true, Bool.true_and, Bool.and_false, Bool.false_and, Bool.or_true, Bool.true_or, Bool.or_false, Bool.false_or, Bool.not_true, Bool.not_false, Bool.false_eq_true, if_true, if_false, reduceIte, decide_true, decide_false])
    all_goals (try (simp_all; done))
  · cases h
def m_impl_NoTurn  : (Nat × Nat × Nat × Nat) := (1065353216, 0, 0, 0)
def g_impl_NoTurn : List AV → Option AV
  | [] => some (AV.agg [(.flt .f32 (m_impl_NoTurn).1), (.flt .f32 (m_impl_NoTurn).2.1), (.flt .f32 (m_impl_NoTurn).2.2.1), (.flt .f32 (m_impl_NoTurn).2.2.2)])
  | _ => none
def ic87 : ICode := (.seq (.reg [⟨(some 0), none, (.alloc (.agg [(.flt .f32 0), (.flt .f32 0), (.flt .f32 0), (.flt .f32 0)]))⟩] [0]) (.seq (.reg [⟨(some 1), none, (.build [(.flt .f32 0), (.flt .f32 0), (.flt .f32 0), (.flt .f32 0)] [(0, 1, (.c (.flt .f32 1065353216)))])⟩, ⟨none, none, (.store 4 (.t 0) (.t 1))⟩] [0]) .ret))
def cp87 : CP := CP.mk [] [] [[0], [0]] 2 [] []
theorem s87 : ∀ vs r, g_impl_NoTurn vs = some r → SaysM Try.prog .any 87 vs r := by
  intro vs r h
  unfold g_impl_NoTurn at h
  split at h
  · cases h
    refine spec_of (m := .any) (tab := tabOf []) (cp := cp87) (ic := ic87) (rvl := [(.c 0 (some 4))]) hm tabOk_nil Try.func87 rfl rfl rfl (by kernel_rfl) rfl (Nat.le_of_ble_eq_true rfl) (Nat.le_of_ble_eq_true rfl) ?_
    show eA _ _ _ _
    unfold ic87
    simp only [
        grpA, vsliceS, grpS, grpD, grpF, grpL, eop, vop, bop, uop, fltop, convop, endOk, newE, new1, freshL, Md.isNew, outV, pureV, pureX, pure1, AV.cells, AV.one, storable, laid, refless, refless1, vload, loadC, storeC, vnil, vfaddr, vextract, flatT, flatE, flatC, vconv, vmm, vidxA, viaddrA, vfield, vlen, elemsOf, dF32, dF64, dI64, dU8, dBool, dStr, esOk, elemsS, vsliceX, bnd, ownV, ownC, own1, ownT, isSl, nSl, endL, Md.isOwn, purge, purgeH, purgeB, purgeE, hasName, name1, List.any_cons, List.any_nil, Md.isWr, pureV.pureP, Option.map, reduceIte, Nat.reduceEqDiff, Nat.reduceAdd, Nat.reduceMul, Nat.reduceLT, Nat.reduceLeDiff, List.mapM_cons, List.mapM_nil, Option.pure_def, Option.bind_eq_bind, Option.bind_some, implies_true, forall_const, beq_self_eq_true, decide_true, decide_false, eq_self, Int.reduceEq, Int.reduceLE, Int.reduceLT, if_true, if_false, grpK, Int.reduceAdd, Int.reduceSub, Int.reduceMul, Int.reduceNeg, Int.reducePow, Nat.reducePow, Int.reduceToNat, Nat.reduceSub, List.replicate, Nat.reduceBEq, wAs, wA, wC, zipW, noDupN, grpE, beq_true, beq_false]
    all_goals (try simp only [*, m_impl_NoTurn, Bool.and_true, Bool.true_and, Bool.and_false, Bool.false_and, Bool.or_true, Bool.true_or, Bool.or_false, Bool.false_or, Bool.not_true, Bool.not_false, Bool.false_eq_true, if_true, if_false, reduceIte, decide_true, decide_false])
    all_goals (try (simp_all; done))
  · cases h
def m_impl_MendTurn (x0 : (Nat × Nat × Nat × Nat)) : (Nat × Nat × Nat × Nat) := (if (m_impl_isLength (m_impl_LengthOfTurn x0)) = true then ((fdiv .f32 x0.1 (m_impl_LengthOfTurn x0)), (fdiv .f32 x0.2.1 (m_impl_LengthOfTurn x0)), (fdiv .f32 x0.2.2.1 (m_impl_LengthOfTurn x0)), (fdiv .f32 x0.2.2.2 (m_impl_LengthOfTurn x0))) else (m_impl_NoTurn))
def p_impl_MendTurn (x0 : (Nat × Nat × Nat × Nat)) : Bool := (p_impl_LengthOfTurn x0)
def g_impl_MendTurn : List AV → Option AV
  | [.agg [.flt .f32 y0, .flt .f32 y1, .flt .f32 y2, .flt .f32 y3]] => if p_impl_MendTurn (y0, y1, y2, y3) = true then some (AV.agg [(.flt .f32 (m_impl_MendTurn (y0, y1, y2, y3)).1), (.flt .f32 (m_impl_MendTurn (y0, y1, y2, y3)).2.1), (.flt .f32 (m_impl_MendTurn (y0, y1, y2, y3)).2.2.1), (.flt .f32 (m_impl_MendTurn (y0, y1, y2, y3)).2.2.2)]) else none
  | _ => none
def ic54 : ICode := (.seq (.reg [⟨(some 1), none, (.box 4 (.t 0))⟩, ⟨(some 2), none, (.alloc (.agg [(.flt .f32 0), (.flt .f32 0), (.flt .f32 0), (.flt .f32 0)]))⟩] [1, 2]) (.seq (.reg [⟨(some 4), none, (.load (some 4) (.t 1))⟩, ⟨(some 5), none, (.call (.fn 85) [(.t 4)] [])⟩, ⟨(some 3), none, (.mov (.t 5))⟩] [1, 2, 3]) (.seq (.seq (.reg [⟨(some 6), none, (.mov (.t 3))⟩, ⟨(some 7), none, (.call (.fn 86) [(.t 6)] [])⟩, ⟨(some 8), none, (.un .not (.t 7))⟩] [1, 2, 3, 8]) (.cond (.t 8) (.seq (.reg [⟨(some 9), none, (.call (.fn 87) [] [])⟩, ⟨none, none, (.store 4 (.t 2) (.t 9))⟩] [2]) .ret) .skip)) (.seq (.reg [⟨(some 10), none, (.faddr 0 (.t 1))⟩, ⟨(some 11), none, (.load none (.t 10))⟩, ⟨(some 12), none, (.mov (.t 3))⟩, ⟨(some 13), none, (.bin .quo false (.t 11) (.t 12))⟩, ⟨(some 14), none, (.faddr 1 (.t 1))⟩, ⟨(some 15), none, (.load none (.t 14))⟩, ⟨(some 16), none, (.mov (.t 3))⟩, ⟨(some 17), none, (.bin .quo false (.t 15) (.t 16))⟩, ⟨(some 18), none, (.faddr 2 (.t 1))⟩, ⟨(some 19), none, (.load none (.t 18))⟩, ⟨(some 20), none, (.mov (.t 3))⟩, ⟨(some 21), none, (.bin .quo false (.t 19) (.t 20))⟩, ⟨(some 22), none, (.faddr 3 (.t 1))⟩, ⟨(some 23), none, (.load none (.t 22))⟩, ⟨(some 24), none, (.mov (.t 3))⟩, ⟨(some 25), none, (.bin .quo false (.t 23) (.t 24))⟩, ⟨(some 26), none, (.build [(.flt .f32 0), (.flt .f32 0), (.flt .f32 0), (.flt .f32 0)] [(0, 1, (.t 13)), (1, 1, (.t 17)), (2, 1, (.t 21)), (3, 1, (.t 25))])⟩, ⟨none, none, (.store 4 (.t 2) (.t 26))⟩] [2]) .ret))))
def cp54 : CP := CP.mk [] [] [[1, 2], [1, 2, 3], [1, 2, 3, 8], [2], [2]] 27 [] []
theorem s54 : ∀ vs r, g_impl_MendTurn vs = some r → SaysM Try.prog .any 54 vs r := by
  intro vs r h
  unfold g_impl_MendTurn at h
  split at h
  · rename_i y0 y1 y2 y3
    split at h
    · rename_i hp
      cases h
      refine spec_of (m := .any) (tab := tabOf [(85, wM .any g_impl_LengthOfTurn), (86, wM .any g_impl_isLength), (87, wM .any g_impl_NoTurn)]) (cp := cp54) (ic := ic54) (rvl := [(.c 2 (some 4))]) hm (tabOk_cons (m := .any) s85 (tabOk_cons (m := .any) s86 (tabOk_cons (m := .any) s87 tabOk_nil))) Try.func54 rfl rfl rfl (by kernel_rfl) rfl (Nat.le_of_ble_eq_true rfl) (Nat.le_of_ble_eq_true rfl) ?_
      show eA _ _ _ _
      unfold ic54
      simp only [p_impl_MendTurn, Bool.and_eq_true, Bool.or_eq_true, decide_eq_true_eq, Bool.not_eq_true', decide_eq_false_iff_not] at hp
      refine eS_to ?_
      repeat' (first
        | ((first | (have h := True.intro; refine eS_of ?_) | (refine eGI_of (fun h => ?_) (fun h => ?_)) | (refine eCc_of (fun h => ?_) (fun h => ?_))) <;> (try simp only [Bool.not_eq_true', Bool.not_eq_false'] at h) <;> (try first | exact absurd (Eq.trans (Eq.symm h) (by assumption)) Bool.false_ne_true | exact absurd (Eq.trans (Eq.symm h) (by assumption)) (Ne.symm Bool.false_ne_true)) <;> (try simp only [h, reduceCtorEq, grpN, Int.reduceEq, Int.reduceLT, Int.reduceLE, if_true, if_false, reduceIte] at hp) <;> (first | (have h2 := h; simp only [decide_eq_true_eq, decide_eq_false_iff_not] at h2; (first | (replace h2 := eq_false h2) | (replace h2 := eq_true h2)); (try simp only [h2, reduceCtorEq, grpN, Int.reduceEq, Int.reduceLT, Int.reduceLE, if_true, if_false, reduceIte] at hp); replace hp := And.intro h2 hp) | (replace hp := And.intro h hp) | skip) <;> simp only [h,
          hp, grpA, vsliceS, grpS, grpD, grpF, grpL, eop, vop, bop, uop, fltop, convop, endOk, newE, new1, freshL, Md.isNew, outV, pureV, pureX, pure1, AV.cells, AV.one, storable, laid, refless, refless1, vload, loadC, storeC, vnil, vfaddr, vextract, flatT, flatE, flatC, vconv, vmm, vidxA, viaddrA, vfield, vlen, elemsOf, dF32, dF64, dI64, dU8, dBool, dStr, esOk, elemsS, vsliceX, bnd, ownV, ownC, own1, ownT, isSl, nSl, endL, Md.isOwn, purge, purgeH, purgeB, purgeE, hasName, name1, List.any_cons, List.any_nil, Md.isWr, pureV.pureP, Option.map, reduceIte, Nat.reduceEqDiff, Nat.reduceAdd, Nat.reduceMul, Nat.reduceLT, Nat.reduceLeDiff, List.mapM_cons, List.mapM_nil, Option.pure_def, Option.bind_eq_bind, Option.bind_some, implies_true, forall_const, beq_self_eq_true, decide_true, decide_false, eq_self, Int.reduceEq, Int.reduceLE, Int.reduceLT, if_true, if_false, grpK, Int.reduceAdd, Int.reduceSub, Int.reduceMul, Int.reduceNeg, Int.reducePow, Nat.reducePow, Int.reduceToNat, Nat.reduceSub, List.replicate, Nat.reduceBEq, wAs, wA, wC, zipW, noDupN, grpE, beq_true, beq_false, g_impl_LengthOfTurn, g_impl_isLength, g_impl_NoTurn]))
      all_goals (try simp only [*, m_impl_MendTurn, Bool.and_true, Bool.true_and, Bool.and_false, Bool.false_and, Bool.or_true, Bool.true_or, Bool.or_false, Bool.false_or, Bool.not_true, Bool.not_false, Bool.false_eq_true, if_true, if_false, reduceIte, decide_true, decide_false])
      all_goals (try (simp_all; done))
    · cases h
  · cases h
def m_impl_Turn_numbers (x0 : (Nat × Nat × Nat × Nat)) : (Nat × Nat × Nat × Nat) := x0
def g_impl_Turn_numbers : List AV → Option AV
  | [.agg [.flt .f32 y0, .flt .f32 y1, .flt .f32 y2, .flt .f32 y3]] => some (AV.agg [(.flt .f32 (m_impl_Turn_numbers (y0, y1, y2, y3)).1), (.flt .f32 (m_impl_Turn_numbers (y0, y1, y2, y3)).2.1), (.flt .f32 (m_impl_Turn_numbers (y0, y1, y2, y3)).2.2.1), (.flt .f32 (m_impl_Turn_numbers (y0, y1, y2, y3)).2.2.2)])
  | _ => none
def ic58 : ICode := (.seq (.reg [⟨(some 1), none, (.box 4 (.t 0))⟩, ⟨(some 2), none, (.alloc (.agg [(.flt .f32 0), (.flt .f32 0), (.flt .f32 0), (.flt .f32 0)]))⟩] [1, 2]) (.seq (.reg [⟨(some 3), none, (.faddr 0 (.t 1))⟩, ⟨(some 4), none, (.load none (.t 3))⟩, ⟨(some 5), none, (.faddr 1 (.t 1))⟩, ⟨(some 6), none, (.load none (.t 5))⟩, ⟨(some 7), none, (.faddr 2 (.t 1))⟩, ⟨(some 8), none, (.load none (.t 7))⟩, ⟨(some 9), none, (.faddr 3 (.t 1))⟩, ⟨(some 10), none, (.load none (.t 9))⟩, ⟨(some 11), none, (.build [(.flt .f32 0), (.flt .f32 0), (.flt .f32 0), (.flt .f32 0)] [(0, 1, (.t 4)), (1, 1, (.t 6)), (2, 1, (.t 8)), (3, 1, (.t 10))])⟩, ⟨none, none, (.store 4 (.t 2) (.t 11))⟩] [2]) .ret))
def cp58 : CP := CP.mk [] [] [[1, 2], [2]] 12 [] []
theorem s58 : ∀ vs r, g_impl_Turn_numbers vs = some r → SaysM Try.prog .any 58 vs r := by
  intro vs r h
  unfold g_impl_Turn_numbers at h
  split at h
  · rename_i y0 y1 y2 y3
    cases h
    refine spec_of (m := .any) (tab := tabOf []) (cp := cp58) (ic := ic58) (rvl := [(.c 2 (some 4))]) hm tabOk_nil Try.func58 rfl rfl rfl (by kernel_rfl) rfl (Nat.le_of_ble_eq_true rfl) (Nat.le_of_ble_eq_true rfl) ?_
    show eA _ _ _ _
    unfold ic58
    simp only [
        grpA, vsliceS, grpS, grpD, grpF, grpL, eop, vop, bop, uop, fltop, convop, endOk, newE, new1, freshL, Md.isNew, outV, pureV, pureX, pure1, AV.cells, AV.one, storable, laid, refless, refless1, vload, loadC, storeC, vnil, vfaddr, vextract, flatT, flatE, flatC, vconv, vmm, vidxA, viaddrA, vfield, vlen, elemsOf, dF32, dF64, dI64, dU8, dBool, dStr, esOk, elemsS, vsliceX, bnd, ownV, ownC, own1, ownT, isSl, nSl, endL, Md.isOwn, purge, purgeH, purgeB, purgeE, hasName, name1, List.any_cons, List.any_nil, Md.isWr, pureV.pureP, Option.map, reduceIte, Nat.reduceEqDiff, Nat.reduceAdd, Nat.reduceMul, Nat.reduceLT, Nat.reduceLeDiff, List.mapM_cons, List.mapM_nil, Option.pure_def, Option.bind_eq_bind, Option.bind_some, implies_true, forall_const, beq_self_eq_true, decide_true, decide_false, eq_self, Int.reduceEq, Int.reduceLE, Int.reduceLT, if_true, if_false, grpK, Int.reduceAdd, Int.reduceSub, Int.reduceMul, Int.reduceNeg, Int.reducePow, Nat.reducePow, Int.reduceToNat, Nat.reduceSub, List.replicate, Nat.reduceBEq, wAs, wA, wC, zipW, noDupN, grpE, beq_true, beq_false]
    all_goals (try simp only [*, m_impl_Turn_numbers, Bool.and_true, Bool.true_and, Bool.and_false, Bool.false_and, Bool.or_true, Bool.true_or, Bool.or_false, Bool.false_or, Bool.not_true, Bool.not_false, Bool.false_eq_true, if_true, if_false, reduceIte, decide_true, decide_false])
    all_goals (try (simp_all; done))
  · cases h
def m_impl_areBits (x0 : Int) : Bool := (if (decide (2 ≤ x0)) = true then (decide (x0 ≤ 16)) else false)
def g_impl_areBits : List AV → Option AV
  | [.int .i64 y0] => some (.bool (m_impl_areBits y0))
  | _ => none
def ic49 : ICode := (.seq (.reg [⟨(some 2), none, (.mov (.c (.bool false)))⟩] [0]) (.seq (.reg [⟨(some 3), none, (.mov (.t 0))⟩, ⟨(some 4), none, (.bin .geq false (.t 3) (.c (.int .i64 2)))⟩, ⟨(some 5), none, (.mov (.t 4))⟩, ⟨(some 6), (some (5, true)), (.mov (.t 0))⟩, ⟨(some 7), (some (5, true)), (.bin .leq false (.t 6) (.c (.int .i64 16)))⟩, ⟨(some 8), none, (.pick (.t 5) (.t 7) (.c (.bool false)))⟩, ⟨(some 2), none, (.mov (.t 8))⟩] [2]) .ret))
def cp49 : CP := CP.mk [] [] [[0], [2]] 9 [] []
theorem s49 : ∀ vs r, g_impl_areBits vs = some r → SaysM Try.prog .any 49 vs r := by
  intro vs r h
  unfold g_impl_areBits at h
  split at h
  · rename_i y0
    cases h
    refine spec_of (m := .any) (tab := tabOf []) (cp := cp49) (ic := ic49) (rvl := [(.t 2)]) hm tabOk_nil Try.func49 rfl rfl rfl (by kernel_rfl) rfl (Nat.le_of_ble_eq_true rfl) (Nat.le_of_ble_eq_true rfl) ?_
    show eA _ _ _ _
    unfold ic49
    refine eS_to ?_
    repeat' (first
      | ((first | (have h := True.intro; refine eS_of ?_) | (refine eGI_of (fun h => ?_) (fun h => ?_)) | (refine eCc_of (fun h => ?_) (fun h => ?_)) | (refine ePk_of (fun h => ?_) (fun h => ?_))) <;> (try simp only [Bool.not_eq_true', Bool.not_eq_false'] at h) <;> (try first | exact absurd (Eq.trans (Eq.symm h) (by assumption)) Bool.false_ne_true | exact absurd (Eq.trans (Eq.symm h) (by assumption)) (Ne.symm Bool.false_ne_true)) <;> simp only [h,
        grpA, vsliceS, grpS, grpD, grpF, grpL, eop, vop, bop, uop, fltop, convop, endOk, newE, new1, freshL, Md.isNew, outV, pureV, pureX, pure1, AV.cells, AV.one, storable, laid, refless, refless1, vload, loadC, storeC, vnil, vfaddr, vextract, flatT, flatE, flatC, vconv, vmm, vidxA, viaddrA, vfield, vlen, elemsOf, dF32, dF64, dI64, dU8, dBool, dStr, esOk, elemsS, vsliceX, bnd, ownV, ownC, own1, ownT, isSl, nSl, endL, Md.isOwn, purge, purgeH, purgeB, purgeE, hasName, name1, List.any_cons, List.any_nil, Md.isWr, pureV.pureP, Option.map, reduceIte, Nat.reduceEqDiff, Nat.reduceAdd, Nat.reduceMul, Nat.reduceLT, Nat.reduceLeDiff, List.mapM_cons, List.mapM_nil, Option.pure_def, Option.bind_eq_bind, Option.bind_some, implies_true, forall_const, beq_self_eq_true, decide_true, decide_false, eq_self, Int.reduceEq, Int.reduceLE, Int.reduceLT, if_true, if_false, grpK, Int.reduceAdd, Int.reduceSub, Int.reduceMul, Int.reduceNeg, Int.reducePow, Nat.reducePow, Int.reduceToNat, Nat.reduceSub, List.replicate, Nat.reduceBEq, wAs, wA, wC, zipW, noDupN, grpE, beq_true, beq_false, ↓b_pick, ePk_true, ePk_false]))
    all_goals (try simp only [*, m_impl_areBits, Bool.and_true, Bool.true_and, Bool.and_false, Bool.false_and, Bool.or_true, Bool.true_or, Bool.or_false, Bool.false_or, Bool.not_true, Bool.not_false, Bool.false_eq_true, if_true, if_false, reduceIte, decide_true, decide_false])
    all_goals (try (simp_all; done))
  · cases h
def m_impl_areFinite (x0 : (Nat × Nat × Nat × Nat)) : Bool := (if (m_impl_IsFinite x0.1) = true then (if (m_impl_IsFinite x0.2.1) = true then (if (m_impl_IsFinite x0.2.2.1) = true then (m_impl_IsFinite x0.2.2.2) else false) else false) else false)
def g_impl_areFinite : List AV → Option AV
  | [.agg [.flt .f32 y0, .flt .f32 y1, .flt .f32 y2, .flt .f32 y3]] => some (.bool (m_impl_areFinite (y0, y1, y2, y3)))
  | _ => none
def ic59 : ICode := (.seq (.reg [⟨(some 1), none, (.box 4 (.t 0))⟩, ⟨(some 2), none, (.mov (.c (.bool false)))⟩] [1]) (.seq (.reg [⟨(some 3), none, (.iaddrA 4 1 (.t 1) (.c (.int .i64 0)))⟩, ⟨(some 4), none, (.load none (.t 3))⟩, ⟨(some 5), none, (.call (.fn 60) [(.t 4)] [])⟩, ⟨(some 6), none, (.mov (.t 5))⟩, ⟨(some 7), (some (6, true)), (.iaddrA 4 1 (.t 1) (.c (.int .i64 1)))⟩, ⟨(some 8), (some (6, true)), (.load none (.t 7))⟩, ⟨(some 9), (some (6, true)), (.call (.fn 60) [(.t 8)] [])⟩, ⟨(some 10), none, (.pick (.t 6) (.t 9) (.c (.bool false)))⟩, ⟨(some 11), none, (.mov (.t 10))⟩, ⟨(some 12), (some (11, true)), (.iaddrA 4 1 (.t 1) (.c (.int .i64 2)))⟩, ⟨(some 13), (some (11, true)), (.load none (.t 12))⟩, ⟨(some 14), (some (11, true)), (.call (.fn 60) [(.t 13)] [])⟩, ⟨(some 15), none, (.pick (.t 11) (.t 14) (.c (.bool false)))⟩, ⟨(some 16), none, (.mov (.t 15))⟩, ⟨(some 17), (some (16, true)), (.iaddrA 4 1 (.t 1) (.c (.int .i64 3)))⟩, ⟨(some 18), (some (16, true)), (.load none (.t 17))⟩, ⟨(some 19), (some (16, true)), (.call (.fn 60) [(.t 18)] [])⟩, ⟨(some 20), none, (.pick (.t 16) (.t 19) (.c (.bool false)))⟩, ⟨(some 2), none, (.mov (.t 20))⟩] [2]) .ret))
def cp59 : CP := CP.mk [] [] [[1], [2]] 21 [] []
theorem s59 : ∀ vs r, g_impl_areFinite vs = some r → SaysM Try.prog .any 59 vs r := by
  intro vs r h
  unfold g_impl_areFinite at h
  split at h
  · rename_i y0 y1 y2 y3
    cases h
    refine spec_of (m := .any) (tab := tabOf [(60, wM .any g_impl_IsFinite)]) (cp := cp59) (ic := ic59) (rvl := [(.t 2)]) hm (tabOk_cons (m := .any) s60 tabOk_nil) Try.func59 rfl rfl rfl (by kernel_rfl) rfl (Nat.le_of_ble_eq_true rfl) (Nat.le_of_ble_eq_true rfl) ?_
    show eA _ _ _ _
    unfold ic59
    refine eS_to ?_
    repeat' (first
      | ((first | (have h := True.intro; refine eS_of ?_) | (refine eGI_of (fun h => ?_) (fun h => ?_)) | (refine eCc_of (fun h => ?_) (fun h => ?_)) | (refine ePk_of (fun h => ?_) (fun h => ?_))) <;> (try simp only [Bool.not_eq_true', Bool.not_eq_false'] at h) <;> (try first | exact absurd (Eq.trans (Eq.symm h) (by assumption)) Bool.false_ne_true | exact absurd (Eq.trans (Eq.symm h) (by assumption)) (Ne.symm Bool.false_ne_true)) <;> simp only [h,
        grpA, vsliceS, grpS, grpD, grpF, grpL, eop, vop, bop, uop, fltop, convop, endOk, newE, new1, freshL, Md.isNew, outV, pureV, pureX, pure1, AV.cells, AV.one, storable, laid, refless, refless1, vload, loadC, storeC, vnil, vfaddr, vextract, flatT, flatE, flatC, vconv, vmm, vidxA, viaddrA, vfield, vlen, elemsOf, dF32, dF64, dI64, dU8, dBool, dStr, esOk, elemsS, vsliceX, bnd, ownV, ownC, own1, ownT, isSl, nSl, endL, Md.isOwn, purge, purgeH, purgeB, purgeE, hasName, name1, List.any_cons, List.any_nil, Md.isWr, pureV.pureP, Option.map, reduceIte, Nat.reduceEqDiff, Nat.reduceAdd, Nat.reduceMul, Nat.reduceLT, Nat.reduceLeDiff, List.mapM_cons, List.mapM_nil, Option.pure_def, Option.bind_eq_bind, Option.bind_some, implies_true, forall_const, beq_self_eq_true, decide_true, decide_false, eq_self, Int.reduceEq, Int.reduceLE, Int.reduceLT, if_true, if_false, grpK, Int.reduceAdd, Int.reduceSub, Int.reduceMul, Int.reduceNeg, Int.reducePow, Nat.reducePow, Int.reduceToNat, Nat.reduceSub, List.replicate, Nat.reduceBEq, wAs, wA, wC, zipW, noDupN, grpE, beq_true, beq_false, g_impl_IsFinite, ↓b_pick, ePk_true, ePk_false]))
    all_goals (try simp only [*, m_impl_areFinite, Bool.and_true, Bool.true_and, Bool.and_false, Bool.false_and, Bool.or_true, Bool.true_or, Bool.or_false, Bool.false_or, Bool.not_true, Bool.not_false, Bool.false_eq_true, if_true, if_false, reduceIte, decide_true, decide_false])
    all_goals (try (simp_all; done))
  · cases h
theorem s108 : ∀ vs r, g_f64from vs = some r → SaysM Try.prog .any 108 vs r := t_f64from Try.func108 (by kernel_rfl) rfl (by kernel_rfl) (by kernel_rfl)
theorem s109 : ∀ vs r, g_f64bits vs = some r → SaysM Try.prog .any 109 vs r := t_f64bits Try.func109 (by kernel_rfl) rfl (by kernel_rfl) (by kernel_rfl)
def ic92 : ICode := (.seq (.reg [⟨(some 2), none, (.mov (.c (.flt .f64 0)))⟩] [0]) (.seq (.reg [⟨(some 3), none, (.mov (.t 0))⟩, ⟨(some 4), none, (.call (.fn 109) [(.t 3)] [])⟩, ⟨(some 5), none, (.bin .andNot false (.t 4) (.c (.int .u64 9223372036854775808)))⟩, ⟨(some 6), none, (.call (.fn 108) [(.t 5)] [])⟩, ⟨(some 2), none, (.mov (.t 6))⟩] [2]) .ret))
def cp92 : CP := { n := 7, kp := [[0], [2]] }
theorem s92 : ∀ vs r, g_abs vs = some r → SaysM Try.prog .any 92 vs r := by
  intro vs r h
  unfold g_abs at h
  split at h
  · rename_i c
    cases h
    refine says_raw1 fun b hb => ?_
    have hlt : b < 2 ^ 64 := hb.lt
    rw [fabs_fv hb]
    refine spec_of (m := .any) (tab := tabOf [(108, wM .any g_f64from), (109, wM .any g_f64bits)]) (cp := cp92) (ic := ic92) (rvl := [(.t 2)]) hm (tabOk_cons (m := .any) s108 (tabOk_cons (m := .any) s109 tabOk_nil)) Try.func92 rfl rfl rfl (by kernel_rfl) rfl (Nat.le_of_ble_eq_true rfl) (Nat.le_of_ble_eq_true rfl) ?_
    show eA _ _ _ _
    unfold ic92
    simp only [
      if_pos hlt, grpA, vsliceS, grpS, grpD, grpF, grpL, eop, vop, bop, uop, fltop, convop, endOk, newE, new1, freshL, Md.isNew, outV, pureV, pureX, pure1, AV.cells, AV.one, storable, laid, refless, refless1, vload, loadC, storeC, vnil, vfaddr, vextract, flatT, flatE, flatC, vconv, vmm, vidxA, viaddrA, vfield, vlen, elemsOf, dF32, dF64, dI64, dU8, dBool, dStr, esOk, elemsS, vsliceX, bnd, ownV, ownC, own1, ownT, isSl, nSl, endL, Md.isOwn, purge, purgeH, purgeB, purgeE, hasName, name1, List.any_cons, List.any_nil, Md.isWr, pureV.pureP, Option.map, reduceIte, Nat.reduceEqDiff, Nat.reduceAdd, Nat.reduceMul, Nat.reduceLT, Nat.reduceLeDiff, List.mapM_cons, List.mapM_nil, Option.pure_def, Option.bind_eq_bind, Option.bind_some, implies_true, forall_const, beq_self_eq_true, decide_true, decide_false, eq_self, Int.reduceEq, Int.reduceLE, Int.reduceLT, if_true, if_false, e_mov, g_mov, e_bin, g_bin, e_call, g_call, g_f64bits, g_f64from]
  · cases h
def m_impl_size (x0 : Nat) : Nat := (narrow (fabs (widen x0)))
def p_impl_size (x0 : Nat) : Bool := (narrowOk (fabs (widen x0)))
def g_impl_size : List AV → Option AV
  | [.flt .f32 y0] => if p_impl_size y0 = true then some (.flt .f32 (m_impl_size y0)) else none
  | _ => none
def ic61 : ICode := (.seq (.reg [⟨(some 2), none, (.mov (.c (.flt .f32 0)))⟩] [0]) (.seq (.reg [⟨(some 3), none, (.mov (.t 0))⟩, ⟨(some 4), none, (.conv (.flt .f64) (.t 3))⟩, ⟨(some 5), none, (.call (.fn 92) [(.t 4)] [])⟩, ⟨(some 6), none, (.conv (.flt .f32) (.t 5))⟩, ⟨(some 2), none, (.mov (.t 6))⟩] [2]) .ret))
def cp61 : CP := CP.mk [] [] [[0], [2]] 7 [] []
theorem s61 : ∀ vs r, g_impl_size vs = some r → SaysM Try.prog .any 61 vs r := by
  intro vs r h
  unfold g_impl_size at h
  split at h
  · rename_i y0
    split at h
    · rename_i hp
      cases h
      refine spec_of (m := .any) (tab := tabOf [(92, wM .any g_abs)]) (cp := cp61) (ic := ic61) (rvl := [(.t 2)]) hm (tabOk_cons (m := .any) s92 tabOk_nil) Try.func61 rfl rfl rfl (by kernel_rfl) rfl (Nat.le_of_ble_eq_true rfl) (Nat.le_of_ble_eq_true rfl) ?_
      show eA _ _ _ _
      unfold ic61
      simp only [p_impl_size, Bool.and_eq_true, Bool.or_eq_true, decide_eq_true_eq, Bool.not_eq_true', decide_eq_false_iff_not] at hp
      simp only [
          hp, grpA, vsliceS, grpS, grpD, grpF, grpL, eop, vop, bop, uop, fltop, convop, endOk, newE, new1, freshL, Md.isNew, outV, pureV, pureX, pure1, AV.cells, AV.one, storable, laid, refless, refless1, vload, loadC, storeC, vnil, vfaddr, vextract, flatT, flatE, flatC, vconv, vmm, vidxA, viaddrA, vfield, vlen, elemsOf, dF32, dF64, dI64, dU8, dBool, dStr, esOk, elemsS, vsliceX, bnd, ownV, ownC, own1, ownT, isSl, nSl, endL, Md.isOwn, purge, purgeH, purgeB, purgeE, hasName, name1, List.any_cons, List.any_nil, Md.isWr, pureV.pureP, Option.map, reduceIte, Nat.reduceEqDiff, Nat.reduceAdd, Nat.reduceMul, Nat.reduceLT, Nat.reduceLeDiff, List.mapM_cons, List.mapM_nil, Option.pure_def, Option.bind_eq_bind, Option.bind_some, implies_true, forall_const, beq_self_eq_true, decide_true, decide_false, eq_self, Int.reduceEq, Int.reduceLE, Int.reduceLT, if_true, if_false, grpK, Int.reduceAdd, Int.reduceSub, Int.reduceMul, Int.reduceNeg, Int.reducePow, Nat.reducePow, Int.reduceToNat, Nat.reduceSub, List.replicate, Nat.reduceBEq, wAs, wA, wC, zipW, noDupN, grpE, beq_true, beq_false, g_abs]
      all_goals (try simp only [*, m_impl_size, Bool.and_true, Bool.true_and, Bool.and_false, Bool.false_and, Bool.or_true, Bool.true_or, Bool.or_false, Bool.false_or, Bool.not_true, Bool.not_false, Bool.false_eq_true, if_true, if_false, reduceIte, decide_true, decide_false])
      all_goals (try (simp_all; done))
    · cases h
  · cases h
def m_impl_codes (x0 : Int) : Int := (IntKind.wrap .i64 (1 * 2 ^ (min (x0 : Int).toNat 64)))
def p_impl_codes (x0 : Int) : Bool := (decide (0 ≤ x0))
def g_impl_codes : List AV → Option AV
  | [.int .i64 y0] => if p_impl_codes y0 = true then some (.int .i64 (m_impl_codes y0)) else none
  | _ => none
def ic50 : ICode := (.seq (.reg [⟨(some 2), none, (.mov (.c (.int .i64 0)))⟩] [0]) (.seq (.reg [⟨(some 3), none, (.mov (.t 0))⟩, ⟨(some 4), none, (.bin .shl false (.c (.int .i64 1)) (.t 3))⟩, ⟨(some 2), none, (.mov (.t 4))⟩] [2]) .ret))
def cp50 : CP := CP.mk [] [] [[0], [2]] 5 [] []
theorem s50 : ∀ vs r, g_impl_codes vs = some r → SaysM Try.prog .any 50 vs r := by
  intro vs r h
  unfold g_impl_codes at h
  split at h
  · rename_i y0
    split at h
    · rename_i hp
      cases h
      refine spec_of (m := .any) (tab := tabOf []) (cp := cp50) (ic := ic50) (rvl := [(.t 2)]) hm tabOk_nil Try.func50 rfl rfl rfl (by kernel_rfl) rfl (Nat.le_of_ble_eq_true rfl) (Nat.le_of_ble_eq_true rfl) ?_
      show eA _ _ _ _
      unfold ic50
      simp only [p_impl_codes, Bool.and_eq_true, Bool.or_eq_true, decide_eq_true_eq, Bool.not_eq_true', decide_eq_false_iff_not] at hp
      simp only [
          hp, grpA, vsliceS, grpS, grpD, grpF, grpL, eop, vop, bop, uop, fltop, convop, endOk, newE, new1, freshL, Md.isNew, outV, pureV, pureX, pure1, AV.cells, AV.one, storable, laid, refless, refless1, vload, loadC, storeC, vnil, vfaddr, vextract, flatT, flatE, flatC, vconv, vmm, vidxA, viaddrA, vfield, vlen, elemsOf, dF32, dF64, dI64, dU8, dBool, dStr, esOk, elemsS, vsliceX, bnd, ownV, ownC, own1, ownT, isSl, nSl, endL, Md.isOwn, purge, purgeH, purgeB, purgeE, hasName, name1, List.any_cons, List.any_nil, Md.isWr, pureV.pureP, Option.map, reduceIte, Nat.reduceEqDiff, Nat.reduceAdd, Nat.reduceMul, Nat.reduceLT, Nat.reduceLeDiff, List.mapM_cons, List.mapM_nil, Option.pure_def, Option.bind_eq_bind, Option.bind_some, implies_true, forall_const, beq_self_eq_true, decide_true, decide_false, eq_self, Int.reduceEq, Int.reduceLE, Int.reduceLT, if_true, if_false, grpK, Int.reduceAdd, Int.reduceSub, Int.reduceMul, Int.reduceNeg, Int.reducePow, Nat.reducePow, Int.reduceToNat, Nat.reduceSub, List.replicate, Nat.reduceBEq, wAs, wA, wC, zipW, noDupN, grpE, beq_true, beq_false]
      all_goals (try simp only [*, m_impl_codes, Bool.and_true, Bool.true_and, Bool.and_false, Bool.false_and, Bool.or_true, Bool.true_or, Bool.or_false, Bool.false_or, Bool.not_true, Bool.not_false, Bool.false_eq_true, if_true, if_false, reduceIte, decide_true, decide_false])
      all_goals (try (simp_all; done))
    · cases h
  · cases h
def v_impl_codeOf_0 (x0 : Nat) (x1 : Nat) (x2 : Nat) (x3 : Int) : Nat := (integral .even (fmul .f64 (fdiv .f64 (fsub .f64 (widen x0) (widen x1)) (fsub .f64 (widen x2) (widen x1))) (ofInt .f64 (IntKind.wrap .i64 ((m_impl_codes x3) - 1)))))
def m_impl_codeOf (x0 : Nat) (x1 : Nat) (x2 : Nat) (x3 : Int) : Int := (f2iV .f64 (fmin .f64 (fmax .f64 (v_impl_codeOf_0 x0 x1 x2 x3) 0) (ofInt .f64 (IntKind.wrap .i64 ((m_impl_codes x3) - 1)))))
def p_impl_codeOf (x0 : Nat) (x1 : Nat) (x2 : Nat) (x3 : Int) : Bool := ((p_impl_codes x3) && (f2iOk .i64 .f64 (fmin .f64 (fmax .f64 (v_impl_codeOf_0 x0 x1 x2 x3) 0) (ofInt .f64 (IntKind.wrap .i64 ((m_impl_codes x3) - 1))))))
def g_impl_codeOf : List AV → Option AV
  | [.flt .f32 y0, .flt .f32 y1, .flt .f32 y2, .int .i64 y3] => if p_impl_codeOf y0 y1 y2 y3 = true then some (.int .i64 (m_impl_codeOf y0 y1 y2 y3)) else none
  | _ => none
def ic62 : ICode := (.seq (.reg [⟨(some 8), none, (.mov (.c (.int .i64 0)))⟩] [0, 1, 2, 3]) (.seq (.reg [⟨(some 11), none, (.mov (.t 3))⟩, ⟨(some 12), none, (.call (.fn 50) [(.t 11)] [])⟩, ⟨(some 13), none, (.bin .sub false (.t 12) (.c (.int .i64 1)))⟩, ⟨(some 14), none, (.conv (.flt .f64) (.t 13))⟩, ⟨(some 9), none, (.mov (.t 14))⟩] [0, 1, 2, 9]) (.seq (.reg [⟨(some 15), none, (.mov (.t 0))⟩, ⟨(some 16), none, (.conv (.flt .f64) (.t 15))⟩, ⟨(some 17), none, (.mov (.t 1))⟩, ⟨(some 18), none, (.conv (.flt .f64) (.t 17))⟩, ⟨(some 19), none, (.bin .sub false (.t 16) (.t 18))⟩, ⟨(some 20), none, (.mov (.t 2))⟩, ⟨(some 21), none, (.conv (.flt .f64) (.t 20))⟩, ⟨(some 22), none, (.mov (.t 1))⟩, ⟨(some 23), none, (.conv (.flt .f64) (.t 22))⟩, ⟨(some 24), none, (.bin .sub false (.t 21) (.t 23))⟩, ⟨(some 25), none, (.bin .quo false (.t 19) (.t 24))⟩, ⟨(some 26), none, (.mov (.t 9))⟩, ⟨(some 27), none, (.bin .mul false (.t 25) (.t 26))⟩, ⟨(some 10), none, (.mov (.t 27))⟩] [9, 10]) (.seq (.reg [⟨(some 28), none, (.mov (.t 10))⟩, ⟨(some 29), none, (.call (.fn 93) [(.t 28)] [])⟩, ⟨(some 30), none, (.mm true (.t 29) (.c (.flt .f64 0)))⟩, ⟨(some 31), none, (.mov (.t 9))⟩, ⟨(some 32), none, (.mm false (.t 30) (.t 31))⟩, ⟨(some 33), none, (.conv (.int .i64) (.t 32))⟩, ⟨(some 8), none, (.mov (.t 33))⟩] [8]) .ret))))
def cp62 : CP := CP.mk [] [] [[0, 1, 2, 3], [0, 1, 2, 9], [9, 10], [8]] 34 [] []
theorem s62 : ∀ vs r, g_impl_codeOf vs = some r → SaysM Try.prog .any 62 vs r := by
  intro vs r h
  unfold g_impl_codeOf at h
  split at h
  · rename_i y0 y1 y2 y3
    split at h
    · rename_i hp
      cases h
      refine spec_of (m := .any) (tab := tabOf [(50, wM .any g_impl_codes), (93, wM .any (g_integral .even))]) (cp := cp62) (ic := ic62) (rvl := [(.t 8)]) hm (tabOk_cons (m := .any) s50 (tabOk_cons (m := .any) s93 tabOk_nil)) Try.func62 rfl rfl rfl (by kernel_rfl) rfl (Nat.le_of_ble_eq_true rfl) (Nat.le_of_ble_eq_true rfl) ?_
      show eA _ _ _ _
      unfold ic62
      simp only [p_impl_codeOf, v_impl_codeOf_0, Bool.and_eq_true, Bool.or_eq_true, decide_eq_true_eq, Bool.not_eq_true', decide_eq_false_iff_not] at hp
      simp only [
          hp, grpA, vsliceS, grpS, grpD, grpF, grpL, eop, vop, bop, uop, fltop, convop, endOk, newE, new1, freshL, Md.isNew, outV, pureV, pureX, pure1, AV.cells, AV.one, storable, laid, refless, refless1, vload, loadC, storeC, vnil, vfaddr, vextract, flatT, flatE, flatC, vconv, vmm, vidxA, viaddrA, vfield, vlen, elemsOf, dF32, dF64, dI64, dU8, dBool, dStr, esOk, elemsS, vsliceX, bnd, ownV, ownC, own1, ownT, isSl, nSl, endL, Md.isOwn, purge, purgeH, purgeB, purgeE, hasName, name1, List.any_cons, List.any_nil, Md.isWr, pureV.pureP, Option.map, reduceIte, Nat.reduceEqDiff, Nat.reduceAdd, Nat.reduceMul, Nat.reduceLT, Nat.reduceLeDiff, List.mapM_cons, List.mapM_nil, Option.pure_def, Option.bind_eq_bind, Option.bind_some, implies_true, forall_const, beq_self_eq_true, decide_true, decide_false, eq_self, Int.reduceEq, Int.reduceLE, Int.reduceLT, if_true, if_false, grpK, Int.reduceAdd, Int.reduceSub, Int.reduceMul, Int.reduceNeg, Int.reducePow, Nat.reducePow, Int.reduceToNat, Nat.reduceSub, List.replicate, Nat.reduceBEq, wAs, wA, wC, zipW, noDupN, grpE, beq_true, beq_false, g_impl_codes, g_integral]
      all_goals (try simp only [*, m_impl_codeOf, v_impl_codeOf_0, Bool.and_true, Bool.true_and, Bool.and_false, Bool.false_and, Bool.or_true, Bool.true_or, Bool.or_false, Bool.false_or, Bool.not_true, Bool.not_false, Bool.false_eq_true, if_true, if_false, reduceIte, decide_true, decide_false])
      all_goals (try (simp_all; done))
    · cases h
  · cases h
def v_impl_PackTurn_0 (x0 : (Nat × Nat × Nat × Nat)) (z0_0 : Int) : Nat := (atI [(m_impl_Turn_numbers (m_impl_MendTurn x0)).1, (m_impl_Turn_numbers (m_impl_MendTurn x0)).2.1, (m_impl_Turn_numbers (m_impl_MendTurn x0)).2.2.1, (m_impl_Turn_numbers (m_impl_MendTurn x0)).2.2.2] z0_0)
def v_impl_PackTurn_1 (x0 : (Nat × Nat × Nat × Nat)) (z0_1 : Int) : Nat := (atI [(m_impl_Turn_numbers (m_impl_MendTurn x0)).1, (m_impl_Turn_numbers (m_impl_MendTurn x0)).2.1, (m_impl_Turn_numbers (m_impl_MendTurn x0)).2.2.1, (m_impl_Turn_numbers (m_impl_MendTurn x0)).2.2.2] z0_1)
def l_impl_PackTurn_0 (x0 : (Nat × Nat × Nat × Nat)) (x1 : Int) : Nat → Int → Int → Option (Bool × (Int × Bool) × Int)
  | 0, _, _ => none
  | n + 1, z0_0, z0_1 => (if (decide (z0_1 < 4)) = true then (need (inB z0_1 4) (if (m_impl_IsFinite (v_impl_PackTurn_1 x0 z0_1)) = true then (need (p_impl_size (v_impl_PackTurn_1 x0 z0_1)) (need (inB z0_0 4) (need (p_impl_size (v_impl_PackTurn_0 x0 z0_0)) (l_impl_PackTurn_0 x0 x1 n (if (flt .f32 (m_impl_size (v_impl_PackTurn_0 x0 z0_0)) (m_impl_size (v_impl_PackTurn_1 x0 z0_1))) = true then z0_1 else z0_0) (IntKind.wrap .i64 (z0_1 + 1)))))) else (some (true, (0, false), default)))) else (some (false, default, z0_0)))
def v_impl_PackTurn_2 (x0 : (Nat × Nat × Nat × Nat)) (x1 : Int) : Nat := (atI [(m_impl_Turn_numbers (m_impl_MendTurn x0)).1, (m_impl_Turn_numbers (m_impl_MendTurn x0)).2.1, (m_impl_Turn_numbers (m_impl_MendTurn x0)).2.2.1, (m_impl_Turn_numbers (m_impl_MendTurn x0)).2.2.2] (Option.getD (l_impl_PackTurn_0 x0 x1 6 0 0) default).2.2)
def v_impl_PackTurn_6 (x0 : (Nat × Nat × Nat × Nat)) (z1_1 : Int) : Nat := (atI [(m_impl_Turn_numbers (m_impl_MendTurn x0)).1, (m_impl_Turn_numbers (m_impl_MendTurn x0)).2.1, (m_impl_Turn_numbers (m_impl_MendTurn x0)).2.2.1, (m_impl_Turn_numbers (m_impl_MendTurn x0)).2.2.2] z1_1)
def v_impl_PackTurn_7 (x0 : (Nat × Nat × Nat × Nat)) (x1 : Int) (z1_1 : Int) : Int := (m_impl_codeOf (if (flt .f32 (v_impl_PackTurn_2 x0 x1) 0) = true then (fneg .f32 (v_impl_PackTurn_6 x0 z1_1)) else (v_impl_PackTurn_6 x0 z1_1)) 3208642560 1061158912 x1)
def v_impl_PackTurn_8 (x0 : (Nat × Nat × Nat × Nat)) (x1 : Int) (z1_0 : Int) (z1_1 : Int) : Int := (if (decide (z1_1 = (Option.getD (l_impl_PackTurn_0 x0 x1 6 0 0) default).2.2)) = true then z1_0 else (IntKind.wrap .i64 ((IntKind.wrap .i64 (z1_0 * (m_impl_codes x1))) + (v_impl_PackTurn_7 x0 x1 z1_1))))
def l_impl_PackTurn_1 (x0 : (Nat × Nat × Nat × Nat)) (x1 : Int) : Nat → Int → Int → Option Int
  | 0, _, _ => none
  | n + 1, z1_0, z1_1 => (if (decide (z1_1 < 4)) = true then (need (inB z1_1 4) (need ((decide (z1_1 = (Option.getD (l_impl_PackTurn_0 x0 x1 6 0 0) default).2.2)) || ((p_impl_codes x1) && (p_impl_codeOf (if (flt .f32 (v_impl_PackTurn_2 x0 x1) 0) = true then (fneg .f32 (v_impl_PackTurn_6 x0 z1_1)) else (v_impl_PackTurn_6 x0 z1_1)) 3208642560 1061158912 x1))) (l_impl_PackTurn_1 x0 x1 n (v_impl_PackTurn_8 x0 x1 z1_0 z1_1) (IntKind.wrap .i64 (z1_1 + 1))))) else (some z1_0))
def m_impl_PackTurn (x0 : (Nat × Nat × Nat × Nat)) (x1 : Int) : (Int × Bool) := (if (m_impl_areBits x1) = true then (if (m_impl_areFinite (m_impl_Turn_numbers x0)) = true then (if (Option.getD (l_impl_PackTurn_0 x0 x1 6 0 0) default).1 = true then (Option.getD (l_impl_PackTurn_0 x0 x1 6 0 0) default).2.1 else ((Option.getD (l_impl_PackTurn_1 x0 x1 6 (Option.getD (l_impl_PackTurn_0 x0 x1 6 0 0) default).2.2 0) default), true)) else (0, false)) else (0, false))
def p_impl_PackTurn (x0 : (Nat × Nat × Nat × Nat)) (x1 : Int) : Bool := ((p_impl_MendTurn x0) && (!(m_impl_areBits x1) || (!(m_impl_areFinite (m_impl_Turn_numbers x0)) || ((Option.isSome (l_impl_PackTurn_0 x0 x1 6 0 0)) && ((Option.getD (l_impl_PackTurn_0 x0 x1 6 0 0) default).1 || ((inB (Option.getD (l_impl_PackTurn_0 x0 x1 6 0 0) default).2.2 4) && (Option.isSome (l_impl_PackTurn_1 x0 x1 6 (Option.getD (l_impl_PackTurn_0 x0 x1 6 0 0) default).2.2 0))))))))
def g_impl_PackTurn : List AV → Option AV
  | [.agg [.flt .f32 y0, .flt .f32 y1, .flt .f32 y2, .flt .f32 y3], .int .i64 y4] => if p_impl_PackTurn (y0, y1, y2, y3) y4 = true then some (AV.tup [(.int .i64 (m_impl_PackTurn (y0, y1, y2, y3) y4).1), (.bool (m_impl_PackTurn (y0, y1, y2, y3) y4).2)]) else none
  | _ => none
def lb26_0 : ICode := (.seq (.reg [⟨(some 28), none, (.bin .lss false (.t 27) (.c (.int .i64 4)))⟩] [1, 6, 7, 26, 27, 28]) (.seq (.cond (.t 28) .skip (.exit 0)) (.seq (.block 1 (.seq (.reg [⟨(some 29), none, (.mov (.t 27))⟩, ⟨(some 30), none, (.idxA 4 1 (.t 26) (.t 27))⟩, ⟨(some 8), none, (.mov (.t 29))⟩, ⟨(some 9), none, (.mov (.t 30))⟩] [1, 6, 7, 8, 9, 26, 27]) (.seq (.seq (.reg [⟨(some 31), none, (.mov (.t 9))⟩, ⟨(some 32), none, (.call (.fn 60) [(.t 31)] [])⟩, ⟨(some 33), none, (.un .not (.t 32))⟩] [1, 6, 7, 8, 9, 26, 27, 33]) (.cond (.t 33) (.seq (.reg [⟨(some 4), none, (.mov (.c (.int .i64 0)))⟩, ⟨(some 5), none, (.mov (.c (.bool false)))⟩] [4, 5]) .ret) .skip)) (.seq (.reg [⟨(some 34), none, (.mov (.t 9))⟩, ⟨(some 35), none, (.call (.fn 61) [(.t 34)] [])⟩, ⟨(some 36), none, (.mov (.t 7))⟩, ⟨(some 37), none, (.iaddrA 4 1 (.t 6) (.t 36))⟩, ⟨(some 38), none, (.load none (.t 37))⟩, ⟨(some 39), none, (.call (.fn 61) [(.t 38)] [])⟩, ⟨(some 40), none, (.bin .gtr false (.t 35) (.t 39))⟩] [1, 6, 7, 8, 26, 27, 40]) (.cond (.t 40) (.reg [⟨(some 41), none, (.mov (.t 8))⟩, ⟨(some 7), none, (.mov (.t 41))⟩] [1, 6, 7, 26, 27]) .skip))))) (.reg [⟨(some 42), none, (.bin .add false (.t 27) (.c (.int .i64 1)))⟩, ⟨(some 27), none, (.mov (.t 42))⟩] [1, 6, 7, 26, 27]))))
def lb26_1 : ICode := (.seq (.reg [⟨(some 50), none, (.bin .lss false (.t 49) (.c (.int .i64 4)))⟩] [1, 7, 10, 11, 48, 49, 50]) (.seq (.cond (.t 50) .skip (.exit 2)) (.seq (.block 3 (.seq (.reg [⟨(some 51), none, (.mov (.t 49))⟩, ⟨(some 52), none, (.idxA 4 1 (.t 48) (.t 49))⟩, ⟨(some 12), none, (.mov (.t 51))⟩, ⟨(some 13), none, (.mov (.t 52))⟩] [1, 7, 10, 11, 12, 13, 48, 49]) (.seq (.seq (.reg [⟨(some 53), none, (.mov (.t 10))⟩] [1, 7, 10, 11, 12, 13, 48, 49, 53]) (.cond (.t 53) (.reg [⟨(some 54), none, (.mov (.t 13))⟩, ⟨(some 55), none, (.un .neg (.t 54))⟩, ⟨(some 13), none, (.mov (.t 55))⟩] [1, 7, 10, 11, 12, 13, 48, 49]) .skip)) (.seq (.reg [⟨(some 56), none, (.mov (.t 12))⟩, ⟨(some 57), none, (.mov (.t 7))⟩, ⟨(some 58), none, (.bin .neq false (.t 56) (.t 57))⟩] [1, 7, 10, 11, 13, 48, 49, 58]) (.cond (.t 58) (.reg [⟨(some 59), none, (.mov (.t 11))⟩, ⟨(some 60), none, (.mov (.t 1))⟩, ⟨(some 61), none, (.call (.fn 50) [(.t 60)] [])⟩, ⟨(some 62), none, (.bin .mul false (.t 59) (.t 61))⟩, ⟨(some 63), none, (.mov (.t 13))⟩, ⟨(some 64), none, (.mov (.t 1))⟩, ⟨(some 65), none, (.call (.fn 62) [(.t 63), (.c (.flt .f32 3208642560)), (.c (.flt .f32 1061158912)), (.t 64)] [])⟩, ⟨(some 66), none, (.bin .add false (.t 62) (.t 65))⟩, ⟨(some 11), none, (.mov (.t 66))⟩] [1, 7, 10, 11, 48, 49]) .skip))))) (.reg [⟨(some 67), none, (.bin .add false (.t 49) (.c (.int .i64 1)))⟩, ⟨(some 49), none, (.mov (.t 67))⟩] [1, 7, 10, 11, 48, 49]))))
def ic26 : ICode := (.seq (.reg [⟨(some 2), none, (.box 4 (.t 0))⟩, ⟨(some 4), none, (.mov (.c (.int .i64 0)))⟩, ⟨(some 5), none, (.mov (.c (.bool false)))⟩] [1, 2]) (.seq (.reg [⟨(some 14), none, (.load (some 4) (.t 2))⟩, ⟨(some 15), none, (.call (.fn 54) [(.t 14)] [])⟩, ⟨(some 16), none, (.call (.fn 58) [(.t 15)] [])⟩, ⟨(some 6), none, (.alloc (.agg [(.flt .f32 0), (.flt .f32 0), (.flt .f32 0), (.flt .f32 0)]))⟩, ⟨none, none, (.store 4 (.t 6) (.t 16))⟩] [1, 2, 6]) (.seq (.seq (.reg [⟨(some 17), none, (.mov (.t 1))⟩, ⟨(some 18), none, (.call (.fn 49) [(.t 17)] [])⟩, ⟨(some 19), none, (.un .not (.t 18))⟩, ⟨(some 20), none, (.mov (.t 19))⟩, ⟨(some 21), (some (20, false)), (.load (some 4) (.t 2))⟩, ⟨(some 22), (some (20, false)), (.call (.fn 58) [(.t 21)] [])⟩, ⟨(some 23), (some (20, false)), (.call (.fn 59) [(.t 22)] [])⟩, ⟨(some 24), (some (20, false)), (.un .not (.t 23))⟩, ⟨(some 25), none, (.pick (.t 20) (.c (.bool true)) (.t 24))⟩] [1, 6, 25]) (.cond (.t 25) (.seq (.reg [⟨(some 4), none, (.mov (.c (.int .i64 0)))⟩, ⟨(some 5), none, (.mov (.c (.bool false)))⟩] [4, 5]) .ret) .skip)) (.seq (.reg [⟨(some 7), none, (.mov (.c (.int .i64 0)))⟩] [1, 6, 7]) (.seq (.seq (.reg [⟨(some 26), none, (.load (some 4) (.t 6))⟩, ⟨(some 27), none, (.mov (.c (.int .i64 0)))⟩] [1, 6, 7, 26, 27]) (.block 0 (.loop lb26_0))) (.seq (.reg [⟨(some 43), none, (.mov (.t 7))⟩, ⟨(some 44), none, (.iaddrA 4 1 (.t 6) (.t 43))⟩, ⟨(some 45), none, (.load none (.t 44))⟩, ⟨(some 46), none, (.bin .lss false (.t 45) (.c (.flt .f32 0)))⟩, ⟨(some 10), none, (.mov (.t 46))⟩] [1, 6, 7, 10]) (.seq (.reg [⟨(some 47), none, (.mov (.t 7))⟩, ⟨(some 11), none, (.mov (.t 47))⟩] [1, 6, 7, 10, 11]) (.seq (.seq (.reg [⟨(some 48), none, (.load (some 4) (.t 6))⟩, ⟨(some 49), none, (.mov (.c (.int .i64 0)))⟩] [1, 7, 10, 11, 48, 49]) (.block 2 (.loop lb26_1))) (.seq (.reg [⟨(some 68), none, (.mov (.t 11))⟩, ⟨(some 4), none, (.mov (.t 68))⟩, ⟨(some 5), none, (.mov (.c (.bool true)))⟩] [4, 5]) .ret)))))))))
def cp26 : CP := CP.mk [] [] [[1, 2], [1, 2, 6], [1, 6, 25], [4, 5], [1, 6, 7], [1, 6, 7, 26, 27], [1, 6, 7, 26, 27, 28], [1, 6, 7, 8, 9, 26, 27], [1, 6, 7, 8, 9, 26, 27, 33], [4, 5], [1, 6, 7, 8, 26, 27, 40], [1, 6, 7, 26, 27], [1, 6, 7, 26, 27], [1, 6, 7, 10], [1, 6, 7, 10, 11], [1, 7, 10, 11, 48, 49], [1, 7, 10, 11, 48, 49, 50], [1, 7, 10, 11, 12, 13, 48, 49], [1, 7, 10, 11, 12, 13, 48, 49, 53], [1, 7, 10, 11, 12, 13, 48, 49], [1, 7, 10, 11, 13, 48, 49, 58], [1, 7, 10, 11, 48, 49], [1, 7, 10, 11, 48, 49], [4, 5]] 69 [] []
theorem sl26_0 (x0 : (Nat × Nat × Nat × Nat)) (x1 : Int) : ∀ (n : Nat) (z0_0 : Int) (z0_1 : Int) (o : (Bool × (Int × Bool) × Int)) (K : IExit → St → Prop), l_impl_PackTurn_0 x0 x1 n z0_0 z0_1 = some o → (∀ st, o.1 = true → outM .any st [(.t 4), (.t 5)] = some (AV.tup [(.int .i64 o.2.1.1), (.bool o.2.1.2)]) → K .ret st) → (∀ st, o.1 = false → Wk st (⟨[(1, (.int .i64 x1)), (6, (.lptr 6 0 0)), (7, (.int .i64 o.2.2))], [(6, (some ⟨4, false, [(AV.agg [(.flt .f32 (m_impl_Turn_numbers (m_impl_MendTurn x0)).1), (.flt .f32 (m_impl_Turn_numbers (m_impl_MendTurn x0)).2.1), (.flt .f32 (m_impl_Turn_numbers (m_impl_MendTurn x0)).2.2.1), (.flt .f32 (m_impl_Turn_numbers (m_impl_MendTurn x0)).2.2.2)])]⟩))]⟩ : St) → K (.exit 0) st) → eA (tabOf [(49, wM .any g_impl_areBits), (50, wM .any g_impl_codes), (54, wM .any g_impl_MendTurn), (58, wM .any g_impl_Turn_numbers), (59, wM .any g_impl_areFinite), (60, wM .any g_impl_IsFinite), (61, wM .any g_impl_size), (62, wM .any g_impl_codeOf)]) (.loop lb26_0) (⟨[(1, (.int .i64 x1)), (6, (.lptr 6 0 0)), (7, (.int .i64 z0_0)), (26, (AV.agg [(.flt .f32 (m_impl_Turn_numbers (m_impl_MendTurn x0)).1), (.flt .f32 (m_impl_Turn_numbers (m_impl_MendTurn x0)).2.1), (.flt .f32 (m_impl_Turn_numbers (m_impl_MendTurn x0)).2.2.1), (.flt .f32 (m_impl_Turn_numbers (m_impl_MendTurn x0)).2.2.2)])), (27, (.int .i64 z0_1))], [(6, (some ⟨4, false, [(AV.agg [(.flt .f32 (m_impl_Turn_numbers (m_impl_MendTurn x0)).1), (.flt .f32 (m_impl_Turn_numbers (m_impl_MendTurn x0)).2.1), (.flt .f32 (m_impl_Turn_numbers (m_impl_MendTurn x0)).2.2.1), (.flt .f32 (m_impl_Turn_numbers (m_impl_MendTurn x0)).2.2.2)])]⟩))]⟩ : St) K := by
  intro n
  induction n with
  | zero =>
    intro z0_0 z0_1 o K h h0 h1
    simp only [l_impl_PackTurn_0, reduceCtorEq] at h
  | succ n ih =>
    intro z0_0 z0_1 o K h h0 h1
    refine eA_loop ?_
    unfold lb26_0
    unfold l_impl_PackTurn_0 at h
    (try simp only [need_iff, v_impl_PackTurn_0, v_impl_PackTurn_1, v_impl_PackTurn_2, v_impl_PackTurn_6, v_impl_PackTurn_7, v_impl_PackTurn_8] at h)
    simp only [
      need_iff, h, grpA, vsliceS, grpS, grpD, grpF, grpL, eop, vop, bop, uop, fltop, convop, endOk, newE, new1, freshL, Md.isNew, outV, pureV, pureX, pure1, AV.cells, AV.one, storable, laid, refless, refless1, vload, loadC, storeC, vnil, vfaddr, vextract, flatT, flatE, flatC, vconv, vmm, vidxA, viaddrA, vfield, vlen, elemsOf, dF32, dF64, dI64, dU8, dBool, dStr, esOk, elemsS, vsliceX, bnd, ownV, ownC, own1, ownT, isSl, nSl, endL, Md.isOwn, purge, purgeH, purgeB, purgeE, hasName, name1, List.any_cons, List.any_nil, Md.isWr, pureV.pureP, Option.map, reduceIte, Nat.reduceEqDiff, Nat.reduceAdd, Nat.reduceMul, Nat.reduceLT, Nat.reduceLeDiff, List.mapM_cons, List.mapM_nil, Option.pure_def, Option.bind_eq_bind, Option.bind_some, implies_true, forall_const, beq_self_eq_true, decide_true, decide_false, eq_self, Int.reduceEq, Int.reduceLE, Int.reduceLT, if_true, if_false, grpK, Int.reduceAdd, Int.reduceSub, Int.reduceMul, Int.reduceNeg, Int.reducePow, Nat.reducePow, Int.reduceToNat, Nat.reduceSub, List.replicate, Nat.reduceBEq, wAs, wA, wC, zipW, noDupN, grpE, beq_true, beq_false, g_impl_areBits, g_impl_codes, g_impl_MendTurn, g_impl_Turn_numbers, g_impl_areFinite, g_impl_IsFinite, g_impl_size, g_impl_codeOf, ↓b_pick, ePk_true, ePk_false, v_impl_PackTurn_0, v_impl_PackTurn_1, v_impl_PackTurn_2, v_impl_PackTurn_6, v_impl_PackTurn_7, v_impl_PackTurn_8]
    repeat' (first
      | ((first | (refine eGI_of (fun hc => ?_) (fun hc => ?_)) | (refine eCc_of (fun hc => ?_) (fun hc => ?_)) | (refine ePk_of (fun hc => ?_) (fun hc => ?_)) | (have hc := True.intro; refine KW_refl ?_)) <;> (try simp only [Bool.not_eq_true', Bool.not_eq_false'] at hc) <;> (try simp only [hc, need_iff, reduceCtorEq, grpN, Int.reduceEq, Int.reduceLT, Int.reduceLE, if_true, if_false, reduceIte] at h) <;> (first | (have hc2 := hc; simp only [decide_eq_true_eq, decide_eq_false_iff_not] at hc2; (first | (replace hc2 := eq_false hc2) | (replace hc2 := eq_true hc2)); (try simp only [hc2, need_iff, reduceCtorEq, grpN, Int.reduceEq, Int.reduceLT, Int.reduceLE, if_true, if_false, reduceIte] at h); replace h := And.intro hc2 h) | (replace h := And.intro hc h) | skip) <;> simp only [hc,
      need_iff, h, grpA, vsliceS, grpS, grpD, grpF, grpL, eop, vop, bop, uop, fltop, convop, endOk, newE, new1, freshL, Md.isNew, outV, pureV, pureX, pure1, AV.cells, AV.one, storable, laid, refless, refless1, vload, loadC, storeC, vnil, vfaddr, vextract, flatT, flatE, flatC, vconv, vmm, vidxA, viaddrA, vfield, vlen, elemsOf, dF32, dF64, dI64, dU8, dBool, dStr, esOk, elemsS, vsliceX, bnd, ownV, ownC, own1, ownT, isSl, nSl, endL, Md.isOwn, purge, purgeH, purgeB, purgeE, hasName, name1, List.any_cons, List.any_nil, Md.isWr, pureV.pureP, Option.map, reduceIte, Nat.reduceEqDiff, Nat.reduceAdd, Nat.reduceMul, Nat.reduceLT, Nat.reduceLeDiff, List.mapM_cons, List.mapM_nil, Option.pure_def, Option.bind_eq_bind, Option.bind_some, implies_true, forall_const, beq_self_eq_true, decide_true, decide_false, eq_self, Int.reduceEq, Int.reduceLE, Int.reduceLT, if_true, if_false, grpK, Int.reduceAdd, Int.reduceSub, Int.reduceMul, Int.reduceNeg, Int.reducePow, Nat.reducePow, Int.reduceToNat, Nat.reduceSub, List.replicate, Nat.reduceBEq, wAs, wA, wC, zipW, noDupN, grpE, beq_true, beq_false, g_impl_areBits, g_impl_codes, g_impl_MendTurn, g_impl_Turn_numbers, g_impl_areFinite, g_impl_IsFinite, g_impl_size, g_impl_codeOf, ↓b_pick, ePk_true, ePk_false, v_impl_PackTurn_0, v_impl_PackTurn_1, v_impl_PackTurn_2, v_impl_PackTurn_6, v_impl_PackTurn_7, v_impl_PackTurn_8]))
    all_goals (have hf := h)
    all_goals (repeat (replace h := And.right h))
    all_goals ((first | (refine eA_wk (wk_norm (ks := [1, 6, 7, 26, 27]) (ls := [6]) ?_) (eA_cast ?_ (ih _ _ _ _ h h0 h1))) | (cases h; have h := True.intro; refine h0 _ rfl ?_) | (cases h; have h := True.intro; refine h1 _ rfl (Wk.cast (wk_norm (ks := [1, 6, 7]) (ls := [6]) ?_) ?_))) <;> simp only [normOk, optIn, blkIn, nameIn, normS, List.map_append, List.length_append, List.map_set, List.length_set, List.map_replicate, List.length_replicate, List.map_nil, List.map_cons,
      need_iff, h, hf, grpA, vsliceS, grpS, grpD, grpF, grpL, eop, vop, bop, uop, fltop, convop, endOk, newE, new1, freshL, Md.isNew, outV, pureV, pureX, pure1, AV.cells, AV.one, storable, laid, refless, refless1, vload, loadC, storeC, vnil, vfaddr, vextract, flatT, flatE, flatC, vconv, vmm, vidxA, viaddrA, vfield, vlen, elemsOf, dF32, dF64, dI64, dU8, dBool, dStr, esOk, elemsS, vsliceX, bnd, ownV, ownC, own1, ownT, isSl, nSl, endL, Md.isOwn, purge, purgeH, purgeB, purgeE, hasName, name1, List.any_cons, List.any_nil, Md.isWr, pureV.pureP, Option.map, reduceIte, Nat.reduceEqDiff, Nat.reduceAdd, Nat.reduceMul, Nat.reduceLT, Nat.reduceLeDiff, List.mapM_cons, List.mapM_nil, Option.pure_def, Option.bind_eq_bind, Option.bind_some, implies_true, forall_const, beq_self_eq_true, decide_true, decide_false, eq_self, Int.reduceEq, Int.reduceLE, Int.reduceLT, if_true, if_false, grpK, Int.reduceAdd, Int.reduceSub, Int.reduceMul, Int.reduceNeg, Int.reducePow, Nat.reducePow, Int.reduceToNat, Nat.reduceSub, List.replicate, Nat.reduceBEq, wAs, wA, wC, zipW, noDupN, grpE, beq_true, beq_false, g_impl_areBits, g_impl_codes, g_impl_MendTurn, g_impl_Turn_numbers, g_impl_areFinite, g_impl_IsFinite, g_impl_size, g_impl_codeOf, ↓b_pick, ePk_true, ePk_false, v_impl_PackTurn_0, v_impl_PackTurn_1, v_impl_PackTurn_2, v_impl_PackTurn_6, v_impl_PackTurn_7, v_impl_PackTurn_8] <;> first | rfl | (simp only [Nat.add_comm]; done))
theorem sl26_1 (x0 : (Nat × Nat × Nat × Nat)) (x1 : Int) : ∀ (n : Nat) (z1_0 : Int) (z1_1 : Int) (o : Int) (K : IExit → St → Prop), l_impl_PackTurn_1 x0 x1 n z1_0 z1_1 = some o → (∀ st, Wk st (⟨[(11, (.int .i64 o))], []⟩ : St) → K (.exit 2) st) → eA (tabOf [(49, wM .any g_impl_areBits), (50, wM .any g_impl_codes), (54, wM .any g_impl_MendTurn), (58, wM .any g_impl_Turn_numbers), (59, wM .any g_impl_areFinite), (60, wM .any g_impl_IsFinite), (61, wM .any g_impl_size), (62, wM .any g_impl_codeOf)]) (.loop lb26_1) (⟨[(1, (.int .i64 x1)), (7, (.int .i64 (Option.getD (l_impl_PackTurn_0 x0 x1 6 0 0) default).2.2)), (10, (.bool (flt .f32 (v_impl_PackTurn_2 x0 x1) 0))), (11, (.int .i64 z1_0)), (48, (AV.agg [(.flt .f32 (m_impl_Turn_numbers (m_impl_MendTurn x0)).1), (.flt .f32 (m_impl_Turn_numbers (m_impl_MendTurn x0)).2.1), (.flt .f32 (m_impl_Turn_numbers (m_impl_MendTurn x0)).2.2.1), (.flt .f32 (m_impl_Turn_numbers (m_impl_MendTurn x0)).2.2.2)])), (49, (.int .i64 z1_1))], []⟩ : St) K := by
  intro n
  induction n with
  | zero =>
    intro z1_0 z1_1 o K h h0
    simp only [l_impl_PackTurn_1, reduceCtorEq] at h
  | succ n ih =>
    intro z1_0 z1_1 o K h h0
    refine eA_loop ?_
    unfold lb26_1
    unfold l_impl_PackTurn_1 at h
    (try simp only [need_iff, v_impl_PackTurn_0, v_impl_PackTurn_1, v_impl_PackTurn_2, v_impl_PackTurn_6, v_impl_PackTurn_7, v_impl_PackTurn_8] at h)
    simp only [
      need_iff, h, grpA, vsliceS, grpS, grpD, grpF, grpL, eop, vop, bop, uop, fltop, convop, endOk, newE, new1, freshL, Md.isNew, outV, pureV, pureX, pure1, AV.cells, AV.one, storable, laid, refless, refless1, vload, loadC, storeC, vnil, vfaddr, vextract, flatT, flatE, flatC, vconv, vmm, vidxA, viaddrA, vfield, vlen, elemsOf, dF32, dF64, dI64, dU8, dBool, dStr, esOk, elemsS, vsliceX, bnd, ownV, ownC, own1, ownT, isSl, nSl, endL, Md.isOwn, purge, purgeH, purgeB, purgeE, hasName, name1, List.any_cons, List.any_nil, Md.isWr, pureV.pureP, Option.map, reduceIte, Nat.reduceEqDiff, Nat.reduceAdd, Nat.reduceMul, Nat.reduceLT, Nat.reduceLeDiff, List.mapM_cons, List.mapM_nil, Option.pure_def, Option.bind_eq_bind, Option.bind_some, implies_true, forall_const, beq_self_eq_true, decide_true, decide_false, eq_self, Int.reduceEq, Int.reduceLE, Int.reduceLT, if_true, if_false, grpK, Int.reduceAdd, Int.reduceSub, Int.reduceMul, Int.reduceNeg, Int.reducePow, Nat.reducePow, Int.reduceToNat, Nat.reduceSub, List.replicate, Nat.reduceBEq, wAs, wA, wC, zipW, noDupN, grpE, beq_true, beq_false, g_impl_areBits, g_impl_codes, g_impl_MendTurn, g_impl_Turn_numbers, g_impl_areFinite, g_impl_IsFinite, g_impl_size, g_impl_codeOf, ↓b_pick, ePk_true, ePk_false, v_impl_PackTurn_0, v_impl_PackTurn_1, v_impl_PackTurn_2, v_impl_PackTurn_6, v_impl_PackTurn_7, v_impl_PackTurn_8]
    repeat' (first
      | ((first | (refine eGI_of (fun hc => ?_) (fun hc => ?_)) | (refine eCc_of (fun hc => ?_) (fun hc => ?_)) | (refine ePk_of (fun hc => ?_) (fun hc => ?_)) | (have hc := True.intro; refine KW_refl ?_)) <;> (try simp only [Bool.not_eq_true', Bool.not_eq_false'] at hc) <;> (try simp only [hc, need_iff, reduceCtorEq, grpN, Int.reduceEq, Int.reduceLT, Int.reduceLE, if_true, if_false, reduceIte] at h) <;> (first | (have hc2 := hc; simp only [decide_eq_true_eq, decide_eq_false_iff_not] at hc2; (first | (replace hc2 := eq_false hc2) | (replace hc2 := eq_true hc2)); (try simp only [hc2, need_iff, reduceCtorEq, grpN, Int.reduceEq, Int.reduceLT, Int.reduceLE, if_true, if_false, reduceIte] at h); replace h := And.intro hc2 h) | (replace h := And.intro hc h) | skip) <;> simp only [hc,
      need_iff, h, grpA, vsliceS, grpS, grpD, grpF, grpL, eop, vop, bop, uop, fltop, convop, endOk, newE, new1, freshL, Md.isNew, outV, pureV, pureX, pure1, AV.cells, AV.one, storable, laid, refless, refless1, vload, loadC, storeC, vnil, vfaddr, vextract, flatT, flatE, flatC, vconv, vmm, vidxA, viaddrA, vfield, vlen, elemsOf, dF32, dF64, dI64, dU8, dBool, dStr, esOk, elemsS, vsliceX, bnd, ownV, ownC, own1, ownT, isSl, nSl, endL, Md.isOwn, purge, purgeH, purgeB, purgeE, hasName, name1, List.any_cons, List.any_nil, Md.isWr, pureV.pureP, Option.map, reduceIte, Nat.reduceEqDiff, Nat.reduceAdd, Nat.reduceMul, Nat.reduceLT, Nat.reduceLeDiff, List.mapM_cons, List.mapM_nil, Option.pure_def, Option.bind_eq_bind, Option.bind_some, implies_true, forall_const, beq_self_eq_true, decide_true, decide_false, eq_self, Int.reduceEq, Int.reduceLE, Int.reduceLT, if_true, if_false, grpK, Int.reduceAdd, Int.reduceSub, Int.reduceMul, Int.reduceNeg, Int.reducePow, Nat.reducePow, Int.reduceToNat, Nat.reduceSub, List.replicate, Nat.reduceBEq, wAs, wA, wC, zipW, noDupN, grpE, beq_true, beq_false, g_impl_areBits, g_impl_codes, g_impl_MendTurn, g_impl_Turn_numbers, g_impl_areFinite, g_impl_IsFinite, g_impl_size, g_impl_codeOf, ↓b_pick, ePk_true, ePk_false, v_impl_PackTurn_0, v_impl_PackTurn_1, v_impl_PackTurn_2, v_impl_PackTurn_6, v_impl_PackTurn_7, v_impl_PackTurn_8]))
    all_goals (have hf := h)
    all_goals (repeat (replace h := And.right h))
    all_goals ((first | (refine eA_wk (wk_norm (ks := [1, 7, 10, 11, 48, 49]) (ls := []) ?_) (eA_cast ?_ (ih _ _ _ _ h h0))) | (cases h; have h := True.intro; refine h0 _ (Wk.cast (wk_norm (ks := [11]) (ls := []) ?_) ?_))) <;> simp only [normOk, optIn, blkIn, nameIn, normS, List.map_append, List.length_append, List.map_set, List.length_set, List.map_replicate, List.length_replicate, List.map_nil, List.map_cons,
      need_iff, h, hf, grpA, vsliceS, grpS, grpD, grpF, grpL, eop, vop, bop, uop, fltop, convop, endOk, newE, new1, freshL, Md.isNew, outV, pureV, pureX, pure1, AV.cells, AV.one, storable, laid, refless, refless1, vload, loadC, storeC, vnil, vfaddr, vextract, flatT, flatE, flatC, vconv, vmm, vidxA, viaddrA, vfield, vlen, elemsOf, dF32, dF64, dI64, dU8, dBool, dStr, esOk, elemsS, vsliceX, bnd, ownV, ownC, own1, ownT, isSl, nSl, endL, Md.isOwn, purge, purgeH, purgeB, purgeE, hasName, name1, List.any_cons, List.any_nil, Md.isWr, pureV.pureP, Option.map, reduceIte, Nat.reduceEqDiff, Nat.reduceAdd, Nat.reduceMul, Nat.reduceLT, Nat.reduceLeDiff, List.mapM_cons, List.mapM_nil, Option.pure_def, Option.bind_eq_bind, Option.bind_some, implies_true, forall_const, beq_self_eq_true, decide_true, decide_false, eq_self, Int.reduceEq, Int.reduceLE, Int.reduceLT, if_true, if_false, grpK, Int.reduceAdd, Int.reduceSub, Int.reduceMul, Int.reduceNeg, Int.reducePow, Nat.reducePow, Int.reduceToNat, Nat.reduceSub, List.replicate, Nat.reduceBEq, wAs, wA, wC, zipW, noDupN, grpE, beq_true, beq_false, g_impl_areBits, g_impl_codes, g_impl_MendTurn, g_impl_Turn_numbers, g_impl_areFinite, g_impl_IsFinite, g_impl_size, g_impl_codeOf, ↓b_pick, ePk_true, ePk_false, v_impl_PackTurn_0, v_impl_PackTurn_1, v_impl_PackTurn_2, v_impl_PackTurn_6, v_impl_PackTurn_7, v_impl_PackTurn_8] <;> first | rfl | (simp only [Nat.add_comm]; done))
theorem s26 : ∀ vs r, g_impl_PackTurn vs = some r → SaysM Try.prog .any 26 vs r := by
  intro vs r h
  unfold g_impl_PackTurn at h
  split at h
  · rename_i y0 y1 y2 y3 y4
    split at h
    · rename_i hp
      cases h
      refine spec_of (m := .any) (tab := tabOf [(49, wM .any g_impl_areBits), (50, wM .any g_impl_codes), (54, wM .any g_impl_MendTurn), (58, wM .any g_impl_Turn_numbers), (59, wM .any g_impl_areFinite), (60, wM .any g_impl_IsFinite), (61, wM .any g_impl_size), (62, wM .any g_impl_codeOf)]) (cp := cp26) (ic := ic26) (rvl := [(.t 4), (.t 5)]) hm (tabOk_cons (m := .any) s49 (tabOk_cons (m := .any) s50 (tabOk_cons (m := .any) s54 (tabOk_cons (m := .any) s58 (tabOk_cons (m := .any) s59 (tabOk_cons (m := .any) s60 (tabOk_cons (m := .any) s61 (tabOk_cons (m := .any) s62 tabOk_nil)))))))) Try.func26 rfl rfl rfl (by kernel_rfl) rfl (Nat.le_of_ble_eq_true rfl) (Nat.le_of_ble_eq_true rfl) ?_
      show eA _ _ _ _
      unfold ic26
      simp only [p_impl_PackTurn, v_impl_PackTurn_0, v_impl_PackTurn_1, v_impl_PackTurn_2, v_impl_PackTurn_6, v_impl_PackTurn_7, v_impl_PackTurn_8, Bool.and_eq_true, Bool.or_eq_true, decide_eq_true_eq, Bool.not_eq_true', decide_eq_false_iff_not] at hp
      refine eS_to ?_
      repeat' (first
        | ((first | (have h := True.intro; refine eS_of ?_) | (refine eGI_of (fun h => ?_) (fun h => ?_)) | (refine eCc_of (fun h => ?_) (fun h => ?_)) | (refine ePk_of (fun h => ?_) (fun h => ?_)) | (have h := True.intro; refine KW_refl ?_)) <;> (try simp only [Bool.not_eq_true', Bool.not_eq_false'] at h) <;> (try first | exact absurd (Eq.trans (Eq.symm h) (by assumption)) Bool.false_ne_true | exact absurd (Eq.trans (Eq.symm h) (by assumption)) (Ne.symm Bool.false_ne_true)) <;> (try simp only [h, reduceCtorEq, grpN, Int.reduceEq, Int.reduceLT, Int.reduceLE, if_true, if_false, reduceIte] at hp) <;> (first | (have h2 := h; simp only [decide_eq_true_eq, decide_eq_false_iff_not] at h2; (first | (replace h2 := eq_false h2) | (replace h2 := eq_true h2)); (try simp only [h2, reduceCtorEq, grpN, Int.reduceEq, Int.reduceLT, Int.reduceLE, if_true, if_false, reduceIte] at hp); replace hp := And.intro h2 hp) | (replace hp := And.intro h hp) | skip) <;> simp only [h,
          hp, grpA, vsliceS, grpS, grpD, grpF, grpL, eop, vop, bop, uop, fltop, convop, endOk, newE, new1, freshL, Md.isNew, outV, pureV, pureX, pure1, AV.cells, AV.one, storable, laid, refless, refless1, vload, loadC, storeC, vnil, vfaddr, vextract, flatT, flatE, flatC, vconv, vmm, vidxA, viaddrA, vfield, vlen, elemsOf, dF32, dF64, dI64, dU8, dBool, dStr, esOk, elemsS, vsliceX, bnd, ownV, ownC, own1, ownT, isSl, nSl, endL, Md.isOwn, purge, purgeH, purgeB, purgeE, hasName, name1, List.any_cons, List.any_nil, Md.isWr, pureV.pureP, Option.map, reduceIte, Nat.reduceEqDiff, Nat.reduceAdd, Nat.reduceMul, Nat.reduceLT, Nat.reduceLeDiff, List.mapM_cons, List.mapM_nil, Option.pure_def, Option.bind_eq_bind, Option.bind_some, implies_true, forall_const, beq_self_eq_true, decide_true, decide_false, eq_self, Int.reduceEq, Int.reduceLE, Int.reduceLT, if_true, if_false, grpK, Int.reduceAdd, Int.reduceSub, Int.reduceMul, Int.reduceNeg, Int.reducePow, Nat.reducePow, Int.reduceToNat, Nat.reduceSub, List.replicate, Nat.reduceBEq, wAs, wA, wC, zipW, noDupN, grpE, beq_true, beq_false, g_impl_areBits, g_impl_codes, g_impl_MendTurn, g_impl_Turn_numbers, g_impl_areFinite, g_impl_IsFinite, g_impl_size, g_impl_codeOf, ↓b_pick, ePk_true, ePk_false, v_impl_PackTurn_0, v_impl_PackTurn_1, v_impl_PackTurn_2, v_impl_PackTurn_6, v_impl_PackTurn_7, v_impl_PackTurn_8])
        | (refine eA_wk (wk_norm (ks := [1, 6, 7, 26, 27]) (ls := [6]) ?_) (eA_cast ?_ (sl26_0 (y0, y1, y2, y3) y4 _ _ _ _ _ (getD_some (d := default) (x := (l_impl_PackTurn_0 (y0, y1, y2, y3) y4 6 0 0)) ?_) ?_ ?_)); (iterate 2 (simp only [nilS, nilV, normOk, optIn, blkIn, nameIn, normS, List.map_append, List.length_append, List.map_set, List.length_set, List.map_replicate, List.length_replicate, List.map_nil, List.map_cons,
          hp, grpA, vsliceS, grpS, grpD, grpF, grpL, eop, vop, bop, uop, fltop, convop, endOk, newE, new1, freshL, Md.isNew, outV, pureV, pureX, pure1, AV.cells, AV.one, storable, laid, refless, refless1, vload, loadC, storeC, vnil, vfaddr, vextract, flatT, flatE, flatC, vconv, vmm, vidxA, viaddrA, vfield, vlen, elemsOf, dF32, dF64, dI64, dU8, dBool, dStr, esOk, elemsS, vsliceX, bnd, ownV, ownC, own1, ownT, isSl, nSl, endL, Md.isOwn, purge, purgeH, purgeB, purgeE, hasName, name1, List.any_cons, List.any_nil, Md.isWr, pureV.pureP, Option.map, reduceIte, Nat.reduceEqDiff, Nat.reduceAdd, Nat.reduceMul, Nat.reduceLT, Nat.reduceLeDiff, List.mapM_cons, List.mapM_nil, Option.pure_def, Option.bind_eq_bind, Option.bind_some, implies_true, forall_const, beq_self_eq_true, decide_true, decide_false, eq_self, Int.reduceEq, Int.reduceLE, Int.reduceLT, if_true, if_false, grpK, Int.reduceAdd, Int.reduceSub, Int.reduceMul, Int.reduceNeg, Int.reducePow, Nat.reducePow, Int.reduceToNat, Nat.reduceSub, List.replicate, Nat.reduceBEq, wAs, wA, wC, zipW, noDupN, grpE, beq_true, beq_false, g_impl_areBits, g_impl_codes, g_impl_MendTurn, g_impl_Turn_numbers, g_impl_areFinite, g_impl_IsFinite, g_impl_size, g_impl_codeOf, ↓b_pick, ePk_true, ePk_false, v_impl_PackTurn_0, v_impl_PackTurn_1, v_impl_PackTurn_2, v_impl_PackTurn_6, v_impl_PackTurn_7, v_impl_PackTurn_8] <;> first | rfl | (simp only [Nat.add_comm]; done))); (simp only [hp]); (
        intro st2 ht hw; simp only [Kq_ret, Kb_ret, Kl_ret, ret_ok]; first | exact h0 _ hw | exact h0 _ rfl hw | exact h1 _ rfl hw | exact h0 _ ht hw | exact h1 _ ht hw | (simp only [ht, need_iff, reduceCtorEq, grpN, Int.reduceEq, Int.reduceLT, Int.reduceLE, if_true, if_false, reduceIte] at h; (repeat (replace h := And.right h)); cases h; first | exact h0 _ hw | exact h0 _ rfl hw | exact h1 _ rfl hw) | refine ⟨_, hw, ?_⟩); rotate_left; (
        intro st2 ht hw; (try simp only [ht, reduceCtorEq, grpN, Int.reduceEq, Int.reduceLT, Int.reduceLE, if_true, if_false, reduceIte] at hp); (try replace hp := And.intro ht hp); simp only [
Kq_exit, Kq_normal, Kq_ret, Kb_exit, Kb_normal, Kb_ret, Kl_exit, Kl_normal, Kl_ret, reduceIte, Nat.reduceEqDiff, if_true, if_false, eq_self]; refine KW_of hw ?_; simp only [ht, 
          hp, grpA, vsliceS, grpS, grpD, grpF, grpL, eop, vop, bop, uop, fltop, convop, endOk, newE, new1, freshL, Md.isNew, outV, pureV, pureX, pure1, AV.cells, AV.one, storable, laid, refless, refless1, vload, loadC, storeC, vnil, vfaddr, vextract, flatT, flatE, flatC, vconv, vmm, vidxA, viaddrA, vfield, vlen, elemsOf, dF32, dF64, dI64, dU8, dBool, dStr, esOk, elemsS, vsliceX, bnd, ownV, ownC, own1, ownT, isSl, nSl, endL, Md.isOwn, purge, purgeH, purgeB, purgeE, hasName, name1, List.any_cons, List.any_nil, Md.isWr, pureV.pureP, Option.map, reduceIte, Nat.reduceEqDiff, Nat.reduceAdd, Nat.reduceMul, Nat.reduceLT, Nat.reduceLeDiff, List.mapM_cons, List.mapM_nil, Option.pure_def, Option.bind_eq_bind, Option.bind_some, implies_true, forall_const, beq_self_eq_true, decide_true, decide_false, eq_self, Int.reduceEq, Int.reduceLE, Int.reduceLT, if_true, if_false, grpK, Int.reduceAdd, Int.reduceSub, Int.reduceMul, Int.reduceNeg, Int.reducePow, Nat.reducePow, Int.reduceToNat, Nat.reduceSub, List.replicate, Nat.reduceBEq, wAs, wA, wC, zipW, noDupN, grpE, beq_true, beq_false, g_impl_areBits, g_impl_codes, g_impl_MendTurn, g_impl_Turn_numbers, g_impl_areFinite, g_impl_IsFinite, g_impl_size, g_impl_codeOf, ↓b_pick, ePk_true, ePk_false, v_impl_PackTurn_0, v_impl_PackTurn_1, v_impl_PackTurn_2, v_impl_PackTurn_6, v_impl_PackTurn_7, v_impl_PackTurn_8]))
        | (refine eA_wk (wk_norm (ks := [1, 7, 10, 11, 48, 49]) (ls := []) ?_) (eA_cast ?_ (sl26_1 (y0, y1, y2, y3) y4 _ _ _ _ _ (getD_some (d := default) (x := (l_impl_PackTurn_1 (y0, y1, y2, y3) y4 6 (Option.getD (l_impl_PackTurn_0 (y0, y1, y2, y3) y4 6 0 0) default).2.2 0)) ?_) ?_)); (iterate 2 (simp only [nilS, nilV, normOk, optIn, blkIn, nameIn, normS, List.map_append, List.length_append, List.map_set, List.length_set, List.map_replicate, List.length_replicate, List.map_nil, List.map_cons,
          hp, grpA, vsliceS, grpS, grpD, grpF, grpL, eop, vop, bop, uop, fltop, convop, endOk, newE, new1, freshL, Md.isNew, outV, pureV, pureX, pure1, AV.cells, AV.one, storable, laid, refless, refless1, vload, loadC, storeC, vnil, vfaddr, vextract, flatT, flatE, flatC, vconv, vmm, vidxA, viaddrA, vfield, vlen, elemsOf, dF32, dF64, dI64, dU8, dBool, dStr, esOk, elemsS, vsliceX, bnd, ownV, ownC, own1, ownT, isSl, nSl, endL, Md.isOwn, purge, purgeH, purgeB, purgeE, hasName, name1, List.any_cons, List.any_nil, Md.isWr, pureV.pureP, Option.map, reduceIte, Nat.reduceEqDiff, Nat.reduceAdd, Nat.reduceMul, Nat.reduceLT, Nat.reduceLeDiff, List.mapM_cons, List.mapM_nil, Option.pure_def, Option.bind_eq_bind, Option.bind_some, implies_true, forall_const, beq_self_eq_true, decide_true, decide_false, eq_self, Int.reduceEq, Int.reduceLE, Int.reduceLT, if_true, if_false, grpK, Int.reduceAdd, Int.reduceSub, Int.reduceMul, Int.reduceNeg, Int.reducePow, Nat.reducePow, Int.reduceToNat, Nat.reduceSub, List.replicate, Nat.reduceBEq, wAs, wA, wC, zipW, noDupN, grpE, beq_true, beq_false, g_impl_areBits, g_impl_codes, g_impl_MendTurn, g_impl_Turn_numbers, g_impl_areFinite, g_impl_IsFinite, g_impl_size, g_impl_codeOf, ↓b_pick, ePk_true, ePk_false, v_impl_PackTurn_0, v_impl_PackTurn_1, v_impl_PackTurn_2, v_impl_PackTurn_6, v_impl_PackTurn_7, v_impl_PackTurn_8] <;> first | rfl | (simp only [Nat.add_comm]; done))); (simp only [hp]); (
        intro st2 hw; (try simp only [reduceCtorEq, grpN, Int.reduceEq, Int.reduceLT, Int.reduceLE, if_true, if_false, reduceIte] at hp); (try replace hp := And.intro ht hp); simp only [
Kq_exit, Kq_normal, Kq_ret, Kb_exit, Kb_normal, Kb_ret, Kl_exit, Kl_normal, Kl_ret, reduceIte, Nat.reduceEqDiff, if_true, if_false, eq_self]; refine KW_of hw ?_; simp only [
          hp, grpA, vsliceS, grpS, grpD, grpF, grpL, eop, vop, bop, uop, fltop, convop, endOk, newE, new1, freshL, Md.isNew, outV, pureV, pureX, pure1, AV.cells, AV.one, storable, laid, refless, refless1, vload, loadC, storeC, vnil, vfaddr, vextract, flatT, flatE, flatC, vconv, vmm, vidxA, viaddrA, vfield, vlen, elemsOf, dF32, dF64, dI64, dU8, dBool, dStr, esOk, elemsS, vsliceX, bnd, ownV, ownC, own1, ownT, isSl, nSl, endL, Md.isOwn, purge, purgeH, purgeB, purgeE, hasName, name1, List.any_cons, List.any_nil, Md.isWr, pureV.pureP, Option.map, reduceIte, Nat.reduceEqDiff, Nat.reduceAdd, Nat.reduceMul, Nat.reduceLT, Nat.reduceLeDiff, List.mapM_cons, List.mapM_nil, Option.pure_def, Option.bind_eq_bind, Option.bind_some, implies_true, forall_const, beq_self_eq_true, decide_true, decide_false, eq_self, Int.reduceEq, Int.reduceLE, Int.reduceLT, if_true, if_false, grpK, Int.reduceAdd, Int.reduceSub, Int.reduceMul, Int.reduceNeg, Int.reducePow, Nat.reducePow, Int.reduceToNat, Nat.reduceSub, List.replicate, Nat.reduceBEq, wAs, wA, wC, zipW, noDupN, grpE, beq_true, beq_false, g_impl_areBits, g_impl_codes, g_impl_MendTurn, g_impl_Turn_numbers, g_impl_areFinite, g_impl_IsFinite, g_impl_size, g_impl_codeOf, ↓b_pick, ePk_true, ePk_false, v_impl_PackTurn_0, v_impl_PackTurn_1, v_impl_PackTurn_2, v_impl_PackTurn_6, v_impl_PackTurn_7, v_impl_PackTurn_8])))
      all_goals (try simp only [*, m_impl_PackTurn, v_impl_PackTurn_0, v_impl_PackTurn_1, v_impl_PackTurn_2, v_impl_PackTurn_6, v_impl_PackTurn_7, v_impl_PackTurn_8, Bool.and_true, Bool.true_and, Bool.and_false, Bool.false_and, Bool.or_true, Bool.true_or, Bool.or_false, Bool.false_or, Bool.not_true, Bool.not_false, Bool.false_eq_true, if_true, if_false, reduceIte, decide_true, decide_false])
      all_goals (try (simp_all; done))
    · cases h
  · cases h
def m_laws_FnExactPackTurn (x0 : (Nat × Nat × Nat × Nat)) (x1 : Int) : Bool := (if (decide ((m_impl_PackTurn (m_laws_toTurn x0) x1).1 = (m_spec_PackTurn (m_laws_toTurn x0) x1).1)) = true then (if ((m_impl_PackTurn (m_laws_toTurn x0) x1).2 == (m_spec_PackTurn (m_laws_toTurn x0) x1).2) = true then true else false) else false)
def p_laws_FnExactPackTurn (x0 : (Nat × Nat × Nat × Nat)) (x1 : Int) : Bool := ((p_spec_PackTurn (m_laws_toTurn x0) x1) && (p_impl_PackTurn (m_laws_toTurn x0) x1))
def g_laws_FnExactPackTurn : List AV → Option AV
  | [.agg [.flt .f32 y0, .flt .f32 y1, .flt .f32 y2, .flt .f32 y3], .int .i64 y4] => if p_laws_FnExactPackTurn (y0, y1, y2, y3) y4 = true then some (.bool (m_laws_FnExactPackTurn (y0, y1, y2, y3) y4)) else none
  | _ => none
def ic7 : ICode := (.seq (.reg [⟨(some 2), none, (.box 4 (.t 0))⟩, ⟨(some 4), none, (.mov (.c (.bool false)))⟩] [1, 2]) (.seq (.reg [⟨(some 10), none, (.load (some 4) (.t 2))⟩, ⟨(some 11), none, (.call (.fn 25) [(.t 10)] [])⟩, ⟨(some 12), none, (.mov (.t 1))⟩, ⟨(some 13), none, (.call (.fn 24) [(.t 11), (.t 12)] [])⟩, ⟨(some 9), none, (.mov (.t 13))⟩, ⟨(some 14), none, (.extract (.t 9) 0)⟩, ⟨(some 15), none, (.extract (.t 9) 1)⟩, ⟨(some 5), none, (.mov (.t 14))⟩, ⟨(some 6), none, (.mov (.t 15))⟩] [1, 2, 5, 6]) (.seq (.reg [⟨(some 17), none, (.load (some 4) (.t 2))⟩, ⟨(some 18), none, (.call (.fn 25) [(.t 17)] [])⟩, ⟨(some 19), none, (.mov (.t 1))⟩, ⟨(some 20), none, (.call (.fn 26) [(.t 18), (.t 19)] [])⟩, ⟨(some 16), none, (.mov (.t 20))⟩, ⟨(some 21), none, (.extract (.t 16) 0)⟩, ⟨(some 22), none, (.extract (.t 16) 1)⟩, ⟨(some 7), none, (.mov (.t 21))⟩, ⟨(some 8), none, (.mov (.t 22))⟩] [5, 6, 7, 8]) (.seq (.seq (.reg [⟨(some 23), none, (.mov (.t 7))⟩, ⟨(some 24), none, (.mov (.t 5))⟩, ⟨(some 25), none, (.bin .neq false (.t 23) (.t 24))⟩, ⟨(some 26), none, (.mov (.t 25))⟩, ⟨(some 27), (some (26, false)), (.mov (.t 8))⟩, ⟨(some 28), (some (26, false)), (.mov (.t 6))⟩, ⟨(some 29), (some (26, false)), (.bin .neq true (.t 27) (.t 28))⟩, ⟨(some 30), none, (.pick (.t 26) (.c (.bool true)) (.t 29))⟩] [30]) (.cond (.t 30) (.seq (.reg [⟨(some 4), none, (.mov (.c (.bool false)))⟩] [4]) .ret) .skip)) (.seq (.reg [⟨(some 4), none, (.mov (.c (.bool true)))⟩] [4]) .ret)))))
def cp7 : CP := CP.mk [] [] [[1, 2], [1, 2, 5, 6], [5, 6, 7, 8], [30], [4], [4]] 31 [] []
theorem s7 : ∀ vs r, g_laws_FnExactPackTurn vs = some r → SaysM Try.prog .any 7 vs r := by
  intro vs r h
  unfold g_laws_FnExactPackTurn at h
  split at h
  · rename_i y0 y1 y2 y3 y4
    split at h
    · rename_i hp
      cases h
      refine spec_of (m := .any) (tab := tabOf [(24, wM .any g_spec_PackTurn), (25, wM .any g_laws_toTurn), (26, wM .any g_impl_PackTurn)]) (cp := cp7) (ic := ic7) (rvl := [(.t 4)]) hm (tabOk_cons (m := .any) s24 (tabOk_cons (m := .any) s25 (tabOk_cons (m := .any) s26 tabOk_nil))) Try.func7 rfl rfl rfl (by kernel_rfl) rfl (Nat.le_of_ble_eq_true rfl) (Nat.le_of_ble_eq_true rfl) ?_
      show eA _ _ _ _
      unfold ic7
      simp only [p_laws_FnExactPackTurn, Bool.and_eq_true, Bool.or_eq_true, decide_eq_true_eq, Bool.not_eq_true', decide_eq_false_iff_not] at hp
      refine eS_to ?_
      repeat' (first
        | ((first | (have h := True.intro; refine eS_of ?_) | (refine eGI_of (fun h => ?_) (fun h => ?_)) | (refine eCc_of (fun h => ?_) (fun h => ?_)) | (refine ePk_of (fun h => ?_) (fun h => ?_))) <;> (try simp only [Bool.not_eq_true', Bool.not_eq_false'] at h) <;> (try first | exact absurd (Eq.trans (Eq.symm h) (by assumption)) Bool.false_ne_true | exact absurd (Eq.trans (Eq.symm h) (by assumption)) (Ne.symm Bool.false_ne_true)) <;> (try simp only [h, reduceCtorEq, grpN, Int.reduceEq, Int.reduceLT, Int.reduceLE, if_true, if_false, reduceIte] at hp) <;> (first | (have h2 := h; simp only [decide_eq_true_eq, decide_eq_false_iff_not] at h2; (first | (replace h2 := eq_false h2) | (replace h2 := eq_true h2)); (try simp only [h2, reduceCtorEq, grpN, Int.reduceEq, Int.reduceLT, Int.reduceLE, if_true, if_false, reduceIte] at hp); replace hp := And.intro h2 hp) | (replace hp := And.intro h hp) | skip) <;> simp only [h,
          hp, grpA, vsliceS, grpS, grpD, grpF, grpL, eop, vop, bop, uop, fltop, convop, endOk, newE, new1, freshL, Md.isNew, outV, pureV, pureX, pure1, AV.cells, AV.one, storable, laid, refless, refless1, vload, loadC, storeC, vnil, vfaddr, vextract, flatT, flatE, flatC, vconv, vmm, vidxA, viaddrA, vfield, vlen, elemsOf, dF32, dF64, dI64, dU8, dBool, dStr, esOk, elemsS, vsliceX, bnd, ownV, ownC, own1, ownT, isSl, nSl, endL, Md.isOwn, purge, purgeH, purgeB, purgeE, hasName, name1, List.any_cons, List.any_nil, Md.isWr, pureV.pureP, Option.map, reduceIte, Nat.reduceEqDiff, Nat.reduceAdd, Nat.reduceMul, Nat.reduceLT, Nat.reduceLeDiff, List.mapM_cons, List.mapM_nil, Option.pure_def, Option.bind_eq_bind, Option.bind_some, implies_true, forall_const, beq_self_eq_true, decide_true, decide_false, eq_self, Int.reduceEq, Int.reduceLE, Int.reduceLT, if_true, if_false, grpK, Int.reduceAdd, Int.reduceSub, Int.reduceMul, Int.reduceNeg, Int.reducePow, Nat.reducePow, Int.reduceToNat, Nat.reduceSub, List.replicate, Nat.reduceBEq, wAs, wA, wC, zipW, noDupN, grpE, beq_true, beq_false, g_spec_PackTurn, g_laws_toTurn, g_impl_PackTurn, ↓b_pick, ePk_true, ePk_false]))
      all_goals (try simp only [*, m_laws_FnExactPackTurn, Bool.and_true, Bool.true_and, Bool.and_false, Bool.false_and, Bool.or_true, Bool.true_or, Bool.or_false, Bool.false_or, Bool.not_true, Bool.not_false, Bool.false_eq_true, if_true, if_false, reduceIte, decide_true, decide_false])
      all_goals (try (simp_all; done))
    · cases h
  · cases h
end Go.Proofs
namespace Go.Proofs
open Go.Ab
def m_impl_isRange (x0 : Nat) (x1 : Nat) : Bool := (if (m_impl_IsFinite x0) = true then (if (m_impl_IsFinite x1) = true then (flt .f32 x0 x1) else false) else false)
end Go.Proofs
namespace Go.Proofs
open Go.Ab
theorem codes_ok {b : Int} (h1 : 2 ≤ b) (h2 : b ≤ 16) : ∃ k : Nat, 4 ≤ k ∧ k ≤ 65536 ∧ IntKind.wrap .i64 (1 * 2 ^ (min b.toNat 64)) = (k : Int) ∧ IntKind.wrap .u64 b = b ∧ IntKind.wrap .i64 ((k : Int) - 1) = ((k - 1 : Nat) : Int) ∧ k = 2 ^ b.toNat := by
  have : b = 2 ∨ b = 3 ∨ b = 4 ∨ b = 5 ∨ b = 6 ∨ b = 7 ∨ b = 8 ∨ b = 9 ∨ b = 10 ∨ b = 11 ∨ b = 12 ∨ b = 13 ∨ b = 14 ∨ b = 15 ∨ b = 16 := by omega
  rcases this with rfl | rfl | rfl | rfl | rfl | rfl | rfl | rfl | rfl | rfl | rfl | rfl | rfl | rfl | rfl
  all_goals exact ⟨_, by decide, by decide, by decide, by decide, by decide, rfl⟩
end Go.Proofs
namespace Go.Proofs
open Go.Ab
theorem codeOf_ok {x0 x1 x2 : Nat} {x3 : Int} (hx : feq .f32 x0 x0 = true) (hr : m_impl_isRange x1 x2 = true) (h1 : 2 ≤ x3) (h2 : x3 ≤ 16) :
    p_impl_codeOf x0 x1 x2 x3 = true ∧ p_spec_l06Code x0 x1 x2 x3 = true ∧ m_spec_l06Code x0 x1 x2 x3 = m_impl_codeOf x0 x1 x2 x3 := by
  obtain ⟨k, k1, k2, k3, k4, k5, k6⟩ := codes_ok h1 h2
  unfold m_impl_isRange at hr
  obtain ⟨f1, hr⟩ := and_of hr
  obtain ⟨f2, hr⟩ := and_of hr
  have hm : m_spec_l06Most x3 = ((k - 1 : Nat) : Int) := by unfold m_spec_l06Most; rw [k4, k3, k5]
  have hc : m_impl_codes x3 = k := by unfold m_impl_codes; exact k3
  have hp1 : p_spec_l06Most x3 = true := by unfold p_spec_l06Most; rw [k4]; simp; omega
  have hp2 : p_impl_codes x3 = true := by unfold p_impl_codes; simp; omega
  obtain ⟨md, ed, rd, hd⟩ := den_ok f1 f2 hr
  obtain ⟨sl, ml, el, dl⟩ := fin32 f1
  obtain ⟨ml', el', rl, _⟩ := widen_ex dl
  obtain ⟨W, hW⟩ : ∃ W : Nat, W = 1074 := ⟨_, rfl⟩
  obtain ⟨mF, eF, rF, _, vF⟩ := ofInt_ex (n := k - 1) hW (by omega)
  have hmF : mF ≠ 0 := by
    rintro rfl
    rw [Nat.zero_mul] at vF
    have := Nat.mul_pos (show 0 < k - 1 by omega) (Nat.two_pow_pos W)
    omega
  have hC : Nn (integral .even (fmul .f64 (fdiv .f64 (fsub .f64 (widen x0) (widen x1)) (fsub .f64 (widen x2) (widen x1))) (ofInt .f64 ((k - 1 : Nat) : Int)))) :=
    nn_integral (nn_mul (nn_div (nn_sub (nn_widen hx) rl) rd hd) rF hmF)
  obtain ⟨c1, c2, c3⟩ := code_same hC (M := k - 1) (by omega) (by omega)
  refine ⟨?_, ?_, ?_⟩
  · unfold p_impl_codeOf; (try unfold v_impl_codeOf_0); rw [hc, k5, hp2, c2]; rfl
  · unfold p_spec_l06Code; (try unfold v_spec_l06Code_0); rw [hm, hp1, c1]; rfl
  · unfold m_spec_l06Code m_impl_codeOf; (try unfold v_impl_codeOf_0); (try unfold v_spec_l06Code_0); rw [hm, hc, k5]; exact c3
end Go.Proofs
namespace Go.Proofs
open Go.Ab
theorem mend_eq (t : Nat × Nat × Nat × Nat) : m_impl_MendTurn t = m_spec_l02Mend t ∧ p_impl_MendTurn t = true ∧ p_spec_l02Mend t = true := by
  refine ⟨?_, sqrt_narrow _, sqrt_narrow _⟩
  unfold m_impl_MendTurn m_spec_l02Mend m_impl_isLength
  have e : m_impl_LengthOfTurn t = m_spec_l01Sqrt (m_spec_l02Inner t t) := rfl
  rw [e]
  generalize m_spec_l01Sqrt (m_spec_l02Inner t t) = n
  have e2 : m_impl_IsFinite n = m_spec_l01Finite n := rfl
  rw [e2]
  by_cases h0 : feq .f32 n 0 = true <;> by_cases h1 : m_spec_l01Finite n = true <;> simp [h0, h1, m_impl_NoTurn, m_spec_l02No]
end Go.Proofs
namespace Go.Proofs
open Go.Ab
theorem size_all {x : Nat} (hx : Canon .f32 x) : m_spec_l02Size x = m_impl_size x ∧ p_impl_size x = true ∧ p_spec_l02Size x = true := by
  have hs := abs_same (x := x) hx.lt
  refine ⟨?_, hs.1, ?_⟩
  · show m_spec_l02Size x = narrow (abs64 x)
    rw [hs.2]
    exact abs_bits hx
  · unfold p_spec_l02Size p_spec_l01Bits
    cases feq .f32 x x <;> rfl
end Go.Proofs
namespace Go.Ab
open Ieee
/-- not below so many units -/
def Up (f : Format) (c K : Nat) : Prop := f.read c = .infinity false ∨ ∃ m e, f.read c = .number false m e ∧ f.leastPlace ≤ e ∧ K ≤ m * 2 ^ (e - f.leastPlace).toNat
theorem Up.mono {f : Format} {c K K' : Nat} (h : Up f c K) (hk : K' ≤ K) : Up f c K' := by
  rcases h with h | ⟨m, e, h1, h2, h3⟩
  · exact .inl h
  · exact .inr ⟨m, e, h1, h2, Nat.le_trans hk h3⟩
theorem nearest_word (f : Format) (neg : Bool) (mag : Nat) (place : Int) : ∃ r, f.nearest neg mag place = f.word neg (min r f.infRung) := by
  unfold Format.nearest
  by_cases h0 : mag = 0
  · rw [if_pos h0]; exact ⟨0, by rw [Nat.zero_min]⟩
  · rw [if_neg h0]; exact ⟨_, rfl⟩
/-- a value of a power of two or more is rounded to that power or more -/
theorem nearest_ge (f : Format) (neg : Bool) (mag : Nat) (place : Int) (j : Nat) (h : 2 ^ (f.fractionBits + j) * 2 ^ (f.leastPlace - place).toNat ≤ mag * 2 ^ (place - f.leastPlace).toNat) :
    ∃ r, f.nearest neg mag place = f.word neg (min r f.infRung) ∧ (j + 1) * f.binade ≤ r := by
  have hbd : f.binade = 2 ^ f.fractionBits := rfl
  have h0 : mag ≠ 0 := by
    rintro rfl
    rw [Nat.zero_mul] at h
    have := Nat.mul_pos (Nat.two_pow_pos (f.fractionBits + j)) (Nat.two_pow_pos (f.leastPlace - place).toNat); omega
  unfold Format.nearest
  rw [if_neg h0]
  refine ⟨_, rfl, ?_⟩
  have hlog : mag < 2 ^ (mag.log2 + 1) := Nat.lt_log2_self
  have hlog' : 2 ^ mag.log2 ≤ mag := Nat.log2_self_le h0
  generalize mag.log2 = lg at *
  generalize f.leastPlace = lp at *
  have hge : f.fractionBits + j + (lp - place).toNat ≤ lg + (place - lp).toNat := by
    have : 2 ^ (f.fractionBits + j + (lp - place).toNat) < 2 ^ (lg + 1 + (place - lp).toNat) := by
      rw [Nat.pow_add]
      refine Nat.lt_of_le_of_lt h ?_
      rw [Nat.pow_add 2 (lg + 1)]
      exact Nat.mul_lt_mul_of_pos_right hlog (Nat.two_pow_pos _)
    have := (Nat.pow_lt_pow_iff_right (a := 2) (by omega)).1 this
    omega
  generalize hlast : max (place + (lg : Int) - (f.fractionBits : Int)) lp = last
  have hl : j ≤ (last - lp).toNat := by omega
  have hk : f.binade ≤ Toward.even.cut neg (mag <<< (place - last).toNat) (last - place).toNat := by
    unfold Toward.cut
    dsimp only
    refine Nat.le_trans ?_ (Nat.le_add_right _ _)
    rw [Nat.shiftLeft_eq]
    have e1 : f.binade * 2 ^ (last - place).toNat ≤ mag * 2 ^ (place - last).toNat := by
      refine Nat.le_trans (Nat.le_of_eq ?_) (Nat.mul_le_mul_right _ hlog')
      rw [hbd, ← Nat.pow_add, ← Nat.pow_add]
      congr 1; omega
    have hpos : 0 < mag * 2 ^ (place - last).toNat := Nat.mul_pos (by omega) (Nat.two_pow_pos _)
    generalize mag * 2 ^ (place - last).toNat = n at *
    rw [Nat.one_shiftLeft]
    have hmin : min (last - place).toNat (n.log2 + 2) = (last - place).toNat := by
      apply Nat.min_eq_left
      have h5 : 2 ^ (last - place).toNat ≤ n := Nat.le_trans (Nat.le_mul_of_pos_left _ (Nat.two_pow_pos _)) e1
      have := (Nat.le_log2 (by omega)).2 h5
      omega
    rw [hmin]
    exact (Nat.le_div_iff_mul_le (Nat.two_pow_pos _)).2 e1
  have : j * f.binade ≤ (last - lp).toNat * f.binade := Nat.mul_le_mul_right _ hl
  rw [Nat.add_mul, Nat.one_mul]
  omega
theorem up_word (k : FloatKind) (r K : Nat) (h : K ≤ rv k.format r) : Up k.format (k.format.word false (min r k.format.infRung)) K := by
  by_cases hr : r < k.format.infRung
  · rw [Nat.min_eq_left (by omega)]
    obtain ⟨m, e, h1, h2, h3⟩ := read_word k.format false hr
    exact .inr ⟨m, e, h1, h2, by rw [h3]; exact h⟩
  · rw [Nat.min_eq_right (by omega)]
    exact .inl (read_inf_word k false)
theorem rv_binade (f : Format) (j : Nat) : rv f ((j + 1) * f.binade) = 2 ^ (f.fractionBits + j) := by
  have hb : 0 < f.binade := Nat.two_pow_pos _
  rw [rv_big f (Nat.le_mul_of_pos_left _ (by omega)), Nat.mul_mod_left, Nat.mul_div_cancel _ hb, Nat.add_zero, Nat.pow_add]
  rfl
theorem up_nearest (k : FloatKind) (mag : Nat) (place : Int) (j : Nat) (h : 2 ^ (k.format.fractionBits + j) * 2 ^ (k.format.leastPlace - place).toNat ≤ mag * 2 ^ (place - k.format.leastPlace).toNat) :
    Up k.format (k.format.nearest false mag place) (2 ^ (k.format.fractionBits + j)) := by
  obtain ⟨r, e1, e2⟩ := nearest_ge k.format false mag place j h
  rw [e1]
  refine up_word k r _ ?_
  rw [← rv_binade]
  exact rv_mono _ e2
theorem up_zero (k : FloatKind) (mag : Nat) (place : Int) : Up k.format (k.format.nearest false mag place) 0 := by
  obtain ⟨r, e1⟩ := nearest_word k.format false mag place
  rw [e1]
  exact up_word k r _ (Nat.zero_le _)
theorem up_inf (k : FloatKind) (K : Nat) : Up k.format (k.format.write (.infinity false)) K := .inl (by cases k <;> decide)
/-- the square of a finite number -/
theorem up_square {k : FloatKind} {x : Nat} {s : Bool} {v : Nat} (h : Ex k.format s x v) :
    Up k.format (fmul k x x) 0 ∧ ∀ (j l : Nat), (l : Int) = -k.format.leastPlace → 2 ^ (k.format.fractionBits + j + l) ≤ v * v → Up k.format (fmul k x x) (2 ^ (k.format.fractionBits + j)) := by
  obtain ⟨m, e, h1, h2, h3⟩ := h
  have hw : fmul k x x = k.format.nearest false (m * m) (e + e) := by
    unfold fmul op2
    rw [h1]
    show k.format.nearest (s ^^ s) (m * m) (e + e) = _
    rw [Bool.xor_self]
  rw [hw]
  refine ⟨up_zero k _ _, fun j l hl hv => up_nearest k _ _ j ?_⟩
  rw [← h3] at hv
  generalize k.format.fractionBits + j = F at *
  generalize k.format.leastPlace = lp at *
  have e2 : m * 2 ^ (e - lp).toNat * (m * 2 ^ (e - lp).toNat) = m * m * 2 ^ ((e - lp).toNat + (e - lp).toNat) := by
    rw [Nat.mul_mul_mul_comm, ← Nat.pow_add]
  rw [e2] at hv
  generalize hu : (e + e - lp).toNat = u
  generalize hv' : (lp - (e + e)).toNat = w
  have h9 : (e - lp).toNat + (e - lp).toNat + w = u + l := by omega
  apply Nat.le_of_mul_le_mul_right (c := 2 ^ l) _ (Nat.two_pow_pos _)
  calc 2 ^ F * 2 ^ w * 2 ^ l = 2 ^ (F + l) * 2 ^ w := by rw [← Nat.pow_add, ← Nat.pow_add, ← Nat.pow_add]; congr 1; omega
    _ ≤ m * m * 2 ^ ((e - lp).toNat + (e - lp).toNat) * 2 ^ w := Nat.mul_le_mul_right _ hv
    _ = m * m * 2 ^ u * 2 ^ l := by rw [Nat.mul_assoc (m * m), ← Nat.pow_add, h9, Nat.pow_add, ← Nat.mul_assoc]
theorem up_add {k : FloatKind} {a b A B : Nat} (ha : Up k.format a A) (hb : Up k.format b B) :
    Up k.format (fadd k a b) 0 ∧ ∀ j : Nat, 2 ^ (k.format.fractionBits + j) ≤ A + B → Up k.format (fadd k a b) (2 ^ (k.format.fractionBits + j)) := by
  unfold fadd op2
  rcases ha with h | ⟨m, i, h1, h2, h3⟩
  · rcases hb with g | ⟨n, l, g1, g2, g3⟩
    · rw [h, g]; exact ⟨up_inf k _, fun _ _ => up_inf k _⟩
    · rw [h, g1]; exact ⟨up_inf k _, fun _ _ => up_inf k _⟩
  · rcases hb with g | ⟨n, l, g1, g2, g3⟩
    · rw [h1, g]; exact ⟨up_inf k _, fun _ _ => up_inf k _⟩
    · rw [h1, g1]
      have hs : (Datum.number false m i).sum (Datum.number false n l) = some (.number false (m * 2 ^ (i - min i l).toNat + n * 2 ^ (l - min i l).toNat) (min i l)) := by
        unfold Datum.sum signed
        simp only [Bool.false_eq_true, if_false, Nat.shiftLeft_eq, Bool.and_self]
        rw [← Int.natCast_add, Int.natAbs_natCast]
        have : decide (((m * 2 ^ (i - min i l).toNat + n * 2 ^ (l - min i l).toNat : Nat) : Int) < 0) = false := decide_eq_false (Int.not_lt.2 (Int.natCast_nonneg _))
        rw [this, ite_self]
      rw [hs]
      show Up k.format (k.format.nearest false _ _) _ ∧ ∀ j, _ → Up k.format (k.format.nearest false _ _) _
      refine ⟨up_zero k _ _, fun j hj => up_nearest k _ _ j ?_⟩
      rw [show (k.format.leastPlace - min i l).toNat = 0 by omega, Nat.pow_zero, Nat.mul_one, Nat.add_mul, units m (by omega) (by omega), units n (by omega) (by omega)]
      omega
theorem rootFrom_gt (n : Nat) : ∀ (todo root : Nat), n < (root + 2 ^ todo) * (root + 2 ^ todo) → n < (Datum.rootFrom n todo root + 1) * (Datum.rootFrom n todo root + 1)
  | 0, root, h => h
  | todo + 1, root, h => by
    unfold Datum.rootFrom
    dsimp only
    rw [Nat.one_shiftLeft]
    split
    · refine rootFrom_gt n todo _ ?_
      rw [Nat.add_assoc, show 2 ^ todo + 2 ^ todo = 2 ^ (todo + 1) by rw [Nat.pow_succ]; omega]; exact h
    · exact rootFrom_gt n todo _ (by omega)
/-- the root of a value -/
theorem up_sqrt {c K : Nat} (h : Up FloatKind.f64.format c K) (hK : 0 < K) (q : Nat) (hq : 2 ^ (2 * q) ≤ K) {j : Nat} (hj : q + 537 = 52 + j) : Up FloatKind.f64.format (fsqrt c) (2 ^ (52 + j)) := by
  unfold fsqrt Format.sqrt
  generalize FloatKind.f64.format.fractionBits + 2 = dg
  rcases h with h | ⟨m', i, h1, h2, h3⟩
  · rw [h]; exact up_inf .f64 _
  · rw [h1]
    rw [lp64] at h2 h3
    have hm0 : m' ≠ 0 := by rintro rfl; rw [Nat.zero_mul] at h3; omega
    unfold Datum.root
    dsimp only
    rw [if_neg hm0, if_neg (by decide)]
    show Up FloatKind.f64.format (FloatKind.f64.format.nearest false _ _) _
    generalize hmore : 2 * dg - m'.log2 + ((i - ((2 * dg - m'.log2 : Nat) : Int)) % 2).toNat = more
    obtain ⟨h, hh⟩ : ∃ h : Int, i - (more : Int) = 2 * h := ⟨(i - (more : Int)) / 2, by omega⟩
    rw [Nat.shiftLeft_eq]
    generalize hn : m' * 2 ^ more = n
    have hnpos : 0 < n := by rw [← hn]; exact Nat.mul_pos (by omega) (Nat.two_pow_pos _)
    have hw := rootFrom_gt n (n.log2 / 2 + 1) 0 (by
      rw [Nat.zero_add, ← Nat.pow_add]
      refine Nat.lt_of_lt_of_le Nat.lt_log2_self (Nat.pow_le_pow_right (by omega) (by omega)))
    generalize Datum.rootFrom n (n.log2 / 2 + 1) 0 = w at *
    have hdiv : (i - (more : Int)) / 2 = h := by omega
    rw [hdiv]
    -- n * 2 ^ u reaches 2 ^ (2 q + v)
    have hn2 : ∀ (u v : Nat), (u : Int) - v = 2 * h + 1074 → 2 ^ (2 * q + v) ≤ n * 2 ^ u := by
      intro u v huv
      rw [← hn, Nat.mul_assoc, ← Nat.pow_add, show more + u = (i + 1074).toNat + v by omega, Nat.pow_add, Nat.pow_add, ← Nat.mul_assoc]
      refine Nat.mul_le_mul_right _ (Nat.le_trans hq ?_)
      rw [show i - -1074 = i + 1074 by omega] at h3
      exact h3
    refine up_nearest .f64 _ _ j ?_
    show 2 ^ (52 + j) * 2 ^ (FloatKind.f64.format.leastPlace - (h - 1)).toNat ≤ _ * 2 ^ ((h - 1) - FloatKind.f64.format.leastPlace).toNat
    rw [lp64]
    generalize hmag : 2 * w + (w * w != n).toNat = mag
    generalize ha : (h - 1 - -1074).toNat = a
    generalize hb : (-1074 - (h - 1)).toNat = b
    obtain ⟨P, hP⟩ : ∃ P : Nat, P = ((q : Int) - 537 - h).toNat := ⟨_, rfl⟩
    have hwP : 2 ^ P ≤ w := by
      by_cases hp : (q : Int) - 537 - h ≤ 0
      · rw [hP, show ((q : Int) - 537 - h).toNat = 0 by omega]
        have : w ≠ 0 := by rintro rfl; omega
        exact Nat.pos_of_ne_zero this
      · have h5 := hn2 (2 * h + 1074).toNat (-(2 * h + 1074)).toNat (by omega)
        rw [show 2 * q + (-(2 * h + 1074)).toNat = 2 * P + (2 * h + 1074).toNat by omega, Nat.pow_add] at h5
        have h6 := Nat.le_of_mul_le_mul_right h5 (Nat.two_pow_pos _)
        have h7 : 2 ^ P * 2 ^ P < (w + 1) * (w + 1) := by
          rw [← Nat.pow_add, show P + P = 2 * P by omega]; exact Nat.lt_of_le_of_lt h6 hw
        have := Nat.mul_self_lt_mul_self_iff.1 h7
        omega
    have h8 : 2 ^ (P + 1) ≤ mag := by rw [Nat.pow_succ]; omega
    refine Nat.le_trans ?_ (Nat.mul_le_mul_right _ h8)
    rw [← Nat.pow_add, ← Nat.pow_add]
    exact Nat.pow_le_pow_right (by omega) (by omega)
/-- what is narrowed -/
theorem up_narrow {c : Nat} (j : Nat) (h : Up FloatKind.f64.format c (2 ^ (925 + (23 + j)))) : Up FloatKind.f32.format (narrow c) (2 ^ (23 + j)) := by
  rcases h with h | ⟨m, e, h1, h2, h3⟩
  · have hn : isNaN .f64 c = false := by unfold isNaN; rw [h]; rfl
    have hw : narrow c = FloatKind.f32.format.word false FloatKind.f32.format.infRung := by
      show (if isNaN .f64 c = true then nan .f32 else FloatKind.f32.encode (FloatKind.f64.format.read c)) = _
      rw [hn, h]
      exact if_neg (by decide)
    rw [hw]
    exact .inl (read_inf_word .f32 false)
  · rw [narrow_number h1]
    rw [lp64] at h2 h3
    have e1 : FloatKind.f32.format.leastPlace = -149 := by decide
    refine up_nearest .f32 m e j ?_
    show 2 ^ (23 + j) * 2 ^ (FloatKind.f32.format.leastPlace - e).toNat ≤ m * 2 ^ (e - FloatKind.f32.format.leastPlace).toNat
    rw [e1]
    obtain ⟨K, hK⟩ : ∃ K : Nat, K = 925 := ⟨_, rfl⟩
    rw [← hK] at h3
    have h9 : (e - -1074).toNat + (-149 - e).toNat = (e - -149).toNat + K := by omega
    apply Nat.le_of_mul_le_mul_right (c := 2 ^ K) _ (Nat.two_pow_pos _)
    calc 2 ^ (23 + j) * 2 ^ (-149 - e).toNat * 2 ^ K = 2 ^ (K + (23 + j)) * 2 ^ (-149 - e).toNat := by rw [← Nat.pow_add, ← Nat.pow_add, ← Nat.pow_add]; congr 1; omega
      _ ≤ m * 2 ^ (e - -1074).toNat * 2 ^ (-149 - e).toNat := Nat.mul_le_mul_right _ h3
      _ = m * 2 ^ (e - -149).toNat * 2 ^ K := by rw [Nat.mul_assoc, ← Nat.pow_add, h9, Nat.pow_add, ← Nat.mul_assoc]
/-- the root of a float32, narrowed -/
theorem up_root {s t : Nat} (h : Up FloatKind.f32.format s (2 ^ t)) (j q : Nat) (hq : 2 * q ≤ t + 925) (hj : 23 + j + 388 = q) : Up FloatKind.f32.format (narrow (fsqrt (widen s))) (2 ^ (23 + j)) := by
  have e1 : FloatKind.f32.format.leastPlace = -149 := by decide
  refine up_narrow j ?_
  have h5 : Up FloatKind.f64.format (widen s) (2 ^ (t + 925)) := by
    rcases h with h | ⟨m, e, h1, h2, h3⟩
    · exact .inl (read_inf32 h)
    · obtain ⟨m', e', g1, g2, g3⟩ := widen_ex h1
      refine .inr ⟨m', e', g1, g2, ?_⟩
      rw [g3]
      rw [e1] at h2 h3
      obtain ⟨K, hK⟩ : ∃ K : Nat, K = 925 := ⟨_, rfl⟩
      rw [show (e + 1074).toNat = (e - -149).toNat + 925 by omega, ← hK, Nat.pow_add, Nat.pow_add, ← Nat.mul_assoc]
      exact Nat.mul_le_mul_right _ h3
  have h6 := up_sqrt h5 (Nat.two_pow_pos _) q (Nat.pow_le_pow_right (by omega) hq) (j := 885 + (23 + j) - 12) (by omega)
  rw [show 52 + (885 + (23 + j) - 12) = 925 + (23 + j) by omega] at h6
  exact h6
theorem fin32_of_number {x : Nat} (h : ∃ s m e, FloatKind.f32.format.read x = .number s m e) : feq .f32 (fsub .f32 x x) 0 = true := by
  rw [← fin_widen]
  obtain ⟨s, m, e, h⟩ := h
  have hx := widen_ex (show FloatKind.f32.decode x = .number s m e from h)
  have hx' := hx
  obtain ⟨m', e', g1, g2, g3⟩ := hx
  exact fin64_of_number g1 ⟨_, hx'⟩
/-- a finite number by a finite root that is no smaller than it, or not too small -/
theorem quot_fin {x n : Nat} (hx : feq .f32 (fsub .f32 x x) 0 = true) (hn : feq .f32 (fsub .f32 n n) 0 = true) {A B : Nat} (ha : Mg FloatKind.f32.format x (2 ^ A)) (hb : Up FloatKind.f32.format n (2 ^ B)) (h : A + 149 ≤ 276 + B) : feq .f32 (fsub .f32 (fdiv .f32 x n) (fdiv .f32 x n)) 0 = true := by
  have e1 : FloatKind.f32.format.leastPlace = -149 := by decide
  have hb' : Ml FloatKind.f32.format n (2 ^ B) := by
    rcases hb with h | ⟨m, e, h1, h2, h3⟩
    · obtain ⟨s, m, e, d⟩ := fin32 hn
      have d' : FloatKind.f32.format.read n = .number s m e := d
      rw [h] at d'; cases d'
    · exact ⟨false, m, e, h1, h2, h3⟩
  obtain ⟨N, hN⟩ : ∃ N : Nat, N = 276 := ⟨_, rfl⟩
  have hr : rv FloatKind.f32.format ((253 + 1) * FloatKind.f32.format.binade) = 2 ^ N := by
    rw [rv_binade, hN]; congr 1
  have := mg_div (k := .f32) (N := N) (R := (253 + 1) * FloatKind.f32.format.binade) ha hb' (Nat.two_pow_pos _) (by
    rw [show (-FloatKind.f32.format.leastPlace).toNat = 149 by rw [e1]; rfl, ← Nat.pow_add, ← Nat.pow_add]
    exact Nat.pow_le_pow_right (by omega) (by omega)) (Nat.le_of_eq hr.symm) (by decide) (by decide)
  obtain ⟨s, m, e, h1, _⟩ := this
  exact fin32_of_number ⟨s, m, e, h1⟩
end Go.Ab
namespace Go.Proofs
open Go.Ab Ieee
theorem root_zero {s : Nat} (h : Up FloatKind.f32.format s 0) : feq .f32 (narrow (fsqrt (widen s))) 0 = true ∨ Up FloatKind.f32.format s (2 ^ 0) := by
  rcases h with h | ⟨m, e, h1, h2, _⟩
  · exact .inr (.inl h)
  · rcases Nat.eq_zero_or_pos m with hm | hm
    · left
      subst hm
      obtain ⟨m', e', g1, g2, g3⟩ := widen_ex h1
      have hm' : m' = 0 := by
        rw [Nat.zero_mul] at g3
        rcases Nat.mul_eq_zero.1 g3 with h | h
        · exact h
        · have := Nat.two_pow_pos (e' - FloatKind.f64.format.leastPlace).toNat; omega
      subst hm'
      have hq : fsqrt (widen s) = 0 := by
        unfold fsqrt Format.sqrt
        rw [g1]
        generalize FloatKind.f64.format.fractionBits + 2 = dg
        unfold Datum.root
        dsimp only
        rw [if_pos rfl]
        show FloatKind.f64.format.nearest false 0 e' = 0
        unfold Format.nearest
        rw [if_pos rfl]; decide
      rw [hq]; decide
    · right
      exact .inr ⟨m, e, h1, h2, Nat.mul_pos hm (Nat.two_pow_pos _)⟩
def Fin4 (t : Nat × Nat × Nat × Nat) : Prop := feq .f32 (fsub .f32 t.1 t.1) 0 = true ∧ feq .f32 (fsub .f32 t.2.1 t.2.1) 0 = true ∧ feq .f32 (fsub .f32 t.2.2.1 t.2.2.1) 0 = true ∧ feq .f32 (fsub .f32 t.2.2.2 t.2.2.2) 0 = true
theorem mend_fin {t : Nat × Nat × Nat × Nat} (ht : Fin4 t) : Fin4 (m_impl_MendTurn t) := by
  obtain ⟨a, b, c, d⟩ := t
  obtain ⟨ha, hb, hc, hd⟩ := ht
  unfold m_impl_MendTurn
  by_cases hl : m_impl_isLength (m_impl_LengthOfTurn (a, b, c, d)) = true
  · rw [if_pos hl]
    unfold m_impl_isLength at hl
    obtain ⟨hf, hz⟩ := and_of hl
    replace hf : feq .f32 (fsub .f32 (m_impl_LengthOfTurn (a, b, c, d)) (m_impl_LengthOfTurn (a, b, c, d))) 0 = true := hf
    have hn : m_impl_LengthOfTurn (a, b, c, d) = narrow (fsqrt (widen (fadd .f32 (fadd .f32 (fadd .f32 (fmul .f32 a a) (fmul .f32 b b)) (fmul .f32 c c)) (fmul .f32 d d)))) := rfl
    generalize m_impl_LengthOfTurn (a, b, c, d) = n at *
    have fb : FloatKind.f32.format.fractionBits = 23 := by decide
    obtain ⟨sa, ma, ea, da⟩ := fin32 ha
    obtain ⟨sb, mb, eb, db⟩ := fin32 hb
    obtain ⟨sc, mc, ec, dc⟩ := fin32 hc
    obtain ⟨sd, md, ed, dd⟩ := fin32 hd
    obtain ⟨a0, a1⟩ := up_square (k := .f32) (ex32 da)
    obtain ⟨b0, b1⟩ := up_square (k := .f32) (ex32 db)
    obtain ⟨c0, c1⟩ := up_square (k := .f32) (ex32 dc)
    obtain ⟨d0, d1⟩ := up_square (k := .f32) (ex32 dd)
    have hI : Up FloatKind.f32.format (fadd .f32 (fadd .f32 (fadd .f32 (fmul .f32 a a) (fmul .f32 b b)) (fmul .f32 c c)) (fmul .f32 d d)) 0 :=
      (up_add (k := .f32) (up_add (k := .f32) (up_add (k := .f32) a0 b0).1 c0).1 d0).1
    have hsmall : Up FloatKind.f32.format n (2 ^ 74) := by
      rcases root_zero hI with h | h
      · rw [← hn] at h; rw [h] at hz; cases hz
      · rw [hn]; exact up_root h 51 462 (by omega) (by omega)
    -- any great square makes the length great
    have hbig : ∀ j, j = 230 → (Up FloatKind.f32.format (fmul .f32 a a) (2 ^ (FloatKind.f32.format.fractionBits + j)) ∨ Up FloatKind.f32.format (fmul .f32 b b) (2 ^ (FloatKind.f32.format.fractionBits + j)) ∨ Up FloatKind.f32.format (fmul .f32 c c) (2 ^ (FloatKind.f32.format.fractionBits + j)) ∨ Up FloatKind.f32.format (fmul .f32 d d) (2 ^ (FloatKind.f32.format.fractionBits + j))) →
        Up FloatKind.f32.format n (2 ^ (23 + 178)) := by
      intro j hj h
      have hI2 : Up FloatKind.f32.format (fadd .f32 (fadd .f32 (fadd .f32 (fmul .f32 a a) (fmul .f32 b b)) (fmul .f32 c c)) (fmul .f32 d d)) (2 ^ (FloatKind.f32.format.fractionBits + j)) := by
        rcases h with h | h | h | h
        · exact (up_add (k := .f32) ((up_add (k := .f32) ((up_add (k := .f32) h b0).2 j (Nat.le_refl _)) c0).2 j (Nat.le_refl _)) d0).2 j (Nat.le_refl _)
        · exact (up_add (k := .f32) ((up_add (k := .f32) ((up_add (k := .f32) a0 h).2 j (by rw [Nat.zero_add]; exact Nat.le_refl _)) c0).2 j (Nat.le_refl _)) d0).2 j (Nat.le_refl _)
        · exact (up_add (k := .f32) ((up_add (k := .f32) (up_add (k := .f32) a0 b0).1 h).2 j (by rw [Nat.zero_add]; exact Nat.le_refl _)) d0).2 j (Nat.le_refl _)
        · exact (up_add (k := .f32) (up_add (k := .f32) (up_add (k := .f32) a0 b0).1 c0).1 h).2 j (by rw [Nat.zero_add]; exact Nat.le_refl _)
      rw [hn]
      rw [fb] at hI2
      exact up_root hI2 178 589 (by omega) (by omega)
    have key : ∀ {x : Nat} {s : Bool} {m : Nat} {e : Int}, FloatKind.f32.decode x = .number s m e → feq .f32 (fsub .f32 x x) 0 = true →
        (∀ j l : Nat, (l : Int) = -FloatKind.f32.format.leastPlace → 2 ^ (FloatKind.f32.format.fractionBits + j + l) ≤ m * 2 ^ (e + 149).toNat * (m * 2 ^ (e + 149).toNat) → Up FloatKind.f32.format (fmul .f32 x x) (2 ^ (FloatKind.f32.format.fractionBits + j))) →
        (∀ j, j = 230 → Up FloatKind.f32.format (fmul .f32 x x) (2 ^ (FloatKind.f32.format.fractionBits + j)) → Up FloatKind.f32.format n (2 ^ (23 + 178))) →
        feq .f32 (fsub .f32 (fdiv .f32 x n) (fdiv .f32 x n)) 0 = true := by
      intro x s m e dx fx hsq hup
      obtain ⟨q1, q2, q3⟩ := read_f32_number dx
      by_cases hle : ∀ A : Nat, A = 201 → m * 2 ^ (e + 149).toNat ≤ 2 ^ A
      · exact quot_fin fx hf (A := 201) (B := 74) ((ex32 dx).ms.mg.mono (hle 201 rfl)) hsmall (by omega)
      · obtain ⟨A, hA, hgt⟩ : ∃ A : Nat, A = 201 ∧ 2 ^ A < m * 2 ^ (e + 149).toNat := by
          by_cases hq : m * 2 ^ (e + 149).toNat ≤ 2 ^ (201 : Nat)
          · exact absurd (fun A hA => by rw [hA]; exact hq) hle
          · obtain ⟨A, hA⟩ : ∃ A : Nat, A = 201 := ⟨_, rfl⟩
            exact ⟨A, hA, by rw [← hA] at hq; omega⟩
        obtain ⟨j, hj⟩ : ∃ j : Nat, j = 230 := ⟨_, rfl⟩
        have hup' := hup j hj (hsq j 149 (by decide) (by
          refine Nat.le_trans ?_ (Nat.mul_le_mul (Nat.le_of_lt hgt) (Nat.le_of_lt hgt))
          rw [← Nat.pow_add, fb]
          exact Nat.pow_le_pow_right (by omega) (by omega)))
        obtain ⟨B, hB⟩ : ∃ B : Nat, B = 277 := ⟨_, rfl⟩
        refine quot_fin fx hf (A := B) (B := 23 + 178) ((ex32 dx).ms.mg.mono ?_) hup' (by omega)
        refine Nat.le_trans (Nat.mul_le_mul_right _ (Nat.le_of_lt q1)) ?_
        rw [← Nat.pow_add]
        exact Nat.pow_le_pow_right (by omega) (by omega)
    exact ⟨key da ha a1 fun j hj h => hbig j hj (.inl h), key db hb b1 fun j hj h => hbig j hj (.inr (.inl h)), key dc hc c1 fun j hj h => hbig j hj (.inr (.inr (.inl h))), key dd hd d1 fun j hj h => hbig j hj (.inr (.inr (.inr h)))⟩
  · rw [if_neg hl]
    exact ⟨by decide, by decide, by decide, by decide⟩
theorem fin_self {x : Nat} (h : feq .f32 (fsub .f32 x x) 0 = true) : feq .f32 x x = true := by
  obtain ⟨s, m, e, d⟩ := fin32 h
  rw [feq_self_iff]
  have : isNaN .f32 x = false := by unfold isNaN; show (FloatKind.f32.decode x).isNaN = false; rw [d]; rfl
  rw [this]; rfl
theorem fin_neg {x : Nat} (h : feq .f32 (fsub .f32 x x) 0 = true) : feq .f32 (fsub .f32 (fneg .f32 x) (fneg .f32 x)) 0 = true := by
  obtain ⟨s, m, e, d⟩ := fin32 h
  exact fin_of_number (fneg_number d)
theorem mend_canon (t : Nat × Nat × Nat × Nat) : Canon .f32 (m_impl_MendTurn t).1 ∧ Canon .f32 (m_impl_MendTurn t).2.1 ∧ Canon .f32 (m_impl_MendTurn t).2.2.1 ∧ Canon .f32 (m_impl_MendTurn t).2.2.2 := by
  unfold m_impl_MendTurn
  split
  · exact ⟨(good_quotient _).canon _ _, (good_quotient _).canon _ _, (good_quotient _).canon _ _, (good_quotient _).canon _ _⟩
  · exact ⟨⟨by decide, by decide⟩, ⟨by decide, by decide⟩, ⟨by decide, by decide⟩, ⟨by decide, by decide⟩⟩
end Go.Proofs
namespace Go.Proofs
open Go.Ab
theorem turnRange : m_impl_isRange 3208642560 1061158912 = true := by decide
def packStep (c : Nat × Nat × Nat × Nat) (z i : Int) : Int := if (flt .f32 (m_impl_size (atI [c.1, c.2.1, c.2.2.1, c.2.2.2] z)) (m_impl_size (atI [c.1, c.2.1, c.2.2.1, c.2.2.2] i))) = true then i else z
def packSign (c : Nat × Nat × Nat × Nat) (b i : Int) : Nat := if (flt .f32 (atI [c.1, c.2.1, c.2.2.1, c.2.2.2] b) 0) = true then fneg .f32 (atI [c.1, c.2.1, c.2.2.1, c.2.2.2] i) else atI [c.1, c.2.1, c.2.2.1, c.2.2.2] i
def packCode (c : Nat × Nat × Nat × Nat) (bits b acc i : Int) : Int := if (decide (i = b)) = true then acc else IntKind.wrap .i64 (IntKind.wrap .i64 (acc * m_impl_codes bits) + m_impl_codeOf (packSign c b i) 3208642560 1061158912 bits)
theorem at_four {P : Nat → Prop} {c : Nat × Nat × Nat × Nat} (h1 : P c.1) (h2 : P c.2.1) (h3 : P c.2.2.1) (h4 : P c.2.2.2) {i : Int} (h0 : 0 ≤ i) (hi : i < 4) : P (atI [c.1, c.2.1, c.2.2.1, c.2.2.2] i) := by
  have : i = 0 ∨ i = 1 ∨ i = 2 ∨ i = 3 := by omega
  rcases this with rfl | rfl | rfl | rfl
  · exact h1
  · exact h2
  · exact h3
  · exact h4
theorem packStep_in {c : Nat × Nat × Nat × Nat} {z i : Int} (hz : 0 ≤ z ∧ z < 4) (hi : 0 ≤ i ∧ i < 4) : 0 ≤ packStep c z i ∧ packStep c z i < 4 := by unfold packStep; split <;> assumption
section
variable {t : Nat × Nat × Nat × Nat} {b : Int} (ht : Fin4 t) (h1 : 2 ≤ b) (h2 : b ≤ 16)
include ht
theorem impl_step {n : Nat} {z i : Int} (hz : 0 ≤ z ∧ z < 4) (hi : 0 ≤ i ∧ i < 4) : l_impl_PackTurn_0 t b (n + 1) z i = l_impl_PackTurn_0 t b n (packStep (m_impl_MendTurn t) z i) (IntKind.wrap .i64 (i + 1)) := by
  obtain ⟨f1, f2, f3, f4⟩ := mend_fin ht
  obtain ⟨c1, c2, c3, c4⟩ := mend_canon t
  have hc : ∀ j : Int, 0 ≤ j → j < 4 → p_impl_size (atI [(m_impl_MendTurn t).1, (m_impl_MendTurn t).2.1, (m_impl_MendTurn t).2.2.1, (m_impl_MendTurn t).2.2.2] j) = true := fun j a e => (size_all (at_four c1 c2 c3 c4 a e)).2.1
  have hf : m_impl_IsFinite (atI [(m_impl_MendTurn t).1, (m_impl_MendTurn t).2.1, (m_impl_MendTurn t).2.2.1, (m_impl_MendTurn t).2.2.2] i) = true := at_four (P := fun x => m_impl_IsFinite x = true) f1 f2 f3 f4 hi.1 hi.2
  rw [l_impl_PackTurn_0]
  have e0 : v_impl_PackTurn_0 t z = atI [(m_impl_MendTurn t).1, (m_impl_MendTurn t).2.1, (m_impl_MendTurn t).2.2.1, (m_impl_MendTurn t).2.2.2] z := rfl
  have e1 : v_impl_PackTurn_1 t i = atI [(m_impl_MendTurn t).1, (m_impl_MendTurn t).2.1, (m_impl_MendTurn t).2.2.1, (m_impl_MendTurn t).2.2.2] i := rfl
  have i1 : inB i 4 = true := by unfold inB; simp; omega
  have i2 : inB z 4 = true := by unfold inB; simp; omega
  rw [e0, e1, hf, hc _ hi.1 hi.2, hc _ hz.1 hz.2, i1, i2, decide_eq_true hi.2]
  rfl
omit ht in
theorem spec_step {n : Nat} {z i : Int} (hz : 0 ≤ z ∧ z < 4) (hi : 0 ≤ i ∧ i < 4) : l_spec_l06Pack_0 t b (n + 1) z i = l_spec_l06Pack_0 t b n (packStep (m_impl_MendTurn t) z i) (IntKind.wrap .i64 (i + 1)) := by
  obtain ⟨c1, c2, c3, c4⟩ := mend_canon t
  have hc : ∀ j : Int, 0 ≤ j → j < 4 → p_spec_l02Size (atI [(m_impl_MendTurn t).1, (m_impl_MendTurn t).2.1, (m_impl_MendTurn t).2.2.1, (m_impl_MendTurn t).2.2.2] j) = true := fun j a e => (size_all (at_four c1 c2 c3 c4 a e)).2.2
  have hs : ∀ j : Int, 0 ≤ j → j < 4 → m_spec_l02Size (atI [(m_impl_MendTurn t).1, (m_impl_MendTurn t).2.1, (m_impl_MendTurn t).2.2.1, (m_impl_MendTurn t).2.2.2] j) = m_impl_size (atI [(m_impl_MendTurn t).1, (m_impl_MendTurn t).2.1, (m_impl_MendTurn t).2.2.1, (m_impl_MendTurn t).2.2.2] j) := fun j a e => (size_all (at_four c1 c2 c3 c4 a e)).1
  rw [l_spec_l06Pack_0]
  unfold v_spec_l06Pack_0
  rw [← (mend_eq t).1]
  have e0 : ∀ j, atI (m_spec_l06List (m_impl_MendTurn t)) j = atI [(m_impl_MendTurn t).1, (m_impl_MendTurn t).2.1, (m_impl_MendTurn t).2.2.1, (m_impl_MendTurn t).2.2.2] j := fun _ => rfl
  have e1 : List.length (m_spec_l06List (m_impl_MendTurn t)) = 4 := rfl
  have i1 : inB i 4 = true := by unfold inB; simp; omega
  have i2 : inB z 4 = true := by unfold inB; simp; omega
  rw [e0, e0, e1, hc _ hi.1 hi.2, hc _ hz.1 hz.2, hs _ hi.1 hi.2, hs _ hz.1 hz.2, i1, i2, decide_eq_true hi.2]
  rfl
theorem best_eq : ∃ z : Int, 0 ≤ z ∧ z < 4 ∧ l_impl_PackTurn_0 t b 6 0 0 = some (false, default, z) ∧ l_spec_l06Pack_0 t b 5 0 1 = some z := by
  have a1 : 0 ≤ (0 : Int) ∧ (0 : Int) < 4 := by omega
  have a2 : packStep (m_impl_MendTurn t) 0 0 = 0 := by unfold packStep; split <;> rfl
  have a3 := packStep_in (c := m_impl_MendTurn t) a1 (i := 1) (by omega)
  have a4 := packStep_in (c := m_impl_MendTurn t) a3 (i := 2) (by omega)
  have a5 := packStep_in (c := m_impl_MendTurn t) a4 (i := 3) (by omega)
  refine ⟨_, a5.1, a5.2, ?_, ?_⟩
  · rw [impl_step ht a1 a1, a2, show IntKind.wrap .i64 (0 + 1) = 1 by decide, impl_step ht a1 (by omega), show IntKind.wrap .i64 (1 + 1) = 2 by decide, impl_step ht a3 (by omega), show IntKind.wrap .i64 (2 + 1) = 3 by decide, impl_step ht a4 (by omega), show IntKind.wrap .i64 (3 + 1) = 4 by decide]
    rfl
  · rw [spec_step a1 (by omega), show IntKind.wrap .i64 (1 + 1) = 2 by decide, spec_step a3 (by omega), show IntKind.wrap .i64 (2 + 1) = 3 by decide, spec_step a4 (by omega), show IntKind.wrap .i64 (3 + 1) = 4 by decide]
    rfl
include h1 h2
theorem packCode_ok {z i : Int} (hi : 0 ≤ i ∧ i < 4) : p_impl_codeOf (packSign (m_impl_MendTurn t) z i) 3208642560 1061158912 b = true ∧ p_spec_l06Code (packSign (m_impl_MendTurn t) z i) 3208642560 1061158912 b = true ∧ m_spec_l06Code (packSign (m_impl_MendTurn t) z i) 3208642560 1061158912 b = m_impl_codeOf (packSign (m_impl_MendTurn t) z i) 3208642560 1061158912 b := by
  obtain ⟨f1, f2, f3, f4⟩ := mend_fin ht
  have hf := at_four (P := fun x => feq .f32 (fsub .f32 x x) 0 = true) f1 f2 f3 f4 hi.1 hi.2
  refine codeOf_ok ?_ turnRange h1 h2
  unfold packSign
  split
  · exact fin_self (fin_neg hf)
  · exact fin_self hf
theorem impl_code {n : Nat} {z i acc : Int} (hb : Option.getD (l_impl_PackTurn_0 t b 6 0 0) default = (false, default, z)) (hz : 0 ≤ z ∧ z < 4) (hi : 0 ≤ i ∧ i < 4) : l_impl_PackTurn_1 t b (n + 1) acc i = l_impl_PackTurn_1 t b n (packCode (m_impl_MendTurn t) b z acc i) (IntKind.wrap .i64 (i + 1)) := by
  rw [l_impl_PackTurn_1]
  unfold v_impl_PackTurn_8 v_impl_PackTurn_7 v_impl_PackTurn_2
  rw [hb]
  have e0 : (if (flt .f32 (atI [(m_impl_Turn_numbers (m_impl_MendTurn t)).1, (m_impl_Turn_numbers (m_impl_MendTurn t)).2.1, (m_impl_Turn_numbers (m_impl_MendTurn t)).2.2.1, (m_impl_Turn_numbers (m_impl_MendTurn t)).2.2.2] z) 0) = true then (fneg .f32 (v_impl_PackTurn_6 t i)) else (v_impl_PackTurn_6 t i)) = packSign (m_impl_MendTurn t) z i := rfl
  have i1 : inB i 4 = true := by unfold inB; simp; omega
  have hp : p_impl_codes b = true := by unfold p_impl_codes; simp; omega
  dsimp only
  rw [e0, (packCode_ok ht h1 h2 hi).1, i1, hp, decide_eq_true hi.2, Bool.and_self, Bool.or_true]
  rfl
theorem spec_code {n : Nat} {z i acc : Int} (hb : Option.getD (l_spec_l06Pack_0 t b 5 0 1) default = z) (hz : 0 ≤ z ∧ z < 4) (hi : 0 ≤ i ∧ i < 4) : l_spec_l06Pack_1 t b (n + 1) acc i = l_spec_l06Pack_1 t b n (packCode (m_impl_MendTurn t) b z acc i) (IntKind.wrap .i64 (i + 1)) := by
  obtain ⟨k, k1, k2, k3, k4, k5, k6⟩ := codes_ok h1 h2
  have hc : m_impl_codes b = k := by unfold m_impl_codes; exact k3
  have hpow : (2 : Int) ^ (min (IntKind.wrap .u64 b).toNat 64) = (k : Int) := by
    rw [k4, Nat.min_eq_left (by omega), k6]; exact_mod_cast rfl
  rw [l_spec_l06Pack_1]
  unfold v_spec_l06Pack_5 v_spec_l06Pack_4
  rw [hb, ← (mend_eq t).1]
  have e1 : List.length (m_spec_l06List (m_impl_MendTurn t)) = 4 := rfl
  have e0 : (if (flt .f32 (atI (m_spec_l06List (m_impl_MendTurn t)) z) 0) = true then (fneg .f32 (atI (m_spec_l06List (m_impl_MendTurn t)) i)) else (atI (m_spec_l06List (m_impl_MendTurn t)) i)) = packSign (m_impl_MendTurn t) z i := rfl
  have i1 : inB i 4 = true := by unfold inB; simp; omega
  have i2 : inB z 4 = true := by unfold inB; simp; omega
  obtain ⟨g1, g2, g3⟩ := packCode_ok ht h1 h2 (z := z) hi
  rw [e0, g2, g3, e1, i1, i2, hpow, ← hc, decide_eq_true hi.2, Bool.and_true, k4, decide_eq_true (show 0 ≤ b by omega), Bool.or_true]
  rfl
theorem pack_all : ∃ r, Option.getD (l_impl_PackTurn_0 t b 6 0 0) default = (false, default, Option.getD (l_spec_l06Pack_0 t b 5 0 1) default) ∧ (l_impl_PackTurn_0 t b 6 0 0).isSome = true ∧ (l_spec_l06Pack_0 t b 5 0 1).isSome = true ∧ inB (Option.getD (l_spec_l06Pack_0 t b 5 0 1) default) 4 = true ∧
    l_impl_PackTurn_1 t b 6 (Option.getD (l_spec_l06Pack_0 t b 5 0 1) default) 0 = some r ∧ l_spec_l06Pack_1 t b 6 (Option.getD (l_spec_l06Pack_0 t b 5 0 1) default) 0 = some r := by
  obtain ⟨z, hz1, hz2, e1, e2⟩ := best_eq (b := b) ht
  have g1 : Option.getD (l_impl_PackTurn_0 t b 6 0 0) default = (false, default, z) := by rw [e1]; rfl
  have g2 : Option.getD (l_spec_l06Pack_0 t b 5 0 1) default = z := by rw [e2]; rfl
  have hz := And.intro hz1 hz2
  let C := m_impl_MendTurn t
  refine ⟨packCode C b z (packCode C b z (packCode C b z (packCode C b z z 0) 1) 2) 3, by rw [g1, g2], by rw [e1]; rfl, by rw [e2]; rfl, by rw [g2]; unfold inB; simp; omega, ?_, ?_⟩
  rotate_left
  · rw [g2]
    rw [spec_code ht h1 h2 g2 hz (by omega), show IntKind.wrap .i64 (0 + 1) = 1 by decide, spec_code ht h1 h2 g2 hz (by omega), show IntKind.wrap .i64 (1 + 1) = 2 by decide, spec_code ht h1 h2 g2 hz (by omega), show IntKind.wrap .i64 (2 + 1) = 3 by decide, spec_code ht h1 h2 g2 hz (by omega), show IntKind.wrap .i64 (3 + 1) = 4 by decide]
    rfl
  · rw [g2]
    rw [impl_code ht h1 h2 g1 hz (by omega), show IntKind.wrap .i64 (0 + 1) = 1 by decide, impl_code ht h1 h2 g1 hz (by omega), show IntKind.wrap .i64 (1 + 1) = 2 by decide, impl_code ht h1 h2 g1 hz (by omega), show IntKind.wrap .i64 (2 + 1) = 3 by decide, impl_code ht h1 h2 g1 hz (by omega), show IntKind.wrap .i64 (3 + 1) = 4 by decide]
    rfl
end
theorem fin_turn (t : Nat × Nat × Nat × Nat) : m_spec_l06Turn t = m_impl_areFinite t ∧ (m_impl_areFinite t = true → Fin4 t) := by
  refine ⟨rfl, fun h => ?_⟩
  unfold m_impl_areFinite at h
  obtain ⟨a1, h⟩ := and_of h
  obtain ⟨a2, h⟩ := and_of h
  obtain ⟨a3, h⟩ := and_of h
  exact ⟨a1, a2, a3, h⟩
theorem packTurn_eq (t : Nat × Nat × Nat × Nat) (b : Int) : m_spec_PackTurn t b = m_impl_PackTurn t b ∧ p_spec_PackTurn t b = true ∧ p_impl_PackTurn t b = true := by
  have e2 : m_spec_l06Bits b = m_impl_areBits b := rfl
  have e3 : m_impl_areFinite (m_impl_Turn_numbers t) = m_impl_areFinite t := rfl
  have hp0 : p_impl_MendTurn t = true := (mend_eq t).2.1
  have hp1 : p_spec_l02Mend t = true := (mend_eq t).2.2
  unfold m_spec_PackTurn m_impl_PackTurn p_spec_PackTurn p_impl_PackTurn m_spec_l06Pack p_spec_l06Pack
  rw [e2, e3, (fin_turn t).1, hp0, hp1]
  by_cases hf : m_impl_areFinite t = true
  · by_cases hb : m_impl_areBits b = true
    · have hb' := hb
      unfold m_impl_areBits at hb'
      have h12 : 2 ≤ b ∧ b ≤ 16 := by
        have := and_of hb'
        exact ⟨of_decide_eq_true this.1, of_decide_eq_true this.2⟩
      obtain ⟨r, g1, g2, g3, g4, g5, g6⟩ := pack_all ((fin_turn t).2 hf) h12.1 h12.2
      simp only [g1, g2, g3, g4, g5, g6]
      simp [hf, hb]
    · have hb' : m_impl_areBits b = false := by simpa using hb
      simp [hf, hb']
  · have hf' : m_impl_areFinite t = false := by simpa using hf
    simp [hf']
theorem law_PackTurn (a b c d : Nat) (_ : Canon .f32 a) (_ : Canon .f32 b) (_ : Canon .f32 c) (_ : Canon .f32 d) (x1 : Int) (_ : (Lit.int .i64 x1).wf = true) : g_laws_FnExactPackTurn [.agg [.flt .f32 a, .flt .f32 b, .flt .f32 c, .flt .f32 d], .int .i64 x1] = some (.bool true) := by
  obtain ⟨k1, k2, k3⟩ := packTurn_eq (a, b, c, d) x1
  have h1 : p_laws_FnExactPackTurn (a, b, c, d) x1 = true := by
    show (p_spec_PackTurn (a, b, c, d) x1 && p_impl_PackTurn (a, b, c, d) x1) = true
    rw [k2, k3]; rfl
  have h2 : m_laws_FnExactPackTurn (a, b, c, d) x1 = true := by
    show (if (decide ((m_impl_PackTurn (a, b, c, d) x1).1 = (m_spec_PackTurn (a, b, c, d) x1).1)) = true then (if ((m_impl_PackTurn (a, b, c, d) x1).2 == (m_spec_PackTurn (a, b, c, d) x1).2) = true then true else false) else false) = true
    rw [k1]; simp
  unfold g_laws_FnExactPackTurn
  simp [h1, h2]
end Go.Proofs
