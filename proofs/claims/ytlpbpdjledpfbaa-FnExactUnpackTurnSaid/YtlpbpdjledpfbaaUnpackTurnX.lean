/- What functions that FnExactUnpackTurn reaches compute, and that the program's and the reference's answers are the same. No conditions. -/
import Derived.Test.YtlpbpdjledpfbaaFwF
import Derived.Test.YtlpbpdjledpfbaaProg
import Derived.KernelRfl
set_option maxRecDepth 100000
set_option maxHeartbeats 4000000
set_option linter.all false
namespace Go.Proofs
open Go.Ab
theorem hm : Try.prog.follows .mixedOrders = true := by kernel_rfl
theorem fc0 : IntKind.wrap .i64 (-1) = (-1) := by decide
theorem fc1 : IntKind.wrap .i64 0 = 0 := by decide
theorem fc2 : IntKind.wrap .i64 1 = 1 := by decide
theorem fc3 : IntKind.wrap .i64 2 = 2 := by decide
theorem fc4 : IntKind.wrap .i64 3 = 3 := by decide
theorem fc5 : IntKind.wrap .i64 4 = 4 := by decide
def grpK := And.intro fc0 <| And.intro fc1 <| And.intro fc2 <| And.intro fc3 <| And.intro fc4 fc5
def m_spec_l00In (x0 : Int) (x1 : Int) (x2 : Int) : Bool := (if (decide (x1 ≤ x0)) = true then (decide (x0 ≤ x2)) else false)
def g_spec_l00In : List AV → Option AV
  | [.int .i64 y0, .int .i64 y1, .int .i64 y2] => some (.bool (m_spec_l00In y0 y1 y2))
  | _ => none
def ic44 : ICode := (.seq (.reg [⟨(some 6), none, (.mov (.c (.bool false)))⟩] [0, 1, 2]) (.seq (.reg [⟨(some 7), none, (.mov (.t 0))⟩, ⟨(some 8), none, (.mov (.t 1))⟩, ⟨(some 9), none, (.bin .geq false (.t 7) (.t 8))⟩, ⟨(some 10), none, (.mov (.t 9))⟩, ⟨(some 11), (some (10, true)), (.mov (.t 0))⟩, ⟨(some 12), (some (10, true)), (.mov (.t 2))⟩, ⟨(some 13), (some (10, true)), (.bin .leq false (.t 11) (.t 12))⟩, ⟨(some 14), none, (.pick (.t 10) (.t 13) (.c (.bool false)))⟩, ⟨(some 6), none, (.mov (.t 14))⟩] [6]) .ret))
def cp44 : CP := CP.mk [] [] [[0, 1, 2], [6]] 15 [] []
theorem s44 : ∀ vs r, g_spec_l00In vs = some r → SaysM Try.prog .any 44 vs r := by
  intro vs r h
  unfold g_spec_l00In at h
  split at h
  · rename_i y0 y1 y2
    cases h
    refine spec_of (m := .any) (tab := tabOf []) (cp := cp44) (ic := ic44) (rvl := [(.t 6)]) hm tabOk_nil Try.func44 rfl rfl rfl (by kernel_rfl) rfl (Nat.le_of_ble_eq_true rfl) (Nat.le_of_ble_eq_true rfl) ?_
    show eA _ _ _ _
    unfold ic44
    refine eS_to ?_
    repeat' (first
      | ((first | (have h := True.intro; refine eS_of ?_) | (refine eGI_of (fun h => ?_) (fun h => ?_)) | (refine eCc_of (fun h => ?_) (fun h => ?_)) | (refine ePk_of (fun h => ?_) (fun h => ?_))) <;> (try simp only [Bool.not_eq_true', Bool.not_eq_false'] at h) <;> (try first | exact absurd (Eq.trans (Eq.symm h) (by assumption)) Bool.false_ne_true | exact absurd (Eq.trans (Eq.symm h) (by assumption)) (Ne.symm Bool.false_ne_true)) <;> simp only [h,
        grpA, vsliceS, grpS, grpD, grpF, grpL, eop, vop, bop, uop, fltop, convop, endOk, newE, new1, freshL, Md.isNew, outV, pureV, pureX, pure1, AV.cells, AV.one, storable, laid, refless, refless1, vload, loadC, storeC, vnil, vfaddr, vextract, flatT, flatE, flatC, vconv, vmm, vidxA, viaddrA, vfield, vlen, elemsOf, dF32, dF64, dI64, dU8, dBool, dStr, esOk, elemsS, vsliceX, bnd, ownV, ownC, own1, ownT, isSl, nSl, endL, Md.isOwn, purge, purgeH, purgeB, purgeE, hasName, name1, List.any_cons, List.any_nil, Md.isWr, pureV.pureP, Option.map, reduceIte, Nat.reduceEqDiff, Nat.reduceAdd, Nat.reduceMul, Nat.reduceLT, Nat.reduceLeDiff, List.mapM_cons, List.mapM_nil, Option.pure_def, Option.bind_eq_bind, Option.bind_some, implies_true, forall_const, beq_self_eq_true, decide_true, decide_false, eq_self, Int.reduceEq, Int.reduceLE, Int.reduceLT, if_true, if_false, grpK, Int.reduceAdd, Int.reduceSub, Int.reduceMul, Int.reduceNeg, Int.reducePow, Nat.reducePow, Int.reduceToNat, Nat.reduceSub, List.replicate, Nat.reduceBEq, wAs, wA, wC, zipW, noDupN, grpE, beq_true, beq_false, ↓b_pick, ePk_true, ePk_false]))
    all_goals (try simp only [*, m_spec_l00In, Bool.and_true, Bool.true_and, Bool.and_false, Bool.false_and, Bool.or_true, Bool.true_or, Bool.or_false, Bool.false_or, Bool.not_true, Bool.not_false, Bool.false_eq_true, if_true, if_false, reduceIte, decide_true, decide_false])
    all_goals (try (simp_all; done))
  · cases h
def m_spec_l06Bits (x0 : Int) : Bool := (m_spec_l00In x0 2 16)
def g_spec_l06Bits : List AV → Option AV
  | [.int .i64 y0] => some (.bool (m_spec_l06Bits y0))
  | _ => none
def ic47 : ICode := (.seq (.reg [⟨(some 2), none, (.mov (.c (.bool false)))⟩] [0]) (.seq (.reg [⟨(some 3), none, (.mov (.t 0))⟩, ⟨(some 4), none, (.call (.fn 44) [(.t 3), (.c (.int .i64 2)), (.c (.int .i64 16))] [])⟩, ⟨(some 2), none, (.mov (.t 4))⟩] [2]) .ret))
def cp47 : CP := CP.mk [] [] [[0], [2]] 5 [] []
theorem s47 : ∀ vs r, g_spec_l06Bits vs = some r → SaysM Try.prog .any 47 vs r := by
  intro vs r h
  unfold g_spec_l06Bits at h
  split at h
  · rename_i y0
    cases h
    refine spec_of (m := .any) (tab := tabOf [(44, wM .any g_spec_l00In)]) (cp := cp47) (ic := ic47) (rvl := [(.t 2)]) hm (tabOk_cons (m := .any) s44 tabOk_nil) Try.func47 rfl rfl rfl (by kernel_rfl) rfl (Nat.le_of_ble_eq_true rfl) (Nat.le_of_ble_eq_true rfl) ?_
    show eA _ _ _ _
    unfold ic47
    simp only [
        grpA, vsliceS, grpS, grpD, grpF, grpL, eop, vop, bop, uop, fltop, convop, endOk, newE, new1, freshL, Md.isNew, outV, pureV, pureX, pure1, AV.cells, AV.one, storable, laid, refless, refless1, vload, loadC, storeC, vnil, vfaddr, vextract, flatT, flatE, flatC, vconv, vmm, vidxA, viaddrA, vfield, vlen, elemsOf, dF32, dF64, dI64, dU8, dBool, dStr, esOk, elemsS, vsliceX, bnd, ownV, ownC, own1, ownT, isSl, nSl, endL, Md.isOwn, purge, purgeH, purgeB, purgeE, hasName, name1, List.any_cons, List.any_nil, Md.isWr, pureV.pureP, Option.map, reduceIte, Nat.reduceEqDiff, Nat.reduceAdd, Nat.reduceMul, Nat.reduceLT, Nat.reduceLeDiff, List.mapM_cons, List.mapM_nil, Option.pure_def, Option.bind_eq_bind, Option.bind_some, implies_true, forall_const, beq_self_eq_true, decide_true, decide_false, eq_self, Int.reduceEq, Int.reduceLE, Int.reduceLT, if_true, if_false, grpK, Int.reduceAdd, Int.reduceSub, Int.reduceMul, Int.reduceNeg, Int.reducePow, Nat.reducePow, Int.reduceToNat, Nat.reduceSub, List.replicate, Nat.reduceBEq, wAs, wA, wC, zipW, noDupN, grpE, beq_true, beq_false, g_spec_l00In]
    all_goals (try simp only [*, m_spec_l06Bits, Bool.and_true, Bool.true_and, Bool.and_false, Bool.false_and, Bool.or_true, Bool.true_or, Bool.or_false, Bool.false_or, Bool.not_true, Bool.not_false, Bool.false_eq_true, if_true, if_false, reduceIte, decide_true, decide_false])
    all_goals (try (simp_all; done))
  · cases h
def m_spec_l06Most (x0 : Int) : Int := (IntKind.wrap .i64 ((IntKind.wrap .i64 (1 * 2 ^ (min ((IntKind.wrap .u64 x0) : Int).toNat 64))) - 1))
def p_spec_l06Most (x0 : Int) : Bool := (decide (0 ≤ (IntKind.wrap .u64 x0)))
def g_spec_l06Most : List AV → Option AV
  | [.int .i64 y0] => if p_spec_l06Most y0 = true then some (.int .i64 (m_spec_l06Most y0)) else none
  | _ => none
def ic80 : ICode := (.seq (.reg [⟨(some 2), none, (.mov (.c (.int .i64 0)))⟩] [0]) (.seq (.reg [⟨(some 3), none, (.mov (.t 0))⟩, ⟨(some 4), none, (.conv (.int .u64) (.t 3))⟩, ⟨(some 5), none, (.bin .shl false (.c (.int .i64 1)) (.t 4))⟩, ⟨(some 6), none, (.bin .sub false (.t 5) (.c (.int .i64 1)))⟩, ⟨(some 2), none, (.mov (.t 6))⟩] [2]) .ret))
def cp80 : CP := CP.mk [] [] [[0], [2]] 7 [] []
theorem s80 : ∀ vs r, g_spec_l06Most vs = some r → SaysM Try.prog .any 80 vs r := by
  intro vs r h
  unfold g_spec_l06Most at h
  split at h
  · rename_i y0
    split at h
    · rename_i hp
      cases h
      refine spec_of (m := .any) (tab := tabOf []) (cp := cp80) (ic := ic80) (rvl := [(.t 2)]) hm tabOk_nil Try.func80 rfl rfl rfl (by kernel_rfl) rfl (Nat.le_of_ble_eq_true rfl) (Nat.le_of_ble_eq_true rfl) ?_
      show eA _ _ _ _
      unfold ic80
      simp only [p_spec_l06Most, Bool.and_eq_true, Bool.or_eq_true, decide_eq_true_eq, Bool.not_eq_true', decide_eq_false_iff_not] at hp
      simp only [
          hp, grpA, vsliceS, grpS, grpD, grpF, grpL, eop, vop, bop, uop, fltop, convop, endOk, newE, new1, freshL, Md.isNew, outV, pureV, pureX, pure1, AV.cells, AV.one, storable, laid, refless, refless1, vload, loadC, storeC, vnil, vfaddr, vextract, flatT, flatE, flatC, vconv, vmm, vidxA, viaddrA, vfield, vlen, elemsOf, dF32, dF64, dI64, dU8, dBool, dStr, esOk, elemsS, vsliceX, bnd, ownV, ownC, own1, ownT, isSl, nSl, endL, Md.isOwn, purge, purgeH, purgeB, purgeE, hasName, name1, List.any_cons, List.any_nil, Md.isWr, pureV.pureP, Option.map, reduceIte, Nat.reduceEqDiff, Nat.reduceAdd, Nat.reduceMul, Nat.reduceLT, Nat.reduceLeDiff, List.mapM_cons, List.mapM_nil, Option.pure_def, Option.bind_eq_bind, Option.bind_some, implies_true, forall_const, beq_self_eq_true, decide_true, decide_false, eq_self, Int.reduceEq, Int.reduceLE, Int.reduceLT, if_true, if_false, grpK, Int.reduceAdd, Int.reduceSub, Int.reduceMul, Int.reduceNeg, Int.reducePow, Nat.reducePow, Int.reduceToNat, Nat.reduceSub, List.replicate, Nat.reduceBEq, wAs, wA, wC, zipW, noDupN, grpE, beq_true, beq_false]
      all_goals (try simp only [*, m_spec_l06Most, Bool.and_true, Bool.true_and, Bool.and_false, Bool.false_and, Bool.or_true, Bool.true_or, Bool.or_false, Bool.false_or, Bool.not_true, Bool.not_false, Bool.false_eq_true, if_true, if_false, reduceIte, decide_true, decide_false])
      all_goals (try (simp_all; done))
    · cases h
  · cases h
def m_spec_l01Narrow (x0 : Nat) : Nat := (narrow x0)
def p_spec_l01Narrow (x0 : Nat) : Bool := (narrowOk x0)
def g_spec_l01Narrow : List AV → Option AV
  | [.flt .f64 y0] => if p_spec_l01Narrow y0 = true then some (.flt .f32 (m_spec_l01Narrow y0)) else none
  | _ => none
def ic101 : ICode := (.seq (.reg [⟨(some 2), none, (.mov (.c (.flt .f32 0)))⟩] [0]) (.seq (.reg [⟨(some 3), none, (.mov (.t 0))⟩, ⟨(some 4), none, (.conv (.flt .f32) (.t 3))⟩, ⟨(some 2), none, (.mov (.t 4))⟩] [2]) .ret))
def cp101 : CP := CP.mk [] [] [[0], [2]] 5 [] []
theorem s101 : ∀ vs r, g_spec_l01Narrow vs = some r → SaysM Try.prog .any 101 vs r := by
  intro vs r h
  unfold g_spec_l01Narrow at h
  split at h
  · rename_i y0
    split at h
    · rename_i hp
      cases h
      refine spec_of (m := .any) (tab := tabOf []) (cp := cp101) (ic := ic101) (rvl := [(.t 2)]) hm tabOk_nil Try.func101 rfl rfl rfl (by kernel_rfl) rfl (Nat.le_of_ble_eq_true rfl) (Nat.le_of_ble_eq_true rfl) ?_
      show eA _ _ _ _
      unfold ic101
      simp only [p_spec_l01Narrow, Bool.and_eq_true, Bool.or_eq_true, decide_eq_true_eq, Bool.not_eq_true', decide_eq_false_iff_not] at hp
      simp only [
          hp, grpA, vsliceS, grpS, grpD, grpF, grpL, eop, vop, bop, uop, fltop, convop, endOk, newE, new1, freshL, Md.isNew, outV, pureV, pureX, pure1, AV.cells, AV.one, storable, laid, refless, refless1, vload, loadC, storeC, vnil, vfaddr, vextract, flatT, flatE, flatC, vconv, vmm, vidxA, viaddrA, vfield, vlen, elemsOf, dF32, dF64, dI64, dU8, dBool, dStr, esOk, elemsS, vsliceX, bnd, ownV, ownC, own1, ownT, isSl, nSl, endL, Md.isOwn, purge, purgeH, purgeB, purgeE, hasName, name1, List.any_cons, List.any_nil, Md.isWr, pureV.pureP, Option.map, reduceIte, Nat.reduceEqDiff, Nat.reduceAdd, Nat.reduceMul, Nat.reduceLT, Nat.reduceLeDiff, List.mapM_cons, List.mapM_nil, Option.pure_def, Option.bind_eq_bind, Option.bind_some, implies_true, forall_const, beq_self_eq_true, decide_true, decide_false, eq_self, Int.reduceEq, Int.reduceLE, Int.reduceLT, if_true, if_false, grpK, Int.reduceAdd, Int.reduceSub, Int.reduceMul, Int.reduceNeg, Int.reducePow, Nat.reducePow, Int.reduceToNat, Nat.reduceSub, List.replicate, Nat.reduceBEq, wAs, wA, wC, zipW, noDupN, grpE, beq_true, beq_false]
      all_goals (try simp only [*, m_spec_l01Narrow, Bool.and_true, Bool.true_and, Bool.and_false, Bool.false_and, Bool.or_true, Bool.true_or, Bool.or_false, Bool.false_or, Bool.not_true, Bool.not_false, Bool.false_eq_true, if_true, if_false, reduceIte, decide_true, decide_false])
      all_goals (try (simp_all; done))
    · cases h
  · cases h
def m_spec_l06Number (x0 : Int) (x1 : Nat) (x2 : Nat) (x3 : Int) : Nat := (m_spec_l01Narrow (fadd .f64 (widen x1) (fmul .f64 (fsub .f64 (widen x2) (widen x1)) (fdiv .f64 (ofInt .f64 x0) (ofInt .f64 (m_spec_l06Most x3))))))
def p_spec_l06Number (x0 : Int) (x1 : Nat) (x2 : Nat) (x3 : Int) : Bool := ((p_spec_l06Most x3) && (p_spec_l01Narrow (fadd .f64 (widen x1) (fmul .f64 (fsub .f64 (widen x2) (widen x1)) (fdiv .f64 (ofInt .f64 x0) (ofInt .f64 (m_spec_l06Most x3)))))))
def g_spec_l06Number : List AV → Option AV
  | [.int .i64 y0, .flt .f32 y1, .flt .f32 y2, .int .i64 y3] => if p_spec_l06Number y0 y1 y2 y3 = true then some (.flt .f32 (m_spec_l06Number y0 y1 y2 y3)) else none
  | _ => none
def ic81 : ICode := (.seq (.reg [⟨(some 8), none, (.mov (.c (.flt .f32 0)))⟩] [0, 1, 2, 3]) (.seq (.reg [⟨(some 10), none, (.mov (.t 0))⟩, ⟨(some 11), none, (.conv (.flt .f64) (.t 10))⟩, ⟨(some 12), none, (.mov (.t 3))⟩, ⟨(some 13), none, (.call (.fn 80) [(.t 12)] [])⟩, ⟨(some 14), none, (.conv (.flt .f64) (.t 13))⟩, ⟨(some 15), none, (.bin .quo false (.t 11) (.t 14))⟩, ⟨(some 9), none, (.mov (.t 15))⟩] [1, 2, 9]) (.seq (.reg [⟨(some 16), none, (.mov (.t 1))⟩, ⟨(some 17), none, (.conv (.flt .f64) (.t 16))⟩, ⟨(some 18), none, (.mov (.t 2))⟩, ⟨(some 19), none, (.conv (.flt .f64) (.t 18))⟩, ⟨(some 20), none, (.mov (.t 1))⟩, ⟨(some 21), none, (.conv (.flt .f64) (.t 20))⟩, ⟨(some 22), none, (.bin .sub false (.t 19) (.t 21))⟩, ⟨(some 23), none, (.mov (.t 9))⟩, ⟨(some 24), none, (.bin .mul false (.t 22) (.t 23))⟩, ⟨(some 25), none, (.bin .add false (.t 17) (.t 24))⟩, ⟨(some 26), none, (.call (.fn 101) [(.t 25)] [])⟩, ⟨(some 8), none, (.mov (.t 26))⟩] [8]) .ret)))
def cp81 : CP := CP.mk [] [] [[0, 1, 2, 3], [1, 2, 9], [8]] 27 [] []
theorem s81 : ∀ vs r, g_spec_l06Number vs = some r → SaysM Try.prog .any 81 vs r := by
  intro vs r h
  unfold g_spec_l06Number at h
  split at h
  · rename_i y0 y1 y2 y3
    split at h
    · rename_i hp
      cases h
      refine spec_of (m := .any) (tab := tabOf [(80, wM .any g_spec_l06Most), (101, wM .any g_spec_l01Narrow)]) (cp := cp81) (ic := ic81) (rvl := [(.t 8)]) hm (tabOk_cons (m := .any) s80 (tabOk_cons (m := .any) s101 tabOk_nil)) Try.func81 rfl rfl rfl (by kernel_rfl) rfl (Nat.le_of_ble_eq_true rfl) (Nat.le_of_ble_eq_true rfl) ?_
      show eA _ _ _ _
      unfold ic81
      simp only [p_spec_l06Number, Bool.and_eq_true, Bool.or_eq_true, decide_eq_true_eq, Bool.not_eq_true', decide_eq_false_iff_not] at hp
      simp only [
          hp, grpA, vsliceS, grpS, grpD, grpF, grpL, eop, vop, bop, uop, fltop, convop, endOk, newE, new1, freshL, Md.isNew, outV, pureV, pureX, pure1, AV.cells, AV.one, storable, laid, refless, refless1, vload, loadC, storeC, vnil, vfaddr, vextract, flatT, flatE, flatC, vconv, vmm, vidxA, viaddrA, vfield, vlen, elemsOf, dF32, dF64, dI64, dU8, dBool, dStr, esOk, elemsS, vsliceX, bnd, ownV, ownC, own1, ownT, isSl, nSl, endL, Md.isOwn, purge, purgeH, purgeB, purgeE, hasName, name1, List.any_cons, List.any_nil, Md.isWr, pureV.pureP, Option.map, reduceIte, Nat.reduceEqDiff, Nat.reduceAdd, Nat.reduceMul, Nat.reduceLT, Nat.reduceLeDiff, List.mapM_cons, List.mapM_nil, Option.pure_def, Option.bind_eq_bind, Option.bind_some, implies_true, forall_const, beq_self_eq_true, decide_true, decide_false, eq_self, Int.reduceEq, Int.reduceLE, Int.reduceLT, if_true, if_false, grpK, Int.reduceAdd, Int.reduceSub, Int.reduceMul, Int.reduceNeg, Int.reducePow, Nat.reducePow, Int.reduceToNat, Nat.reduceSub, List.replicate, Nat.reduceBEq, wAs, wA, wC, zipW, noDupN, grpE, beq_true, beq_false, g_spec_l06Most, g_spec_l01Narrow]
      all_goals (try simp only [*, m_spec_l06Number, Bool.and_true, Bool.true_and, Bool.and_false, Bool.false_and, Bool.or_true, Bool.true_or, Bool.or_false, Bool.false_or, Bool.not_true, Bool.not_false, Bool.false_eq_true, if_true, if_false, reduceIte, decide_true, decide_false])
      all_goals (try (simp_all; done))
    · cases h
  · cases h
theorem s104 : ∀ vs r, g_sqrt vs = some r → SaysM Try.prog .any 104 vs r := t_sqrt Try.func104 (by kernel_rfl) rfl (by kernel_rfl) (by kernel_rfl)
def m_math_Sqrt (x0 : Nat) : Nat := (fsqrt x0)
def g_math_Sqrt : List AV → Option AV
  | [.flt .f64 y0] => some (.flt .f64 (m_math_Sqrt y0))
  | _ => none
def ic84 : ICode := (.seq (.reg [⟨(some 2), none, (.mov (.c (.flt .f64 0)))⟩] [0]) (.seq (.reg [⟨(some 3), none, (.mov (.t 0))⟩, ⟨(some 4), none, (.call (.fn 104) [(.t 3)] [])⟩, ⟨(some 2), none, (.mov (.t 4))⟩] [2]) .ret))
def cp84 : CP := CP.mk [] [] [[0], [2]] 5 [] []
theorem s84 : ∀ vs r, g_math_Sqrt vs = some r → SaysM Try.prog .any 84 vs r := by
  intro vs r h
  unfold g_math_Sqrt at h
  split at h
  · rename_i y0
    cases h
    refine spec_of (m := .any) (tab := tabOf [(104, wM .any g_sqrt)]) (cp := cp84) (ic := ic84) (rvl := [(.t 2)]) hm (tabOk_cons (m := .any) s104 tabOk_nil) Try.func84 rfl rfl rfl (by kernel_rfl) rfl (Nat.le_of_ble_eq_true rfl) (Nat.le_of_ble_eq_true rfl) ?_
    show eA _ _ _ _
    unfold ic84
    simp only [
        grpA, vsliceS, grpS, grpD, grpF, grpL, eop, vop, bop, uop, fltop, convop, endOk, newE, new1, freshL, Md.isNew, outV, pureV, pureX, pure1, AV.cells, AV.one, storable, laid, refless, refless1, vload, loadC, storeC, vnil, vfaddr, vextract, flatT, flatE, flatC, vconv, vmm, vidxA, viaddrA, vfield, vlen, elemsOf, dF32, dF64, dI64, dU8, dBool, dStr, esOk, elemsS, vsliceX, bnd, ownV, ownC, own1, ownT, isSl, nSl, endL, Md.isOwn, purge, purgeH, purgeB, purgeE, hasName, name1, List.any_cons, List.any_nil, Md.isWr, pureV.pureP, Option.map, reduceIte, Nat.reduceEqDiff, Nat.reduceAdd, Nat.reduceMul, Nat.reduceLT, Nat.reduceLeDiff, List.mapM_cons, List.mapM_nil, Option.pure_def, Option.bind_eq_bind, Option.bind_some, implies_true, forall_const, beq_self_eq_true, decide_true, decide_false, eq_self, Int.reduceEq, Int.reduceLE, Int.reduceLT, if_true, if_false, grpK, Int.reduceAdd, Int.reduceSub, Int.reduceMul, Int.reduceNeg, Int.reducePow, Nat.reducePow, Int.reduceToNat, Nat.reduceSub, List.replicate, Nat.reduceBEq, wAs, wA, wC, zipW, noDupN, grpE, beq_true, beq_false, g_sqrt]
    all_goals (try simp only [*, m_math_Sqrt, Bool.and_true, Bool.true_and, Bool.and_false, Bool.false_and, Bool.or_true, Bool.true_or, Bool.or_false, Bool.false_or, Bool.not_true, Bool.not_false, Bool.false_eq_true, if_true, if_false, reduceIte, decide_true, decide_false])
    all_goals (try (simp_all; done))
  · cases h
def m_spec_l01Sqrt (x0 : Nat) : Nat := (m_spec_l01Narrow (m_math_Sqrt (widen x0)))
def p_spec_l01Sqrt (x0 : Nat) : Bool := (p_spec_l01Narrow (m_math_Sqrt (widen x0)))
def g_spec_l01Sqrt : List AV → Option AV
  | [.flt .f32 y0] => if p_spec_l01Sqrt y0 = true then some (.flt .f32 (m_spec_l01Sqrt y0)) else none
  | _ => none
def ic82 : ICode := (.seq (.reg [⟨(some 2), none, (.mov (.c (.flt .f32 0)))⟩] [0]) (.seq (.reg [⟨(some 3), none, (.mov (.t 0))⟩, ⟨(some 4), none, (.conv (.flt .f64) (.t 3))⟩, ⟨(some 5), none, (.call (.fn 84) [(.t 4)] [])⟩, ⟨(some 6), none, (.call (.fn 101) [(.t 5)] [])⟩, ⟨(some 2), none, (.mov (.t 6))⟩] [2]) .ret))
def cp82 : CP := CP.mk [] [] [[0], [2]] 7 [] []
theorem s82 : ∀ vs r, g_spec_l01Sqrt vs = some r → SaysM Try.prog .any 82 vs r := by
  intro vs r h
  unfold g_spec_l01Sqrt at h
  split at h
  · rename_i y0
    split at h
    · rename_i hp
      cases h
      refine spec_of (m := .any) (tab := tabOf [(84, wM .any g_math_Sqrt), (101, wM .any g_spec_l01Narrow)]) (cp := cp82) (ic := ic82) (rvl := [(.t 2)]) hm (tabOk_cons (m := .any) s84 (tabOk_cons (m := .any) s101 tabOk_nil)) Try.func82 rfl rfl rfl (by kernel_rfl) rfl (Nat.le_of_ble_eq_true rfl) (Nat.le_of_ble_eq_true rfl) ?_
      show eA _ _ _ _
      unfold ic82
      simp only [p_spec_l01Sqrt, Bool.and_eq_true, Bool.or_eq_true, decide_eq_true_eq, Bool.not_eq_true', decide_eq_false_iff_not] at hp
      simp only [
          hp, grpA, vsliceS, grpS, grpD, grpF, grpL, eop, vop, bop, uop, fltop, convop, endOk, newE, new1, freshL, Md.isNew, outV, pureV, pureX, pure1, AV.cells, AV.one, storable, laid, refless, refless1, vload, loadC, storeC, vnil, vfaddr, vextract, flatT, flatE, flatC, vconv, vmm, vidxA, viaddrA, vfield, vlen, elemsOf, dF32, dF64, dI64, dU8, dBool, dStr, esOk, elemsS, vsliceX, bnd, ownV, ownC, own1, ownT, isSl, nSl, endL, Md.isOwn, purge, purgeH, purgeB, purgeE, hasName, name1, List.any_cons, List.any_nil, Md.isWr, pureV.pureP, Option.map, reduceIte, Nat.reduceEqDiff, Nat.reduceAdd, Nat.reduceMul, Nat.reduceLT, Nat.reduceLeDiff, List.mapM_cons, List.mapM_nil, Option.pure_def, Option.bind_eq_bind, Option.bind_some, implies_true, forall_const, beq_self_eq_true, decide_true, decide_false, eq_self, Int.reduceEq, Int.reduceLE, Int.reduceLT, if_true, if_false, grpK, Int.reduceAdd, Int.reduceSub, Int.reduceMul, Int.reduceNeg, Int.reducePow, Nat.reducePow, Int.reduceToNat, Nat.reduceSub, List.replicate, Nat.reduceBEq, wAs, wA, wC, zipW, noDupN, grpE, beq_true, beq_false, g_math_Sqrt, g_spec_l01Narrow]
      all_goals (try simp only [*, m_spec_l01Sqrt, Bool.and_true, Bool.true_and, Bool.and_false, Bool.false_and, Bool.or_true, Bool.true_or, Bool.or_false, Bool.false_or, Bool.not_true, Bool.not_false, Bool.false_eq_true, if_true, if_false, reduceIte, decide_true, decide_false])
      all_goals (try (simp_all; done))
    · cases h
  · cases h
def m_spec_l02Inner (x0 : (Nat × Nat × Nat × Nat)) (x1 : (Nat × Nat × Nat × Nat)) : Nat := (fadd .f32 (fadd .f32 (fadd .f32 (fmul .f32 x0.1 x1.1) (fmul .f32 x0.2.1 x1.2.1)) (fmul .f32 x0.2.2.1 x1.2.2.1)) (fmul .f32 x0.2.2.2 x1.2.2.2))
def g_spec_l02Inner : List AV → Option AV
  | [.agg [.flt .f32 y0, .flt .f32 y1, .flt .f32 y2, .flt .f32 y3], .agg [.flt .f32 y4, .flt .f32 y5, .flt .f32 y6, .flt .f32 y7]] => some (.flt .f32 (m_spec_l02Inner (y0, y1, y2, y3) (y4, y5, y6, y7)))
  | _ => none
def ic102 : ICode := (.seq (.reg [⟨(some 2), none, (.box 4 (.t 0))⟩, ⟨(some 3), none, (.box 4 (.t 1))⟩, ⟨(some 4), none, (.mov (.c (.flt .f32 0)))⟩] [2, 3]) (.seq (.reg [⟨(some 6), none, (.faddr 0 (.t 2))⟩, ⟨(some 7), none, (.load none (.t 6))⟩, ⟨(some 8), none, (.faddr 0 (.t 3))⟩, ⟨(some 9), none, (.load none (.t 8))⟩, ⟨(some 10), none, (.bin .mul false (.t 7) (.t 9))⟩, ⟨(some 11), none, (.faddr 1 (.t 2))⟩, ⟨(some 12), none, (.load none (.t 11))⟩, ⟨(some 13), none, (.faddr 1 (.t 3))⟩, ⟨(some 14), none, (.load none (.t 13))⟩, ⟨(some 15), none, (.bin .mul false (.t 12) (.t 14))⟩, ⟨(some 16), none, (.bin .add false (.t 10) (.t 15))⟩, ⟨(some 5), none, (.mov (.t 16))⟩] [2, 3, 5]) (.seq (.reg [⟨(some 17), none, (.mov (.t 5))⟩, ⟨(some 18), none, (.faddr 2 (.t 2))⟩, ⟨(some 19), none, (.load none (.t 18))⟩, ⟨(some 20), none, (.faddr 2 (.t 3))⟩, ⟨(some 21), none, (.load none (.t 20))⟩, ⟨(some 22), none, (.bin .mul false (.t 19) (.t 21))⟩, ⟨(some 23), none, (.bin .add false (.t 17) (.t 22))⟩, ⟨(some 5), none, (.mov (.t 23))⟩] [2, 3, 5]) (.seq (.reg [⟨(some 24), none, (.mov (.t 5))⟩, ⟨(some 25), none, (.faddr 3 (.t 2))⟩, ⟨(some 26), none, (.load none (.t 25))⟩, ⟨(some 27), none, (.faddr 3 (.t 3))⟩, ⟨(some 28), none, (.load none (.t 27))⟩, ⟨(some 29), none, (.bin .mul false (.t 26) (.t 28))⟩, ⟨(some 30), none, (.bin .add false (.t 24) (.t 29))⟩, ⟨(some 4), none, (.mov (.t 30))⟩] [4]) .ret))))
def cp102 : CP := CP.mk [] [] [[2, 3], [2, 3, 5], [2, 3, 5], [4]] 31 [] []
theorem s102 : ∀ vs r, g_spec_l02Inner vs = some r → SaysM Try.prog .any 102 vs r := by
  intro vs r h
  unfold g_spec_l02Inner at h
  split at h
  · rename_i y0 y1 y2 y3 y4 y5 y6 y7
    cases h
    refine spec_of (m := .any) (tab := tabOf []) (cp := cp102) (ic := ic102) (rvl := [(.t 4)]) hm tabOk_nil Try.func102 rfl rfl rfl (by kernel_rfl) rfl (Nat.le_of_ble_eq_true rfl) (Nat.le_of_ble_eq_true rfl) ?_
    show eA _ _ _ _
    unfold ic102
    simp only [
        grpA, vsliceS, grpS, grpD, grpF, grpL, eop, vop, bop, uop, fltop, convop, endOk, newE, new1, freshL, Md.isNew, outV, pureV, pureX, pure1, AV.cells, AV.one, storable, laid, refless, refless1, vload, loadC, storeC, vnil, vfaddr, vextract, flatT, flatE, flatC, vconv, vmm, vidxA, viaddrA, vfield, vlen, elemsOf, dF32, dF64, dI64, dU8, dBool, dStr, esOk, elemsS, vsliceX, bnd, ownV, ownC, own1, ownT, isSl, nSl, endL, Md.isOwn, purge, purgeH, purgeB, purgeE, hasName, name1, List.any_cons, List.any_nil, Md.isWr, pureV.pureP, Option.map, reduceIte, Nat.reduceEqDiff, Nat.reduceAdd, Nat.reduceMul, Nat.reduceLT, Nat.reduceLeDiff, List.mapM_cons, List.mapM_nil, Option.pure_def, Option.bind_eq_bind, Option.bind_some, implies_true, forall_const, beq_self_eq_true, decide_true, decide_false, eq_self, Int.reduceEq, Int.reduceLE, Int.reduceLT, if_true, if_false, grpK, Int.reduceAdd, Int.reduceSub, Int.reduceMul, Int.reduceNeg, Int.reducePow, Nat.reducePow, Int.reduceToNat, Nat.reduceSub, List.replicate, Nat.reduceBEq, wAs, wA, wC, zipW, noDupN, grpE, beq_true, beq_false]
    all_goals (try simp only [*, m_spec_l02Inner, Bool.and_true, Bool.true_and, Bool.and_false, Bool.false_and, Bool.or_true, Bool.true_or, Bool.or_false, Bool.false_or, Bool.not_true, Bool.not_false, Bool.false_eq_true, if_true, if_false, reduceIte, decide_true, decide_false])
    all_goals (try (simp_all; done))
  · cases h
def m_spec_l01Finite (x0 : Nat) : Bool := (feq .f32 (fsub .f32 x0 x0) 0)
def g_spec_l01Finite : List AV → Option AV
  | [.flt .f32 y0] => some (.bool (m_spec_l01Finite y0))
  | _ => none
def ic88 : ICode := (.seq (.reg [⟨(some 2), none, (.mov (.c (.bool false)))⟩] [0]) (.seq (.reg [⟨(some 3), none, (.mov (.t 0))⟩, ⟨(some 4), none, (.mov (.t 0))⟩, ⟨(some 5), none, (.bin .sub false (.t 3) (.t 4))⟩, ⟨(some 6), none, (.bin .eql false (.t 5) (.c (.flt .f32 0)))⟩, ⟨(some 2), none, (.mov (.t 6))⟩] [2]) .ret))
def cp88 : CP := CP.mk [] [] [[0], [2]] 7 [] []
theorem s88 : ∀ vs r, g_spec_l01Finite vs = some r → SaysM Try.prog .any 88 vs r := by
  intro vs r h
  unfold g_spec_l01Finite at h
  split at h
  · rename_i y0
    cases h
    refine spec_of (m := .any) (tab := tabOf []) (cp := cp88) (ic := ic88) (rvl := [(.t 2)]) hm tabOk_nil Try.func88 rfl rfl rfl (by kernel_rfl) rfl (Nat.le_of_ble_eq_true rfl) (Nat.le_of_ble_eq_true rfl) ?_
    show eA _ _ _ _
    unfold ic88
    simp only [
        grpA, vsliceS, grpS, grpD, grpF, grpL, eop, vop, bop, uop, fltop, convop, endOk, newE, new1, freshL, Md.isNew, outV, pureV, pureX, pure1, AV.cells, AV.one, storable, laid, refless, refless1, vload, loadC, storeC, vnil, vfaddr, vextract, flatT, flatE, flatC, vconv, vmm, vidxA, viaddrA, vfield, vlen, elemsOf, dF32, dF64, dI64, dU8, dBool, dStr, esOk, elemsS, vsliceX, bnd, ownV, ownC, own1, ownT, isSl, nSl, endL, Md.isOwn, purge, purgeH, purgeB, purgeE, hasName, name1, List.any_cons, List.any_nil, Md.isWr, pureV.pureP, Option.map, reduceIte, Nat.reduceEqDiff, Nat.reduceAdd, Nat.reduceMul, Nat.reduceLT, Nat.reduceLeDiff, List.mapM_cons, List.mapM_nil, Option.pure_def, Option.bind_eq_bind, Option.bind_some, implies_true, forall_const, beq_self_eq_true, decide_true, decide_false, eq_self, Int.reduceEq, Int.reduceLE, Int.reduceLT, if_true, if_false, grpK, Int.reduceAdd, Int.reduceSub, Int.reduceMul, Int.reduceNeg, Int.reducePow, Nat.reducePow, Int.reduceToNat, Nat.reduceSub, List.replicate, Nat.reduceBEq, wAs, wA, wC, zipW, noDupN, grpE, beq_true, beq_false]
    all_goals (try simp only [*, m_spec_l01Finite, Bool.and_true, Bool.true_and, Bool.and_false, Bool.false_and, Bool.or_true, Bool.true_or, Bool.or_false, Bool.false_or, Bool.not_true, Bool.not_false, Bool.false_eq_true, if_true, if_false, reduceIte, decide_true, decide_false])
    all_goals (try (simp_all; done))
  · cases h
def m_spec_l02No  : (Nat × Nat × Nat × Nat) := (1065353216, 0, 0, 0)
def g_spec_l02No : List AV → Option AV
  | [] => some (AV.agg [(.flt .f32 (m_spec_l02No).1), (.flt .f32 (m_spec_l02No).2.1), (.flt .f32 (m_spec_l02No).2.2.1), (.flt .f32 (m_spec_l02No).2.2.2)])
  | _ => none
def ic103 : ICode := (.seq (.reg [⟨(some 0), none, (.alloc (.agg [(.flt .f32 0), (.flt .f32 0), (.flt .f32 0), (.flt .f32 0)]))⟩] [0]) (.seq (.reg [⟨(some 1), none, (.build [(.flt .f32 0), (.flt .f32 0), (.flt .f32 0), (.flt .f32 0)] [(0, 1, (.c (.flt .f32 1065353216)))])⟩, ⟨none, none, (.store 4 (.t 0) (.t 1))⟩] [0]) .ret))
def cp103 : CP := CP.mk [] [] [[0], [0]] 2 [] []
theorem s103 : ∀ vs r, g_spec_l02No vs = some r → SaysM Try.prog .any 103 vs r := by
  intro vs r h
  unfold g_spec_l02No at h
  split at h
  · cases h
    refine spec_of (m := .any) (tab := tabOf []) (cp := cp103) (ic := ic103) (rvl := [(.c 0 (some 4))]) hm tabOk_nil Try.func103 rfl rfl rfl (by kernel_rfl) rfl (Nat.le_of_ble_eq_true rfl) (Nat.le_of_ble_eq_true rfl) ?_
    show eA _ _ _ _
    unfold ic103
    simp only [
        grpA, vsliceS, grpS, grpD, grpF, grpL, eop, vop, bop, uop, fltop, convop, endOk, newE, new1, freshL, Md.isNew, outV, pureV, pureX, pure1, AV.cells, AV.one, storable, laid, refless, refless1, vload, loadC, storeC, vnil, vfaddr, vextract, flatT, flatE, flatC, vconv, vmm, vidxA, viaddrA, vfield, vlen, elemsOf, dF32, dF64, dI64, dU8, dBool, dStr, esOk, elemsS, vsliceX, bnd, ownV, ownC, own1, ownT, isSl, nSl, endL, Md.isOwn, purge, purgeH, purgeB, purgeE, hasName, name1, List.any_cons, List.any_nil, Md.isWr, pureV.pureP, Option.map, reduceIte, Nat.reduceEqDiff, Nat.reduceAdd, Nat.reduceMul, Nat.reduceLT, Nat.reduceLeDiff, List.mapM_cons, List.mapM_nil, Option.pure_def, Option.bind_eq_bind, Option.bind_some, implies_true, forall_const, beq_self_eq_true, decide_true, decide_false, eq_self, Int.reduceEq, Int.reduceLE, Int.reduceLT, if_true, if_false, grpK, Int.reduceAdd, Int.reduceSub, Int.reduceMul, Int.reduceNeg, Int.reducePow, Nat.reducePow, Int.reduceToNat, Nat.reduceSub, List.replicate, Nat.reduceBEq, wAs, wA, wC, zipW, noDupN, grpE, beq_true, beq_false]
    all_goals (try simp only [*, m_spec_l02No, Bool.and_true, Bool.true_and, Bool.and_false, Bool.false_and, Bool.or_true, Bool.true_or, Bool.or_false, Bool.false_or, Bool.not_true, Bool.not_false, Bool.false_eq_true, if_true, if_false, reduceIte, decide_true, decide_false])
    all_goals (try (simp_all; done))
  · cases h
def m_spec_l02Mend (x0 : (Nat × Nat × Nat × Nat)) : (Nat × Nat × Nat × Nat) := (if (feq .f32 (m_spec_l01Sqrt (m_spec_l02Inner x0 x0)) 0) = true then (m_spec_l02No) else (if (m_spec_l01Finite (m_spec_l01Sqrt (m_spec_l02Inner x0 x0))) = true then ((fdiv .f32 x0.1 (m_spec_l01Sqrt (m_spec_l02Inner x0 x0))), (fdiv .f32 x0.2.1 (m_spec_l01Sqrt (m_spec_l02Inner x0 x0))), (fdiv .f32 x0.2.2.1 (m_spec_l01Sqrt (m_spec_l02Inner x0 x0))), (fdiv .f32 x0.2.2.2 (m_spec_l01Sqrt (m_spec_l02Inner x0 x0)))) else (m_spec_l02No)))
def p_spec_l02Mend (x0 : (Nat × Nat × Nat × Nat)) : Bool := (p_spec_l01Sqrt (m_spec_l02Inner x0 x0))
def g_spec_l02Mend : List AV → Option AV
  | [.agg [.flt .f32 y0, .flt .f32 y1, .flt .f32 y2, .flt .f32 y3]] => if p_spec_l02Mend (y0, y1, y2, y3) = true then some (AV.agg [(.flt .f32 (m_spec_l02Mend (y0, y1, y2, y3)).1), (.flt .f32 (m_spec_l02Mend (y0, y1, y2, y3)).2.1), (.flt .f32 (m_spec_l02Mend (y0, y1, y2, y3)).2.2.1), (.flt .f32 (m_spec_l02Mend (y0, y1, y2, y3)).2.2.2)]) else none
  | _ => none
def ic83 : ICode := (.seq (.reg [⟨(some 1), none, (.box 4 (.t 0))⟩, ⟨(some 2), none, (.alloc (.agg [(.flt .f32 0), (.flt .f32 0), (.flt .f32 0), (.flt .f32 0)]))⟩] [1, 2]) (.seq (.reg [⟨(some 4), none, (.load (some 4) (.t 1))⟩, ⟨(some 5), none, (.load (some 4) (.t 1))⟩, ⟨(some 6), none, (.call (.fn 102) [(.t 4), (.t 5)] [])⟩, ⟨(some 7), none, (.call (.fn 82) [(.t 6)] [])⟩, ⟨(some 3), none, (.mov (.t 7))⟩] [1, 2, 3]) (.seq (.seq (.reg [⟨(some 8), none, (.mov (.t 3))⟩, ⟨(some 9), none, (.bin .eql false (.t 8) (.c (.flt .f32 0)))⟩, ⟨(some 10), none, (.mov (.t 9))⟩, ⟨(some 11), (some (10, false)), (.mov (.t 3))⟩, ⟨(some 12), (some (10, false)), (.call (.fn 88) [(.t 11)] [])⟩, ⟨(some 13), (some (10, false)), (.un .not (.t 12))⟩, ⟨(some 14), none, (.pick (.t 10) (.c (.bool true)) (.t 13))⟩] [1, 2, 3, 14]) (.cond (.t 14) (.seq (.reg [⟨(some 15), none, (.call (.fn 103) [] [])⟩, ⟨none, none, (.store 4 (.t 2) (.t 15))⟩] [2]) .ret) .skip)) (.seq (.reg [⟨(some 16), none, (.faddr 0 (.t 1))⟩, ⟨(some 17), none, (.load none (.t 16))⟩, ⟨(some 18), none, (.mov (.t 3))⟩, ⟨(some 19), none, (.bin .quo false (.t 17) (.t 18))⟩, ⟨(some 20), none, (.faddr 1 (.t 1))⟩, ⟨(some 21), none, (.load none (.t 20))⟩, ⟨(some 22), none, (.mov (.t 3))⟩, ⟨(some 23), none, (.bin .quo false (.t 21) (.t 22))⟩, ⟨(some 24), none, (.faddr 2 (.t 1))⟩, ⟨(some 25), none, (.load none (.t 24))⟩, ⟨(some 26), none, (.mov (.t 3))⟩, ⟨(some 27), none, (.bin .quo false (.t 25) (.t 26))⟩, ⟨(some 28), none, (.faddr 3 (.t 1))⟩, ⟨(some 29), none, (.load none (.t 28))⟩, ⟨(some 30), none, (.mov (.t 3))⟩, ⟨(some 31), none, (.bin .quo false (.t 29) (.t 30))⟩, ⟨(some 32), none, (.build [(.flt .f32 0), (.flt .f32 0), (.flt .f32 0), (.flt .f32 0)] [(0, 1, (.t 19)), (1, 1, (.t 23)), (2, 1, (.t 27)), (3, 1, (.t 31))])⟩, ⟨none, none, (.store 4 (.t 2) (.t 32))⟩] [2]) .ret))))
def cp83 : CP := CP.mk [] [] [[1, 2], [1, 2, 3], [1, 2, 3, 14], [2], [2]] 33 [] []
theorem s83 : ∀ vs r, g_spec_l02Mend vs = some r → SaysM Try.prog .any 83 vs r := by
  intro vs r h
  unfold g_spec_l02Mend at h
  split at h
  · rename_i y0 y1 y2 y3
    split at h
    · rename_i hp
      cases h
      refine spec_of (m := .any) (tab := tabOf [(82, wM .any g_spec_l01Sqrt), (88, wM .any g_spec_l01Finite), (102, wM .any g_spec_l02Inner), (103, wM .any g_spec_l02No)]) (cp := cp83) (ic := ic83) (rvl := [(.c 2 (some 4))]) hm (tabOk_cons (m := .any) s82 (tabOk_cons (m := .any) s88 (tabOk_cons (m := .any) s102 (tabOk_cons (m := .any) s103 tabOk_nil)))) Try.func83 rfl rfl rfl (by kernel_rfl) rfl (Nat.le_of_ble_eq_true rfl) (Nat.le_of_ble_eq_true rfl) ?_
      show eA _ _ _ _
      unfold ic83
      simp only [p_spec_l02Mend, Bool.and_eq_true, Bool.or_eq_true, decide_eq_true_eq, Bool.not_eq_true', decide_eq_false_iff_not] at hp
      refine eS_to ?_
      repeat' (first
        | ((first | (have h := True.intro; refine eS_of ?_) | (refine eGI_of (fun h => ?_) (fun h => ?_)) | (refine eCc_of (fun h => ?_) (fun h => ?_)) | (refine ePk_of (fun h => ?_) (fun h => ?_))) <;> (try simp only [Bool.not_eq_true', Bool.not_eq_false'] at h) <;> (try first | exact absurd (Eq.trans (Eq.symm h) (by assumption)) Bool.false_ne_true | exact absurd (Eq.trans (Eq.symm h) (by assumption)) (Ne.symm Bool.false_ne_true)) <;> (try simp only [h, reduceCtorEq, grpN, Int.reduceEq, Int.reduceLT, Int.reduceLE, if_true, if_false, reduceIte] at hp) <;> (first | (have h2 := h; simp only [decide_eq_true_eq, decide_eq_false_iff_not] at h2; (first | (replace h2 := eq_false h2) | (replace h2 := eq_true h2)); (try simp only [h2, reduceCtorEq, grpN, Int.reduceEq, Int.reduceLT, Int.reduceLE, if_true, if_false, reduceIte] at hp); replace hp := And.intro h2 hp) | (replace hp := And.intro h hp) | skip) <;> simp only [h,
          hp, grpA, vsliceS, grpS, grpD, grpF, grpL, eop, vop, bop, uop, fltop, convop, endOk, newE, new1, freshL, Md.isNew, outV, pureV, pureX, pure1, AV.cells, AV.one, storable, laid, refless, refless1, vload, loadC, storeC, vnil, vfaddr, vextract, flatT, flatE, flatC, vconv, vmm, vidxA, viaddrA, vfield, vlen, elemsOf, dF32, dF64, dI64, dU8, dBool, dStr, esOk, elemsS, vsliceX, bnd, ownV, ownC, own1, ownT, isSl, nSl, endL, Md.isOwn, purge, purgeH, purgeB, purgeE, hasName, name1, List.any_cons, List.any_nil, Md.isWr, pureV.pureP, Option.map, reduceIte, Nat.reduceEqDiff, Nat.reduceAdd, Nat.reduceMul, Nat.reduceLT, Nat.reduceLeDiff, List.mapM_cons, List.mapM_nil, Option.pure_def, Option.bind_eq_bind, Option.bind_some, implies_true, forall_const, beq_self_eq_true, decide_true, decide_false, eq_self, Int.reduceEq, Int.reduceLE, Int.reduceLT, if_true, if_false, grpK, Int.reduceAdd, Int.reduceSub, Int.reduceMul, Int.reduceNeg, Int.reducePow, Nat.reducePow, Int.reduceToNat, Nat.reduceSub, List.replicate, Nat.reduceBEq, wAs, wA, wC, zipW, noDupN, grpE, beq_true, beq_false, g_spec_l01Sqrt, g_spec_l01Finite, g_spec_l02Inner, g_spec_l02No, ↓b_pick, ePk_true, ePk_false]))
      all_goals (try simp only [*, m_spec_l02Mend, Bool.and_true, Bool.true_and, Bool.and_false, Bool.false_and, Bool.or_true, Bool.true_or, Bool.or_false, Bool.false_or, Bool.not_true, Bool.not_false, Bool.false_eq_true, if_true, if_false, reduceIte, decide_true, decide_false])
      all_goals (try (simp_all; done))
    · cases h
  · cases h
def v_spec_l06Unpack_0 (x0 : Int) (x1 : Int) : Nat := (m_spec_l06Number (bitop .and .i64 (Int.fdiv x0 (2 ^ (min ((IntKind.wrap .u64 (IntKind.wrap .i64 (2 * x1))) : Int).toNat 64))) (m_spec_l06Most x1)) 3208642560 1061158912 x1)
def v_spec_l06Unpack_1 (x0 : Int) (x1 : Int) : Nat := (fmul .f32 (m_spec_l06Number (bitop .and .i64 (Int.fdiv x0 (2 ^ (min ((IntKind.wrap .u64 x1) : Int).toNat 64))) (m_spec_l06Most x1)) 3208642560 1061158912 x1) (m_spec_l06Number (bitop .and .i64 (Int.fdiv x0 (2 ^ (min ((IntKind.wrap .u64 x1) : Int).toNat 64))) (m_spec_l06Most x1)) 3208642560 1061158912 x1))
def v_spec_l06Unpack_2 (x0 : Int) (x1 : Int) : Nat := (fmul .f32 (m_spec_l06Number (bitop .and .i64 x0 (m_spec_l06Most x1)) 3208642560 1061158912 x1) (m_spec_l06Number (bitop .and .i64 x0 (m_spec_l06Most x1)) 3208642560 1061158912 x1))
def v_spec_l06Unpack_3 (x0 : Int) (x1 : Int) : Nat := (fsub .f32 (fsub .f32 (fsub .f32 1065353216 (fmul .f32 (v_spec_l06Unpack_0 x0 x1) (v_spec_l06Unpack_0 x0 x1))) (v_spec_l06Unpack_1 x0 x1)) (v_spec_l06Unpack_2 x0 x1))
def m_spec_l06Unpack (x0 : Int) (x1 : Int) : (Nat × Nat × Nat × Nat) := (if (decide ((Int.fdiv x0 (2 ^ (min ((IntKind.wrap .u64 (IntKind.wrap .i64 (3 * x1))) : Int).toNat 64))) = 0)) = true then (m_spec_l02Mend ((m_spec_l01Sqrt (if (flt .f32 0 (v_spec_l06Unpack_3 x0 x1)) = true then (v_spec_l06Unpack_3 x0 x1) else 0)), (v_spec_l06Unpack_0 x0 x1), (m_spec_l06Number (bitop .and .i64 (Int.fdiv x0 (2 ^ (min ((IntKind.wrap .u64 x1) : Int).toNat 64))) (m_spec_l06Most x1)) 3208642560 1061158912 x1), (m_spec_l06Number (bitop .and .i64 x0 (m_spec_l06Most x1)) 3208642560 1061158912 x1))) else (if (decide ((Int.fdiv x0 (2 ^ (min ((IntKind.wrap .u64 (IntKind.wrap .i64 (3 * x1))) : Int).toNat 64))) = 1)) = true then (m_spec_l02Mend ((v_spec_l06Unpack_0 x0 x1), (m_spec_l01Sqrt (if (flt .f32 0 (v_spec_l06Unpack_3 x0 x1)) = true then (v_spec_l06Unpack_3 x0 x1) else 0)), (m_spec_l06Number (bitop .and .i64 (Int.fdiv x0 (2 ^ (min ((IntKind.wrap .u64 x1) : Int).toNat 64))) (m_spec_l06Most x1)) 3208642560 1061158912 x1), (m_spec_l06Number (bitop .and .i64 x0 (m_spec_l06Most x1)) 3208642560 1061158912 x1))) else (if (decide ((Int.fdiv x0 (2 ^ (min ((IntKind.wrap .u64 (IntKind.wrap .i64 (3 * x1))) : Int).toNat 64))) = 2)) = true then (m_spec_l02Mend ((v_spec_l06Unpack_0 x0 x1), (m_spec_l06Number (bitop .and .i64 (Int.fdiv x0 (2 ^ (min ((IntKind.wrap .u64 x1) : Int).toNat 64))) (m_spec_l06Most x1)) 3208642560 1061158912 x1), (m_spec_l01Sqrt (if (flt .f32 0 (v_spec_l06Unpack_3 x0 x1)) = true then (v_spec_l06Unpack_3 x0 x1) else 0)), (m_spec_l06Number (bitop .and .i64 x0 (m_spec_l06Most x1)) 3208642560 1061158912 x1))) else (m_spec_l02Mend ((v_spec_l06Unpack_0 x0 x1), (m_spec_l06Number (bitop .and .i64 (Int.fdiv x0 (2 ^ (min ((IntKind.wrap .u64 x1) : Int).toNat 64))) (m_spec_l06Most x1)) 3208642560 1061158912 x1), (m_spec_l06Number (bitop .and .i64 x0 (m_spec_l06Most x1)) 3208642560 1061158912 x1), (m_spec_l01Sqrt (if (flt .f32 0 (v_spec_l06Unpack_3 x0 x1)) = true then (v_spec_l06Unpack_3 x0 x1) else 0)))))))
def p_spec_l06Unpack (x0 : Int) (x1 : Int) : Bool := ((p_spec_l06Most x1) && ((decide (0 ≤ (IntKind.wrap .u64 (IntKind.wrap .i64 (2 * x1))))) && ((p_spec_l06Number (bitop .and .i64 (Int.fdiv x0 (2 ^ (min ((IntKind.wrap .u64 (IntKind.wrap .i64 (2 * x1))) : Int).toNat 64))) (m_spec_l06Most x1)) 3208642560 1061158912 x1) && ((decide (0 ≤ (IntKind.wrap .u64 x1))) && ((p_spec_l06Number (bitop .and .i64 (Int.fdiv x0 (2 ^ (min ((IntKind.wrap .u64 x1) : Int).toNat 64))) (m_spec_l06Most x1)) 3208642560 1061158912 x1) && ((p_spec_l06Number (bitop .and .i64 x0 (m_spec_l06Most x1)) 3208642560 1061158912 x1) && ((p_spec_l01Sqrt (if (flt .f32 0 (v_spec_l06Unpack_3 x0 x1)) = true then (v_spec_l06Unpack_3 x0 x1) else 0)) && ((decide (0 ≤ (IntKind.wrap .u64 (IntKind.wrap .i64 (3 * x1))))) && (if (decide ((Int.fdiv x0 (2 ^ (min ((IntKind.wrap .u64 (IntKind.wrap .i64 (3 * x1))) : Int).toNat 64))) = 0)) = true then (p_spec_l02Mend ((m_spec_l01Sqrt (if (flt .f32 0 (v_spec_l06Unpack_3 x0 x1)) = true then (v_spec_l06Unpack_3 x0 x1) else 0)), (v_spec_l06Unpack_0 x0 x1), (m_spec_l06Number (bitop .and .i64 (Int.fdiv x0 (2 ^ (min ((IntKind.wrap .u64 x1) : Int).toNat 64))) (m_spec_l06Most x1)) 3208642560 1061158912 x1), (m_spec_l06Number (bitop .and .i64 x0 (m_spec_l06Most x1)) 3208642560 1061158912 x1))) else (if (decide ((Int.fdiv x0 (2 ^ (min ((IntKind.wrap .u64 (IntKind.wrap .i64 (3 * x1))) : Int).toNat 64))) = 1)) = true then (p_spec_l02Mend ((v_spec_l06Unpack_0 x0 x1), (m_spec_l01Sqrt (if (flt .f32 0 (v_spec_l06Unpack_3 x0 x1)) = true then (v_spec_l06Unpack_3 x0 x1) else 0)), (m_spec_l06Number (bitop .and .i64 (Int.fdiv x0 (2 ^ (min ((IntKind.wrap .u64 x1) : Int).toNat 64))) (m_spec_l06Most x1)) 3208642560 1061158912 x1), (m_spec_l06Number (bitop .and .i64 x0 (m_spec_l06Most x1)) 3208642560 1061158912 x1))) else (if (decide ((Int.fdiv x0 (2 ^ (min ((IntKind.wrap .u64 (IntKind.wrap .i64 (3 * x1))) : Int).toNat 64))) = 2)) = true then (p_spec_l02Mend ((v_spec_l06Unpack_0 x0 x1), (m_spec_l06Number (bitop .and .i64 (Int.fdiv x0 (2 ^ (min ((IntKind.wrap .u64 x1) : Int).toNat 64))) (m_spec_l06Most x1)) 3208642560 1061158912 x1), (m_spec_l01Sqrt (if (flt .f32 0 (v_spec_l06Unpack_3 x0 x1)) = true then (v_spec_l06Unpack_3 x0 x1) else 0)), (m_spec_l06Number (bitop .and .i64 x0 (m_spec_l06Most x1)) 3208642560 1061158912 x1))) else (p_spec_l02Mend ((v_spec_l06Unpack_0 x0 x1), (m_spec_l06Number (bitop .and .i64 (Int.fdiv x0 (2 ^ (min ((IntKind.wrap .u64 x1) : Int).toNat 64))) (m_spec_l06Most
      x1)) 3208642560 1061158912 x1), (m_spec_l06Number (bitop .and .i64 x0 (m_spec_l06Most x1)) 3208642560 1061158912 x1), (m_spec_l01Sqrt (if (flt .f32 0 (v_spec_l06Unpack_3 x0 x1)) = true then (v_spec_l06Unpack_3 x0 x1) else 0)))))))))))))))
def g_spec_l06Unpack : List AV → Option AV
  | [.int .i64 y0, .int .i64 y1] => if p_spec_l06Unpack y0 y1 = true then some (AV.agg [(.flt .f32 (m_spec_l06Unpack y0 y1).1), (.flt .f32 (m_spec_l06Unpack y0 y1).2.1), (.flt .f32 (m_spec_l06Unpack y0 y1).2.2.1), (.flt .f32 (m_spec_l06Unpack y0 y1).2.2.2)]) else none
  | _ => none
def ic48 : ICode := (.seq (.reg [⟨(some 4), none, (.alloc (.agg [(.flt .f32 0), (.flt .f32 0), (.flt .f32 0), (.flt .f32 0)]))⟩] [0, 1, 4]) (.seq (.reg [⟨(some 10), none, (.mov (.t 1))⟩, ⟨(some 11), none, (.call (.fn 80) [(.t 10)] [])⟩, ⟨(some 5), none, (.mov (.t 11))⟩] [0, 1, 4, 5]) (.seq (.reg [⟨(some 12), none, (.mov (.t 0))⟩, ⟨(some 13), none, (.mov (.t 1))⟩, ⟨(some 14), none, (.bin .mul false (.c (.int .i64 2)) (.t 13))⟩, ⟨(some 15), none, (.conv (.int .u64) (.t 14))⟩, ⟨(some 16), none, (.bin .shr false (.t 12) (.t 15))⟩, ⟨(some 17), none, (.mov (.t 5))⟩, ⟨(some 18), none, (.bin .and false (.t 16) (.t 17))⟩, ⟨(some 19), none, (.mov (.t 1))⟩, ⟨(some 20), none, (.call (.fn 81) [(.t 18), (.c (.flt .f32 3208642560)), (.c (.flt .f32 1061158912)), (.t 19)] [])⟩, ⟨(some 6), none, (.mov (.t 20))⟩] [0, 1, 4, 5, 6]) (.seq (.reg [⟨(some 21), none, (.mov (.t 0))⟩, ⟨(some 22), none, (.mov (.t 1))⟩, ⟨(some 23), none, (.conv (.int .u64) (.t 22))⟩, ⟨(some 24), none, (.bin .shr false (.t 21) (.t 23))⟩, ⟨(some 25), none, (.mov (.t 5))⟩, ⟨(some 26), none, (.bin .and false (.t 24) (.t 25))⟩, ⟨(some 27), none, (.mov (.t 1))⟩, ⟨(some 28), none, (.call (.fn 81) [(.t 26), (.c (.flt .f32 3208642560)), (.c (.flt .f32 1061158912)), (.t 27)] [])⟩, ⟨(some 7), none, (.mov (.t 28))⟩] [0, 1, 4, 5, 6, 7]) (.seq (.reg [⟨(some 29), none, (.mov (.t 0))⟩, ⟨(some 30), none, (.mov (.t 5))⟩, ⟨(some 31), none, (.bin .and false (.t 29) (.t 30))⟩, ⟨(some 32), none, (.mov (.t 1))⟩, ⟨(some 33), none, (.call (.fn 81) [(.t 31), (.c (.flt .f32 3208642560)), (.c (.flt .f32 1061158912)), (.t 32)] [])⟩, ⟨(some 8), none, (.mov (.t 33))⟩] [0, 1, 4, 6, 7, 8]) (.seq (.reg [⟨(some 34), none, (.mov (.t 6))⟩, ⟨(some 35), none, (.mov (.t 6))⟩, ⟨(some 36), none, (.bin .mul false (.t 34) (.t 35))⟩, ⟨(some 37), none, (.bin .sub false (.c (.flt .f32 1065353216)) (.t 36))⟩, ⟨(some 9), none, (.mov (.t 37))⟩] [0, 1, 4, 6, 7, 8, 9]) (.seq (.reg [⟨(some 38), none, (.mov (.t 9))⟩, ⟨(some 39), none, (.mov (.t 7))⟩, ⟨(some 40), none, (.mov (.t 7))⟩, ⟨(some 41), none, (.bin .mul false (.t 39) (.t 40))⟩, ⟨(some 42), none, (.bin .sub false (.t 38) (.t 41))⟩, ⟨(some 9), none, (.mov (.t 42))⟩] [0, 1, 4, 6, 7, 8, 9]) (.seq (.reg [⟨(some 43), none, (.mov (.t 9))⟩, ⟨(some 44), none, (.mov (.t 8))⟩, ⟨(some 45), none, (.mov (.t 8))⟩, ⟨(some 46), none, (.bin .mul false (.t 44) (.t 45))⟩, ⟨(some 47), none, (.bin .sub false (.t 43) (.t 46))⟩, ⟨(some 9), none, (.mov (.t 47))⟩] [0, 1, 4, 6, 7, 8, 9]) (.seq (.seq (.reg [⟨(some 48), none,
      (.mov (.t 9))⟩, ⟨(some 49), none, (.bin .gtr false (.t 48) (.c (.flt .f32 0)))⟩, ⟨(some 50), none, (.un .not (.t 49))⟩] [0, 1, 4, 6, 7, 8, 9, 50]) (.cond (.t 50) (.reg [⟨(some 9), none, (.mov (.c (.flt .f32 0)))⟩] [0, 1, 4, 6, 7, 8, 9]) .skip)) (.seq (.reg [⟨(some 51), none, (.mov (.t 9))⟩, ⟨(some 52), none, (.call (.fn 82) [(.t 51)] [])⟩, ⟨(some 9), none, (.mov (.t 52))⟩] [0, 1, 4, 6, 7, 8, 9]) (.seq (.seq (.reg [⟨(some 53), none, (.mov (.t 0))⟩, ⟨(some 54), none, (.mov (.t 1))⟩, ⟨(some 55), none, (.bin .mul false (.c (.int .i64 3)) (.t 54))⟩, ⟨(some 56), none, (.conv (.int .u64) (.t 55))⟩, ⟨(some 57), none, (.bin .shr false (.t 53) (.t 56))⟩] [4, 6, 7, 8, 9, 57]) (.block 0 (.seq (.reg [⟨(some 59), none, (.bin .eql false (.t 57) (.c (.int .i64 0)))⟩, ⟨(some 58), none, (.mov (.t 59))⟩] [4, 6, 7, 8, 9, 57, 58]) (.cond (.t 58) (.seq (.reg [⟨(some 60), none, (.mov (.t 9))⟩, ⟨(some 61), none, (.mov (.t 6))⟩, ⟨(some 62), none, (.mov (.t 7))⟩, ⟨(some 63), none, (.mov (.t 8))⟩, ⟨(some 64), none, (.build [(.flt .f32 0), (.flt .f32 0), (.flt .f32 0), (.flt .f32 0)] [(0, 1, (.t 60)), (1, 1, (.t 61)), (2, 1, (.t 62)), (3, 1, (.t 63))])⟩, ⟨(some 65), none, (.call (.fn 83) [(.t 64)] [])⟩, ⟨none, none, (.store 4 (.t 4) (.t 65))⟩] [4]) .ret) (.seq (.reg [⟨(some 67), none, (.bin .eql false (.t 57) (.c (.int .i64 1)))⟩, ⟨(some 66), none, (.mov (.t 67))⟩] [4, 6, 7, 8, 9, 57, 66]) (.cond (.t 66) (.seq (.reg [⟨(some 68), none, (.mov (.t 6))⟩, ⟨(some 69), none, (.mov (.t 9))⟩, ⟨(some 70), none, (.mov (.t 7))⟩, ⟨(some 71), none, (.mov (.t 8))⟩, ⟨(some 72), none, (.build [(.flt .f32 0), (.flt .f32 0), (.flt .f32 0), (.flt .f32 0)] [(0, 1, (.t 68)), (1, 1, (.t 69)), (2, 1, (.t 70)), (3, 1, (.t 71))])⟩, ⟨(some 73), none, (.call (.fn 83) [(.t 72)] [])⟩, ⟨none, none, (.store 4 (.t 4) (.t 73))⟩] [4]) .ret) (.seq (.reg [⟨(some 75), none, (.bin .eql false (.t 57) (.c (.int .i64 2)))⟩, ⟨(some 74), none, (.mov (.t 75))⟩] [4, 6, 7, 8, 9, 74]) (.cond (.t 74) (.seq (.reg [⟨(some 76), none, (.mov (.t 6))⟩, ⟨(some 77), none, (.mov (.t 7))⟩, ⟨(some 78), none, (.mov (.t 9))⟩, ⟨(some 79), none, (.mov (.t 8))⟩, ⟨(some 80), none, (.build [(.flt .f32 0), (.flt .f32 0), (.flt .f32 0), (.flt .f32 0)] [(0, 1, (.t 76)), (1, 1, (.t 77)), (2, 1, (.t 78)), (3, 1, (.t 79))])⟩, ⟨(some 81), none, (.call (.fn 83) [(.t 80)] [])⟩, ⟨none, none, (.store 4 (.t 4) (.t 81))⟩] [4]) .ret) .skip)))))))) (.seq (.reg [⟨(some 82), none, (.mov (.t 6))⟩, ⟨(some 83), none, (.mov (.t 7))⟩, ⟨(some 84), none, (.mov (.t
      8))⟩, ⟨(some 85), none, (.mov (.t 9))⟩, ⟨(some 86), none, (.build [(.flt .f32 0), (.flt .f32 0), (.flt .f32 0), (.flt .f32 0)] [(0, 1, (.t 82)), (1, 1, (.t 83)), (2, 1, (.t 84)), (3, 1, (.t 85))])⟩, ⟨(some 87), none, (.call (.fn 83) [(.t 86)] [])⟩, ⟨none, none, (.store 4 (.t 4) (.t 87))⟩] [4]) .ret))))))))))))
def cp48 : CP := CP.mk [] [] [[0, 1, 4], [0, 1, 4, 5], [0, 1, 4, 5, 6], [0, 1, 4, 5, 6, 7], [0, 1, 4, 6, 7, 8], [0, 1, 4, 6, 7, 8, 9], [0, 1, 4, 6, 7, 8, 9], [0, 1, 4, 6, 7, 8, 9], [0, 1, 4, 6, 7, 8, 9, 50], [0, 1, 4, 6, 7, 8, 9], [0, 1, 4, 6, 7, 8, 9], [4, 6, 7, 8, 9, 57], [4, 6, 7, 8, 9, 57, 58], [4], [4, 6, 7, 8, 9, 57, 66], [4], [4, 6, 7, 8, 9, 74], [4], [4]] 88 [] []
theorem s48 : ∀ vs r, g_spec_l06Unpack vs = some r → SaysM Try.prog .any 48 vs r := by
  intro vs r h
  unfold g_spec_l06Unpack at h
  split at h
  · rename_i y0 y1
    split at h
    · rename_i hp
      cases h
      refine spec_of (m := .any) (tab := tabOf [(80, wM .any g_spec_l06Most), (81, wM .any g_spec_l06Number), (82, wM .any g_spec_l01Sqrt), (83, wM .any g_spec_l02Mend)]) (cp := cp48) (ic := ic48) (rvl := [(.c 4 (some 4))]) hm (tabOk_cons (m := .any) s80 (tabOk_cons (m := .any) s81 (tabOk_cons (m := .any) s82 (tabOk_cons (m := .any) s83 tabOk_nil)))) Try.func48 rfl rfl rfl (by kernel_rfl) rfl (Nat.le_of_ble_eq_true rfl) (Nat.le_of_ble_eq_true rfl) ?_
      show eA _ _ _ _
      unfold ic48
      simp only [p_spec_l06Unpack, v_spec_l06Unpack_0, v_spec_l06Unpack_1, v_spec_l06Unpack_2, v_spec_l06Unpack_3, Bool.and_eq_true, Bool.or_eq_true, decide_eq_true_eq, Bool.not_eq_true', decide_eq_false_iff_not] at hp
      refine eS_to ?_
      repeat' (first
        | ((first | (have h := True.intro; refine eS_of ?_) | (refine eGI_of (fun h => ?_) (fun h => ?_)) | (refine eCc_of (fun h => ?_) (fun h => ?_)) | (have h := True.intro; refine KW_refl ?_)) <;> (try simp only [Bool.not_eq_true', Bool.not_eq_false'] at h) <;> (try first | exact absurd (Eq.trans (Eq.symm h) (by assumption)) Bool.false_ne_true | exact absurd (Eq.trans (Eq.symm h) (by assumption)) (Ne.symm Bool.false_ne_true)) <;> (try simp only [h, reduceCtorEq, grpN, Int.reduceEq, Int.reduceLT, Int.reduceLE, if_true, if_false, reduceIte] at hp) <;> (first | (have h2 := h; simp only [decide_eq_true_eq, decide_eq_false_iff_not] at h2; (first | (replace h2 := eq_false h2) | (replace h2 := eq_true h2)); (try simp only [h2, reduceCtorEq, grpN, Int.reduceEq, Int.reduceLT, Int.reduceLE, if_true, if_false, reduceIte] at hp); replace hp := And.intro h2 hp) | (replace hp := And.intro h hp) | skip) <;> simp only [h,
          hp, grpA, vsliceS, grpS, grpD, grpF, grpL, eop, vop, bop, uop, fltop, convop, endOk, newE, new1, freshL, Md.isNew, outV, pureV, pureX, pure1, AV.cells, AV.one, storable, laid, refless, refless1, vload, loadC, storeC, vnil, vfaddr, vextract, flatT, flatE, flatC, vconv, vmm, vidxA, viaddrA, vfield, vlen, elemsOf, dF32, dF64, dI64, dU8, dBool, dStr, esOk, elemsS, vsliceX, bnd, ownV, ownC, own1, ownT, isSl, nSl, endL, Md.isOwn, purge, purgeH, purgeB, purgeE, hasName, name1, List.any_cons, List.any_nil, Md.isWr, pureV.pureP, Option.map, reduceIte, Nat.reduceEqDiff, Nat.reduceAdd, Nat.reduceMul, Nat.reduceLT, Nat.reduceLeDiff, List.mapM_cons, List.mapM_nil, Option.pure_def, Option.bind_eq_bind, Option.bind_some, implies_true, forall_const, beq_self_eq_true, decide_true, decide_false, eq_self, Int.reduceEq, Int.reduceLE, Int.reduceLT, if_true, if_false, grpK, Int.reduceAdd, Int.reduceSub, Int.reduceMul, Int.reduceNeg, Int.reducePow, Nat.reducePow, Int.reduceToNat, Nat.reduceSub, List.replicate, Nat.reduceBEq, wAs, wA, wC, zipW, noDupN, grpE, beq_true, beq_false, g_spec_l06Most, g_spec_l06Number, g_spec_l01Sqrt, g_spec_l02Mend]))
      all_goals (try simp only [*, m_spec_l06Unpack, v_spec_l06Unpack_0, v_spec_l06Unpack_1, v_spec_l06Unpack_2, v_spec_l06Unpack_3, Bool.and_true, Bool.true_and, Bool.and_false, Bool.false_and, Bool.or_true, Bool.true_or, Bool.or_false, Bool.false_or, Bool.not_true, Bool.not_false, Bool.false_eq_true, if_true, if_false, reduceIte, decide_true, decide_false])
      all_goals (try (simp_all; done))
    · cases h
  · cases h
def v_spec_UnpackTurn_0 (x0 : Int) (x1 : Int) : Bool := (m_spec_l00In x0 0 (IntKind.wrap .i64 ((IntKind.wrap .i64 (1 * 2 ^ (min ((IntKind.wrap .u64 (IntKind.wrap .i64 ((IntKind.wrap .i64 (3 * x1)) + 2))) : Int).toNat 64))) - 1)))
def m_spec_UnpackTurn (x0 : Int) (x1 : Int) : ((Nat × Nat × Nat × Nat) × Bool) := (if (m_spec_l06Bits x1) = true then (if (v_spec_UnpackTurn_0 x0 x1) = true then ((m_spec_l06Unpack x0 x1), true) else ((0, 0, 0, 0), false)) else ((0, 0, 0, 0), false))
def p_spec_UnpackTurn (x0 : Int) (x1 : Int) : Bool := (!(m_spec_l06Bits x1) || ((decide (0 ≤ (IntKind.wrap .u64 (IntKind.wrap .i64 ((IntKind.wrap .i64 (3 * x1)) + 2))))) && (!(v_spec_UnpackTurn_0 x0 x1) || (p_spec_l06Unpack x0 x1))))
def g_spec_UnpackTurn : List AV → Option AV
  | [.int .i64 y0, .int .i64 y1] => if p_spec_UnpackTurn y0 y1 = true then some (AV.tup [(AV.agg [(.flt .f32 (m_spec_UnpackTurn y0 y1).1.1), (.flt .f32 (m_spec_UnpackTurn y0 y1).1.2.1), (.flt .f32 (m_spec_UnpackTurn y0 y1).1.2.2.1), (.flt .f32 (m_spec_UnpackTurn y0 y1).1.2.2.2)]), (.bool (m_spec_UnpackTurn y0 y1).2)]) else none
  | _ => none
def ic21 : ICode := (.seq (.reg [⟨(some 4), none, (.alloc (.agg [(.flt .f32 0), (.flt .f32 0), (.flt .f32 0), (.flt .f32 0)]))⟩, ⟨(some 5), none, (.mov (.c (.bool false)))⟩] [0, 1, 4]) (.seq (.seq (.reg [⟨(some 6), none, (.mov (.t 1))⟩, ⟨(some 7), none, (.call (.fn 47) [(.t 6)] [])⟩, ⟨(some 8), none, (.un .not (.t 7))⟩, ⟨(some 9), none, (.mov (.t 8))⟩, ⟨(some 10), (some (9, false)), (.mov (.t 0))⟩, ⟨(some 11), (some (9, false)), (.mov (.t 1))⟩, ⟨(some 12), (some (9, false)), (.bin .mul false (.c (.int .i64 3)) (.t 11))⟩, ⟨(some 13), (some (9, false)), (.bin .add false (.t 12) (.c (.int .i64 2)))⟩, ⟨(some 14), (some (9, false)), (.conv (.int .u64) (.t 13))⟩, ⟨(some 15), (some (9, false)), (.bin .shl false (.c (.int .i64 1)) (.t 14))⟩, ⟨(some 16), (some (9, false)), (.bin .sub false (.t 15) (.c (.int .i64 1)))⟩, ⟨(some 17), (some (9, false)), (.call (.fn 44) [(.t 10), (.c (.int .i64 0)), (.t 16)] [])⟩, ⟨(some 18), (some (9, false)), (.un .not (.t 17))⟩, ⟨(some 19), none, (.pick (.t 9) (.c (.bool true)) (.t 18))⟩] [0, 1, 4, 19]) (.cond (.t 19) (.seq (.reg [⟨(some 20), none, (.build [(.flt .f32 0), (.flt .f32 0), (.flt .f32 0), (.flt .f32 0)] [])⟩, ⟨none, none, (.store 4 (.t 4) (.t 20))⟩, ⟨(some 5), none, (.mov (.c (.bool false)))⟩] [4, 5]) .ret) .skip)) (.seq (.reg [⟨(some 21), none, (.mov (.t 0))⟩, ⟨(some 22), none, (.mov (.t 1))⟩, ⟨(some 23), none, (.call (.fn 48) [(.t 21), (.t 22)] [])⟩, ⟨none, none, (.store 4 (.t 4) (.t 23))⟩, ⟨(some 5), none, (.mov (.c (.bool true)))⟩] [4, 5]) .ret)))
def cp21 : CP := CP.mk [] [] [[0, 1, 4], [0, 1, 4, 19], [4, 5], [4, 5]] 24 [] []
theorem s21 : ∀ vs r, g_spec_UnpackTurn vs = some r → SaysM Try.prog .any 21 vs r := by
  intro vs r h
  unfold g_spec_UnpackTurn at h
  split at h
  · rename_i y0 y1
    split at h
    · rename_i hp
      cases h
      refine spec_of (m := .any) (tab := tabOf [(44, wM .any g_spec_l00In), (47, wM .any g_spec_l06Bits), (48, wM .any g_spec_l06Unpack)]) (cp := cp21) (ic := ic21) (rvl := [(.c 4 (some 4)), (.t 5)]) hm (tabOk_cons (m := .any) s44 (tabOk_cons (m := .any) s47 (tabOk_cons (m := .any) s48 tabOk_nil))) Try.func21 rfl rfl rfl (by kernel_rfl) rfl (Nat.le_of_ble_eq_true rfl) (Nat.le_of_ble_eq_true rfl) ?_
      show eA _ _ _ _
      unfold ic21
      simp only [p_spec_UnpackTurn, v_spec_UnpackTurn_0, Bool.and_eq_true, Bool.or_eq_true, decide_eq_true_eq, Bool.not_eq_true', decide_eq_false_iff_not] at hp
      refine eS_to ?_
      repeat' (first
        | ((first | (have h := True.intro; refine eS_of ?_) | (refine eGI_of (fun h => ?_) (fun h => ?_)) | (refine eCc_of (fun h => ?_) (fun h => ?_)) | (refine ePk_of (fun h => ?_) (fun h => ?_))) <;> (try simp only [Bool.not_eq_true', Bool.not_eq_false'] at h) <;> (try first | exact absurd (Eq.trans (Eq.symm h) (by assumption)) Bool.false_ne_true | exact absurd (Eq.trans (Eq.symm h) (by assumption)) (Ne.symm Bool.false_ne_true)) <;> (try simp only [h, reduceCtorEq, grpN, Int.reduceEq, Int.reduceLT, Int.reduceLE, if_true, if_false, reduceIte] at hp) <;> (first | (have h2 := h; simp only [decide_eq_true_eq, decide_eq_false_iff_not] at h2; (first | (replace h2 := eq_false h2) | (replace h2 := eq_true h2)); (try simp only [h2, reduceCtorEq, grpN, Int.reduceEq, Int.reduceLT, Int.reduceLE, if_true, if_false, reduceIte] at hp); replace hp := And.intro h2 hp) | (replace hp := And.intro h hp) | skip) <;> simp only [h,
          hp, grpA, vsliceS, grpS, grpD, grpF, grpL, eop, vop, bop, uop, fltop, convop, endOk, newE, new1, freshL, Md.isNew, outV, pureV, pureX, pure1, AV.cells, AV.one, storable, laid, refless, refless1, vload, loadC, storeC, vnil, vfaddr, vextract, flatT, flatE, flatC, vconv, vmm, vidxA, viaddrA, vfield, vlen, elemsOf, dF32, dF64, dI64, dU8, dBool, dStr, esOk, elemsS, vsliceX, bnd, ownV, ownC, own1, ownT, isSl, nSl, endL, Md.isOwn, purge, purgeH, purgeB, purgeE, hasName, name1, List.any_cons, List.any_nil, Md.isWr, pureV.pureP, Option.map, reduceIte, Nat.reduceEqDiff, Nat.reduceAdd, Nat.reduceMul, Nat.reduceLT, Nat.reduceLeDiff, List.mapM_cons, List.mapM_nil, Option.pure_def, Option.bind_eq_bind, Option.bind_some, implies_true, forall_const, beq_self_eq_true, decide_true, decide_false, eq_self, Int.reduceEq, Int.reduceLE, Int.reduceLT, if_true, if_false, grpK, Int.reduceAdd, Int.reduceSub, Int.reduceMul, Int.reduceNeg, Int.reducePow, Nat.reducePow, Int.reduceToNat, Nat.reduceSub, List.replicate, Nat.reduceBEq, wAs, wA, wC, zipW, noDupN, grpE, beq_true, beq_false, g_spec_l00In, g_spec_l06Bits, g_spec_l06Unpack, ↓b_pick, ePk_true, ePk_false]))
      all_goals (try simp only [*, m_spec_UnpackTurn, v_spec_UnpackTurn_0, Bool.and_true, Bool.true_and, Bool.and_false, Bool.false_and, Bool.or_true, Bool.true_or, Bool.or_false, Bool.false_or, Bool.not_true, Bool.not_false, Bool.false_eq_true, if_true, if_false, reduceIte, decide_true, decide_false])
      all_goals (try (simp_all; done))
    · cases h
  · cases h
def m_impl_areBits (x0 : Int) : Bool := (if (decide (2 ≤ x0)) = true then (decide (x0 ≤ 16)) else false)
def g_impl_areBits : List AV → Option AV
  | [.int .i64 y0] => some (.bool (m_impl_areBits y0))
  | _ => none
def ic49 : ICode := (.seq (.reg [⟨(some 2), none, (.mov (.c (.bool false)))⟩] [0]) (.seq (.reg [⟨(some 3), none, (.mov (.t 0))⟩, ⟨(some 4), none, (.bin .geq false (.t 3) (.c (.int .i64 2)))⟩, ⟨(some 5), none, (.mov (.t 4))⟩, ⟨(some 6), (some (5, true)), (.mov (.t 0))⟩, ⟨(some 7), (some (5, true)), (.bin .leq false (.t 6) (.c (.int .i64 16)))⟩, ⟨(some 8), none, (.pick (.t 5) (.t 7) (.c (.bool false)))⟩, ⟨(some 2), none, (.mov (.t 8))⟩] [2]) .ret))
def cp49 : CP := CP.mk [] [] [[0], [2]] 9 [] []
theorem s49 : ∀ vs r, g_impl_areBits vs = some r → SaysM Try.prog .any 49 vs r := by
  intro vs r h
  unfold g_impl_areBits at h
  split at h
  · rename_i y0
    cases h
    refine spec_of (m := .any) (tab := tabOf []) (cp := cp49) (ic := ic49) (rvl := [(.t 2)]) hm tabOk_nil Try.func49 rfl rfl rfl (by kernel_rfl) rfl (Nat.le_of_ble_eq_true rfl) (Nat.le_of_ble_eq_true rfl) ?_
    show eA _ _ _ _
    unfold ic49
    refine eS_to ?_
    repeat' (first
      | ((first | (have h := True.intro; refine eS_of ?_) | (refine eGI_of (fun h => ?_) (fun h => ?_)) | (refine eCc_of (fun h => ?_) (fun h => ?_)) | (refine ePk_of (fun h => ?_) (fun h => ?_))) <;> (try simp only [Bool.not_eq_true', Bool.not_eq_false'] at h) <;> (try first | exact absurd (Eq.trans (Eq.symm h) (by assumption)) Bool.false_ne_true | exact absurd (Eq.trans (Eq.symm h) (by assumption)) (Ne.symm Bool.false_ne_true)) <;> simp only [h,
        grpA, vsliceS, grpS, grpD, grpF, grpL, eop, vop, bop, uop, fltop, convop, endOk, newE, new1, freshL, Md.isNew, outV, pureV, pureX, pure1, AV.cells, AV.one, storable, laid, refless, refless1, vload, loadC, storeC, vnil, vfaddr, vextract, flatT, flatE, flatC, vconv, vmm, vidxA, viaddrA, vfield, vlen, elemsOf, dF32, dF64, dI64, dU8, dBool, dStr, esOk, elemsS, vsliceX, bnd, ownV, ownC, own1, ownT, isSl, nSl, endL, Md.isOwn, purge, purgeH, purgeB, purgeE, hasName, name1, List.any_cons, List.any_nil, Md.isWr, pureV.pureP, Option.map, reduceIte, Nat.reduceEqDiff, Nat.reduceAdd, Nat.reduceMul, Nat.reduceLT, Nat.reduceLeDiff, List.mapM_cons, List.mapM_nil, Option.pure_def, Option.bind_eq_bind, Option.bind_some, implies_true, forall_const, beq_self_eq_true, decide_true, decide_false, eq_self, Int.reduceEq, Int.reduceLE, Int.reduceLT, if_true, if_false, grpK, Int.reduceAdd, Int.reduceSub, Int.reduceMul, Int.reduceNeg, Int.reducePow, Nat.reducePow, Int.reduceToNat, Nat.reduceSub, List.replicate, Nat.reduceBEq, wAs, wA, wC, zipW, noDupN, grpE, beq_true, beq_false, ↓b_pick, ePk_true, ePk_false]))
    all_goals (try simp only [*, m_impl_areBits, Bool.and_true, Bool.true_and, Bool.and_false, Bool.false_and, Bool.or_true, Bool.true_or, Bool.or_false, Bool.false_or, Bool.not_true, Bool.not_false, Bool.false_eq_true, if_true, if_false, reduceIte, decide_true, decide_false])
    all_goals (try (simp_all; done))
  · cases h
def m_impl_codes (x0 : Int) : Int := (IntKind.wrap .i64 (1 * 2 ^ (min (x0 : Int).toNat 64)))
def p_impl_codes (x0 : Int) : Bool := (decide (0 ≤ x0))
def g_impl_codes : List AV → Option AV
  | [.int .i64 y0] => if p_impl_codes y0 = true then some (.int .i64 (m_impl_codes y0)) else none
  | _ => none
def ic50 : ICode := (.seq (.reg [⟨(some 2), none, (.mov (.c (.int .i64 0)))⟩] [0]) (.seq (.reg [⟨(some 3), none, (.mov (.t 0))⟩, ⟨(some 4), none, (.bin .shl false (.c (.int .i64 1)) (.t 3))⟩, ⟨(some 2), none, (.mov (.t 4))⟩] [2]) .ret))
def cp50 : CP := CP.mk [] [] [[0], [2]] 5 [] []
theorem s50 : ∀ vs r, g_impl_codes vs = some r → SaysM Try.prog .any 50 vs r := by
  intro vs r h
  unfold g_impl_codes at h
  split at h
  · rename_i y0
    split at h
    · rename_i hp
      cases h
      refine spec_of (m := .any) (tab := tabOf []) (cp := cp50) (ic := ic50) (rvl := [(.t 2)]) hm tabOk_nil Try.func50 rfl rfl rfl (by kernel_rfl) rfl (Nat.le_of_ble_eq_true rfl) (Nat.le_of_ble_eq_true rfl) ?_
      show eA _ _ _ _
      unfold ic50
      simp only [p_impl_codes, Bool.and_eq_true, Bool.or_eq_true, decide_eq_true_eq, Bool.not_eq_true', decide_eq_false_iff_not] at hp
      simp only [
          hp, grpA, vsliceS, grpS, grpD, grpF, grpL, eop, vop, bop, uop, fltop, convop, endOk, newE, new1, freshL, Md.isNew, outV, pureV, pureX, pure1, AV.cells, AV.one, storable, laid, refless, refless1, vload, loadC, storeC, vnil, vfaddr, vextract, flatT, flatE, flatC, vconv, vmm, vidxA, viaddrA, vfield, vlen, elemsOf, dF32, dF64, dI64, dU8, dBool, dStr, esOk, elemsS, vsliceX, bnd, ownV, ownC, own1, ownT, isSl, nSl, endL, Md.isOwn, purge, purgeH, purgeB, purgeE, hasName, name1, List.any_cons, List.any_nil, Md.isWr, pureV.pureP, Option.map, reduceIte, Nat.reduceEqDiff, Nat.reduceAdd, Nat.reduceMul, Nat.reduceLT, Nat.reduceLeDiff, List.mapM_cons, List.mapM_nil, Option.pure_def, Option.bind_eq_bind, Option.bind_some, implies_true, forall_const, beq_self_eq_true, decide_true, decide_false, eq_self, Int.reduceEq, Int.reduceLE, Int.reduceLT, if_true, if_false, grpK, Int.reduceAdd, Int.reduceSub, Int.reduceMul, Int.reduceNeg, Int.reducePow, Nat.reducePow, Int.reduceToNat, Nat.reduceSub, List.replicate, Nat.reduceBEq, wAs, wA, wC, zipW, noDupN, grpE, beq_true, beq_false]
      all_goals (try simp only [*, m_impl_codes, Bool.and_true, Bool.true_and, Bool.and_false, Bool.false_and, Bool.or_true, Bool.true_or, Bool.or_false, Bool.false_or, Bool.not_true, Bool.not_false, Bool.false_eq_true, if_true, if_false, reduceIte, decide_true, decide_false])
      all_goals (try (simp_all; done))
    · cases h
  · cases h
def m_impl_parts (x0 : Int) (x1 : Int) : (Int × (Int × Int × Int)) := ((IntKind.wrap .i64 (Int.tdiv (IntKind.wrap .i64 (Int.tdiv (IntKind.wrap .i64 (Int.tdiv x0 (m_impl_codes x1))) (m_impl_codes x1))) (m_impl_codes x1))), ((Int.tmod (IntKind.wrap .i64 (Int.tdiv (IntKind.wrap .i64 (Int.tdiv x0 (m_impl_codes x1))) (m_impl_codes x1))) (m_impl_codes x1)), (Int.tmod (IntKind.wrap .i64 (Int.tdiv x0 (m_impl_codes x1))) (m_impl_codes x1)), (Int.tmod x0 (m_impl_codes x1))))
def p_impl_parts (x0 : Int) (x1 : Int) : Bool := ((p_impl_codes x1) && (!(decide ((m_impl_codes x1) = 0))))
def g_impl_parts : List AV → Option AV
  | [.int .i64 y0, .int .i64 y1] => if p_impl_parts y0 y1 = true then some (AV.tup [(.int .i64 (m_impl_parts y0 y1).1), (AV.agg [(.int .i64 (m_impl_parts y0 y1).2.1), (.int .i64 (m_impl_parts y0 y1).2.2.1), (.int .i64 (m_impl_parts y0 y1).2.2.2)])]) else none
  | _ => none
def ic51 : ICode := (.seq (.reg [⟨(some 4), none, (.mov (.c (.int .i64 0)))⟩, ⟨(some 5), none, (.alloc (.agg [(.int .i64 0), (.int .i64 0), (.int .i64 0)]))⟩] [0, 1, 5]) (.seq (.reg [⟨(some 6), none, (.alloc (.agg [(.int .i64 0), (.int .i64 0), (.int .i64 0)]))⟩] [0, 1, 5, 6]) (.seq (.seq (.reg [⟨(some 7), none, (.mov (.c (.int .i64 2)))⟩] [0, 1, 5, 6, 7]) (.block 0 (.loop (.seq (.seq (.reg [⟨(some 8), none, (.mov (.t 7))⟩, ⟨(some 9), none, (.bin .geq false (.t 8) (.c (.int .i64 0)))⟩] [0, 1, 5, 6, 7, 9]) (.cond (.t 9) .skip (.exit 0))) (.seq (.block 1 (.seq (.reg [⟨(some 12), none, (.mov (.t 7))⟩, ⟨(some 13), none, (.mov (.t 0))⟩, ⟨(some 14), none, (.mov (.t 1))⟩, ⟨(some 15), none, (.call (.fn 50) [(.t 14)] [])⟩, ⟨(some 16), none, (.bin .rem false (.t 13) (.t 15))⟩, ⟨(some 17), none, (.iaddrA 3 1 (.t 6) (.t 12))⟩, ⟨none, none, (.store 1 (.t 17) (.t 16))⟩] [0, 1, 5, 6, 7]) (.reg [⟨(some 18), none, (.mov (.t 0))⟩, ⟨(some 19), none, (.mov (.t 1))⟩, ⟨(some 20), none, (.call (.fn 50) [(.t 19)] [])⟩, ⟨(some 21), none, (.bin .quo false (.t 18) (.t 20))⟩, ⟨(some 0), none, (.mov (.t 21))⟩] [0, 1, 5, 6, 7]))) (.reg [⟨(some 10), none, (.mov (.t 7))⟩, ⟨(some 11), none, (.bin .sub false (.t 10) (.c (.int .i64 1)))⟩, ⟨(some 7), none, (.mov (.t 11))⟩] [0, 1, 5, 6, 7])))))) (.seq (.reg [⟨(some 22), none, (.mov (.t 0))⟩, ⟨(some 23), none, (.load (some 3) (.t 6))⟩, ⟨(some 4), none, (.mov (.t 22))⟩, ⟨none, none, (.store 3 (.t 5) (.t 23))⟩] [4, 5]) .ret))))
def cp51 : CP := CP.mk [] [] [[0, 1, 5], [0, 1, 5, 6], [0, 1, 5, 6, 7], [0, 1, 5, 6, 7, 9], [0, 1, 5, 6, 7], [0, 1, 5, 6, 7], [0, 1, 5, 6, 7], [4, 5]] 24 [] []
theorem s51 : ∀ vs r, g_impl_parts vs = some r → SaysM Try.prog .any 51 vs r := by
  intro vs r h
  unfold g_impl_parts at h
  split at h
  · rename_i y0 y1
    split at h
    · rename_i hp
      cases h
      refine spec_of (m := .any) (tab := tabOf [(50, wM .any g_impl_codes)]) (cp := cp51) (ic := ic51) (rvl := [(.t 4), (.c 5 (some 3))]) hm (tabOk_cons (m := .any) s50 tabOk_nil) Try.func51 rfl rfl rfl (by kernel_rfl) rfl (Nat.le_of_ble_eq_true rfl) (Nat.le_of_ble_eq_true rfl) ?_
      show eA _ _ _ _
      unfold ic51
      simp only [p_impl_parts, Bool.and_eq_true, Bool.or_eq_true, decide_eq_true_eq, Bool.not_eq_true', decide_eq_false_iff_not] at hp
      refine eS_to ?_
      repeat' (first
        | ((first | (have h := True.intro; refine eS_of ?_) | (refine eGI_of (fun h => ?_) (fun h => ?_)) | (refine eCc_of (fun h => ?_) (fun h => ?_)) | (have h := True.intro; refine KW_refl ?_) | (have h := True.intro; refine eA_loop ?_)) <;> (try simp only [Bool.not_eq_true', Bool.not_eq_false'] at h) <;> (try first | exact absurd (Eq.trans (Eq.symm h) (by assumption)) Bool.false_ne_true | exact absurd (Eq.trans (Eq.symm h) (by assumption)) (Ne.symm Bool.false_ne_true)) <;> (try simp only [h, reduceCtorEq, grpN, Int.reduceEq, Int.reduceLT, Int.reduceLE, if_true, if_false, reduceIte] at hp) <;> (first | (have h2 := h; simp only [decide_eq_true_eq, decide_eq_false_iff_not] at h2; (first | (replace h2 := eq_false h2) | (replace h2 := eq_true h2)); (try simp only [h2, reduceCtorEq, grpN, Int.reduceEq, Int.reduceLT, Int.reduceLE, if_true, if_false, reduceIte] at hp); replace hp := And.intro h2 hp) | (replace hp := And.intro h hp) | skip) <;> simp only [h,
          hp, grpA, vsliceS, grpS, grpD, grpF, grpL, eop, vop, bop, uop, fltop, convop, endOk, newE, new1, freshL, Md.isNew, outV, pureV, pureX, pure1, AV.cells, AV.one, storable, laid, refless, refless1, vload, loadC, storeC, vnil, vfaddr, vextract, flatT, flatE, flatC, vconv, vmm, vidxA, viaddrA, vfield, vlen, elemsOf, dF32, dF64, dI64, dU8, dBool, dStr, esOk, elemsS, vsliceX, bnd, ownV, ownC, own1, ownT, isSl, nSl, endL, Md.isOwn, purge, purgeH, purgeB, purgeE, hasName, name1, List.any_cons, List.any_nil, Md.isWr, pureV.pureP, Option.map, reduceIte, Nat.reduceEqDiff, Nat.reduceAdd, Nat.reduceMul, Nat.reduceLT, Nat.reduceLeDiff, List.mapM_cons, List.mapM_nil, Option.pure_def, Option.bind_eq_bind, Option.bind_some, implies_true, forall_const, beq_self_eq_true, decide_true, decide_false, eq_self, Int.reduceEq, Int.reduceLE, Int.reduceLT, if_true, if_false, grpK, Int.reduceAdd, Int.reduceSub, Int.reduceMul, Int.reduceNeg, Int.reducePow, Nat.reducePow, Int.reduceToNat, Nat.reduceSub, List.replicate, Nat.reduceBEq, wAs, wA, wC, zipW, noDupN, grpE, beq_true, beq_false, g_impl_codes]))
      all_goals (try simp only [*, m_impl_parts, Bool.and_true, Bool.true_and, Bool.and_false, Bool.false_and, Bool.or_true, Bool.true_or, Bool.or_false, Bool.false_or, Bool.not_true, Bool.not_false, Bool.false_eq_true, if_true, if_false, reduceIte, decide_true, decide_false])
      all_goals (try (simp_all; done))
    · cases h
  · cases h
def v_impl_numberOf_0 (x0 : Int) (x1 : Nat) (x2 : Nat) (x3 : Int) : Nat := (narrow (fadd .f64 (widen x1) (fmul .f64 (fsub .f64 (widen x2) (widen x1)) (fdiv .f64 (ofInt .f64 x0) (ofInt .f64 (IntKind.wrap .i64 ((m_impl_codes x3) - 1)))))))
def m_impl_numberOf (x0 : Int) (x1 : Nat) (x2 : Nat) (x3 : Int) : Nat := (v_impl_numberOf_0 x0 x1 x2 x3)
def p_impl_numberOf (x0 : Int) (x1 : Nat) (x2 : Nat) (x3 : Int) : Bool := ((p_impl_codes x3) && (narrowOk (fadd .f64 (widen x1) (fmul .f64 (fsub .f64 (widen x2) (widen x1)) (fdiv .f64 (ofInt .f64 x0) (ofInt .f64 (IntKind.wrap .i64 ((m_impl_codes x3) - 1))))))))
def g_impl_numberOf : List AV → Option AV
  | [.int .i64 y0, .flt .f32 y1, .flt .f32 y2, .int .i64 y3] => if p_impl_numberOf y0 y1 y2 y3 = true then some (.flt .f32 (m_impl_numberOf y0 y1 y2 y3)) else none
  | _ => none
def ic52 : ICode := (.seq (.reg [⟨(some 8), none, (.mov (.c (.flt .f32 0)))⟩] [0, 1, 2, 3]) (.seq (.reg [⟨(some 10), none, (.mov (.t 0))⟩, ⟨(some 11), none, (.conv (.flt .f64) (.t 10))⟩, ⟨(some 12), none, (.mov (.t 3))⟩, ⟨(some 13), none, (.call (.fn 50) [(.t 12)] [])⟩, ⟨(some 14), none, (.bin .sub false (.t 13) (.c (.int .i64 1)))⟩, ⟨(some 15), none, (.conv (.flt .f64) (.t 14))⟩, ⟨(some 16), none, (.bin .quo false (.t 11) (.t 15))⟩, ⟨(some 9), none, (.mov (.t 16))⟩] [1, 2, 9]) (.seq (.reg [⟨(some 17), none, (.mov (.t 1))⟩, ⟨(some 18), none, (.conv (.flt .f64) (.t 17))⟩, ⟨(some 19), none, (.mov (.t 2))⟩, ⟨(some 20), none, (.conv (.flt .f64) (.t 19))⟩, ⟨(some 21), none, (.mov (.t 1))⟩, ⟨(some 22), none, (.conv (.flt .f64) (.t 21))⟩, ⟨(some 23), none, (.bin .sub false (.t 20) (.t 22))⟩, ⟨(some 24), none, (.mov (.t 9))⟩, ⟨(some 25), none, (.bin .mul false (.t 23) (.t 24))⟩, ⟨(some 26), none, (.bin .add false (.t 18) (.t 25))⟩, ⟨(some 27), none, (.conv (.flt .f32) (.t 26))⟩, ⟨(some 8), none, (.mov (.t 27))⟩] [8]) .ret)))
def cp52 : CP := CP.mk [] [] [[0, 1, 2, 3], [1, 2, 9], [8]] 28 [] []
theorem s52 : ∀ vs r, g_impl_numberOf vs = some r → SaysM Try.prog .any 52 vs r := by
  intro vs r h
  unfold g_impl_numberOf at h
  split at h
  · rename_i y0 y1 y2 y3
    split at h
    · rename_i hp
      cases h
      refine spec_of (m := .any) (tab := tabOf [(50, wM .any g_impl_codes)]) (cp := cp52) (ic := ic52) (rvl := [(.t 8)]) hm (tabOk_cons (m := .any) s50 tabOk_nil) Try.func52 rfl rfl rfl (by kernel_rfl) rfl (Nat.le_of_ble_eq_true rfl) (Nat.le_of_ble_eq_true rfl) ?_
      show eA _ _ _ _
      unfold ic52
      simp only [p_impl_numberOf, v_impl_numberOf_0, Bool.and_eq_true, Bool.or_eq_true, decide_eq_true_eq, Bool.not_eq_true', decide_eq_false_iff_not] at hp
      simp only [
          hp, grpA, vsliceS, grpS, grpD, grpF, grpL, eop, vop, bop, uop, fltop, convop, endOk, newE, new1, freshL, Md.isNew, outV, pureV, pureX, pure1, AV.cells, AV.one, storable, laid, refless, refless1, vload, loadC, storeC, vnil, vfaddr, vextract, flatT, flatE, flatC, vconv, vmm, vidxA, viaddrA, vfield, vlen, elemsOf, dF32, dF64, dI64, dU8, dBool, dStr, esOk, elemsS, vsliceX, bnd, ownV, ownC, own1, ownT, isSl, nSl, endL, Md.isOwn, purge, purgeH, purgeB, purgeE, hasName, name1, List.any_cons, List.any_nil, Md.isWr, pureV.pureP, Option.map, reduceIte, Nat.reduceEqDiff, Nat.reduceAdd, Nat.reduceMul, Nat.reduceLT, Nat.reduceLeDiff, List.mapM_cons, List.mapM_nil, Option.pure_def, Option.bind_eq_bind, Option.bind_some, implies_true, forall_const, beq_self_eq_true, decide_true, decide_false, eq_self, Int.reduceEq, Int.reduceLE, Int.reduceLT, if_true, if_false, grpK, Int.reduceAdd, Int.reduceSub, Int.reduceMul, Int.reduceNeg, Int.reducePow, Nat.reducePow, Int.reduceToNat, Nat.reduceSub, List.replicate, Nat.reduceBEq, wAs, wA, wC, zipW, noDupN, grpE, beq_true, beq_false, g_impl_codes]
      all_goals (try simp only [*, m_impl_numberOf, v_impl_numberOf_0, Bool.and_true, Bool.true_and, Bool.and_false, Bool.false_and, Bool.or_true, Bool.true_or, Bool.or_false, Bool.false_or, Bool.not_true, Bool.not_false, Bool.false_eq_true, if_true, if_false, reduceIte, decide_true, decide_false])
      all_goals (try (simp_all; done))
    · cases h
  · cases h
def m_impl_RootNumber (x0 : Nat) : Nat := (narrow (m_math_Sqrt (widen x0)))
def p_impl_RootNumber (x0 : Nat) : Bool := (narrowOk (m_math_Sqrt (widen x0)))
def g_impl_RootNumber : List AV → Option AV
  | [.flt .f32 y0] => if p_impl_RootNumber y0 = true then some (.flt .f32 (m_impl_RootNumber y0)) else none
  | _ => none
def ic53 : ICode := (.seq (.reg [⟨(some 2), none, (.mov (.c (.flt .f32 0)))⟩] [0]) (.seq (.reg [⟨(some 3), none, (.mov (.t 0))⟩, ⟨(some 4), none, (.conv (.flt .f64) (.t 3))⟩, ⟨(some 5), none, (.call (.fn 84) [(.t 4)] [])⟩, ⟨(some 6), none, (.conv (.flt .f32) (.t 5))⟩, ⟨(some 2), none, (.mov (.t 6))⟩] [2]) .ret))
def cp53 : CP := CP.mk [] [] [[0], [2]] 7 [] []
theorem s53 : ∀ vs r, g_impl_RootNumber vs = some r → SaysM Try.prog .any 53 vs r := by
  intro vs r h
  unfold g_impl_RootNumber at h
  split at h
  · rename_i y0
    split at h
    · rename_i hp
      cases h
      refine spec_of (m := .any) (tab := tabOf [(84, wM .any g_math_Sqrt)]) (cp := cp53) (ic := ic53) (rvl := [(.t 2)]) hm (tabOk_cons (m := .any) s84 tabOk_nil) Try.func53 rfl rfl rfl (by kernel_rfl) rfl (Nat.le_of_ble_eq_true rfl) (Nat.le_of_ble_eq_true rfl) ?_
      show eA _ _ _ _
      unfold ic53
      simp only [p_impl_RootNumber, Bool.and_eq_true, Bool.or_eq_true, decide_eq_true_eq, Bool.not_eq_true', decide_eq_false_iff_not] at hp
      simp only [
          hp, grpA, vsliceS, grpS, grpD, grpF, grpL, eop, vop, bop, uop, fltop, convop, endOk, newE, new1, freshL, Md.isNew, outV, pureV, pureX, pure1, AV.cells, AV.one, storable, laid, refless, refless1, vload, loadC, storeC, vnil, vfaddr, vextract, flatT, flatE, flatC, vconv, vmm, vidxA, viaddrA, vfield, vlen, elemsOf, dF32, dF64, dI64, dU8, dBool, dStr, esOk, elemsS, vsliceX, bnd, ownV, ownC, own1, ownT, isSl, nSl, endL, Md.isOwn, purge, purgeH, purgeB, purgeE, hasName, name1, List.any_cons, List.any_nil, Md.isWr, pureV.pureP, Option.map, reduceIte, Nat.reduceEqDiff, Nat.reduceAdd, Nat.reduceMul, Nat.reduceLT, Nat.reduceLeDiff, List.mapM_cons, List.mapM_nil, Option.pure_def, Option.bind_eq_bind, Option.bind_some, implies_true, forall_const, beq_self_eq_true, decide_true, decide_false, eq_self, Int.reduceEq, Int.reduceLE, Int.reduceLT, if_true, if_false, grpK, Int.reduceAdd, Int.reduceSub, Int.reduceMul, Int.reduceNeg, Int.reducePow, Nat.reducePow, Int.reduceToNat, Nat.reduceSub, List.replicate, Nat.reduceBEq, wAs, wA, wC, zipW, noDupN, grpE, beq_true, beq_false, g_math_Sqrt]
      all_goals (try simp only [*, m_impl_RootNumber, Bool.and_true, Bool.true_and, Bool.and_false, Bool.false_and, Bool.or_true, Bool.true_or, Bool.or_false, Bool.false_or, Bool.not_true, Bool.not_false, Bool.false_eq_true, if_true, if_false, reduceIte, decide_true, decide_false])
      all_goals (try (simp_all; done))
    · cases h
  · cases h
def m_impl_InnerOfTurns (x0 : (Nat × Nat × Nat × Nat)) (x1 : (Nat × Nat × Nat × Nat)) : Nat := (fadd .f32 (fadd .f32 (fadd .f32 (fmul .f32 x0.1 x1.1) (fmul .f32 x0.2.1 x1.2.1)) (fmul .f32 x0.2.2.1 x1.2.2.1)) (fmul .f32 x0.2.2.2 x1.2.2.2))
def g_impl_InnerOfTurns : List AV → Option AV
  | [.agg [.flt .f32 y0, .flt .f32 y1, .flt .f32 y2, .flt .f32 y3], .agg [.flt .f32 y4, .flt .f32 y5, .flt .f32 y6, .flt .f32 y7]] => some (.flt .f32 (m_impl_InnerOfTurns (y0, y1, y2, y3) (y4, y5, y6, y7)))
  | _ => none
def ic105 : ICode := (.seq (.reg [⟨(some 2), none, (.box 4 (.t 0))⟩, ⟨(some 3), none, (.box 4 (.t 1))⟩, ⟨(some 4), none, (.mov (.c (.flt .f32 0)))⟩] [2, 3]) (.seq (.reg [⟨(some 5), none, (.faddr 0 (.t 2))⟩, ⟨(some 6), none, (.load none (.t 5))⟩, ⟨(some 7), none, (.faddr 0 (.t 3))⟩, ⟨(some 8), none, (.load none (.t 7))⟩, ⟨(some 9), none, (.bin .mul false (.t 6) (.t 8))⟩, ⟨(some 10), none, (.faddr 1 (.t 2))⟩, ⟨(some 11), none, (.load none (.t 10))⟩, ⟨(some 12), none, (.faddr 1 (.t 3))⟩, ⟨(some 13), none, (.load none (.t 12))⟩, ⟨(some 14), none, (.bin .mul false (.t 11) (.t 13))⟩, ⟨(some 15), none, (.bin .add false (.t 9) (.t 14))⟩, ⟨(some 16), none, (.faddr 2 (.t 2))⟩, ⟨(some 17), none, (.load none (.t 16))⟩, ⟨(some 18), none, (.faddr 2 (.t 3))⟩, ⟨(some 19), none, (.load none (.t 18))⟩, ⟨(some 20), none, (.bin .mul false (.t 17) (.t 19))⟩, ⟨(some 21), none, (.bin .add false (.t 15) (.t 20))⟩, ⟨(some 22), none, (.faddr 3 (.t 2))⟩, ⟨(some 23), none, (.load none (.t 22))⟩, ⟨(some 24), none, (.faddr 3 (.t 3))⟩, ⟨(some 25), none, (.load none (.t 24))⟩, ⟨(some 26), none, (.bin .mul false (.t 23) (.t 25))⟩, ⟨(some 27), none, (.bin .add false (.t 21) (.t 26))⟩, ⟨(some 4), none, (.mov (.t 27))⟩] [4]) .ret))
def cp105 : CP := CP.mk [] [] [[2, 3], [4]] 28 [] []
theorem s105 : ∀ vs r, g_impl_InnerOfTurns vs = some r → SaysM Try.prog .any 105 vs r := by
  intro vs r h
  unfold g_impl_InnerOfTurns at h
  split at h
  · rename_i y0 y1 y2 y3 y4 y5 y6 y7
    cases h
    refine spec_of (m := .any) (tab := tabOf []) (cp := cp105) (ic := ic105) (rvl := [(.t 4)]) hm tabOk_nil Try.func105 rfl rfl rfl (by kernel_rfl) rfl (Nat.le_of_ble_eq_true rfl) (Nat.le_of_ble_eq_true rfl) ?_
    show eA _ _ _ _
    unfold ic105
    simp only [
        grpA, vsliceS, grpS, grpD, grpF, grpL, eop, vop, bop, uop, fltop, convop, endOk, newE, new1, freshL, Md.isNew, outV, pureV, pureX, pure1, AV.cells, AV.one, storable, laid, refless, refless1, vload, loadC, storeC, vnil, vfaddr, vextract, flatT, flatE, flatC, vconv, vmm, vidxA, viaddrA, vfield, vlen, elemsOf, dF32, dF64, dI64, dU8, dBool, dStr, esOk, elemsS, vsliceX, bnd, ownV, ownC, own1, ownT, isSl, nSl, endL, Md.isOwn, purge, purgeH, purgeB, purgeE, hasName, name1, List.any_cons, List.any_nil, Md.isWr, pureV.pureP, Option.map, reduceIte, Nat.reduceEqDiff, Nat.reduceAdd, Nat.reduceMul, Nat.reduceLT, Nat.reduceLeDiff, List.mapM_cons, List.mapM_nil, Option.pure_def, Option.bind_eq_bind, Option.bind_some, implies_true, forall_const, beq_self_eq_true, decide_true, decide_false, eq_self, Int.reduceEq, Int.reduceLE, Int.reduceLT, if_true, if_false, grpK, Int.reduceAdd, Int.reduceSub, Int.reduceMul, Int.reduceNeg, Int.reducePow, Nat.reducePow, Int.reduceToNat, Nat.reduceSub, List.replicate, Nat.reduceBEq, wAs, wA, wC, zipW, noDupN, grpE, beq_true, beq_false]
    all_goals (try simp only [*, m_impl_InnerOfTurns, Bool.and_true, Bool.true_and, Bool.and_false, Bool.false_and, Bool.or_true, Bool.true_or, Bool.or_false, Bool.false_or, Bool.not_true, Bool.not_false, Bool.false_eq_true, if_true, if_false, reduceIte, decide_true, decide_false])
    all_goals (try (simp_all; done))
  · cases h
def m_impl_LengthOfTurn (x0 : (Nat × Nat × Nat × Nat)) : Nat := (m_impl_RootNumber (m_impl_InnerOfTurns x0 x0))
def p_impl_LengthOfTurn (x0 : (Nat × Nat × Nat × Nat)) : Bool := (p_impl_RootNumber (m_impl_InnerOfTurns x0 x0))
def g_impl_LengthOfTurn : List AV → Option AV
  | [.agg [.flt .f32 y0, .flt .f32 y1, .flt .f32 y2, .flt .f32 y3]] => if p_impl_LengthOfTurn (y0, y1, y2, y3) = true then some (.flt .f32 (m_impl_LengthOfTurn (y0, y1, y2, y3))) else none
  | _ => none
def ic85 : ICode := (.seq (.reg [⟨(some 1), none, (.box 4 (.t 0))⟩, ⟨(some 2), none, (.mov (.c (.flt .f32 0)))⟩] [1]) (.seq (.reg [⟨(some 3), none, (.load (some 4) (.t 1))⟩, ⟨(some 4), none, (.load (some 4) (.t 1))⟩, ⟨(some 5), none, (.call (.fn 105) [(.t 3), (.t 4)] [])⟩, ⟨(some 6), none, (.call (.fn 53) [(.t 5)] [])⟩, ⟨(some 2), none, (.mov (.t 6))⟩] [2]) .ret))
def cp85 : CP := CP.mk [] [] [[1], [2]] 7 [] []
theorem s85 : ∀ vs r, g_impl_LengthOfTurn vs = some r → SaysM Try.prog .any 85 vs r := by
  intro vs r h
  unfold g_impl_LengthOfTurn at h
  split at h
  · rename_i y0 y1 y2 y3
    split at h
    · rename_i hp
      cases h
      refine spec_of (m := .any) (tab := tabOf [(53, wM .any g_impl_RootNumber), (105, wM .any g_impl_InnerOfTurns)]) (cp := cp85) (ic := ic85) (rvl := [(.t 2)]) hm (tabOk_cons (m := .any) s53 (tabOk_cons (m := .any) s105 tabOk_nil)) Try.func85 rfl rfl rfl (by kernel_rfl) rfl (Nat.le_of_ble_eq_true rfl) (Nat.le_of_ble_eq_true rfl) ?_
      show eA _ _ _ _
      unfold ic85
      simp only [p_impl_LengthOfTurn, Bool.and_eq_true, Bool.or_eq_true, decide_eq_true_eq, Bool.not_eq_true', decide_eq_false_iff_not] at hp
      simp only [
          hp, grpA, vsliceS, grpS, grpD, grpF, grpL, eop, vop, bop, uop, fltop, convop, endOk, newE, new1, freshL, Md.isNew, outV, pureV, pureX, pure1, AV.cells, AV.one, storable, laid, refless, refless1, vload, loadC, storeC, vnil, vfaddr, vextract, flatT, flatE, flatC, vconv, vmm, vidxA, viaddrA, vfield, vlen, elemsOf, dF32, dF64, dI64, dU8, dBool, dStr, esOk, elemsS, vsliceX, bnd, ownV, ownC, own1, ownT, isSl, nSl, endL, Md.isOwn, purge, purgeH, purgeB, purgeE, hasName, name1, List.any_cons, List.any_nil, Md.isWr, pureV.pureP, Option.map, reduceIte, Nat.reduceEqDiff, Nat.reduceAdd, Nat.reduceMul, Nat.reduceLT, Nat.reduceLeDiff, List.mapM_cons, List.mapM_nil, Option.pure_def, Option.bind_eq_bind, Option.bind_some, implies_true, forall_const, beq_self_eq_true, decide_true, decide_false, eq_self, Int.reduceEq, Int.reduceLE, Int.reduceLT, if_true, if_false, grpK, Int.reduceAdd, Int.reduceSub, Int.reduceMul, Int.reduceNeg, Int.reducePow, Nat.reducePow, Int.reduceToNat, Nat.reduceSub, List.replicate, Nat.reduceBEq, wAs, wA, wC, zipW, noDupN, grpE, beq_true, beq_false, g_impl_RootNumber, g_impl_InnerOfTurns]
      all_goals (try simp only [*, m_impl_LengthOfTurn, Bool.and_true, Bool.true_and, Bool.and_false, Bool.false_and, Bool.or_true, Bool.true_or, Bool.or_false, Bool.false_or, Bool.not_true, Bool.not_false, Bool.false_eq_true, if_true, if_false, reduceIte, decide_true, decide_false])
      all_goals (try (simp_all; done))
    · cases h
  · cases h
def m_impl_IsFinite (x0 : Nat) : Bool := (feq .f32 (fsub .f32 x0 x0) 0)
def g_impl_IsFinite : List AV → Option AV
  | [.flt .f32 y0] => some (.bool (m_impl_IsFinite y0))
  | _ => none
def ic60 : ICode := (.seq (.reg [⟨(some 2), none, (.mov (.c (.bool false)))⟩] [0]) (.seq (.reg [⟨(some 3), none, (.mov (.t 0))⟩, ⟨(some 4), none, (.mov (.t 0))⟩, ⟨(some 5), none, (.bin .sub false (.t 3) (.t 4))⟩, ⟨(some 6), none, (.bin .eql false (.t 5) (.c (.flt .f32 0)))⟩, ⟨(some 2), none, (.mov (.t 6))⟩] [2]) .ret))
def cp60 : CP := CP.mk [] [] [[0], [2]] 7 [] []
theorem s60 : ∀ vs r, g_impl_IsFinite vs = some r → SaysM Try.prog .any 60 vs r := by
  intro vs r h
  unfold g_impl_IsFinite at h
  split at h
  · rename_i y0
    cases h
    refine spec_of (m := .any) (tab := tabOf []) (cp := cp60) (ic := ic60) (rvl := [(.t 2)]) hm tabOk_nil Try.func60 rfl rfl rfl (by kernel_rfl) rfl (Nat.le_of_ble_eq_true rfl) (Nat.le_of_ble_eq_true rfl) ?_
    show eA _ _ _ _
    unfold ic60
    simp only [
        grpA, vsliceS, grpS, grpD, grpF, grpL, eop, vop, bop, uop, fltop, convop, endOk, newE, new1, freshL, Md.isNew, outV, pureV, pureX, pure1, AV.cells, AV.one, storable, laid, refless, refless1, vload, loadC, storeC, vnil, vfaddr, vextract, flatT, flatE, flatC, vconv, vmm, vidxA, viaddrA, vfield, vlen, elemsOf, dF32, dF64, dI64, dU8, dBool, dStr, esOk, elemsS, vsliceX, bnd, ownV, ownC, own1, ownT, isSl, nSl, endL, Md.isOwn, purge, purgeH, purgeB, purgeE, hasName, name1, List.any_cons, List.any_nil, Md.isWr, pureV.pureP, Option.map, reduceIte, Nat.reduceEqDiff, Nat.reduceAdd, Nat.reduceMul, Nat.reduceLT, Nat.reduceLeDiff, List.mapM_cons, List.mapM_nil, Option.pure_def, Option.bind_eq_bind, Option.bind_some, implies_true, forall_const, beq_self_eq_true, decide_true, decide_false, eq_self, Int.reduceEq, Int.reduceLE, Int.reduceLT, if_true, if_false, grpK, Int.reduceAdd, Int.reduceSub, Int.reduceMul, Int.reduceNeg, Int.reducePow, Nat.reducePow, Int.reduceToNat, Nat.reduceSub, List.replicate, Nat.reduceBEq, wAs, wA, wC, zipW, noDupN, grpE, beq_true, beq_false]
    all_goals (try simp only [*, m_impl_IsFinite, Bool.and_true, Bool.true_and, Bool.and_false, Bool.false_and, Bool.or_true, Bool.true_or, Bool.or_false, Bool.false_or, Bool.not_true, Bool.not_false, Bool.false_eq_true, if_true, if_false, reduceIte, decide_true, decide_false])
    all_goals (try (simp_all; done))
  · cases h
def m_impl_isLength (x0 : Nat) : Bool := (if (m_impl_IsFinite x0) = true then (!(feq .f32 x0 0)) else false)
def g_impl_isLength : List AV → Option AV
  | [.flt .f32 y0] => some (.bool (m_impl_isLength y0))
  | _ => none
def ic86 : ICode := (.seq (.reg [⟨(some 2), none, (.mov (.c (.bool false)))⟩] [0]) (.seq (.reg [⟨(some 3), none, (.mov (.t 0))⟩, ⟨(some 4), none, (.call (.fn 60) [(.t 3)] [])⟩, ⟨(some 5), none, (.mov (.t 4))⟩, ⟨(some 6), (some (5, true)), (.mov (.t 0))⟩, ⟨(some 7), (some (5, true)), (.bin .neq false (.t 6) (.c (.flt .f32 0)))⟩, ⟨(some 8), none, (.pick (.t 5) (.t 7) (.c (.bool false)))⟩, ⟨(some 2), none, (.mov (.t 8))⟩] [2]) .ret))
def cp86 : CP := CP.mk [] [] [[0], [2]] 9 [] []
theorem s86 : ∀ vs r, g_impl_isLength vs = some r → SaysM Try.prog .any 86 vs r := by
  intro vs r h
  unfold g_impl_isLength at h
  split at h
  · rename_i y0
    cases h
    refine spec_of (m := .any) (tab := tabOf [(60, wM .any g_impl_IsFinite)]) (cp := cp86) (ic := ic86) (rvl := [(.t 2)]) hm (tabOk_cons (m := .any) s60 tabOk_nil) Try.func86 rfl rfl rfl (by kernel_rfl) rfl (Nat.le_of_ble_eq_true rfl) (Nat.le_of_ble_eq_true rfl) ?_
    show eA _ _ _ _
    unfold ic86
    refine eS_to ?_
    repeat' (first
      | ((first | (have h := True.intro; refine eS_of ?_) | (refine eGI_of (fun h => ?_) (fun h => ?_)) | (refine eCc_of (fun h => ?_) (fun h => ?_)) | (refine ePk_of (fun h => ?_) (fun h => ?_))) <;> (try simp only [Bool.not_eq_true', Bool.not_eq_false'] at h) <;> (try first | exact absurd (Eq.trans (Eq.symm h) (by assumption)) Bool.false_ne_true | exact absurd (Eq.trans (Eq.symm h) (by assumption)) (Ne.symm Bool.false_ne_true)) <;> simp only [h,
        grpA, vsliceS, grpS, grpD, grpF, grpL, eop, vop, bop, uop, fltop, convop, endOk, newE, new1, freshL, Md.isNew, outV, pureV, pureX, pure1, AV.cells, AV.one, storable, laid, refless, refless1, vload, loadC, storeC, vnil, vfaddr, vextract, flatT, flatE, flatC, vconv, vmm, vidxA, viaddrA, vfield, vlen, elemsOf, dF32, dF64, dI64, dU8, dBool, dStr, esOk, elemsS, vsliceX, bnd, ownV, ownC, own1, ownT, isSl, nSl, endL, Md.isOwn, purge, purgeH, purgeB, purgeE, hasName, name1, List.any_cons, List.any_nil, Md.isWr, pureV.pureP, Option.map, reduceIte, Nat.reduceEqDiff, Nat.reduceAdd, Nat.reduceMul, Nat.reduceLT, Nat.reduceLeDiff, List.mapM_cons, List.mapM_nil, Option.pure_def, Option.bind_eq_bind, Option.bind_some, implies_true, forall_const, beq_self_eq_true, decide_true, decide_false, eq_self, Int.reduceEq, Int.reduceLE, Int.reduceLT, if_true, if_false, grpK, Int.reduceAdd, Int.reduceSub, Int.reduceMul, Int.reduceNeg, Int.reducePow, Nat.reducePow, Int.reduceToNat, Nat.reduceSub, List.replicate, Nat.reduceBEq, wAs, wA, wC, zipW, noDupN, grpE, beq_true, beq_false, g_impl_IsFinite, ↓b_pick, ePk_true, ePk_false]))
    all_goals (try simp only [*, m_impl_isLength, Bool.and_true, Bool.true_and, Bool.and_false, Bool.false_and, Bool.or_true, Bool.true_or, Bool.or_false, Bool.false_or, Bool.not_true, Bool.not_false, Bool.false_eq_true, if_true, if_false, reduceIte, decide_true, decide_false])
    all_goals (try (simp_all; done))
  · cases h
def m_impl_NoTurn  : (Nat × Nat × Nat × Nat) := (1065353216, 0, 0, 0)
def g_impl_NoTurn : List AV → Option AV
  | [] => some (AV.agg [(.flt .f32 (m_impl_NoTurn).1), (.flt .f32 (m_impl_NoTurn).2.1), (.flt .f32 (m_impl_NoTurn).2.2.1), (.flt .f32 (m_impl_NoTurn).2.2.2)])
  | _ => none
def ic87 : ICode := (.seq (.reg [⟨(some 0), none, (.alloc (.agg [(.flt .f32 0), (.flt .f32 0), (.flt .f32 0), (.flt .f32 0)]))⟩] [0]) (.seq (.reg [⟨(some 1), none, (.build [(.flt .f32 0), (.flt .f32 0), (.flt .f32 0), (.flt .f32 0)] [(0, 1, (.c (.flt .f32 1065353216)))])⟩, ⟨none, none, (.store 4 (.t 0) (.t 1))⟩] [0]) .ret))
def cp87 : CP := CP.mk [] [] [[0], [0]] 2 [] []
theorem s87 : ∀ vs r, g_impl_NoTurn vs = some r → SaysM Try.prog .any 87 vs r := by
  intro vs r h
  unfold g_impl_NoTurn at h
  split at h
  · cases h
    refine spec_of (m := .any) (tab := tabOf []) (cp := cp87) (ic := ic87) (rvl := [(.c 0 (some 4))]) hm tabOk_nil Try.func87 rfl rfl rfl (by kernel_rfl) rfl (Nat.le_of_ble_eq_true rfl) (Nat.le_of_ble_eq_true rfl) ?_
    show eA _ _ _ _
    unfold ic87
    simp only [
        grpA, vsliceS, grpS, grpD, grpF, grpL, eop, vop, bop, uop, fltop, convop, endOk, newE, new1, freshL, Md.isNew, outV, pureV, pureX, pure1, AV.cells, AV.one, storable, laid, refless, refless1, vload, loadC, storeC, vnil, vfaddr, vextract, flatT, flatE, flatC, vconv, vmm, vidxA, viaddrA, vfield, vlen, elemsOf, dF32, dF64, dI64, dU8, dBool, dStr, esOk, elemsS, vsliceX, bnd, ownV, ownC, own1, ownT, isSl, nSl, endL, Md.isOwn, purge, purgeH, purgeB, purgeE, hasName, name1, List.any_cons, List.any_nil, Md.isWr, pureV.pureP, Option.map, reduceIte, Nat.reduceEqDiff, Nat.reduceAdd, Nat.reduceMul, Nat.reduceLT, Nat.reduceLeDiff, List.mapM_cons, List.mapM_nil, Option.pure_def, Option.bind_eq_bind, Option.bind_some, implies_true, forall_const, beq_self_eq_true, decide_true, decide_false, eq_self, Int.reduceEq, Int.reduceLE, Int.reduceLT, if_true, if_false, grpK, Int.reduceAdd, Int.reduceSub, Int.reduceMul, Int.reduceNeg, Int.reducePow, Nat.reducePow, Int.reduceToNat, Nat.reduceSub, List.replicate, Nat.reduceBEq, wAs, wA, wC, zipW, noDupN, grpE, beq_true, beq_false]
    all_goals (try simp only [*, m_impl_NoTurn, Bool.and_true, Bool.true_and, Bool.and_false, Bool.false_and, Bool.or_true, Bool.true_or, Bool.or_false, Bool.false_or, Bool.not_true, Bool.not_false, Bool.false_eq_true, if_true, if_false, reduceIte, decide_true, decide_false])
    all_goals (try (simp_all; done))
  · cases h
def m_impl_MendTurn (x0 : (Nat × Nat × Nat × Nat)) : (Nat × Nat × Nat × Nat) := (if (m_impl_isLength (m_impl_LengthOfTurn x0)) = true then ((fdiv .f32 x0.1 (m_impl_LengthOfTurn x0)), (fdiv .f32 x0.2.1 (m_impl_LengthOfTurn x0)), (fdiv .f32 x0.2.2.1 (m_impl_LengthOfTurn x0)), (fdiv .f32 x0.2.2.2 (m_impl_LengthOfTurn x0))) else (m_impl_NoTurn))
def p_impl_MendTurn (x0 : (Nat × Nat × Nat × Nat)) : Bool := (p_impl_LengthOfTurn x0)
def g_impl_MendTurn : List AV → Option AV
  | [.agg [.flt .f32 y0, .flt .f32 y1, .flt .f32 y2, .flt .f32 y3]] => if p_impl_MendTurn (y0, y1, y2, y3) = true then some (AV.agg [(.flt .f32 (m_impl_MendTurn (y0, y1, y2, y3)).1), (.flt .f32 (m_impl_MendTurn (y0, y1, y2, y3)).2.1), (.flt .f32 (m_impl_MendTurn (y0, y1, y2, y3)).2.2.1), (.flt .f32 (m_impl_MendTurn (y0, y1, y2, y3)).2.2.2)]) else none
  | _ => none
def ic54 : ICode := (.seq (.reg [⟨(some 1), none, (.box 4 (.t 0))⟩, ⟨(some 2), none, (.alloc (.agg [(.flt .f32 0), (.flt .f32 0), (.flt .f32 0), (.flt .f32 0)]))⟩] [1, 2]) (.seq (.reg [⟨(some 4), none, (.load (some 4) (.t 1))⟩, ⟨(some 5), none, (.call (.fn 85) [(.t 4)] [])⟩, ⟨(some 3), none, (.mov (.t 5))⟩] [1, 2, 3]) (.seq (.seq (.reg [⟨(some 6), none, (.mov (.t 3))⟩, ⟨(some 7), none, (.call (.fn 86) [(.t 6)] [])⟩, ⟨(some 8), none, (.un .not (.t 7))⟩] [1, 2, 3, 8]) (.cond (.t 8) (.seq (.reg [⟨(some 9), none, (.call (.fn 87) [] [])⟩, ⟨none, none, (.store 4 (.t 2) (.t 9))⟩] [2]) .ret) .skip)) (.seq (.reg [⟨(some 10), none, (.faddr 0 (.t 1))⟩, ⟨(some 11), none, (.load none (.t 10))⟩, ⟨(some 12), none, (.mov (.t 3))⟩, ⟨(some 13), none, (.bin .quo false (.t 11) (.t 12))⟩, ⟨(some 14), none, (.faddr 1 (.t 1))⟩, ⟨(some 15), none, (.load none (.t 14))⟩, ⟨(some 16), none, (.mov (.t 3))⟩, ⟨(some 17), none, (.bin .quo false (.t 15) (.t 16))⟩, ⟨(some 18), none, (.faddr 2 (.t 1))⟩, ⟨(some 19), none, (.load none (.t 18))⟩, ⟨(some 20), none, (.mov (.t 3))⟩, ⟨(some 21), none, (.bin .quo false (.t 19) (.t 20))⟩, ⟨(some 22), none, (.faddr 3 (.t 1))⟩, ⟨(some 23), none, (.load none (.t 22))⟩, ⟨(some 24), none, (.mov (.t 3))⟩, ⟨(some 25), none, (.bin .quo false (.t 23) (.t 24))⟩, ⟨(some 26), none, (.build [(.flt .f32 0), (.flt .f32 0), (.flt .f32 0), (.flt .f32 0)] [(0, 1, (.t 13)), (1, 1, (.t 17)), (2, 1, (.t 21)), (3, 1, (.t 25))])⟩, ⟨none, none, (.store 4 (.t 2) (.t 26))⟩] [2]) .ret))))
def cp54 : CP := CP.mk [] [] [[1, 2], [1, 2, 3], [1, 2, 3, 8], [2], [2]] 27 [] []
theorem s54 : ∀ vs r, g_impl_MendTurn vs = some r → SaysM Try.prog .any 54 vs r := by
  intro vs r h
  unfold g_impl_MendTurn at h
  split at h
  · rename_i y0 y1 y2 y3
    split at h
    · rename_i hp
      cases h
      refine spec_of (m := .any) (tab := tabOf [(85, wM .any g_impl_LengthOfTurn), (86, wM .any g_impl_isLength), (87, wM .any g_impl_NoTurn)]) (cp := cp54) (ic := ic54) (rvl := [(.c 2 (some 4))]) hm (tabOk_cons (m := .any) s85 (tabOk_cons (m := .any) s86 (tabOk_cons (m := .any) s87 tabOk_nil))) Try.func54 rfl rfl rfl (by kernel_rfl) rfl (Nat.le_of_ble_eq_true rfl) (Nat.le_of_ble_eq_true rfl) ?_
      show eA _ _ _ _
      unfold ic54
      simp only [p_impl_MendTurn, Bool.and_eq_true, Bool.or_eq_true, decide_eq_true_eq, Bool.not_eq_true', decide_eq_false_iff_not] at hp
      refine eS_to ?_
      repeat' (first
        | ((first | (have h := True.intro; refine eS_of ?_) | (refine eGI_of (fun h => ?_) (fun h => ?_)) | (refine eCc_of (fun h => ?_) (fun h => ?_))) <;> (try simp only [Bool.not_eq_true', Bool.not_eq_false'] at h) <;> (try first | exact absurd (Eq.trans (Eq.symm h) (by assumption)) Bool.false_ne_true | exact absurd (Eq.trans (Eq.symm h) (by assumption)) (Ne.symm Bool.false_ne_true)) <;> (try simp only [h, reduceCtorEq, grpN, Int.reduceEq, Int.reduceLT, Int.reduceLE, if_true, if_false, reduceIte] at hp) <;> (first | (have h2 := h; simp only [decide_eq_true_eq, decide_eq_false_iff_not] at h2; (first | (replace h2 := eq_false h2) | (replace h2 := eq_true h2)); (try simp only [h2, reduceCtorEq, grpN, Int.reduceEq, Int.reduceLT, Int.reduceLE, if_true, if_false, reduceIte] at hp); replace hp := And.intro h2 hp) | (replace hp := And.intro h hp) | skip) <;> simp only [h,
          hp, grpA, vsliceS, grpS, grpD, grpF, grpL, eop, vop, bop, uop, fltop, convop, endOk, newE, new1, freshL, Md.isNew, outV, pureV, pureX, pure1, AV.cells, AV.one, storable, laid, refless, refless1, vload, loadC, storeC, vnil, vfaddr, vextract, flatT, flatE, flatC, vconv, vmm, vidxA, viaddrA, vfield, vlen, elemsOf, dF32, dF64, dI64, dU8, dBool, dStr, esOk, elemsS, vsliceX, bnd, ownV, ownC, own1, ownT, isSl, nSl, endL, Md.isOwn, purge, purgeH, purgeB, purgeE, hasName, name1, List.any_cons, List.any_nil, Md.isWr, pureV.pureP, Option.map, reduceIte, Nat.reduceEqDiff, Nat.reduceAdd, Nat.reduceMul, Nat.reduceLT, Nat.reduceLeDiff, List.mapM_cons, List.mapM_nil, Option.pure_def, Option.bind_eq_bind, Option.bind_some, implies_true, forall_const, beq_self_eq_true, decide_true, decide_false, eq_self, Int.reduceEq, Int.reduceLE, Int.reduceLT, if_true, if_false, grpK, Int.reduceAdd, Int.reduceSub, Int.reduceMul, Int.reduceNeg, Int.reducePow, Nat.reducePow, Int.reduceToNat, Nat.reduceSub, List.replicate, Nat.reduceBEq, wAs, wA, wC, zipW, noDupN, grpE, beq_true, beq_false, g_impl_LengthOfTurn, g_impl_isLength, g_impl_NoTurn]))
      all_goals (try simp only [*, m_impl_MendTurn, Bool.and_true, Bool.true_and, Bool.and_false, Bool.false_and, Bool.or_true, Bool.true_or, Bool.or_false, Bool.false_or, Bool.not_true, Bool.not_false, Bool.false_eq_true, if_true, if_false, reduceIte, decide_true, decide_false])
      all_goals (try (simp_all; done))
    · cases h
  · cases h
def v_impl_UnpackTurn_3 (x0 : Int) (x1 : Int) (z0_0 : (Nat × Nat × Nat × Nat)) (z0_2 : Int) (z0_3 : Int) : Nat := (atI [(atI (List.set [z0_0.1, z0_0.2.1, z0_0.2.2.1, z0_0.2.2.2] (Int.toNat z0_3) (m_impl_numberOf (atI [(m_impl_parts x0 x1).2.1, (m_impl_parts x0 x1).2.2.1, (m_impl_parts x0 x1).2.2.2] z0_2) 3208642560 1061158912 x1)) 0), (atI (List.set [z0_0.1, z0_0.2.1, z0_0.2.2.1, z0_0.2.2.2] (Int.toNat z0_3) (m_impl_numberOf (atI [(m_impl_parts x0 x1).2.1, (m_impl_parts x0 x1).2.2.1, (m_impl_parts x0 x1).2.2.2] z0_2) 3208642560 1061158912 x1)) 1), (atI (List.set [z0_0.1, z0_0.2.1, z0_0.2.2.1, z0_0.2.2.2] (Int.toNat z0_3) (m_impl_numberOf (atI [(m_impl_parts x0 x1).2.1, (m_impl_parts x0 x1).2.2.1, (m_impl_parts x0 x1).2.2.2] z0_2) 3208642560 1061158912 x1)) 2), (atI (List.set [z0_0.1, z0_0.2.1, z0_0.2.2.1, z0_0.2.2.2] (Int.toNat z0_3) (m_impl_numberOf (atI [(m_impl_parts x0 x1).2.1, (m_impl_parts x0 x1).2.2.1, (m_impl_parts x0 x1).2.2.2] z0_2) 3208642560 1061158912 x1)) 3)] z0_3)
def l_impl_UnpackTurn_0 (x0 : Int) (x1 : Int) : Nat → (Nat × Nat × Nat × Nat) → Nat → Int → Int → Option (Nat × (Nat × Nat × Nat × Nat))
  | 0, _, _, _, _ => none
  | n + 1, z0_0, z0_1, z0_2, z0_3 => (if (decide (z0_3 < 4)) = true then (if (decide (z0_3 = (m_impl_parts x0 x1).1)) = true then (l_impl_UnpackTurn_0 x0 x1 n z0_0 z0_1 z0_2 (IntKind.wrap .i64 (z0_3 + 1))) else (need (inB z0_2 3) (need (p_impl_numberOf (atI [(m_impl_parts x0 x1).2.1, (m_impl_parts x0 x1).2.2.1, (m_impl_parts x0 x1).2.2.2] z0_2) 3208642560 1061158912 x1) (need (inB z0_3 4) (l_impl_UnpackTurn_0 x0 x1 n ((atI (List.set [z0_0.1, z0_0.2.1, z0_0.2.2.1, z0_0.2.2.2] (Int.toNat z0_3) (m_impl_numberOf (atI [(m_impl_parts x0 x1).2.1, (m_impl_parts x0 x1).2.2.1, (m_impl_parts x0 x1).2.2.2] z0_2) 3208642560 1061158912 x1)) 0), (atI (List.set [z0_0.1, z0_0.2.1, z0_0.2.2.1, z0_0.2.2.2] (Int.toNat z0_3) (m_impl_numberOf (atI [(m_impl_parts x0 x1).2.1, (m_impl_parts x0 x1).2.2.1, (m_impl_parts x0 x1).2.2.2] z0_2) 3208642560 1061158912 x1)) 1), (atI (List.set [z0_0.1, z0_0.2.1, z0_0.2.2.1, z0_0.2.2.2] (Int.toNat z0_3) (m_impl_numberOf (atI [(m_impl_parts x0 x1).2.1, (m_impl_parts x0 x1).2.2.1, (m_impl_parts x0 x1).2.2.2] z0_2) 3208642560 1061158912 x1)) 2), (atI (List.set [z0_0.1, z0_0.2.1, z0_0.2.2.1, z0_0.2.2.2] (Int.toNat z0_3) (m_impl_numberOf (atI [(m_impl_parts x0 x1).2.1, (m_impl_parts x0 x1).2.2.1, (m_impl_parts x0 x1).2.2.2] z0_2) 3208642560 1061158912 x1)) 3)) (fsub .f32 z0_1 (fmul .f32 (v_impl_UnpackTurn_3 x0 x1 z0_0 z0_2 z0_3) (v_impl_UnpackTurn_3 x0 x1 z0_0 z0_2 z0_3))) (IntKind.wrap .i64 (z0_2 + 1)) (IntKind.wrap .i64 (z0_3 + 1))))))) else (some (z0_1, z0_0)))
def v_impl_UnpackTurn_4 (x0 : Int) (x1 : Int) : Nat := (if (flt .f32 0 (Option.getD (l_impl_UnpackTurn_0 x0 x1 6 (0, 0, 0, 0) 1065353216 0 0) default).1) = true then ((atI (List.set [(Option.getD (l_impl_UnpackTurn_0 x0 x1 6 (0, 0, 0, 0) 1065353216 0 0) default).2.1, (Option.getD (l_impl_UnpackTurn_0 x0 x1 6 (0, 0, 0, 0) 1065353216 0 0) default).2.2.1, (Option.getD (l_impl_UnpackTurn_0 x0 x1 6 (0, 0, 0, 0) 1065353216 0 0) default).2.2.2.1, (Option.getD (l_impl_UnpackTurn_0 x0 x1 6 (0, 0, 0, 0) 1065353216 0 0) default).2.2.2.2] (Int.toNat (m_impl_parts x0 x1).1) (m_impl_RootNumber (Option.getD (l_impl_UnpackTurn_0 x0 x1 6 (0, 0, 0, 0) 1065353216 0 0) default).1)) 0), (atI (List.set [(Option.getD (l_impl_UnpackTurn_0 x0 x1 6 (0, 0, 0, 0) 1065353216 0 0) default).2.1, (Option.getD (l_impl_UnpackTurn_0 x0 x1 6 (0, 0, 0, 0) 1065353216 0 0) default).2.2.1, (Option.getD (l_impl_UnpackTurn_0 x0 x1 6 (0, 0, 0, 0) 1065353216 0 0) default).2.2.2.1, (Option.getD (l_impl_UnpackTurn_0 x0 x1 6 (0, 0, 0, 0) 1065353216 0 0) default).2.2.2.2] (Int.toNat (m_impl_parts x0 x1).1) (m_impl_RootNumber (Option.getD (l_impl_UnpackTurn_0 x0 x1 6 (0, 0, 0, 0) 1065353216 0 0) default).1)) 1), (atI (List.set [(Option.getD (l_impl_UnpackTurn_0 x0 x1 6 (0, 0, 0, 0) 1065353216 0 0) default).2.1, (Option.getD (l_impl_UnpackTurn_0 x0 x1 6 (0, 0, 0, 0) 1065353216 0 0) default).2.2.1, (Option.getD (l_impl_UnpackTurn_0 x0 x1 6 (0, 0, 0, 0) 1065353216 0 0) default).2.2.2.1, (Option.getD (l_impl_UnpackTurn_0 x0 x1 6 (0, 0, 0, 0) 1065353216 0 0) default).2.2.2.2] (Int.toNat (m_impl_parts x0 x1).1) (m_impl_RootNumber (Option.getD (l_impl_UnpackTurn_0 x0 x1 6 (0, 0, 0, 0) 1065353216 0 0) default).1)) 2), (atI (List.set [(Option.getD (l_impl_UnpackTurn_0 x0 x1 6 (0, 0, 0, 0) 1065353216 0 0) default).2.1, (Option.getD (l_impl_UnpackTurn_0 x0 x1 6 (0, 0, 0, 0) 1065353216 0 0) default).2.2.1, (Option.getD (l_impl_UnpackTurn_0 x0 x1 6 (0, 0, 0, 0) 1065353216 0 0) default).2.2.2.1, (Option.getD (l_impl_UnpackTurn_0 x0 x1 6 (0, 0, 0, 0) 1065353216 0 0) default).2.2.2.2] (Int.toNat (m_impl_parts x0 x1).1) (m_impl_RootNumber (Option.getD (l_impl_UnpackTurn_0 x0 x1 6 (0, 0, 0, 0) 1065353216 0 0) default).1)) 3)) else (Option.getD (l_impl_UnpackTurn_0 x0 x1 6 (0, 0, 0, 0) 1065353216 0 0) default).2).1
def v_impl_UnpackTurn_5 (x0 : Int) (x1 : Int) : Nat := (if (flt .f32 0 (Option.getD (l_impl_UnpackTurn_0 x0 x1 6 (0, 0, 0, 0) 1065353216 0 0) default).1) = true then ((atI (List.set [(Option.getD (l_impl_UnpackTurn_0 x0 x1 6 (0, 0, 0, 0) 1065353216 0 0) default).2.1, (Option.getD (l_impl_UnpackTurn_0 x0 x1 6 (0, 0, 0, 0) 1065353216 0 0) default).2.2.1, (Option.getD (l_impl_UnpackTurn_0 x0 x1 6 (0, 0, 0, 0) 1065353216 0 0) default).2.2.2.1, (Option.getD (l_impl_UnpackTurn_0 x0 x1 6 (0, 0, 0, 0) 1065353216 0 0) default).2.2.2.2] (Int.toNat (m_impl_parts x0 x1).1) (m_impl_RootNumber (Option.getD (l_impl_UnpackTurn_0 x0 x1 6 (0, 0, 0, 0) 1065353216 0 0) default).1)) 0), (atI (List.set [(Option.getD (l_impl_UnpackTurn_0 x0 x1 6 (0, 0, 0, 0) 1065353216 0 0) default).2.1, (Option.getD (l_impl_UnpackTurn_0 x0 x1 6 (0, 0, 0, 0) 1065353216 0 0) default).2.2.1, (Option.getD (l_impl_UnpackTurn_0 x0 x1 6 (0, 0, 0, 0) 1065353216 0 0) default).2.2.2.1, (Option.getD (l_impl_UnpackTurn_0 x0 x1 6 (0, 0, 0, 0) 1065353216 0 0) default).2.2.2.2] (Int.toNat (m_impl_parts x0 x1).1) (m_impl_RootNumber (Option.getD (l_impl_UnpackTurn_0 x0 x1 6 (0, 0, 0, 0) 1065353216 0 0) default).1)) 1), (atI (List.set [(Option.getD (l_impl_UnpackTurn_0 x0 x1 6 (0, 0, 0, 0) 1065353216 0 0) default).2.1, (Option.getD (l_impl_UnpackTurn_0 x0 x1 6 (0, 0, 0, 0) 1065353216 0 0) default).2.2.1, (Option.getD (l_impl_UnpackTurn_0 x0 x1 6 (0, 0, 0, 0) 1065353216 0 0) default).2.2.2.1, (Option.getD (l_impl_UnpackTurn_0 x0 x1 6 (0, 0, 0, 0) 1065353216 0 0) default).2.2.2.2] (Int.toNat (m_impl_parts x0 x1).1) (m_impl_RootNumber (Option.getD (l_impl_UnpackTurn_0 x0 x1 6 (0, 0, 0, 0) 1065353216 0 0) default).1)) 2), (atI (List.set [(Option.getD (l_impl_UnpackTurn_0 x0 x1 6 (0, 0, 0, 0) 1065353216 0 0) default).2.1, (Option.getD (l_impl_UnpackTurn_0 x0 x1 6 (0, 0, 0, 0) 1065353216 0 0) default).2.2.1, (Option.getD (l_impl_UnpackTurn_0 x0 x1 6 (0, 0, 0, 0) 1065353216 0 0) default).2.2.2.1, (Option.getD (l_impl_UnpackTurn_0 x0 x1 6 (0, 0, 0, 0) 1065353216 0 0) default).2.2.2.2] (Int.toNat (m_impl_parts x0 x1).1) (m_impl_RootNumber (Option.getD (l_impl_UnpackTurn_0 x0 x1 6 (0, 0, 0, 0) 1065353216 0 0) default).1)) 3)) else (Option.getD (l_impl_UnpackTurn_0 x0 x1 6 (0, 0, 0, 0) 1065353216 0 0) default).2).2.1
def v_impl_UnpackTurn_6 (x0 : Int) (x1 : Int) : Nat := (if (flt .f32 0 (Option.getD (l_impl_UnpackTurn_0 x0 x1 6 (0, 0, 0, 0) 1065353216 0 0) default).1) = true then ((atI (List.set [(Option.getD (l_impl_UnpackTurn_0 x0 x1 6 (0, 0, 0, 0) 1065353216 0 0) default).2.1, (Option.getD (l_impl_UnpackTurn_0 x0 x1 6 (0, 0, 0, 0) 1065353216 0 0) default).2.2.1, (Option.getD (l_impl_UnpackTurn_0 x0 x1 6 (0, 0, 0, 0) 1065353216 0 0) default).2.2.2.1, (Option.getD (l_impl_UnpackTurn_0 x0 x1 6 (0, 0, 0, 0) 1065353216 0 0) default).2.2.2.2] (Int.toNat (m_impl_parts x0 x1).1) (m_impl_RootNumber (Option.getD (l_impl_UnpackTurn_0 x0 x1 6 (0, 0, 0, 0) 1065353216 0 0) default).1)) 0), (atI (List.set [(Option.getD (l_impl_UnpackTurn_0 x0 x1 6 (0, 0, 0, 0) 1065353216 0 0) default).2.1, (Option.getD (l_impl_UnpackTurn_0 x0 x1 6 (0, 0, 0, 0) 1065353216 0 0) default).2.2.1, (Option.getD (l_impl_UnpackTurn_0 x0 x1 6 (0, 0, 0, 0) 1065353216 0 0) default).2.2.2.1, (Option.getD (l_impl_UnpackTurn_0 x0 x1 6 (0, 0, 0, 0) 1065353216 0 0) default).2.2.2.2] (Int.toNat (m_impl_parts x0 x1).1) (m_impl_RootNumber (Option.getD (l_impl_UnpackTurn_0 x0 x1 6 (0, 0, 0, 0) 1065353216 0 0) default).1)) 1), (atI (List.set [(Option.getD (l_impl_UnpackTurn_0 x0 x1 6 (0, 0, 0, 0) 1065353216 0 0) default).2.1, (Option.getD (l_impl_UnpackTurn_0 x0 x1 6 (0, 0, 0, 0) 1065353216 0 0) default).2.2.1, (Option.getD (l_impl_UnpackTurn_0 x0 x1 6 (0, 0, 0, 0) 1065353216 0 0) default).2.2.2.1, (Option.getD (l_impl_UnpackTurn_0 x0 x1 6 (0, 0, 0, 0) 1065353216 0 0) default).2.2.2.2] (Int.toNat (m_impl_parts x0 x1).1) (m_impl_RootNumber (Option.getD (l_impl_UnpackTurn_0 x0 x1 6 (0, 0, 0, 0) 1065353216 0 0) default).1)) 2), (atI (List.set [(Option.getD (l_impl_UnpackTurn_0 x0 x1 6 (0, 0, 0, 0) 1065353216 0 0) default).2.1, (Option.getD (l_impl_UnpackTurn_0 x0 x1 6 (0, 0, 0, 0) 1065353216 0 0) default).2.2.1, (Option.getD (l_impl_UnpackTurn_0 x0 x1 6 (0, 0, 0, 0) 1065353216 0 0) default).2.2.2.1, (Option.getD (l_impl_UnpackTurn_0 x0 x1 6 (0, 0, 0, 0) 1065353216 0 0) default).2.2.2.2] (Int.toNat (m_impl_parts x0 x1).1) (m_impl_RootNumber (Option.getD (l_impl_UnpackTurn_0 x0 x1 6 (0, 0, 0, 0) 1065353216 0 0) default).1)) 3)) else (Option.getD (l_impl_UnpackTurn_0 x0 x1 6 (0, 0, 0, 0) 1065353216 0 0) default).2).2.2.1
def v_impl_UnpackTurn_7 (x0 : Int) (x1 : Int) : Nat := (if (flt .f32 0 (Option.getD (l_impl_UnpackTurn_0 x0 x1 6 (0, 0, 0, 0) 1065353216 0 0) default).1) = true then ((atI (List.set [(Option.getD (l_impl_UnpackTurn_0 x0 x1 6 (0, 0, 0, 0) 1065353216 0 0) default).2.1, (Option.getD (l_impl_UnpackTurn_0 x0 x1 6 (0, 0, 0, 0) 1065353216 0 0) default).2.2.1, (Option.getD (l_impl_UnpackTurn_0 x0 x1 6 (0, 0, 0, 0) 1065353216 0 0) default).2.2.2.1, (Option.getD (l_impl_UnpackTurn_0 x0 x1 6 (0, 0, 0, 0) 1065353216 0 0) default).2.2.2.2] (Int.toNat (m_impl_parts x0 x1).1) (m_impl_RootNumber (Option.getD (l_impl_UnpackTurn_0 x0 x1 6 (0, 0, 0, 0) 1065353216 0 0) default).1)) 0), (atI (List.set [(Option.getD (l_impl_UnpackTurn_0 x0 x1 6 (0, 0, 0, 0) 1065353216 0 0) default).2.1, (Option.getD (l_impl_UnpackTurn_0 x0 x1 6 (0, 0, 0, 0) 1065353216 0 0) default).2.2.1, (Option.getD (l_impl_UnpackTurn_0 x0 x1 6 (0, 0, 0, 0) 1065353216 0 0) default).2.2.2.1, (Option.getD (l_impl_UnpackTurn_0 x0 x1 6 (0, 0, 0, 0) 1065353216 0 0) default).2.2.2.2] (Int.toNat (m_impl_parts x0 x1).1) (m_impl_RootNumber (Option.getD (l_impl_UnpackTurn_0 x0 x1 6 (0, 0, 0, 0) 1065353216 0 0) default).1)) 1), (atI (List.set [(Option.getD (l_impl_UnpackTurn_0 x0 x1 6 (0, 0, 0, 0) 1065353216 0 0) default).2.1, (Option.getD (l_impl_UnpackTurn_0 x0 x1 6 (0, 0, 0, 0) 1065353216 0 0) default).2.2.1, (Option.getD (l_impl_UnpackTurn_0 x0 x1 6 (0, 0, 0, 0) 1065353216 0 0) default).2.2.2.1, (Option.getD (l_impl_UnpackTurn_0 x0 x1 6 (0, 0, 0, 0) 1065353216 0 0) default).2.2.2.2] (Int.toNat (m_impl_parts x0 x1).1) (m_impl_RootNumber (Option.getD (l_impl_UnpackTurn_0 x0 x1 6 (0, 0, 0, 0) 1065353216 0 0) default).1)) 2), (atI (List.set [(Option.getD (l_impl_UnpackTurn_0 x0 x1 6 (0, 0, 0, 0) 1065353216 0 0) default).2.1, (Option.getD (l_impl_UnpackTurn_0 x0 x1 6 (0, 0, 0, 0) 1065353216 0 0) default).2.2.1, (Option.getD (l_impl_UnpackTurn_0 x0 x1 6 (0, 0, 0, 0) 1065353216 0 0) default).2.2.2.1, (Option.getD (l_impl_UnpackTurn_0 x0 x1 6 (0, 0, 0, 0) 1065353216 0 0) default).2.2.2.2] (Int.toNat (m_impl_parts x0 x1).1) (m_impl_RootNumber (Option.getD (l_impl_UnpackTurn_0 x0 x1 6 (0, 0, 0, 0) 1065353216 0 0) default).1)) 3)) else (Option.getD (l_impl_UnpackTurn_0 x0 x1 6 (0, 0, 0, 0) 1065353216 0 0) default).2).2.2.2
def m_impl_UnpackTurn (x0 : Int) (x1 : Int) : ((Nat × Nat × Nat × Nat) × Bool) := (if (m_impl_areBits x1) = true then (if (decide (x0 < 0)) = true then ((0, 0, 0, 0), false) else (if (decide ((IntKind.wrap .i64 (4 * (m_impl_codes (IntKind.wrap .i64 (3 * x1))))) ≤ x0)) = true then ((0, 0, 0, 0), false) else ((m_impl_MendTurn ((v_impl_UnpackTurn_4 x0 x1), (v_impl_UnpackTurn_5 x0 x1), (v_impl_UnpackTurn_6 x0 x1), (v_impl_UnpackTurn_7 x0 x1))), true))) else ((0, 0, 0, 0), false))
def p_impl_UnpackTurn (x0 : Int) (x1 : Int) : Bool := (!(m_impl_areBits x1) || ((decide (x0 < 0)) || ((p_impl_codes (IntKind.wrap .i64 (3 * x1))) && ((decide ((IntKind.wrap .i64 (4 * (m_impl_codes (IntKind.wrap .i64 (3 * x1))))) ≤ x0)) || ((p_impl_parts x0 x1) && ((Option.isSome (l_impl_UnpackTurn_0 x0 x1 6 (0, 0, 0, 0) 1065353216 0 0)) && ((!(flt .f32 0 (Option.getD (l_impl_UnpackTurn_0 x0 x1 6 (0, 0, 0, 0) 1065353216 0 0) default).1) || ((p_impl_RootNumber (Option.getD (l_impl_UnpackTurn_0 x0 x1 6 (0, 0, 0, 0) 1065353216 0 0) default).1) && (inB (m_impl_parts x0 x1).1 4))) && (p_impl_MendTurn ((v_impl_UnpackTurn_4 x0 x1), (v_impl_UnpackTurn_5 x0 x1), (v_impl_UnpackTurn_6 x0 x1), (v_impl_UnpackTurn_7 x0 x1))))))))))
def g_impl_UnpackTurn : List AV → Option AV
  | [.int .i64 y0, .int .i64 y1] => if p_impl_UnpackTurn y0 y1 = true then some (AV.tup [(AV.agg [(.flt .f32 (m_impl_UnpackTurn y0 y1).1.1), (.flt .f32 (m_impl_UnpackTurn y0 y1).1.2.1), (.flt .f32 (m_impl_UnpackTurn y0 y1).1.2.2.1), (.flt .f32 (m_impl_UnpackTurn y0 y1).1.2.2.2)]), (.bool (m_impl_UnpackTurn y0 y1).2)]) else none
  | _ => none
def lb22_0 : ICode := (.seq (.reg [⟨(some 35), none, (.bin .lss false (.t 34) (.c (.int .i64 4)))⟩] [1, 4, 6, 7, 8, 9, 10, 34, 35]) (.seq (.cond (.t 35) .skip (.exit 0)) (.seq (.block 1 (.seq (.reg [⟨(some 36), none, (.mov (.t 34))⟩, ⟨(some 11), none, (.mov (.t 36))⟩] [1, 4, 6, 7, 8, 9, 10, 11, 34]) (.seq (.seq (.reg [⟨(some 37), none, (.mov (.t 11))⟩, ⟨(some 38), none, (.mov (.t 6))⟩, ⟨(some 39), none, (.bin .eql false (.t 37) (.t 38))⟩] [1, 4, 6, 7, 8, 9, 10, 11, 34, 39]) (.cond (.t 39) (.exit 1) .skip)) (.seq (.reg [⟨(some 40), none, (.mov (.t 11))⟩, ⟨(some 41), none, (.mov (.t 10))⟩, ⟨(some 42), none, (.iaddrA 3 1 (.t 7) (.t 41))⟩, ⟨(some 43), none, (.load none (.t 42))⟩, ⟨(some 44), none, (.mov (.t 1))⟩, ⟨(some 45), none, (.call (.fn 52) [(.t 43), (.c (.flt .f32 3208642560)), (.c (.flt .f32 1061158912)), (.t 44)] [])⟩, ⟨(some 46), none, (.iaddrA 4 1 (.t 8) (.t 40))⟩, ⟨none, none, (.store 1 (.t 46) (.t 45))⟩] [1, 4, 6, 7, 8, 9, 10, 11, 34]) (.seq (.reg [⟨(some 47), none, (.mov (.t 9))⟩, ⟨(some 48), none, (.mov (.t 11))⟩, ⟨(some 49), none, (.iaddrA 4 1 (.t 8) (.t 48))⟩, ⟨(some 50), none, (.load none (.t 49))⟩, ⟨(some 51), none, (.mov (.t 11))⟩, ⟨(some 52), none, (.iaddrA 4 1 (.t 8) (.t 51))⟩, ⟨(some 53), none, (.load none (.t 52))⟩, ⟨(some 54), none, (.bin .mul false (.t 50) (.t 53))⟩, ⟨(some 55), none, (.bin .sub false (.t 47) (.t 54))⟩, ⟨(some 9), none, (.mov (.t 55))⟩] [1, 4, 6, 7, 8, 9, 10, 34]) (.reg [⟨(some 56), none, (.mov (.t 10))⟩, ⟨(some 57), none, (.bin .add false (.t 56) (.c (.int .i64 1)))⟩, ⟨(some 10), none, (.mov (.t 57))⟩] [1, 4, 6, 7, 8, 9, 10, 34])))))) (.reg [⟨(some 58), none, (.bin .add false (.t 34) (.c (.int .i64 1)))⟩, ⟨(some 34), none, (.mov (.t 58))⟩] [1, 4, 6, 7, 8, 9, 10, 34]))))
def ic22 : ICode := (.seq (.reg [⟨(some 4), none, (.alloc (.agg [(.flt .f32 0), (.flt .f32 0), (.flt .f32 0), (.flt .f32 0)]))⟩, ⟨(some 5), none, (.mov (.c (.bool false)))⟩] [0, 1, 4]) (.seq (.seq (.reg [⟨(some 12), none, (.mov (.t 1))⟩, ⟨(some 13), none, (.call (.fn 49) [(.t 12)] [])⟩, ⟨(some 14), none, (.un .not (.t 13))⟩, ⟨(some 15), none, (.mov (.t 14))⟩, ⟨(some 16), (some (15, false)), (.mov (.t 0))⟩, ⟨(some 17), (some (15, false)), (.bin .lss false (.t 16) (.c (.int .i64 0)))⟩, ⟨(some 18), none, (.pick (.t 15) (.c (.bool true)) (.t 17))⟩, ⟨(some 19), none, (.mov (.t 18))⟩, ⟨(some 20), (some (19, false)), (.mov (.t 0))⟩, ⟨(some 21), (some (19, false)), (.mov (.t 1))⟩, ⟨(some 22), (some (19, false)), (.bin .mul false (.c (.int .i64 3)) (.t 21))⟩, ⟨(some 23), (some (19, false)), (.call (.fn 50) [(.t 22)] [])⟩, ⟨(some 24), (some (19, false)), (.bin .mul false (.c (.int .i64 4)) (.t 23))⟩, ⟨(some 25), (some (19, false)), (.bin .geq false (.t 20) (.t 24))⟩, ⟨(some 26), none, (.pick (.t 19) (.c (.bool true)) (.t 25))⟩] [0, 1, 4, 26]) (.cond (.t 26) (.seq (.reg [⟨(some 27), none, (.build [(.flt .f32 0), (.flt .f32 0), (.flt .f32 0), (.flt .f32 0)] [])⟩, ⟨none, none, (.store 4 (.t 4) (.t 27))⟩, ⟨(some 5), none, (.mov (.c (.bool false)))⟩] [4, 5]) .ret) .skip)) (.seq (.reg [⟨(some 29), none, (.mov (.t 0))⟩, ⟨(some 30), none, (.mov (.t 1))⟩, ⟨(some 31), none, (.call (.fn 51) [(.t 29), (.t 30)] [])⟩, ⟨(some 28), none, (.mov (.t 31))⟩, ⟨(some 32), none, (.extract (.t 28) 0)⟩, ⟨(some 33), none, (.extract (.t 28) 1)⟩, ⟨(some 7), none, (.alloc (.agg [(.int .i64 0), (.int .i64 0), (.int .i64 0)]))⟩, ⟨(some 6), none, (.mov (.t 32))⟩, ⟨none, none, (.store 3 (.t 7) (.t 33))⟩] [1, 4, 6, 7]) (.seq (.reg [⟨(some 8), none, (.alloc (.agg [(.flt .f32 0), (.flt .f32 0), (.flt .f32 0), (.flt .f32 0)]))⟩] [1, 4, 6, 7, 8]) (.seq (.reg [⟨(some 9), none, (.mov (.c (.flt .f32 1065353216)))⟩] [1, 4, 6, 7, 8, 9]) (.seq (.reg [⟨(some 10), none, (.mov (.c (.int .i64 0)))⟩] [1, 4, 6, 7, 8, 9, 10]) (.seq (.seq (.reg [⟨(some 34), none, (.mov (.c (.int .i64 0)))⟩] [1, 4, 6, 7, 8, 9, 10, 34]) (.block 0 (.loop lb22_0))) (.seq (.seq (.reg [⟨(some 59), none, (.mov (.t 9))⟩, ⟨(some 60), none, (.bin .gtr false (.t 59) (.c (.flt .f32 0)))⟩] [4, 6, 8, 9, 60]) (.cond (.t 60) (.reg [⟨(some 61), none, (.mov (.t 6))⟩, ⟨(some 62), none, (.mov (.t 9))⟩, ⟨(some 63), none, (.call (.fn 53) [(.t 62)] [])⟩, ⟨(some 64), none, (.iaddrA 4 1 (.t 8) (.t 61))⟩, ⟨none, none, (.store 1 (.t 64) (.t 63))⟩] [4, 8])
      .skip)) (.seq (.reg [⟨(some 65), none, (.iaddrA 4 1 (.t 8) (.c (.int .i64 0)))⟩, ⟨(some 66), none, (.load none (.t 65))⟩, ⟨(some 67), none, (.iaddrA 4 1 (.t 8) (.c (.int .i64 1)))⟩, ⟨(some 68), none, (.load none (.t 67))⟩, ⟨(some 69), none, (.iaddrA 4 1 (.t 8) (.c (.int .i64 2)))⟩, ⟨(some 70), none, (.load none (.t 69))⟩, ⟨(some 71), none, (.iaddrA 4 1 (.t 8) (.c (.int .i64 3)))⟩, ⟨(some 72), none, (.load none (.t 71))⟩, ⟨(some 73), none, (.build [(.flt .f32 0), (.flt .f32 0), (.flt .f32 0), (.flt .f32 0)] [(0, 1, (.t 66)), (1, 1, (.t 68)), (2, 1, (.t 70)), (3, 1, (.t 72))])⟩, ⟨(some 74), none, (.call (.fn 54) [(.t 73)] [])⟩, ⟨none, none, (.store 4 (.t 4) (.t 74))⟩, ⟨(some 5), none, (.mov (.c (.bool true)))⟩] [4, 5]) .ret)))))))))
def cp22 : CP := CP.mk [] [] [[0, 1, 4], [0, 1, 4, 26], [4, 5], [1, 4, 6, 7], [1, 4, 6, 7, 8], [1, 4, 6, 7, 8, 9], [1, 4, 6, 7, 8, 9, 10], [1, 4, 6, 7, 8, 9, 10, 34], [1, 4, 6, 7, 8, 9, 10, 34, 35], [1, 4, 6, 7, 8, 9, 10, 11, 34], [1, 4, 6, 7, 8, 9, 10, 11, 34, 39], [1, 4, 6, 7, 8, 9, 10, 11, 34], [1, 4, 6, 7, 8, 9, 10, 34], [1, 4, 6, 7, 8, 9, 10, 34], [1, 4, 6, 7, 8, 9, 10, 34], [4, 6, 8, 9, 60], [4, 8], [4, 5]] 75 [] []
theorem sl22_0 (x0 : Int) (x1 : Int) : ∀ (n : Nat) (z0_0 : (Nat × Nat × Nat × Nat)) (z0_1 : Nat) (z0_2 : Int) (z0_3 : Int) (o : (Nat × (Nat × Nat × Nat × Nat))) (K : IExit → St → Prop), l_impl_UnpackTurn_0 x0 x1 n z0_0 z0_1 z0_2 z0_3 = some o → (∀ st, Wk st (⟨[(4, (.lptr 4 0 0)), (6, (.int .i64 (m_impl_parts x0 x1).1)), (8, (.lptr 8 0 0)), (9, (.flt .f32 o.1))], [(4, (some ⟨4, false, [(AV.agg [(.flt .f32 0), (.flt .f32 0), (.flt .f32 0), (.flt .f32 0)])]⟩)), (8, (some ⟨4, false, [(AV.agg [(.flt .f32 o.2.1), (.flt .f32 o.2.2.1), (.flt .f32 o.2.2.2.1), (.flt .f32 o.2.2.2.2)])]⟩))]⟩ : St) → K (.exit 0) st) → eA (tabOf [(49, wM .any g_impl_areBits), (50, wM .any g_impl_codes), (51, wM .any g_impl_parts), (52, wM .any g_impl_numberOf), (53, wM .any g_impl_RootNumber), (54, wM .any g_impl_MendTurn)]) (.loop lb22_0) (⟨[(1, (.int .i64 x1)), (4, (.lptr 4 0 0)), (6, (.int .i64 (m_impl_parts x0 x1).1)), (7, (.lptr 7 0 0)), (8, (.lptr 8 0 0)), (9, (.flt .f32 z0_1)), (10, (.int .i64 z0_2)), (34, (.int .i64 z0_3))], [(4, (some ⟨4, false, [(AV.agg [(.flt .f32 0), (.flt .f32 0), (.flt .f32 0), (.flt .f32 0)])]⟩)), (7, (some ⟨3, false, [(AV.agg [(.int .i64 (m_impl_parts x0 x1).2.1), (.int .i64 (m_impl_parts x0 x1).2.2.1), (.int .i64 (m_impl_parts x0 x1).2.2.2)])]⟩)), (8, (some ⟨4, false, [(AV.agg [(.flt .f32 z0_0.1), (.flt .f32 z0_0.2.1), (.flt .f32 z0_0.2.2.1), (.flt .f32 z0_0.2.2.2)])]⟩))]⟩ : St) K := by
  intro n
  induction n with
  | zero =>
    intro z0_0 z0_1 z0_2 z0_3 o K h h0
    simp only [l_impl_UnpackTurn_0, reduceCtorEq] at h
  | succ n ih =>
    intro z0_0 z0_1 z0_2 z0_3 o K h h0
    refine eA_loop ?_
    unfold lb22_0
    unfold l_impl_UnpackTurn_0 at h
    (try simp only [need_iff, v_impl_UnpackTurn_3, v_impl_UnpackTurn_4, v_impl_UnpackTurn_5, v_impl_UnpackTurn_6, v_impl_UnpackTurn_7] at h)
    simp only [
      need_iff, h, grpA, vsliceS, grpS, grpD, grpF, grpL, eop, vop, bop, uop, fltop, convop, endOk, newE, new1, freshL, Md.isNew, outV, pureV, pureX, pure1, AV.cells, AV.one, storable, laid, refless, refless1, vload, loadC, storeC, vnil, vfaddr, vextract, flatT, flatE, flatC, vconv, vmm, vidxA, viaddrA, vfield, vlen, elemsOf, dF32, dF64, dI64, dU8, dBool, dStr, esOk, elemsS, vsliceX, bnd, ownV, ownC, own1, ownT, isSl, nSl, endL, Md.isOwn, purge, purgeH, purgeB, purgeE, hasName, name1, List.any_cons, List.any_nil, Md.isWr, pureV.pureP, Option.map, reduceIte, Nat.reduceEqDiff, Nat.reduceAdd, Nat.reduceMul, Nat.reduceLT, Nat.reduceLeDiff, List.mapM_cons, List.mapM_nil, Option.pure_def, Option.bind_eq_bind, Option.bind_some, implies_true, forall_const, beq_self_eq_true, decide_true, decide_false, eq_self, Int.reduceEq, Int.reduceLE, Int.reduceLT, if_true, if_false, grpK, Int.reduceAdd, Int.reduceSub, Int.reduceMul, Int.reduceNeg, Int.reducePow, Nat.reducePow, Int.reduceToNat, Nat.reduceSub, List.replicate, Nat.reduceBEq, wAs, wA, wC, zipW, noDupN, grpE, beq_true, beq_false, g_impl_areBits, g_impl_codes, g_impl_parts, g_impl_numberOf, g_impl_RootNumber, g_impl_MendTurn, ↓b_pick, ePk_true, ePk_false]
    repeat' (first
      | ((first | (refine eGI_of (fun hc => ?_) (fun hc => ?_)) | (refine eCc_of (fun hc => ?_) (fun hc => ?_)) | (refine ePk_of (fun hc => ?_) (fun hc => ?_)) | (have hc := True.intro; refine KW_refl ?_)) <;> (try simp only [Bool.not_eq_true', Bool.not_eq_false'] at hc) <;> (try simp only [hc, need_iff, reduceCtorEq, grpN, Int.reduceEq, Int.reduceLT, Int.reduceLE, if_true, if_false, reduceIte] at h) <;> (first | (have hc2 := hc; simp only [decide_eq_true_eq, decide_eq_false_iff_not] at hc2; (first | (replace hc2 := eq_false hc2) | (replace hc2 := eq_true hc2)); (try simp only [hc2, need_iff, reduceCtorEq, grpN, Int.reduceEq, Int.reduceLT, Int.reduceLE, if_true, if_false, reduceIte] at h); replace h := And.intro hc2 h) | (replace h := And.intro hc h) | skip) <;> simp only [hc,
      need_iff, h, grpA, vsliceS, grpS, grpD, grpF, grpL, eop, vop, bop, uop, fltop, convop, endOk, newE, new1, freshL, Md.isNew, outV, pureV, pureX, pure1, AV.cells, AV.one, storable, laid, refless, refless1, vload, loadC, storeC, vnil, vfaddr, vextract, flatT, flatE, flatC, vconv, vmm, vidxA, viaddrA, vfield, vlen, elemsOf, dF32, dF64, dI64, dU8, dBool, dStr, esOk, elemsS, vsliceX, bnd, ownV, ownC, own1, ownT, isSl, nSl, endL, Md.isOwn, purge, purgeH, purgeB, purgeE, hasName, name1, List.any_cons, List.any_nil, Md.isWr, pureV.pureP, Option.map, reduceIte, Nat.reduceEqDiff, Nat.reduceAdd, Nat.reduceMul, Nat.reduceLT, Nat.reduceLeDiff, List.mapM_cons, List.mapM_nil, Option.pure_def, Option.bind_eq_bind, Option.bind_some, implies_true, forall_const, beq_self_eq_true, decide_true, decide_false, eq_self, Int.reduceEq, Int.reduceLE, Int.reduceLT, if_true, if_false, grpK, Int.reduceAdd, Int.reduceSub, Int.reduceMul, Int.reduceNeg, Int.reducePow, Nat.reducePow, Int.reduceToNat, Nat.reduceSub, List.replicate, Nat.reduceBEq, wAs, wA, wC, zipW, noDupN, grpE, beq_true, beq_false, g_impl_areBits, g_impl_codes, g_impl_parts, g_impl_numberOf, g_impl_RootNumber, g_impl_MendTurn, ↓b_pick, ePk_true, ePk_false]))
    all_goals (have hf := h)
    all_goals (repeat (replace h := And.right h))
    all_goals ((first | (refine eA_wk (wk_norm (ks := [1, 4, 6, 7, 8, 9, 10, 34]) (ls := [4, 7, 8]) ?_) (eA_cast ?_ (ih _ _ _ _ _ _ h h0))) | (cases h; have h := True.intro; refine h0 _ (Wk.cast (wk_norm (ks := [4, 6, 8, 9]) (ls := [4, 8]) ?_) ?_))) <;> simp only [normOk, optIn, blkIn, nameIn, normS, List.map_append, List.length_append, List.map_set, List.length_set, List.map_replicate, List.length_replicate, List.map_nil, List.map_cons,
      need_iff, h, hf, grpA, vsliceS, grpS, grpD, grpF, grpL, eop, vop, bop, uop, fltop, convop, endOk, newE, new1, freshL, Md.isNew, outV, pureV, pureX, pure1, AV.cells, AV.one, storable, laid, refless, refless1, vload, loadC, storeC, vnil, vfaddr, vextract, flatT, flatE, flatC, vconv, vmm, vidxA, viaddrA, vfield, vlen, elemsOf, dF32, dF64, dI64, dU8, dBool, dStr, esOk, elemsS, vsliceX, bnd, ownV, ownC, own1, ownT, isSl, nSl, endL, Md.isOwn, purge, purgeH, purgeB, purgeE, hasName, name1, List.any_cons, List.any_nil, Md.isWr, pureV.pureP, Option.map, reduceIte, Nat.reduceEqDiff, Nat.reduceAdd, Nat.reduceMul, Nat.reduceLT, Nat.reduceLeDiff, List.mapM_cons, List.mapM_nil, Option.pure_def, Option.bind_eq_bind, Option.bind_some, implies_true, forall_const, beq_self_eq_true, decide_true, decide_false, eq_self, Int.reduceEq, Int.reduceLE, Int.reduceLT, if_true, if_false, grpK, Int.reduceAdd, Int.reduceSub, Int.reduceMul, Int.reduceNeg, Int.reducePow, Nat.reducePow, Int.reduceToNat, Nat.reduceSub, List.replicate, Nat.reduceBEq, wAs, wA, wC, zipW, noDupN, grpE, beq_true, beq_false, g_impl_areBits, g_impl_codes, g_impl_parts, g_impl_numberOf, g_impl_RootNumber, g_impl_MendTurn, ↓b_pick, ePk_true, ePk_false] <;> first | rfl | (simp only [Nat.add_comm]; done))
theorem s22 : ∀ vs r, g_impl_UnpackTurn vs = some r → SaysM Try.prog .any 22 vs r := by
  intro vs r h
  unfold g_impl_UnpackTurn at h
  split at h
  · rename_i y0 y1
    split at h
    · rename_i hp
      cases h
      refine spec_of (m := .any) (tab := tabOf [(49, wM .any g_impl_areBits), (50, wM .any g_impl_codes), (51, wM .any g_impl_parts), (52, wM .any g_impl_numberOf), (53, wM .any g_impl_RootNumber), (54, wM .any g_impl_MendTurn)]) (cp := cp22) (ic := ic22) (rvl := [(.c 4 (some 4)), (.t 5)]) hm (tabOk_cons (m := .any) s49 (tabOk_cons (m := .any) s50 (tabOk_cons (m := .any) s51 (tabOk_cons (m := .any) s52 (tabOk_cons (m := .any) s53 (tabOk_cons (m := .any) s54 tabOk_nil)))))) Try.func22 rfl rfl rfl (by kernel_rfl) rfl (Nat.le_of_ble_eq_true rfl) (Nat.le_of_ble_eq_true rfl) ?_
      show eA _ _ _ _
      unfold ic22
      simp only [p_impl_UnpackTurn, v_impl_UnpackTurn_3, v_impl_UnpackTurn_4, v_impl_UnpackTurn_5, v_impl_UnpackTurn_6, v_impl_UnpackTurn_7, Bool.and_eq_true, Bool.or_eq_true, decide_eq_true_eq, Bool.not_eq_true', decide_eq_false_iff_not] at hp
      refine eS_to ?_
      repeat' (first
        | ((first | (have h := True.intro; refine eS_of ?_) | (refine eGI_of (fun h => ?_) (fun h => ?_)) | (refine eCc_of (fun h => ?_) (fun h => ?_)) | (refine ePk_of (fun h => ?_) (fun h => ?_)) | (have h := True.intro; refine KW_refl ?_)) <;> (try simp only [Bool.not_eq_true', Bool.not_eq_false'] at h) <;> (try first | exact absurd (Eq.trans (Eq.symm h) (by assumption)) Bool.false_ne_true | exact absurd (Eq.trans (Eq.symm h) (by assumption)) (Ne.symm Bool.false_ne_true)) <;> (try simp only [h, reduceCtorEq, grpN, Int.reduceEq, Int.reduceLT, Int.reduceLE, if_true, if_false, reduceIte] at hp) <;> (first | (have h2 := h; simp only [decide_eq_true_eq, decide_eq_false_iff_not] at h2; (first | (replace h2 := eq_false h2) | (replace h2 := eq_true h2)); (try simp only [h2, reduceCtorEq, grpN, Int.reduceEq, Int.reduceLT, Int.reduceLE, if_true, if_false, reduceIte] at hp); replace hp := And.intro h2 hp) | (replace hp := And.intro h hp) | skip) <;> simp only [h,
          hp, grpA, vsliceS, grpS, grpD, grpF, grpL, eop, vop, bop, uop, fltop, convop, endOk, newE, new1, freshL, Md.isNew, outV, pureV, pureX, pure1, AV.cells, AV.one, storable, laid, refless, refless1, vload, loadC, storeC, vnil, vfaddr, vextract, flatT, flatE, flatC, vconv, vmm, vidxA, viaddrA, vfield, vlen, elemsOf, dF32, dF64, dI64, dU8, dBool, dStr, esOk, elemsS, vsliceX, bnd, ownV, ownC, own1, ownT, isSl, nSl, endL, Md.isOwn, purge, purgeH, purgeB, purgeE, hasName, name1, List.any_cons, List.any_nil, Md.isWr, pureV.pureP, Option.map, reduceIte, Nat.reduceEqDiff, Nat.reduceAdd, Nat.reduceMul, Nat.reduceLT, Nat.reduceLeDiff, List.mapM_cons, List.mapM_nil, Option.pure_def, Option.bind_eq_bind, Option.bind_some, implies_true, forall_const, beq_self_eq_true, decide_true, decide_false, eq_self, Int.reduceEq, Int.reduceLE, Int.reduceLT, if_true, if_false, grpK, Int.reduceAdd, Int.reduceSub, Int.reduceMul, Int.reduceNeg, Int.reducePow, Nat.reducePow, Int.reduceToNat, Nat.reduceSub, List.replicate, Nat.reduceBEq, wAs, wA, wC, zipW, noDupN, grpE, beq_true, beq_false, g_impl_areBits, g_impl_codes, g_impl_parts, g_impl_numberOf, g_impl_RootNumber, g_impl_MendTurn, ↓b_pick, ePk_true, ePk_false])
        | (refine eA_wk (wk_norm (ks := [1, 4, 6, 7, 8, 9, 10, 34]) (ls := [4, 7, 8]) ?_) (eA_cast ?_ (sl22_0 y0 y1 _ _ _ _ _ _ _ (getD_some (d := default) (x := (l_impl_UnpackTurn_0 y0 y1 6 (0, 0, 0, 0) 1065353216 0 0)) ?_) ?_)); (iterate 2 (simp only [nilS, nilV, normOk, optIn, blkIn, nameIn, normS, List.map_append, List.length_append, List.map_set, List.length_set, List.map_replicate, List.length_replicate, List.map_nil, List.map_cons,
          hp, grpA, vsliceS, grpS, grpD, grpF, grpL, eop, vop, bop, uop, fltop, convop, endOk, newE, new1, freshL, Md.isNew, outV, pureV, pureX, pure1, AV.cells, AV.one, storable, laid, refless, refless1, vload, loadC, storeC, vnil, vfaddr, vextract, flatT, flatE, flatC, vconv, vmm, vidxA, viaddrA, vfield, vlen, elemsOf, dF32, dF64, dI64, dU8, dBool, dStr, esOk, elemsS, vsliceX, bnd, ownV, ownC, own1, ownT, isSl, nSl, endL, Md.isOwn, purge, purgeH, purgeB, purgeE, hasName, name1, List.any_cons, List.any_nil, Md.isWr, pureV.pureP, Option.map, reduceIte, Nat.reduceEqDiff, Nat.reduceAdd, Nat.reduceMul, Nat.reduceLT, Nat.reduceLeDiff, List.mapM_cons, List.mapM_nil, Option.pure_def, Option.bind_eq_bind, Option.bind_some, implies_true, forall_const, beq_self_eq_true, decide_true, decide_false, eq_self, Int.reduceEq, Int.reduceLE, Int.reduceLT, if_true, if_false, grpK, Int.reduceAdd, Int.reduceSub, Int.reduceMul, Int.reduceNeg, Int.reducePow, Nat.reducePow, Int.reduceToNat, Nat.reduceSub, List.replicate, Nat.reduceBEq, wAs, wA, wC, zipW, noDupN, grpE, beq_true, beq_false, g_impl_areBits, g_impl_codes, g_impl_parts, g_impl_numberOf, g_impl_RootNumber, g_impl_MendTurn, ↓b_pick, ePk_true, ePk_false] <;> first | rfl | (simp only [Nat.add_comm]; done))); (simp only [hp]); (
        intro st2 hw; (try simp only [reduceCtorEq, grpN, Int.reduceEq, Int.reduceLT, Int.reduceLE, if_true, if_false, reduceIte] at hp); (try replace hp := And.intro ht hp); simp only [
Kq_exit, Kq_normal, Kq_ret, Kb_exit, Kb_normal, Kb_ret, Kl_exit, Kl_normal, Kl_ret, reduceIte, Nat.reduceEqDiff, if_true, if_false, eq_self]; refine KW_of hw ?_; simp only [
          hp, grpA, vsliceS, grpS, grpD, grpF, grpL, eop, vop, bop, uop, fltop, convop, endOk, newE, new1, freshL, Md.isNew, outV, pureV, pureX, pure1, AV.cells, AV.one, storable, laid, refless, refless1, vload, loadC, storeC, vnil, vfaddr, vextract, flatT, flatE, flatC, vconv, vmm, vidxA, viaddrA, vfield, vlen, elemsOf, dF32, dF64, dI64, dU8, dBool, dStr, esOk, elemsS, vsliceX, bnd, ownV, ownC, own1, ownT, isSl, nSl, endL, Md.isOwn, purge, purgeH, purgeB, purgeE, hasName, name1, List.any_cons, List.any_nil, Md.isWr, pureV.pureP, Option.map, reduceIte, Nat.reduceEqDiff, Nat.reduceAdd, Nat.reduceMul, Nat.reduceLT, Nat.reduceLeDiff, List.mapM_cons, List.mapM_nil, Option.pure_def, Option.bind_eq_bind, Option.bind_some, implies_true, forall_const, beq_self_eq_true, decide_true, decide_false, eq_self, Int.reduceEq, Int.reduceLE, Int.reduceLT, if_true, if_false, grpK, Int.reduceAdd, Int.reduceSub, Int.reduceMul, Int.reduceNeg, Int.reducePow, Nat.reducePow, Int.reduceToNat, Nat.reduceSub, List.replicate, Nat.reduceBEq, wAs, wA, wC, zipW, noDupN, grpE, beq_true, beq_false, g_impl_areBits, g_impl_codes, g_impl_parts, g_impl_numberOf, g_impl_RootNumber, g_impl_MendTurn, ↓b_pick, ePk_true, ePk_false])))
      all_goals (try simp only [*, m_impl_UnpackTurn, v_impl_UnpackTurn_3, v_impl_UnpackTurn_4, v_impl_UnpackTurn_5, v_impl_UnpackTurn_6, v_impl_UnpackTurn_7, Bool.and_true, Bool.true_and, Bool.and_false, Bool.false_and, Bool.or_true, Bool.true_or, Bool.or_false, Bool.false_or, Bool.not_true, Bool.not_false, Bool.false_eq_true, if_true, if_false, reduceIte, decide_true, decide_false])
      all_goals (try (simp_all; done))
    · cases h
  · cases h
def m_laws_sameFloat (x0 : Nat) (x1 : Nat) : Bool := (if (feq .f64 x0 x0) = true then (if (feq .f64 x1 x1) = true then (if (feq .f64 x0 0) = true then (if (feq .f64 x1 0) = true then ((flt .f64 0 (fdiv .f64 4607182418800017408 x0)) == (flt .f64 0 (fdiv .f64 4607182418800017408 x1))) else (feq .f64 x0 x1)) else (feq .f64 x0 x1)) else false) else (!(feq .f64 x1 x1)))
def g_laws_sameFloat : List AV → Option AV
  | [.flt .f64 y0, .flt .f64 y1] => some (.bool (m_laws_sameFloat y0 y1))
  | _ => none
def ic55 : ICode := (.seq (.reg [⟨(some 4), none, (.mov (.c (.bool false)))⟩] [0, 1]) (.seq (.seq (.reg [⟨(some 5), none, (.mov (.t 0))⟩, ⟨(some 6), none, (.mov (.t 0))⟩, ⟨(some 7), none, (.bin .neq false (.t 5) (.t 6))⟩, ⟨(some 8), none, (.mov (.t 7))⟩, ⟨(some 9), (some (8, false)), (.mov (.t 1))⟩, ⟨(some 10), (some (8, false)), (.mov (.t 1))⟩, ⟨(some 11), (some (8, false)), (.bin .neq false (.t 9) (.t 10))⟩, ⟨(some 12), none, (.pick (.t 8) (.c (.bool true)) (.t 11))⟩] [0, 1, 12]) (.cond (.t 12) (.seq (.reg [⟨(some 13), none, (.mov (.t 0))⟩, ⟨(some 14), none, (.mov (.t 0))⟩, ⟨(some 15), none, (.bin .neq false (.t 13) (.t 14))⟩, ⟨(some 16), none, (.mov (.t 15))⟩, ⟨(some 17), (some (16, true)), (.mov (.t 1))⟩, ⟨(some 18), (some (16, true)), (.mov (.t 1))⟩, ⟨(some 19), (some (16, true)), (.bin .neq false (.t 17) (.t 18))⟩, ⟨(some 20), none, (.pick (.t 16) (.t 19) (.c (.bool false)))⟩, ⟨(some 4), none, (.mov (.t 20))⟩] [4]) .ret) .skip)) (.seq (.seq (.reg [⟨(some 21), none, (.mov (.t 0))⟩, ⟨(some 22), none, (.bin .eql false (.t 21) (.c (.flt .f64 0)))⟩, ⟨(some 23), none, (.mov (.t 22))⟩, ⟨(some 24), (some (23, true)), (.mov (.t 1))⟩, ⟨(some 25), (some (23, true)), (.bin .eql false (.t 24) (.c (.flt .f64 0)))⟩, ⟨(some 26), none, (.pick (.t 23) (.t 25) (.c (.bool false)))⟩] [0, 1, 26]) (.cond (.t 26) (.seq (.reg [⟨(some 27), none, (.mov (.t 0))⟩, ⟨(some 28), none, (.bin .quo false (.c (.flt .f64 4607182418800017408)) (.t 27))⟩, ⟨(some 29), none, (.bin .gtr false (.t 28) (.c (.flt .f64 0)))⟩, ⟨(some 30), none, (.mov (.t 1))⟩, ⟨(some 31), none, (.bin .quo false (.c (.flt .f64 4607182418800017408)) (.t 30))⟩, ⟨(some 32), none, (.bin .gtr false (.t 31) (.c (.flt .f64 0)))⟩, ⟨(some 33), none, (.bin .eql true (.t 29) (.t 32))⟩, ⟨(some 4), none, (.mov (.t 33))⟩] [4]) .ret) .skip)) (.seq (.reg [⟨(some 34), none, (.mov (.t 0))⟩, ⟨(some 35), none, (.mov (.t 1))⟩, ⟨(some 36), none, (.bin .eql false (.t 34) (.t 35))⟩, ⟨(some 4), none, (.mov (.t 36))⟩] [4]) .ret))))
def cp55 : CP := CP.mk [] [] [[0, 1], [0, 1, 12], [4], [0, 1, 26], [4], [4]] 37 [] []
theorem s55 : ∀ vs r, g_laws_sameFloat vs = some r → SaysM Try.prog .any 55 vs r := by
  intro vs r h
  unfold g_laws_sameFloat at h
  split at h
  · rename_i y0 y1
    cases h
    refine spec_of (m := .any) (tab := tabOf []) (cp := cp55) (ic := ic55) (rvl := [(.t 4)]) hm tabOk_nil Try.func55 rfl rfl rfl (by kernel_rfl) rfl (Nat.le_of_ble_eq_true rfl) (Nat.le_of_ble_eq_true rfl) ?_
    show eA _ _ _ _
    unfold ic55
    refine eS_to ?_
    repeat' (first
      | ((first | (have h := True.intro; refine eS_of ?_) | (refine eGI_of (fun h => ?_) (fun h => ?_)) | (refine eCc_of (fun h => ?_) (fun h => ?_)) | (refine ePk_of (fun h => ?_) (fun h => ?_))) <;> (try simp only [Bool.not_eq_true', Bool.not_eq_false'] at h) <;> (try first | exact absurd (Eq.trans (Eq.symm h) (by assumption)) Bool.false_ne_true | exact absurd (Eq.trans (Eq.symm h) (by assumption)) (Ne.symm Bool.false_ne_true)) <;> simp only [h,
        grpA, vsliceS, grpS, grpD, grpF, grpL, eop, vop, bop, uop, fltop, convop, endOk, newE, new1, freshL, Md.isNew, outV, pureV, pureX, pure1, AV.cells, AV.one, storable, laid, refless, refless1, vload, loadC, storeC, vnil, vfaddr, vextract, flatT, flatE, flatC, vconv, vmm, vidxA, viaddrA, vfield, vlen, elemsOf, dF32, dF64, dI64, dU8, dBool, dStr, esOk, elemsS, vsliceX, bnd, ownV, ownC, own1, ownT, isSl, nSl, endL, Md.isOwn, purge, purgeH, purgeB, purgeE, hasName, name1, List.any_cons, List.any_nil, Md.isWr, pureV.pureP, Option.map, reduceIte, Nat.reduceEqDiff, Nat.reduceAdd, Nat.reduceMul, Nat.reduceLT, Nat.reduceLeDiff, List.mapM_cons, List.mapM_nil, Option.pure_def, Option.bind_eq_bind, Option.bind_some, implies_true, forall_const, beq_self_eq_true, decide_true, decide_false, eq_self, Int.reduceEq, Int.reduceLE, Int.reduceLT, if_true, if_false, grpK, Int.reduceAdd, Int.reduceSub, Int.reduceMul, Int.reduceNeg, Int.reducePow, Nat.reducePow, Int.reduceToNat, Nat.reduceSub, List.replicate, Nat.reduceBEq, wAs, wA, wC, zipW, noDupN, grpE, beq_true, beq_false, ↓b_pick, ePk_true, ePk_false]))
    all_goals (try simp only [*, m_laws_sameFloat, Bool.and_true, Bool.true_and, Bool.and_false, Bool.false_and, Bool.or_true, Bool.true_or, Bool.or_false, Bool.false_or, Bool.not_true, Bool.not_false, Bool.false_eq_true, if_true, if_false, reduceIte, decide_true, decide_false])
    all_goals (try (simp_all; done))
  · cases h
def m_laws_eqTurn (x0 : (Nat × Nat × Nat × Nat)) (x1 : (Nat × Nat × Nat × Nat)) : Bool := (if (m_laws_sameFloat (widen x0.1) (widen x1.1)) = true then (if (m_laws_sameFloat (widen x0.2.1) (widen x1.2.1)) = true then (if (m_laws_sameFloat (widen x0.2.2.1) (widen x1.2.2.1)) = true then (if (m_laws_sameFloat (widen x0.2.2.2) (widen x1.2.2.2)) = true then true else false) else false) else false) else false)
def g_laws_eqTurn : List AV → Option AV
  | [.agg [.flt .f32 y0, .flt .f32 y1, .flt .f32 y2, .flt .f32 y3], .agg [.flt .f32 y4, .flt .f32 y5, .flt .f32 y6, .flt .f32 y7]] => some (.bool (m_laws_eqTurn (y0, y1, y2, y3) (y4, y5, y6, y7)))
  | _ => none
def ic23 : ICode := (.seq (.reg [⟨(some 2), none, (.box 4 (.t 0))⟩, ⟨(some 3), none, (.box 4 (.t 1))⟩, ⟨(some 4), none, (.mov (.c (.bool false)))⟩] [2, 3]) (.seq (.seq (.reg [⟨(some 5), none, (.faddr 0 (.t 2))⟩, ⟨(some 6), none, (.load none (.t 5))⟩, ⟨(some 7), none, (.conv (.flt .f64) (.t 6))⟩, ⟨(some 8), none, (.faddr 0 (.t 3))⟩, ⟨(some 9), none, (.load none (.t 8))⟩, ⟨(some 10), none, (.conv (.flt .f64) (.t 9))⟩, ⟨(some 11), none, (.call (.fn 55) [(.t 7), (.t 10)] [])⟩, ⟨(some 12), none, (.un .not (.t 11))⟩] [2, 3, 12]) (.cond (.t 12) (.seq (.reg [⟨(some 4), none, (.mov (.c (.bool false)))⟩] [4]) .ret) .skip)) (.seq (.seq (.reg [⟨(some 13), none, (.faddr 1 (.t 2))⟩, ⟨(some 14), none, (.load none (.t 13))⟩, ⟨(some 15), none, (.conv (.flt .f64) (.t 14))⟩, ⟨(some 16), none, (.faddr 1 (.t 3))⟩, ⟨(some 17), none, (.load none (.t 16))⟩, ⟨(some 18), none, (.conv (.flt .f64) (.t 17))⟩, ⟨(some 19), none, (.call (.fn 55) [(.t 15), (.t 18)] [])⟩, ⟨(some 20), none, (.un .not (.t 19))⟩] [2, 3, 20]) (.cond (.t 20) (.seq (.reg [⟨(some 4), none, (.mov (.c (.bool false)))⟩] [4]) .ret) .skip)) (.seq (.seq (.reg [⟨(some 21), none, (.faddr 2 (.t 2))⟩, ⟨(some 22), none, (.load none (.t 21))⟩, ⟨(some 23), none, (.conv (.flt .f64) (.t 22))⟩, ⟨(some 24), none, (.faddr 2 (.t 3))⟩, ⟨(some 25), none, (.load none (.t 24))⟩, ⟨(some 26), none, (.conv (.flt .f64) (.t 25))⟩, ⟨(some 27), none, (.call (.fn 55) [(.t 23), (.t 26)] [])⟩, ⟨(some 28), none, (.un .not (.t 27))⟩] [2, 3, 28]) (.cond (.t 28) (.seq (.reg [⟨(some 4), none, (.mov (.c (.bool false)))⟩] [4]) .ret) .skip)) (.seq (.seq (.reg [⟨(some 29), none, (.faddr 3 (.t 2))⟩, ⟨(some 30), none, (.load none (.t 29))⟩, ⟨(some 31), none, (.conv (.flt .f64) (.t 30))⟩, ⟨(some 32), none, (.faddr 3 (.t 3))⟩, ⟨(some 33), none, (.load none (.t 32))⟩, ⟨(some 34), none, (.conv (.flt .f64) (.t 33))⟩, ⟨(some 35), none, (.call (.fn 55) [(.t 31), (.t 34)] [])⟩, ⟨(some 36), none, (.un .not (.t 35))⟩] [36]) (.cond (.t 36) (.seq (.reg [⟨(some 4), none, (.mov (.c (.bool false)))⟩] [4]) .ret) .skip)) (.seq (.reg [⟨(some 4), none, (.mov (.c (.bool true)))⟩] [4]) .ret))))))
def cp23 : CP := CP.mk [] [] [[2, 3], [2, 3, 12], [4], [2, 3, 20], [4], [2, 3, 28], [4], [36], [4], [4]] 37 [] []
theorem s23 : ∀ vs r, g_laws_eqTurn vs = some r → SaysM Try.prog .any 23 vs r := by
  intro vs r h
  unfold g_laws_eqTurn at h
  split at h
  · rename_i y0 y1 y2 y3 y4 y5 y6 y7
    cases h
    refine spec_of (m := .any) (tab := tabOf [(55, wM .any g_laws_sameFloat)]) (cp := cp23) (ic := ic23) (rvl := [(.t 4)]) hm (tabOk_cons (m := .any) s55 tabOk_nil) Try.func23 rfl rfl rfl (by kernel_rfl) rfl (Nat.le_of_ble_eq_true rfl) (Nat.le_of_ble_eq_true rfl) ?_
    show eA _ _ _ _
    unfold ic23
    refine eS_to ?_
    repeat' (first
      | ((first | (have h := True.intro; refine eS_of ?_) | (refine eGI_of (fun h => ?_) (fun h => ?_)) | (refine eCc_of (fun h => ?_) (fun h => ?_))) <;> (try simp only [Bool.not_eq_true', Bool.not_eq_false'] at h) <;> (try first | exact absurd (Eq.trans (Eq.symm h) (by assumption)) Bool.false_ne_true | exact absurd (Eq.trans (Eq.symm h) (by assumption)) (Ne.symm Bool.false_ne_true)) <;> simp only [h,
        grpA, vsliceS, grpS, grpD, grpF, grpL, eop, vop, bop, uop, fltop, convop, endOk, newE, new1, freshL, Md.isNew, outV, pureV, pureX, pure1, AV.cells, AV.one, storable, laid, refless, refless1, vload, loadC, storeC, vnil, vfaddr, vextract, flatT, flatE, flatC, vconv, vmm, vidxA, viaddrA, vfield, vlen, elemsOf, dF32, dF64, dI64, dU8, dBool, dStr, esOk, elemsS, vsliceX, bnd, ownV, ownC, own1, ownT, isSl, nSl, endL, Md.isOwn, purge, purgeH, purgeB, purgeE, hasName, name1, List.any_cons, List.any_nil, Md.isWr, pureV.pureP, Option.map, reduceIte, Nat.reduceEqDiff, Nat.reduceAdd, Nat.reduceMul, Nat.reduceLT, Nat.reduceLeDiff, List.mapM_cons, List.mapM_nil, Option.pure_def, Option.bind_eq_bind, Option.bind_some, implies_true, forall_const, beq_self_eq_true, decide_true, decide_false, eq_self, Int.reduceEq, Int.reduceLE, Int.reduceLT, if_true, if_false, grpK, Int.reduceAdd, Int.reduceSub, Int.reduceMul, Int.reduceNeg, Int.reducePow, Nat.reducePow, Int.reduceToNat, Nat.reduceSub, List.replicate, Nat.reduceBEq, wAs, wA, wC, zipW, noDupN, grpE, beq_true, beq_false, g_laws_sameFloat]))
    all_goals (try simp only [*, m_laws_eqTurn, Bool.and_true, Bool.true_and, Bool.and_false, Bool.false_and, Bool.or_true, Bool.true_or, Bool.or_false, Bool.false_or, Bool.not_true, Bool.not_false, Bool.false_eq_true, if_true, if_false, reduceIte, decide_true, decide_false])
    all_goals (try (simp_all; done))
  · cases h
def m_laws_FnExactUnpackTurn (x0 : Int) (x1 : Int) : Bool := (if (m_laws_eqTurn (m_impl_UnpackTurn x0 x1).1 (m_spec_UnpackTurn x0 x1).1) = true then (if ((m_impl_UnpackTurn x0 x1).2 == (m_spec_UnpackTurn x0 x1).2) = true then true else false) else false)
def p_laws_FnExactUnpackTurn (x0 : Int) (x1 : Int) : Bool := ((p_spec_UnpackTurn x0 x1) && (p_impl_UnpackTurn x0 x1))
def g_laws_FnExactUnpackTurn : List AV → Option AV
  | [.int .i64 y0, .int .i64 y1] => if p_laws_FnExactUnpackTurn y0 y1 = true then some (.bool (m_laws_FnExactUnpackTurn y0 y1)) else none
  | _ => none
def ic6 : ICode := (.seq (.reg [⟨(some 4), none, (.mov (.c (.bool false)))⟩] [0, 1]) (.seq (.reg [⟨(some 10), none, (.mov (.t 0))⟩, ⟨(some 11), none, (.mov (.t 1))⟩, ⟨(some 12), none, (.call (.fn 21) [(.t 10), (.t 11)] [])⟩, ⟨(some 9), none, (.mov (.t 12))⟩, ⟨(some 13), none, (.extract (.t 9) 0)⟩, ⟨(some 14), none, (.extract (.t 9) 1)⟩, ⟨(some 5), none, (.alloc (.agg [(.flt .f32 0), (.flt .f32 0), (.flt .f32 0), (.flt .f32 0)]))⟩, ⟨none, none, (.store 4 (.t 5) (.t 13))⟩, ⟨(some 6), none, (.mov (.t 14))⟩] [0, 1, 5, 6]) (.seq (.reg [⟨(some 16), none, (.mov (.t 0))⟩, ⟨(some 17), none, (.mov (.t 1))⟩, ⟨(some 18), none, (.call (.fn 22) [(.t 16), (.t 17)] [])⟩, ⟨(some 15), none, (.mov (.t 18))⟩, ⟨(some 19), none, (.extract (.t 15) 0)⟩, ⟨(some 20), none, (.extract (.t 15) 1)⟩, ⟨(some 7), none, (.alloc (.agg [(.flt .f32 0), (.flt .f32 0), (.flt .f32 0), (.flt .f32 0)]))⟩, ⟨none, none, (.store 4 (.t 7) (.t 19))⟩, ⟨(some 8), none, (.mov (.t 20))⟩] [5, 6, 7, 8]) (.seq (.seq (.reg [⟨(some 21), none, (.load (some 4) (.t 7))⟩, ⟨(some 22), none, (.load (some 4) (.t 5))⟩, ⟨(some 23), none, (.call (.fn 23) [(.t 21), (.t 22)] [])⟩, ⟨(some 24), none, (.un .not (.t 23))⟩, ⟨(some 25), none, (.mov (.t 24))⟩, ⟨(some 26), (some (25, false)), (.mov (.t 8))⟩, ⟨(some 27), (some (25, false)), (.mov (.t 6))⟩, ⟨(some 28), (some (25, false)), (.bin .neq true (.t 26) (.t 27))⟩, ⟨(some 29), none, (.pick (.t 25) (.c (.bool true)) (.t 28))⟩] [29]) (.cond (.t 29) (.seq (.reg [⟨(some 4), none, (.mov (.c (.bool false)))⟩] [4]) .ret) .skip)) (.seq (.reg [⟨(some 4), none, (.mov (.c (.bool true)))⟩] [4]) .ret)))))
def cp6 : CP := CP.mk [] [] [[0, 1], [0, 1, 5, 6], [5, 6, 7, 8], [29], [4], [4]] 30 [] []
theorem s6 : ∀ vs r, g_laws_FnExactUnpackTurn vs = some r → SaysM Try.prog .any 6 vs r := by
  intro vs r h
  unfold g_laws_FnExactUnpackTurn at h
  split at h
  · rename_i y0 y1
    split at h
    · rename_i hp
      cases h
      refine spec_of (m := .any) (tab := tabOf [(21, wM .any g_spec_UnpackTurn), (22, wM .any g_impl_UnpackTurn), (23, wM .any g_laws_eqTurn)]) (cp := cp6) (ic := ic6) (rvl := [(.t 4)]) hm (tabOk_cons (m := .any) s21 (tabOk_cons (m := .any) s22 (tabOk_cons (m := .any) s23 tabOk_nil))) Try.func6 rfl rfl rfl (by kernel_rfl) rfl (Nat.le_of_ble_eq_true rfl) (Nat.le_of_ble_eq_true rfl) ?_
      show eA _ _ _ _
      unfold ic6
      simp only [p_laws_FnExactUnpackTurn, Bool.and_eq_true, Bool.or_eq_true, decide_eq_true_eq, Bool.not_eq_true', decide_eq_false_iff_not] at hp
      refine eS_to ?_
      repeat' (first
        | ((first | (have h := True.intro; refine eS_of ?_) | (refine eGI_of (fun h => ?_) (fun h => ?_)) | (refine eCc_of (fun h => ?_) (fun h => ?_)) | (refine ePk_of (fun h => ?_) (fun h => ?_))) <;> (try simp only [Bool.not_eq_true', Bool.not_eq_false'] at h) <;> (try first | exact absurd (Eq.trans (Eq.symm h) (by assumption)) Bool.false_ne_true | exact absurd (Eq.trans (Eq.symm h) (by assumption)) (Ne.symm Bool.false_ne_true)) <;> (try simp only [h, reduceCtorEq, grpN, Int.reduceEq, Int.reduceLT, Int.reduceLE, if_true, if_false, reduceIte] at hp) <;> (first | (have h2 := h; simp only [decide_eq_true_eq, decide_eq_false_iff_not] at h2; (first | (replace h2 := eq_false h2) | (replace h2 := eq_true h2)); (try simp only [h2, reduceCtorEq, grpN, Int.reduceEq, Int.reduceLT, Int.reduceLE, if_true, if_false, reduceIte] at hp); replace hp := And.intro h2 hp) | (replace hp := And.intro h hp) | skip) <;> simp only [h,
          hp, grpA, vsliceS, grpS, grpD, grpF, grpL, eop, vop, bop, uop, fltop, convop, endOk, newE, new1, freshL, Md.isNew, outV, pureV, pureX, pure1, AV.cells, AV.one, storable, laid, refless, refless1, vload, loadC, storeC, vnil, vfaddr, vextract, flatT, flatE, flatC, vconv, vmm, vidxA, viaddrA, vfield, vlen, elemsOf, dF32, dF64, dI64, dU8, dBool, dStr, esOk, elemsS, vsliceX, bnd, ownV, ownC, own1, ownT, isSl, nSl, endL, Md.isOwn, purge, purgeH, purgeB, purgeE, hasName, name1, List.any_cons, List.any_nil, Md.isWr, pureV.pureP, Option.map, reduceIte, Nat.reduceEqDiff, Nat.reduceAdd, Nat.reduceMul, Nat.reduceLT, Nat.reduceLeDiff, List.mapM_cons, List.mapM_nil, Option.pure_def, Option.bind_eq_bind, Option.bind_some, implies_true, forall_const, beq_self_eq_true, decide_true, decide_false, eq_self, Int.reduceEq, Int.reduceLE, Int.reduceLT, if_true, if_false, grpK, Int.reduceAdd, Int.reduceSub, Int.reduceMul, Int.reduceNeg, Int.reducePow, Nat.reducePow, Int.reduceToNat, Nat.reduceSub, List.replicate, Nat.reduceBEq, wAs, wA, wC, zipW, noDupN, grpE, beq_true, beq_false, g_spec_UnpackTurn, g_impl_UnpackTurn, g_laws_eqTurn, ↓b_pick, ePk_true, ePk_false]))
      all_goals (try simp only [*, m_laws_FnExactUnpackTurn, Bool.and_true, Bool.true_and, Bool.and_false, Bool.false_and, Bool.or_true, Bool.true_or, Bool.or_false, Bool.false_or, Bool.not_true, Bool.not_false, Bool.false_eq_true, if_true, if_false, reduceIte, decide_true, decide_false])
      all_goals (try (simp_all; done))
    · cases h
  · cases h
end Go.Proofs
namespace Go.Proofs
open Go.Ab
theorem sameFloat_refl (x : Nat) : m_laws_sameFloat x x = true := by
  unfold m_laws_sameFloat
  by_cases h : feq .f64 x x = true
  · simp [h]
  · simp [h]
end Go.Proofs
namespace Go.Proofs
open Go.Ab
theorem eqTurn_refl (x : Nat × Nat × Nat × Nat) : m_laws_eqTurn x x = true := by
  unfold m_laws_eqTurn
  simp [sameFloat_refl]
end Go.Proofs
namespace Go.Proofs
open Go.Ab
def m_impl_isRange (x0 : Nat) (x1 : Nat) : Bool := (if (m_impl_IsFinite x0) = true then (if (m_impl_IsFinite x1) = true then (flt .f32 x0 x1) else false) else false)
end Go.Proofs
namespace Go.Proofs
open Go.Ab
theorem codes_ok {b : Int} (h1 : 2 ≤ b) (h2 : b ≤ 16) : ∃ k : Nat, 4 ≤ k ∧ k ≤ 65536 ∧ IntKind.wrap .i64 (1 * 2 ^ (min b.toNat 64)) = (k : Int) ∧ IntKind.wrap .u64 b = b ∧ IntKind.wrap .i64 ((k : Int) - 1) = ((k - 1 : Nat) : Int) ∧ k = 2 ^ b.toNat := by
  have : b = 2 ∨ b = 3 ∨ b = 4 ∨ b = 5 ∨ b = 6 ∨ b = 7 ∨ b = 8 ∨ b = 9 ∨ b = 10 ∨ b = 11 ∨ b = 12 ∨ b = 13 ∨ b = 14 ∨ b = 15 ∨ b = 16 := by omega
  rcases this with rfl | rfl | rfl | rfl | rfl | rfl | rfl | rfl | rfl | rfl | rfl | rfl | rfl | rfl | rfl
  all_goals exact ⟨_, by decide, by decide, by decide, by decide, by decide, rfl⟩
theorem numberOf_ok {x0 : Int} {x1 x2 : Nat} {x3 : Int} (hr : m_impl_isRange x1 x2 = true) (h1 : 2 ≤ x3) (h2 : x3 ≤ 16) (h3 : 0 ≤ x0) (h4 : x0 < 2 ^ x3.toNat) :
    p_impl_numberOf x0 x1 x2 x3 = true ∧ p_spec_l06Number x0 x1 x2 x3 = true ∧ m_spec_l06Number x0 x1 x2 x3 = m_impl_numberOf x0 x1 x2 x3 := by
  obtain ⟨k, k1, k2, k3, k4, k5, k6⟩ := codes_ok h1 h2
  simp only [m_impl_isRange, m_impl_IsFinite] at hr
  have hx : ∃ c : Nat, x0 = c := ⟨x0.toNat, by omega⟩
  obtain ⟨c, rfl⟩ := hx
  have hck : c ≤ k - 1 := by
    have : (c : Int) < (k : Int) := by rw [k6]; exact_mod_cast h4
    omega
  have hm : m_spec_l06Most x3 = ((k - 1 : Nat) : Int) := by unfold m_spec_l06Most; rw [k4, k3, k5]
  have hc : m_impl_codes x3 = k := by unfold m_impl_codes; exact k3
  obtain ⟨f1, hr⟩ := and_of hr
  obtain ⟨f2, hr⟩ := and_of hr
  have key := number_narrow f1 f2 hr hck (by omega) (by omega)
  refine ⟨?_, ?_, ?_⟩
  · unfold p_impl_numberOf p_impl_codes
    rw [hc, k5]
    simp only [Bool.and_eq_true, decide_eq_true_eq]
    exact ⟨by omega, key⟩
  · unfold p_spec_l06Number p_spec_l06Most p_spec_l01Narrow
    rw [hm, k4]
    simp only [Bool.and_eq_true, decide_eq_true_eq]
    exact ⟨by omega, key⟩
  · have e : ∀ a b c d, m_impl_numberOf a b c d = narrow (fadd .f64 (widen b) (fmul .f64 (fsub .f64 (widen c) (widen b)) (fdiv .f64 (ofInt .f64 a) (ofInt .f64 (IntKind.wrap .i64 ((m_impl_codes d) - 1)))))) := fun _ _ _ _ => rfl
    rw [e]
    unfold m_spec_l06Number m_spec_l01Narrow
    rw [hm, hc, k5]
end Go.Proofs
namespace Go.Proofs
open Go.Ab
theorem bits_facts {b : Int} (h1 : 2 ≤ b) (h2 : b ≤ 16) : IntKind.wrap .i64 (2 * b) = 2 * b ∧ IntKind.wrap .u64 (2 * b) = 2 * b ∧ IntKind.wrap .i64 (3 * b) = 3 * b ∧ IntKind.wrap .u64 (3 * b) = 3 * b ∧ IntKind.wrap .u64 b = b ∧
    IntKind.wrap .i64 (1 * 2 ^ (min (3 * b).toNat 64)) = ((2 ^ (3 * b).toNat : Nat) : Int) ∧ IntKind.wrap .i64 (((2 ^ (3 * b).toNat : Nat) : Int) - 1) = ((2 ^ (3 * b).toNat : Nat) : Int) - 1 := by
  have : b = 2 ∨ b = 3 ∨ b = 4 ∨ b = 5 ∨ b = 6 ∨ b = 7 ∨ b = 8 ∨ b = 9 ∨ b = 10 ∨ b = 11 ∨ b = 12 ∨ b = 13 ∨ b = 14 ∨ b = 15 ∨ b = 16 := by omega
  rcases this with rfl | rfl | rfl | rfl | rfl | rfl | rfl | rfl | rfl | rfl | rfl | rfl | rfl | rfl | rfl
  all_goals exact ⟨by decide, by decide, by decide, by decide, by decide, by decide, by decide⟩
theorem fdiv_nat (a n : Nat) : Int.fdiv (a : Int) (2 ^ n) = ((a / 2 ^ n : Nat) : Int) := by
  rw [Int.fdiv_eq_ediv_of_nonneg _ (by exact_mod_cast Nat.zero_le (2 ^ n))]
  exact_mod_cast rfl
theorem tdiv_nat (a n : Nat) : Int.tdiv (a : Int) (n : Int) = ((a / n : Nat) : Int) := by
  rw [Int.tdiv_eq_ediv_of_nonneg (by omega)]
  exact_mod_cast rfl
theorem tmod_nat (a n : Nat) : Int.tmod (a : Int) (n : Int) = ((a % n : Nat) : Int) := by
  rw [Int.tmod_eq_emod_of_nonneg (by omega)]
  exact_mod_cast rfl
end Go.Proofs
namespace Go.Proofs
open Go.Ab
theorem mend_eq (t : Nat × Nat × Nat × Nat) : m_impl_MendTurn t = m_spec_l02Mend t ∧ p_impl_MendTurn t = true ∧ p_spec_l02Mend t = true := by
  refine ⟨?_, sqrt_narrow _, sqrt_narrow _⟩
  unfold m_impl_MendTurn m_spec_l02Mend m_impl_isLength
  have e : m_impl_LengthOfTurn t = m_spec_l01Sqrt (m_spec_l02Inner t t) := rfl
  rw [e]
  generalize m_spec_l01Sqrt (m_spec_l02Inner t t) = n
  have e2 : m_impl_IsFinite n = m_spec_l01Finite n := rfl
  rw [e2]
  by_cases h0 : feq .f32 n 0 = true <;> by_cases h1 : m_spec_l01Finite n = true <;> simp [h0, h1, m_impl_NoTurn, m_spec_l02No]
end Go.Proofs
namespace Go.Proofs
open Go.Ab
theorem partRange : m_impl_isRange 3208642560 1061158912 = true := by decide
theorem turnParts {w : Nat} {b : Int} (h1 : 2 ≤ b) (h2 : b ≤ 16) (hw : w < 2 ^ (3 * b + 2).toNat) :
    ∃ (p : Nat) (a m l : Int), p < 4 ∧ m_impl_parts w b = ((p : Int), a, m, l) ∧ Int.fdiv (w : Int) (2 ^ (min ((IntKind.wrap .u64 (IntKind.wrap .i64 (3 * b))) : Int).toNat 64)) = (p : Int) ∧
    bitop .and .i64 (Int.fdiv (w : Int) (2 ^ (min ((IntKind.wrap .u64 (IntKind.wrap .i64 (2 * b))) : Int).toNat 64))) (m_spec_l06Most b) = a ∧
    bitop .and .i64 (Int.fdiv (w : Int) (2 ^ (min ((IntKind.wrap .u64 b) : Int).toNat 64))) (m_spec_l06Most b) = m ∧
    bitop .and .i64 (w : Int) (m_spec_l06Most b) = l ∧ p_impl_parts w b = true ∧
    (∀ q, q = a ∨ q = m ∨ q = l → p_impl_numberOf q 3208642560 1061158912 b = true ∧ p_spec_l06Number q 3208642560 1061158912 b = true ∧ m_spec_l06Number q 3208642560 1061158912 b = m_impl_numberOf q 3208642560 1061158912 b) := by
  obtain ⟨k, k1, k2, k3, k4, k5, k6⟩ := codes_ok h1 h2
  obtain ⟨f1, f2, f3, f4, f5, f6, f7⟩ := bits_facts h1 h2
  have hc : m_impl_codes b = k := by unfold m_impl_codes; exact k3
  have hm : m_spec_l06Most b = ((2 ^ b.toNat - 1 : Nat) : Int) := by unfold m_spec_l06Most; rw [k4, k3, k5, k6]
  have hw63 : w < 2 ^ 63 := Nat.lt_of_lt_of_le hw (Nat.pow_le_pow_right (by omega) (by omega))
  have d1 : w / k < 2 ^ 63 := Nat.lt_of_le_of_lt (Nat.div_le_self _ _) hw63
  have d2 : w / k / k < 2 ^ 63 := Nat.lt_of_le_of_lt (Nat.div_le_self _ _) d1
  have d3 : w / k / k / k < 2 ^ 63 := Nat.lt_of_le_of_lt (Nat.div_le_self _ _) d2
  have pp : m_impl_parts w b = (((w / k / k / k : Nat) : Int), ((w / k / k % k : Nat) : Int), ((w / k % k : Nat) : Int), ((w % k : Nat) : Int)) := by
    unfold m_impl_parts; simp only [hc, tdiv_nat, wrapN d1, wrapN d2, wrapN d3, tmod_nat]
  have hbk : b.toNat < 63 := by omega
  have q1 : bitop .and .i64 (w : Int) (m_spec_l06Most b) = ((w % k : Nat) : Int) := by rw [hm, bit_and_mask hw63 hbk, k6]
  have q2 : bitop .and .i64 (Int.fdiv (w : Int) (2 ^ (min ((IntKind.wrap .u64 b) : Int).toNat 64))) (m_spec_l06Most b) = ((w / k % k : Nat) : Int) := by
    rw [f5, Nat.min_eq_left (by omega), fdiv_nat, hm, ← k6, k6, bit_and_mask (by rw [← k6]; exact d1) hbk]
  have q3 : bitop .and .i64 (Int.fdiv (w : Int) (2 ^ (min ((IntKind.wrap .u64 (IntKind.wrap .i64 (2 * b))) : Int).toNat 64))) (m_spec_l06Most b) = ((w / k / k % k : Nat) : Int) := by
    have e : (2 * b).toNat = b.toNat + b.toNat := by omega
    rw [f1, f2, Nat.min_eq_left (by omega), fdiv_nat, hm, e, Nat.pow_add, ← k6, ← Nat.div_div_eq_div_mul, k6, bit_and_mask (by rw [← k6]; exact d2) hbk]
  have q4 : Int.fdiv (w : Int) (2 ^ (min ((IntKind.wrap .u64 (IntKind.wrap .i64 (3 * b))) : Int).toNat 64)) = ((w / k / k / k : Nat) : Int) := by
    have e : (3 * b).toNat = b.toNat + b.toNat + b.toNat := by omega
    rw [f3, f4, Nat.min_eq_left (by omega), fdiv_nat, e, Nat.pow_add, Nat.pow_add, ← k6, ← Nat.div_div_eq_div_mul, ← Nat.div_div_eq_div_mul]
  have hp4 : w / k / k / k < 4 := by
    have e : (3 * b + 2).toNat = b.toNat + b.toNat + b.toNat + 2 := by omega
    rw [e, Nat.pow_add, Nat.pow_add, Nat.pow_add, ← k6] at hw
    rw [Nat.div_div_eq_div_mul, Nat.div_div_eq_div_mul]
    have hk3 : 0 < k * (k * k) := Nat.mul_pos (by omega) (Nat.mul_pos (by omega) (by omega))
    rw [Nat.div_lt_iff_lt_mul hk3]
    have e2 : k * k * k = k * (k * k) := Nat.mul_assoc _ _ _
    rw [e2] at hw
    omega
  have lt : ∀ x : Nat, ((x % k : Nat) : Int) < 2 ^ b.toNat := by
    intro x
    have := Nat.mod_lt x (show 0 < k by omega)
    rw [k6] at this ⊢
    exact_mod_cast this
  have key := fun x : Nat => numberOf_ok (x0 := ((x % k : Nat) : Int)) partRange h1 h2 (by omega) (lt x)
  have hp2 : p_impl_codes b = true := by unfold p_impl_codes; simp; omega
  refine ⟨w / k / k / k, _, _, _, hp4, pp, q4, q3, q2, q1, ?_, ?_⟩
  · unfold p_impl_parts
    rw [hc, hp2]
    simp; omega
  · intro q h
    rcases h with rfl | rfl | rfl
    · exact key _
    · exact key _
    · exact key _
theorem sqrt_zero : m_spec_l01Sqrt 0 = 0 := by decide
theorem openTurn {w : Nat} {b : Int} (h1 : 2 ≤ b) (h2 : b ≤ 16) (hw : w < 2 ^ (3 * b + 2).toNat) :
    m_spec_l06Unpack w b = m_impl_MendTurn (v_impl_UnpackTurn_4 w b, v_impl_UnpackTurn_5 w b, v_impl_UnpackTurn_6 w b, v_impl_UnpackTurn_7 w b) ∧ p_spec_l06Unpack w b = true ∧ p_impl_parts w b = true ∧
    (Option.isSome (l_impl_UnpackTurn_0 w b 6 (0, 0, 0, 0) 1065353216 0 0)) = true ∧ (inB (m_impl_parts w b).1 4) = true := by
  obtain ⟨p, a, m, l, hp, e0, e1, e2, e3, e4, e5, e6⟩ := turnParts h1 h2 hw
  obtain ⟨f1, f2, f3, f4, f5, f6, f7⟩ := bits_facts h1 h2
  obtain ⟨k, k1, k2, k3, k4, k5, k6⟩ := codes_ok h1 h2
  obtain ⟨a1, a2, a3⟩ := e6 a (.inl rfl)
  obtain ⟨m1, m2, m3⟩ := e6 m (.inr (.inl rfl))
  obtain ⟨l1, l2, l3⟩ := e6 l (.inr (.inr rfl))
  have hmost : p_spec_l06Most b = true := by unfold p_spec_l06Most; rw [k4]; simp; omega
  have hM : ∀ t, p_spec_l02Mend t = true := fun t => (mend_eq t).2.2
  have hS : ∀ t, p_spec_l01Sqrt t = true := fun t => sqrt_narrow t
  have hR : ∀ t, m_impl_RootNumber t = m_spec_l01Sqrt t := fun t => rfl
  have hpu : p_spec_l06Unpack w b = true := by
    unfold p_spec_l06Unpack
    simp only [e1, e2, e3, e4, a2, m2, l2, hmost, hM, hS, ite_self, Bool.and_self, Bool.and_true, Bool.true_and]
    simp only [Bool.and_eq_true, decide_eq_true_eq, f1, f2, f3, f4, f5]
    omega
  have hb4 : inB (p : Int) 4 = true := by unfold inB; simp; omega
  refine ⟨?_, hpu, e5, ?_, ?_⟩
  rotate_left
  · have : p = 0 ∨ p = 1 ∨ p = 2 ∨ p = 3 := by omega
    rcases this with rfl | rfl | rfl | rfl <;> simp [l_impl_UnpackTurn_0, e0, atI, inB, need, a1, m1, l1, show IntKind.wrap .i64 1 = 1 by decide, show IntKind.wrap .i64 2 = 2 by decide, show IntKind.wrap .i64 3 = 3 by decide, show IntKind.wrap .i64 4 = 4 by decide]
  · rw [e0]; exact hb4
  · unfold m_spec_l06Unpack v_impl_UnpackTurn_4 v_impl_UnpackTurn_5 v_impl_UnpackTurn_6 v_impl_UnpackTurn_7 v_spec_l06Unpack_3 v_spec_l06Unpack_0 v_spec_l06Unpack_1 v_spec_l06Unpack_2
    simp only [e1, e2, e3, e4, a3, m3, l3, (mend_eq _).1, hR]
    generalize hA : m_impl_numberOf a 3208642560 1061158912 b = A
    generalize hB : m_impl_numberOf m 3208642560 1061158912 b = B
    generalize hC : m_impl_numberOf l 3208642560 1061158912 b = C
    generalize hL : fsub .f32 (fsub .f32 (fsub .f32 1065353216 (fmul .f32 A A)) (fmul .f32 B B)) (fmul .f32 C C) = L
    have hl : Option.getD (l_impl_UnpackTurn_0 w b 6 (0, 0, 0, 0) 1065353216 0 0) default = (L, if p = 0 then (0, A, B, C) else if p = 1 then (A, 0, B, C) else if p = 2 then (A, B, 0, C) else (A, B, C, 0)) := by
      have : p = 0 ∨ p = 1 ∨ p = 2 ∨ p = 3 := by omega
      rcases this with rfl | rfl | rfl | rfl <;> simp [l_impl_UnpackTurn_0, v_impl_UnpackTurn_3, e0, atI, inB, need, a1, m1, l1, hA, hB, hC, hL, show IntKind.wrap .i64 1 = 1 by decide, show IntKind.wrap .i64 2 = 2 by decide, show IntKind.wrap .i64 3 = 3 by decide, show IntKind.wrap .i64 4 = 4 by decide]
    rw [hl, e0]
    by_cases h : flt .f32 0 L = true
    · have : p = 0 ∨ p = 1 ∨ p = 2 ∨ p = 3 := by omega
      rcases this with rfl | rfl | rfl | rfl <;> simp [h, atI]
    · have h' : flt .f32 0 L = false := by simpa using h
      have : p = 0 ∨ p = 1 ∨ p = 2 ∨ p = 3 := by omega
      rcases this with rfl | rfl | rfl | rfl <;> simp [h', atI, sqrt_zero]
theorem unpackTurn_eq (x0 b : Int) : m_spec_UnpackTurn x0 b = m_impl_UnpackTurn x0 b ∧ p_spec_UnpackTurn x0 b = true ∧ p_impl_UnpackTurn x0 b = true := by
  have hM : ∀ t, p_impl_MendTurn t = true := fun t => (mend_eq t).2.1
  have hS : ∀ t, p_impl_RootNumber t = true := fun t => sqrt_narrow t
  have e2 : m_spec_l06Bits b = m_impl_areBits b := rfl
  unfold m_spec_UnpackTurn m_impl_UnpackTurn p_spec_UnpackTurn p_impl_UnpackTurn v_spec_UnpackTurn_0
  rw [e2]
  by_cases hb : m_impl_areBits b = true
  · have hb' := hb
    unfold m_impl_areBits at hb'
    have h12 : 2 ≤ b ∧ b ≤ 16 := by
      have := and_of hb'
      exact ⟨of_decide_eq_true this.1, of_decide_eq_true this.2⟩
    obtain ⟨f1, f2, f3, f4, f5, f6, f7⟩ := bits_facts h12.1 h12.2
    have g1 : IntKind.wrap .i64 (3 * b + 2) = 3 * b + 2 ∧ IntKind.wrap .u64 (3 * b + 2) = 3 * b + 2 ∧ IntKind.wrap .i64 (1 * 2 ^ (min (3 * b + 2).toNat 64)) = ((2 ^ (3 * b + 2).toNat : Nat) : Int) ∧ IntKind.wrap .i64 (((2 ^ (3 * b + 2).toNat : Nat) : Int) - 1) = ((2 ^ (3 * b + 2).toNat : Nat) : Int) - 1 ∧ IntKind.wrap .i64 (4 * ((2 ^ (3 * b).toNat : Nat) : Int)) = ((2 ^ (3 * b + 2).toNat : Nat) : Int) := by
      have : b = 2 ∨ b = 3 ∨ b = 4 ∨ b = 5 ∨ b = 6 ∨ b = 7 ∨ b = 8 ∨ b = 9 ∨ b = 10 ∨ b = 11 ∨ b = 12 ∨ b = 13 ∨ b = 14 ∨ b = 15 ∨ b = 16 := by omega
      rcases this with rfl | rfl | rfl | rfl | rfl | rfl | rfl | rfl | rfl | rfl | rfl | rfl | rfl | rfl | rfl
      all_goals exact ⟨by decide, by decide, by decide, by decide, by decide⟩
    obtain ⟨g1, g2, g3, g4, g5⟩ := g1
    have hc : m_impl_codes (3 * b) = ((2 ^ (3 * b).toNat : Nat) : Int) := by unfold m_impl_codes; exact f6
    have hpc : p_impl_codes (3 * b) = true := by unfold p_impl_codes; simp; omega
    simp only [hb, f3, f4, f6, f7, hc, hpc, g1, g2, g3, g4, g5, if_true, m_spec_l00In]
    by_cases h0 : x0 < 0
    · simp [h0, show ¬ 0 ≤ x0 by omega]; omega
    · obtain ⟨w, rfl⟩ : ∃ w : Nat, x0 = w := ⟨x0.toNat, by omega⟩
      by_cases h1 : ((2 ^ (3 * b + 2).toNat : Nat) : Int) ≤ (w : Int)
      · simp only [h0, h1, show ¬ (w : Int) ≤ ((2 ^ (3 * b + 2).toNat : Nat) : Int) - 1 by omega, decide_true, decide_false, if_true, if_false, Bool.false_eq_true]
        simp; omega
      · obtain ⟨n1, n2, n3, n4, n5⟩ := openTurn (w := w) h12.1 h12.2 (by omega)
        simp only [h0, h1, n1, n2, n3, n4, n5, hM, hS, show (w : Int) ≤ ((2 ^ (3 * b + 2).toNat : Nat) : Int) - 1 by omega, show (0 : Int) ≤ (w : Int) by omega, decide_true, decide_false, if_true, if_false, Bool.false_eq_true]
        simp; omega
  · have hb' : m_impl_areBits b = false := by simpa using hb
    simp [hb']
theorem law_UnpackTurn (x0 : Int) (_ : (Lit.int .i64 x0).wf = true) (x1 : Int) (_ : (Lit.int .i64 x1).wf = true) : g_laws_FnExactUnpackTurn [.int .i64 x0, .int .i64 x1] = some (.bool true) := by
  obtain ⟨k1, k2, k3⟩ := unpackTurn_eq x0 x1
  have h1 : p_laws_FnExactUnpackTurn x0 x1 = true := by unfold p_laws_FnExactUnpackTurn; rw [k2, k3]; rfl
  have h2 : m_laws_FnExactUnpackTurn x0 x1 = true := by unfold m_laws_FnExactUnpackTurn; rw [k1, eqTurn_refl]; simp
  unfold g_laws_FnExactUnpackTurn
  simp [h1, h2]
end Go.Proofs
