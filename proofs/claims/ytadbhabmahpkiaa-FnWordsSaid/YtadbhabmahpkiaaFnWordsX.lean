/- What functions that FnWords reaches compute, and that the program's and the reference's answers are the same. No conditions. -/
import Derived.Test.YtadbhabmahpkiaaFwF
import Derived.Test.YtadbhabmahpkiaaProg
import Derived.KernelRfl
set_option maxRecDepth 100000
set_option maxHeartbeats 4000000
set_option linter.all false
namespace Go.Proofs
open Go.Ab
theorem hm : Try.prog.follows .mixedOrders = true := by kernel_rfl
theorem fc0 : (min 0 8 : Nat) = 0 := by decide
theorem fc1 : (min 1 64 : Nat) = 1 := by decide
theorem fc2 : (min 1 8 : Nat) = 1 := by decide
theorem fc3 : (min 2 8 : Nat) = 2 := by decide
theorem fc4 : (min 3 8 : Nat) = 3 := by decide
theorem fc5 : (min 4 8 : Nat) = 4 := by decide
theorem fc6 : (min 5 8 : Nat) = 5 := by decide
theorem fc7 : (min 6 8 : Nat) = 6 := by decide
theorem fc8 : (min 7 8 : Nat) = 7 := by decide
theorem fc9 : IntKind.wrap .i64 0 = 0 := by decide
theorem fc10 : IntKind.wrap .i64 1 = 1 := by decide
theorem fc11 : IntKind.wrap .i64 10 = 10 := by decide
theorem fc12 : IntKind.wrap .i64 11 = 11 := by decide
theorem fc13 : IntKind.wrap .i64 12 = 12 := by decide
theorem fc14 : IntKind.wrap .i64 13 = 13 := by decide
theorem fc15 : IntKind.wrap .i64 14 = 14 := by decide
theorem fc16 : IntKind.wrap .i64 15 = 15 := by decide
theorem fc17 : IntKind.wrap .i64 16 = 16 := by decide
theorem fc18 : IntKind.wrap .i64 17 = 17 := by decide
theorem fc19 : IntKind.wrap .i64 18 = 18 := by decide
theorem fc20 : IntKind.wrap .i64 19 = 19 := by decide
theorem fc21 : IntKind.wrap .i64 2 = 2 := by decide
theorem fc22 : IntKind.wrap .i64 20 = 20 := by decide
theorem fc23 : IntKind.wrap .i64 21 = 21 := by decide
theorem fc24 : IntKind.wrap .i64 22 = 22 := by decide
theorem fc25 : IntKind.wrap .i64 23 = 23 := by decide
theorem fc26 : IntKind.wrap .i64 24 = 24 := by decide
theorem fc27 : IntKind.wrap .i64 25 = 25 := by decide
theorem fc28 : IntKind.wrap .i64 26 = 26 := by decide
theorem fc29 : IntKind.wrap .i64 27 = 27 := by decide
theorem fc30 : IntKind.wrap .i64 28 = 28 := by decide
theorem fc31 : IntKind.wrap .i64 29 = 29 := by decide
theorem fc32 : IntKind.wrap .i64 3 = 3 := by decide
theorem fc33 : IntKind.wrap .i64 30 = 30 := by decide
theorem fc34 : IntKind.wrap .i64 31 = 31 := by decide
theorem fc35 : IntKind.wrap .i64 32 = 32 := by decide
theorem fc36 : IntKind.wrap .i64 33 = 33 := by decide
theorem fc37 : IntKind.wrap .i64 34 = 34 := by decide
theorem fc38 : IntKind.wrap .i64 35 = 35 := by decide
theorem fc39 : IntKind.wrap .i64 36 = 36 := by decide
theorem fc40 : IntKind.wrap .i64 37 = 37 := by decide
theorem fc41 : IntKind.wrap .i64 38 = 38 := by decide
theorem fc42 : IntKind.wrap .i64 39 = 39 := by decide
theorem fc43 : IntKind.wrap .i64 4 = 4 := by decide
theorem fc44 : IntKind.wrap .i64 40 = 40 := by decide
theorem fc45 : IntKind.wrap .i64 41 = 41 := by decide
theorem fc46 : IntKind.wrap .i64 42 = 42 := by decide
theorem fc47 : IntKind.wrap .i64 43 = 43 := by decide
theorem fc48 : IntKind.wrap .i64 44 = 44 := by decide
theorem fc49 : IntKind.wrap .i64 45 = 45 := by decide
theorem fc50 : IntKind.wrap .i64 46 = 46 := by decide
theorem fc51 : IntKind.wrap .i64 47 = 47 := by decide
theorem fc52 : IntKind.wrap .i64 48 = 48 := by decide
theorem fc53 : IntKind.wrap .i64 49 = 49 := by decide
theorem fc54 : IntKind.wrap .i64 5 = 5 := by decide
theorem fc55 : IntKind.wrap .i64 50 = 50 := by decide
theorem fc56 : IntKind.wrap .i64 51 = 51 := by decide
theorem fc57 : IntKind.wrap .i64 52 = 52 := by decide
theorem fc58 : IntKind.wrap .i64 53 = 53 := by decide
theorem fc59 : IntKind.wrap .i64 54 = 54 := by decide
theorem fc60 : IntKind.wrap .i64 55 = 55 := by decide
theorem fc61 : IntKind.wrap .i64 56 = 56 := by decide
theorem fc62 : IntKind.wrap .i64 57 = 57 := by decide
theorem fc63 : IntKind.wrap .i64 58 = 58 := by decide
theorem fc64 : IntKind.wrap .i64 59 = 59 := by decide
theorem fc65 : IntKind.wrap .i64 6 = 6 := by decide
theorem fc66 : IntKind.wrap .i64 60 = 60 := by decide
theorem fc67 : IntKind.wrap .i64 61 = 61 := by decide
theorem fc68 : IntKind.wrap .i64 62 = 62 := by decide
theorem fc69 : IntKind.wrap .i64 63 = 63 := by decide
theorem fc70 : IntKind.wrap .i64 64 = 64 := by decide
theorem fc71 : IntKind.wrap .i64 65 = 65 := by decide
theorem fc72 : IntKind.wrap .i64 66 = 66 := by decide
theorem fc73 : IntKind.wrap .i64 67 = 67 := by decide
theorem fc74 : IntKind.wrap .i64 68 = 68 := by decide
theorem fc75 : IntKind.wrap .i64 69 = 69 := by decide
theorem fc76 : IntKind.wrap .i64 7 = 7 := by decide
theorem fc77 : IntKind.wrap .i64 70 = 70 := by decide
theorem fc78 : IntKind.wrap .i64 8 = 8 := by decide
theorem fc79 : IntKind.wrap .i64 9 = 9 := by decide
theorem fc80 : inB 0 1 = true := by decide
def grpK := And.intro fc0 <| And.intro fc1 <| And.intro fc2 <| And.intro fc3 <| And.intro fc4 <| And.intro fc5 <| And.intro fc6 <| And.intro fc7 <| And.intro fc8 <| And.intro fc9 <| And.intro fc10 <| And.intro fc11 <| And.intro fc12 <| And.intro fc13 <| And.intro fc14 <| And.intro fc15 <| And.intro fc16 <| And.intro fc17 <| And.intro fc18 <| And.intro fc19 <| And.intro fc20 <| And.intro fc21 <| And.intro fc22 <| And.intro fc23 <| And.intro fc24 <| And.intro fc25 <| And.intro fc26 <| And.intro fc27 <| And.intro fc28 <| And.intro fc29 <| And.intro fc30 <| And.intro fc31 <| And.intro fc32 <| And.intro fc33 <| And.intro fc34 <| And.intro fc35 <| And.intro fc36 <| And.intro fc37 <| And.intro fc38 <| And.intro fc39 <| And.intro fc40 <| And.intro fc41 <| And.intro fc42 <| And.intro fc43 <| And.intro fc44 <| And.intro fc45 <| And.intro fc46 <| And.intro fc47 <| And.intro fc48 <| And.intro fc49 <| And.intro fc50 <| And.intro fc51 <| And.intro fc52 <| And.intro fc53 <| And.intro fc54 <| And.intro fc55 <| And.intro fc56 <| And.intro fc57 <| And.intro fc58 <| And.intro fc59 <| And.intro fc60 <| And.intro fc61 <| And.intro fc62 <| And.intro fc63 <| And.intro fc64 <| And.intro fc65 <| And.intro fc66 <| And.intro fc67 <| And.intro fc68 <| And.intro fc69 <| And.intro fc70 <| And.intro fc71 <| And.intro fc72 <| And.intro fc73 <| And.intro fc74 <| And.intro fc75 <| And.intro fc76 <| And.intro fc77 <| And.intro fc78 <| And.intro fc79 fc80
def m_laws_r8Long (x0 : (List Int)) (x1 : (List Int)) : Bool := (if (decide (48 < ((List.length x0 : Nat) : Int))) = true then true else (decide (48 < ((List.length x1 : Nat) : Int))))
def g_laws_r8Long : List AV → Option AV
  | [.sl w0, .sl w1] => (match decL dU8 w0 with | some y0 => ((match decL dU8 w1 with | some y1 => (some (.bool (m_laws_r8Long y0 y1))) | none => none)) | none => none)
  | _ => none
def ic6 : ICode := (.seq (.reg [⟨(some 4), none, (.mov (.c (.bool false)))⟩] [0, 1]) (.seq (.reg [⟨(some 5), none, (.mov (.t 0))⟩, ⟨(some 6), none, (.len false (.t 5))⟩, ⟨(some 7), none, (.bin .gtr false (.t 6) (.c (.int .i64 48)))⟩, ⟨(some 8), none, (.mov (.t 7))⟩, ⟨(some 9), (some (8, false)), (.mov (.t 1))⟩, ⟨(some 10), (some (8, false)), (.len false (.t 9))⟩, ⟨(some 11), (some (8, false)), (.bin .gtr false (.t 10) (.c (.int .i64 48)))⟩, ⟨(some 12), none, (.pick (.t 8) (.c (.bool true)) (.t 11))⟩, ⟨(some 4), none, (.mov (.t 12))⟩] [4]) .ret))
def cp6 : CP := CP.mk [] [] [[0, 1], [4]] 13 [] []
theorem s6 : ∀ vs r, g_laws_r8Long vs = some r → SaysM Try.prog .any 6 vs r := by
  intro vs r h
  unfold g_laws_r8Long at h
  split at h
  · rename_i w0 w1
    cases hd_y0 : decL dU8 w0 with
    | none => rw [hd_y0] at h; cases h
    | some y0 =>
    rw [hd_y0] at h
    obtain rfl := decL_inv dU8_inv hd_y0
    clear hd_y0
    dsimp only at h
    cases hd_y1 : decL dU8 w1 with
    | none => rw [hd_y1] at h; cases h
    | some y1 =>
    rw [hd_y1] at h
    obtain rfl := decL_inv dU8_inv hd_y1
    clear hd_y1
    dsimp only at h
    cases h
    refine spec_of (m := .any) (tab := tabOf []) (cp := cp6) (ic := ic6) (rvl := [(.t 4)]) hm tabOk_nil Try.func6 rfl rfl rfl (by kernel_rfl) rfl (Nat.le_of_ble_eq_true rfl) (Nat.le_of_ble_eq_true rfl) ?_
    show eA _ _ _ _
    unfold ic6
    refine eS_to ?_
    repeat' (first
      | ((first | (have h := True.intro; refine eS_of ?_) | (refine eGI_of (fun h => ?_) (fun h => ?_)) | (refine eCc_of (fun h => ?_) (fun h => ?_)) | (refine ePk_of (fun h => ?_) (fun h => ?_))) <;> (try simp only [Bool.not_eq_true', Bool.not_eq_false'] at h) <;> (try first | exact absurd (Eq.trans (Eq.symm h) (by assumption)) Bool.false_ne_true | exact absurd (Eq.trans (Eq.symm h) (by assumption)) (Ne.symm Bool.false_ne_true)) <;> simp only [h,
        grpA, vsliceS, grpS, grpD, grpF, grpL, eop, vop, bop, uop, fltop, convop, endOk, newE, new1, freshL, Md.isNew, outV, pureV, pureX, pure1, AV.cells, AV.one, storable, laid, refless, refless1, vload, loadC, storeC, vnil, vfaddr, vextract, flatT, flatE, flatC, vconv, vmm, vidxA, viaddrA, vfield, vlen, elemsOf, dF32, dF64, dI64, dU8, dBool, dStr, esOk, elemsS, vsliceX, bnd, ownV, ownC, own1, ownT, isSl, nSl, endL, Md.isOwn, purge, purgeH, purgeB, purgeE, hasName, name1, List.any_cons, List.any_nil, Md.isWr, pureV.pureP, Option.map, reduceIte, Nat.reduceEqDiff, Nat.reduceAdd, Nat.reduceMul, Nat.reduceLT, Nat.reduceLeDiff, List.mapM_cons, List.mapM_nil, Option.pure_def, Option.bind_eq_bind, Option.bind_some, implies_true, forall_const, beq_self_eq_true, decide_true, decide_false, eq_self, Int.reduceEq, Int.reduceLE, Int.reduceLT, if_true, if_false, grpK, Int.reduceAdd, Int.reduceSub, Int.reduceMul, Int.reduceNeg, Int.reducePow, Nat.reducePow, Int.reduceToNat, Nat.reduceSub, List.replicate, Nat.reduceBEq, wAs, wA, wC, zipW, noDupN, grpE, beq_true, beq_false, ↓b_pick, ePk_true, ePk_false]))
    all_goals (try simp only [*, m_laws_r8Long, Bool.and_true, Bool.true_and, Bool.and_false, Bool.false_and, Bool.or_true, Bool.true_or, Bool.or_false, Bool.false_or, Bool.not_true, Bool.not_false, Bool.false_eq_true, if_true, if_false, reduceIte, decide_true, decide_false])
    all_goals (try (simp_all; done))
  · cases h
def m_laws_r8At (x0 : (List Int)) (x1 : Int) (x2 : Int) : Int := (if (decide (x2 ≤ 1)) = true then 0 else (if (decide (((List.length x0 : Nat) : Int) ≤ x1)) = true then 0 else (Int.tmod (IntKind.wrap .i64 (atI x0 x1)) x2)))
def p_laws_r8At (x0 : (List Int)) (x1 : Int) (x2 : Int) : Bool := ((decide (x2 ≤ 1)) || ((decide (((List.length x0 : Nat) : Int) ≤ x1)) || ((inB x1 (List.length x0)) && (!(decide (x2 = 0))))))
def g_laws_r8At : List AV → Option AV
  | [.sl w0, .int .i64 y1, .int .i64 y2] => (match decL dU8 w0 with | some y0 => (if p_laws_r8At y0 y1 y2 = true then some (.int .i64 (m_laws_r8At y0 y1 y2)) else none) | none => none)
  | _ => none
def ic7 : ICode := (.seq (.reg [⟨(some 6), none, (.mov (.c (.int .i64 0)))⟩] [0, 1, 2]) (.seq (.seq (.reg [⟨(some 7), none, (.mov (.t 2))⟩, ⟨(some 8), none, (.bin .leq false (.t 7) (.c (.int .i64 1)))⟩, ⟨(some 9), none, (.mov (.t 8))⟩, ⟨(some 10), (some (9, false)), (.mov (.t 1))⟩, ⟨(some 11), (some (9, false)), (.mov (.t 0))⟩, ⟨(some 12), (some (9, false)), (.len false (.t 11))⟩, ⟨(some 13), (some (9, false)), (.bin .geq false (.t 10) (.t 12))⟩, ⟨(some 14), none, (.pick (.t 9) (.c (.bool true)) (.t 13))⟩] [0, 1, 2, 14]) (.cond (.t 14) (.seq (.reg [⟨(some 6), none, (.mov (.c (.int .i64 0)))⟩] [6]) .ret) .skip)) (.seq (.reg [⟨(some 15), none, (.mov (.t 0))⟩, ⟨(some 16), none, (.mov (.t 1))⟩, ⟨(some 17), none, (.iaddrS 1 (.t 15) (.t 16))⟩, ⟨(some 18), none, (.load none (.t 17))⟩, ⟨(some 19), none, (.conv (.int .i64) (.t 18))⟩, ⟨(some 20), none, (.mov (.t 2))⟩, ⟨(some 21), none, (.bin .rem false (.t 19) (.t 20))⟩, ⟨(some 6), none, (.mov (.t 21))⟩] [6]) .ret)))
def cp7 : CP := CP.mk [] [] [[0, 1, 2], [0, 1, 2, 14], [6], [6]] 22 [] []
theorem s7 : ∀ vs r, g_laws_r8At vs = some r → SaysM Try.prog .any 7 vs r := by
  intro vs r h
  unfold g_laws_r8At at h
  split at h
  · rename_i w0 y1 y2
    cases hd_y0 : decL dU8 w0 with
    | none => rw [hd_y0] at h; cases h
    | some y0 =>
    rw [hd_y0] at h
    obtain rfl := decL_inv dU8_inv hd_y0
    clear hd_y0
    dsimp only at h
    split at h
    · rename_i hp
      cases h
      refine spec_of (m := .any) (tab := tabOf []) (cp := cp7) (ic := ic7) (rvl := [(.t 6)]) hm tabOk_nil Try.func7 rfl rfl rfl (by kernel_rfl) rfl (Nat.le_of_ble_eq_true rfl) (Nat.le_of_ble_eq_true rfl) ?_
      show eA _ _ _ _
      unfold ic7
      simp only [p_laws_r8At, Bool.and_eq_true, Bool.or_eq_true, decide_eq_true_eq, Bool.not_eq_true', decide_eq_false_iff_not] at hp
      refine eS_to ?_
      repeat' (first
        | ((first | (have h := True.intro; refine eS_of ?_) | (refine eGI_of (fun h => ?_) (fun h => ?_)) | (refine eCc_of (fun h => ?_) (fun h => ?_)) | (refine ePk_of (fun h => ?_) (fun h => ?_))) <;> (try simp only [Bool.not_eq_true', Bool.not_eq_false'] at h) <;> (try first | exact absurd (Eq.trans (Eq.symm h) (by assumption)) Bool.false_ne_true | exact absurd (Eq.trans (Eq.symm h) (by assumption)) (Ne.symm Bool.false_ne_true)) <;> (try simp only [h, reduceCtorEq, grpN, Int.reduceEq, Int.reduceLT, Int.reduceLE, if_true, if_false, reduceIte] at hp) <;> (first | (have h2 := h; simp only [decide_eq_true_eq, decide_eq_false_iff_not] at h2; (first | (replace h2 := eq_false h2) | (replace h2 := eq_true h2)); (try simp only [h2, reduceCtorEq, grpN, Int.reduceEq, Int.reduceLT, Int.reduceLE, if_true, if_false, reduceIte] at hp); replace hp := And.intro h2 hp) | (replace hp := And.intro h hp) | skip) <;> simp only [h,
          hp, grpA, vsliceS, grpS, grpD, grpF, grpL, eop, vop, bop, uop, fltop, convop, endOk, newE, new1, freshL, Md.isNew, outV, pureV, pureX, pure1, AV.cells, AV.one, storable, laid, refless, refless1, vload, loadC, storeC, vnil, vfaddr, vextract, flatT, flatE, flatC, vconv, vmm, vidxA, viaddrA, vfield, vlen, elemsOf, dF32, dF64, dI64, dU8, dBool, dStr, esOk, elemsS, vsliceX, bnd, ownV, ownC, own1, ownT, isSl, nSl, endL, Md.isOwn, purge, purgeH, purgeB, purgeE, hasName, name1, List.any_cons, List.any_nil, Md.isWr, pureV.pureP, Option.map, reduceIte, Nat.reduceEqDiff, Nat.reduceAdd, Nat.reduceMul, Nat.reduceLT, Nat.reduceLeDiff, List.mapM_cons, List.mapM_nil, Option.pure_def, Option.bind_eq_bind, Option.bind_some, implies_true, forall_const, beq_self_eq_true, decide_true, decide_false, eq_self, Int.reduceEq, Int.reduceLE, Int.reduceLT, if_true, if_false, grpK, Int.reduceAdd, Int.reduceSub, Int.reduceMul, Int.reduceNeg, Int.reducePow, Nat.reducePow, Int.reduceToNat, Nat.reduceSub, List.replicate, Nat.reduceBEq, wAs, wA, wC, zipW, noDupN, grpE, beq_true, beq_false, ↓b_pick, ePk_true, ePk_false]))
      all_goals (try simp only [*, m_laws_r8At, Bool.and_true, Bool.true_and, Bool.and_false, Bool.false_and, Bool.or_true, Bool.true_or, Bool.or_false, Bool.false_or, Bool.not_true, Bool.not_false, Bool.false_eq_true, if_true, if_false, reduceIte, decide_true, decide_false])
      all_goals (try (simp_all; done))
    · cases h
  · cases h
def l_impl_areSizes_0 (x0 : (List Int)) : Nat → Int → Option (Bool × Bool × Unit)
  | 0, _ => none
  | n + 1, z0_0 => (if (decide (z0_0 < ((List.length x0 : Nat) : Int))) = true then (need (inB z0_0 (List.length x0)) (if (decide ((atI x0 z0_0) < 1)) = true then (some (true, false, default)) else (if (decide (62 < (atI x0 z0_0))) = true then (some (true, false, default)) else (l_impl_areSizes_0 x0 n (IntKind.wrap .i64 (z0_0 + 1)))))) else (some (false, default, ())))
def m_impl_areSizes (x0 : (List Int)) : Bool := (if (Option.getD (l_impl_areSizes_0 x0 (Int.toNat (((List.length x0 : Nat) : Int) - 0) + 2) 0) default).1 = true then (Option.getD (l_impl_areSizes_0 x0 (Int.toNat (((List.length x0 : Nat) : Int) - 0) + 2) 0) default).2.1 else (decide (((List.length x0 : Nat) : Int) ≤ 512)))
def p_impl_areSizes (x0 : (List Int)) : Bool := (Option.isSome (l_impl_areSizes_0 x0 (Int.toNat (((List.length x0 : Nat) : Int) - 0) + 2) 0))
def g_impl_areSizes : List AV → Option AV
  | [.sl w0] => (match decL dI64 w0 with | some y0 => (if p_impl_areSizes y0 = true then some (.bool (m_impl_areSizes y0)) else none) | none => none)
  | _ => none
def lb20_0 : ICode := (.seq (.reg [⟨(some 8), none, (.bin .lss false (.t 7) (.t 6))⟩] [0, 5, 6, 7, 8]) (.seq (.cond (.t 8) .skip (.exit 0)) (.seq (.block 1 (.seq (.reg [⟨(some 9), none, (.iaddrS 1 (.t 5) (.t 7))⟩, ⟨(some 10), none, (.load none (.t 9))⟩, ⟨(some 4), none, (.mov (.t 10))⟩] [0, 4, 5, 6, 7]) (.seq (.reg [⟨(some 11), none, (.mov (.t 4))⟩, ⟨(some 12), none, (.bin .lss false (.t 11) (.c (.int .i64 1)))⟩, ⟨(some 13), none, (.mov (.t 12))⟩, ⟨(some 14), (some (13, false)), (.mov (.t 4))⟩, ⟨(some 15), (some (13, false)), (.bin .gtr false (.t 14) (.c (.int .i64 62)))⟩, ⟨(some 16), none, (.pick (.t 13) (.c (.bool true)) (.t 15))⟩] [0, 5, 6, 7, 16]) (.cond (.t 16) (.seq (.reg [⟨(some 2), none, (.mov (.c (.bool false)))⟩] [2]) .ret) .skip)))) (.reg [⟨(some 17), none, (.bin .add false (.t 7) (.c (.int .i64 1)))⟩, ⟨(some 7), none, (.mov (.t 17))⟩] [0, 5, 6, 7]))))
def ic20 : ICode := (.seq (.reg [⟨(some 2), none, (.mov (.c (.bool false)))⟩] [0]) (.seq (.seq (.reg [⟨(some 5), none, (.mov (.t 0))⟩, ⟨(some 6), none, (.len false (.t 5))⟩, ⟨(some 7), none, (.mov (.c (.int .i64 0)))⟩] [0, 5, 6, 7]) (.block 0 (.loop lb20_0))) (.seq (.reg [⟨(some 18), none, (.mov (.t 0))⟩, ⟨(some 19), none, (.len false (.t 18))⟩, ⟨(some 20), none, (.bin .leq false (.t 19) (.c (.int .i64 512)))⟩, ⟨(some 2), none, (.mov (.t 20))⟩] [2]) .ret)))
def cp20 : CP := CP.mk [] [] [[0], [0, 5, 6, 7], [0, 5, 6, 7, 8], [0, 4, 5, 6, 7], [0, 5, 6, 7, 16], [2], [0, 5, 6, 7], [2]] 21 [] []
theorem sl20_0 (x0 : (List Int)) : ∀ (n : Nat) (z0_0 : Int) (o : (Bool × Bool × Unit)) (K : IExit → St → Prop), l_impl_areSizes_0 x0 n z0_0 = some o → (∀ st, o.1 = true → outM .any st [(.t 2)] = some (.bool o.2.1) → K .ret st) → (∀ st, o.1 = false → Wk st (⟨[(0, (.sl (List.map (AV.int .i64) x0)))], []⟩ : St) → K (.exit 0) st) → eA (tabOf []) (.loop lb20_0) (⟨[(0, (.sl (List.map (AV.int .i64) x0))), (5, (.sl (List.map (AV.int .i64) x0))), (6, (.int .i64 ((List.length x0 : Nat) : Int))), (7, (.int .i64 z0_0))], []⟩ : St) K := by
  intro n
  induction n with
  | zero =>
    intro z0_0 o K h h0 h1
    simp only [l_impl_areSizes_0, reduceCtorEq] at h
  | succ n ih =>
    intro z0_0 o K h h0 h1
    refine eA_loop ?_
    unfold lb20_0
    unfold l_impl_areSizes_0 at h
    (try simp only [need_iff] at h)
    simp only [
      need_iff, h, grpA, vsliceS, grpS, grpD, grpF, grpL, eop, vop, bop, uop, fltop, convop, endOk, newE, new1, freshL, Md.isNew, outV, pureV, pureX, pure1, AV.cells, AV.one, storable, laid, refless, refless1, vload, loadC, storeC, vnil, vfaddr, vextract, flatT, flatE, flatC, vconv, vmm, vidxA, viaddrA, vfield, vlen, elemsOf, dF32, dF64, dI64, dU8, dBool, dStr, esOk, elemsS, vsliceX, bnd, ownV, ownC, own1, ownT, isSl, nSl, endL, Md.isOwn, purge, purgeH, purgeB, purgeE, hasName, name1, List.any_cons, List.any_nil, Md.isWr, pureV.pureP, Option.map, reduceIte, Nat.reduceEqDiff, Nat.reduceAdd, Nat.reduceMul, Nat.reduceLT, Nat.reduceLeDiff, List.mapM_cons, List.mapM_nil, Option.pure_def, Option.bind_eq_bind, Option.bind_some, implies_true, forall_const, beq_self_eq_true, decide_true, decide_false, eq_self, Int.reduceEq, Int.reduceLE, Int.reduceLT, if_true, if_false, grpK, Int.reduceAdd, Int.reduceSub, Int.reduceMul, Int.reduceNeg, Int.reducePow, Nat.reducePow, Int.reduceToNat, Nat.reduceSub, List.replicate, Nat.reduceBEq, wAs, wA, wC, zipW, noDupN, grpE, beq_true, beq_false, ↓b_pick, ePk_true, ePk_false]
    repeat' (first
      | ((first | (refine eGI_of (fun hc => ?_) (fun hc => ?_)) | (refine eCc_of (fun hc => ?_) (fun hc => ?_)) | (refine ePk_of (fun hc => ?_) (fun hc => ?_)) | (have hc := True.intro; refine KW_refl ?_)) <;> (try simp only [Bool.not_eq_true', Bool.not_eq_false'] at hc) <;> (try simp only [hc, need_iff, reduceCtorEq, grpN, Int.reduceEq, Int.reduceLT, Int.reduceLE, if_true, if_false, reduceIte] at h) <;> (first | (have hc2 := hc; simp only [decide_eq_true_eq, decide_eq_false_iff_not] at hc2; (first | (replace hc2 := eq_false hc2) | (replace hc2 := eq_true hc2)); (try simp only [hc2, need_iff, reduceCtorEq, grpN, Int.reduceEq, Int.reduceLT, Int.reduceLE, if_true, if_false, reduceIte] at h); replace h := And.intro hc2 h) | (replace h := And.intro hc h) | skip) <;> simp only [hc,
      need_iff, h, grpA, vsliceS, grpS, grpD, grpF, grpL, eop, vop, bop, uop, fltop, convop, endOk, newE, new1, freshL, Md.isNew, outV, pureV, pureX, pure1, AV.cells, AV.one, storable, laid, refless, refless1, vload, loadC, storeC, vnil, vfaddr, vextract, flatT, flatE, flatC, vconv, vmm, vidxA, viaddrA, vfield, vlen, elemsOf, dF32, dF64, dI64, dU8, dBool, dStr, esOk, elemsS, vsliceX, bnd, ownV, ownC, own1, ownT, isSl, nSl, endL, Md.isOwn, purge, purgeH, purgeB, purgeE, hasName, name1, List.any_cons, List.any_nil, Md.isWr, pureV.pureP, Option.map, reduceIte, Nat.reduceEqDiff, Nat.reduceAdd, Nat.reduceMul, Nat.reduceLT, Nat.reduceLeDiff, List.mapM_cons, List.mapM_nil, Option.pure_def, Option.bind_eq_bind, Option.bind_some, implies_true, forall_const, beq_self_eq_true, decide_true, decide_false, eq_self, Int.reduceEq, Int.reduceLE, Int.reduceLT, if_true, if_false, grpK, Int.reduceAdd, Int.reduceSub, Int.reduceMul, Int.reduceNeg, Int.reducePow, Nat.reducePow, Int.reduceToNat, Nat.reduceSub, List.replicate, Nat.reduceBEq, wAs, wA, wC, zipW, noDupN, grpE, beq_true, beq_false, ↓b_pick, ePk_true, ePk_false]))
    all_goals (have hf := h)
    all_goals (repeat (replace h := And.right h))
    all_goals ((first | (refine eA_wk (wk_norm (ks := [0, 5, 6, 7]) (ls := []) ?_) (eA_cast ?_ (ih _ _ _ h h0 h1))) | (cases h; have h := True.intro; refine h0 _ rfl ?_) | (cases h; have h := True.intro; refine h1 _ rfl (Wk.cast (wk_norm (ks := [0]) (ls := []) ?_) ?_))) <;> simp only [normOk, optIn, blkIn, nameIn, normS, List.map_append, List.length_append, List.map_set, List.length_set, List.map_replicate, List.length_replicate, List.map_nil, List.map_cons,
      need_iff, h, hf, grpA, vsliceS, grpS, grpD, grpF, grpL, eop, vop, bop, uop, fltop, convop, endOk, newE, new1, freshL, Md.isNew, outV, pureV, pureX, pure1, AV.cells, AV.one, storable, laid, refless, refless1, vload, loadC, storeC, vnil, vfaddr, vextract, flatT, flatE, flatC, vconv, vmm, vidxA, viaddrA, vfield, vlen, elemsOf, dF32, dF64, dI64, dU8, dBool, dStr, esOk, elemsS, vsliceX, bnd, ownV, ownC, own1, ownT, isSl, nSl, endL, Md.isOwn, purge, purgeH, purgeB, purgeE, hasName, name1, List.any_cons, List.any_nil, Md.isWr, pureV.pureP, Option.map, reduceIte, Nat.reduceEqDiff, Nat.reduceAdd, Nat.reduceMul, Nat.reduceLT, Nat.reduceLeDiff, List.mapM_cons, List.mapM_nil, Option.pure_def, Option.bind_eq_bind, Option.bind_some, implies_true, forall_const, beq_self_eq_true, decide_true, decide_false, eq_self, Int.reduceEq, Int.reduceLE, Int.reduceLT, if_true, if_false, grpK, Int.reduceAdd, Int.reduceSub, Int.reduceMul, Int.reduceNeg, Int.reducePow, Nat.reducePow, Int.reduceToNat, Nat.reduceSub, List.replicate, Nat.reduceBEq, wAs, wA, wC, zipW, noDupN, grpE, beq_true, beq_false, ↓b_pick, ePk_true, ePk_false] <;> first | rfl | (simp only [Nat.add_comm]; done))
theorem s20 : ∀ vs r, g_impl_areSizes vs = some r → SaysM Try.prog .any 20 vs r := by
  intro vs r h
  unfold g_impl_areSizes at h
  split at h
  · rename_i w0
    cases hd_y0 : decL dI64 w0 with
    | none => rw [hd_y0] at h; cases h
    | some y0 =>
    rw [hd_y0] at h
    obtain rfl := decL_inv dI64_inv hd_y0
    clear hd_y0
    dsimp only at h
    split at h
    · rename_i hp
      cases h
      refine spec_of (m := .any) (tab := tabOf []) (cp := cp20) (ic := ic20) (rvl := [(.t 2)]) hm tabOk_nil Try.func20 rfl rfl rfl (by kernel_rfl) rfl (Nat.le_of_ble_eq_true rfl) (Nat.le_of_ble_eq_true rfl) ?_
      show eA _ _ _ _
      unfold ic20
      simp only [p_impl_areSizes, Bool.and_eq_true, Bool.or_eq_true, decide_eq_true_eq, Bool.not_eq_true', decide_eq_false_iff_not] at hp
      refine eS_to ?_
      repeat' (first
        | ((first | (have h := True.intro; refine eS_of ?_) | (refine eGI_of (fun h => ?_) (fun h => ?_)) | (refine eCc_of (fun h => ?_) (fun h => ?_)) | (refine ePk_of (fun h => ?_) (fun h => ?_)) | (have h := True.intro; refine KW_refl ?_)) <;> (try simp only [Bool.not_eq_true', Bool.not_eq_false'] at h) <;> (try first | exact absurd (Eq.trans (Eq.symm h) (by assumption)) Bool.false_ne_true | exact absurd (Eq.trans (Eq.symm h) (by assumption)) (Ne.symm Bool.false_ne_true)) <;> (try simp only [h, reduceCtorEq, grpN, Int.reduceEq, Int.reduceLT, Int.reduceLE, if_true, if_false, reduceIte] at hp) <;> (first | (have h2 := h; simp only [decide_eq_true_eq, decide_eq_false_iff_not] at h2; (first | (replace h2 := eq_false h2) | (replace h2 := eq_true h2)); (try simp only [h2, reduceCtorEq, grpN, Int.reduceEq, Int.reduceLT, Int.reduceLE, if_true, if_false, reduceIte] at hp); replace hp := And.intro h2 hp) | (replace hp := And.intro h hp) | skip) <;> simp only [h,
          hp, grpA, vsliceS, grpS, grpD, grpF, grpL, eop, vop, bop, uop, fltop, convop, endOk, newE, new1, freshL, Md.isNew, outV, pureV, pureX, pure1, AV.cells, AV.one, storable, laid, refless, refless1, vload, loadC, storeC, vnil, vfaddr, vextract, flatT, flatE, flatC, vconv, vmm, vidxA, viaddrA, vfield, vlen, elemsOf, dF32, dF64, dI64, dU8, dBool, dStr, esOk, elemsS, vsliceX, bnd, ownV, ownC, own1, ownT, isSl, nSl, endL, Md.isOwn, purge, purgeH, purgeB, purgeE, hasName, name1, List.any_cons, List.any_nil, Md.isWr, pureV.pureP, Option.map, reduceIte, Nat.reduceEqDiff, Nat.reduceAdd, Nat.reduceMul, Nat.reduceLT, Nat.reduceLeDiff, List.mapM_cons, List.mapM_nil, Option.pure_def, Option.bind_eq_bind, Option.bind_some, implies_true, forall_const, beq_self_eq_true, decide_true, decide_false, eq_self, Int.reduceEq, Int.reduceLE, Int.reduceLT, if_true, if_false, grpK, Int.reduceAdd, Int.reduceSub, Int.reduceMul, Int.reduceNeg, Int.reducePow, Nat.reducePow, Int.reduceToNat, Nat.reduceSub, List.replicate, Nat.reduceBEq, wAs, wA, wC, zipW, noDupN, grpE, beq_true, beq_false, ↓b_pick, ePk_true, ePk_false])
        | (refine eA_wk (wk_norm (ks := [0, 5, 6, 7]) (ls := []) ?_) (eA_cast ?_ (sl20_0 y0 _ _ _ _ (getD_some (d := default) (x := (l_impl_areSizes_0 y0 (Int.toNat (((List.length y0 : Nat) : Int) - 0) + 2) 0)) ?_) ?_ ?_)); (iterate 2 (simp only [nilS, nilV, nilB, normOk, optIn, blkIn, nameIn, normS, List.map_append, List.length_append, List.map_set, List.length_set, List.map_replicate, List.length_replicate, List.map_nil, List.map_cons,
          hp, grpA, vsliceS, grpS, grpD, grpF, grpL, eop, vop, bop, uop, fltop, convop, endOk, newE, new1, freshL, Md.isNew, outV, pureV, pureX, pure1, AV.cells, AV.one, storable, laid, refless, refless1, vload, loadC, storeC, vnil, vfaddr, vextract, flatT, flatE, flatC, vconv, vmm, vidxA, viaddrA, vfield, vlen, elemsOf, dF32, dF64, dI64, dU8, dBool, dStr, esOk, elemsS, vsliceX, bnd, ownV, ownC, own1, ownT, isSl, nSl, endL, Md.isOwn, purge, purgeH, purgeB, purgeE, hasName, name1, List.any_cons, List.any_nil, Md.isWr, pureV.pureP, Option.map, reduceIte, Nat.reduceEqDiff, Nat.reduceAdd, Nat.reduceMul, Nat.reduceLT, Nat.reduceLeDiff, List.mapM_cons, List.mapM_nil, Option.pure_def, Option.bind_eq_bind, Option.bind_some, implies_true, forall_const, beq_self_eq_true, decide_true, decide_false, eq_self, Int.reduceEq, Int.reduceLE, Int.reduceLT, if_true, if_false, grpK, Int.reduceAdd, Int.reduceSub, Int.reduceMul, Int.reduceNeg, Int.reducePow, Nat.reducePow, Int.reduceToNat, Nat.reduceSub, List.replicate, Nat.reduceBEq, wAs, wA, wC, zipW, noDupN, grpE, beq_true, beq_false, ↓b_pick, ePk_true, ePk_false] <;> first | rfl | (simp only [Nat.add_comm]; done))); (simp only [hp]); (
        intro st2 ht hw; simp only [Kq_ret, Kb_ret, Kl_ret, ret_ok]; first | exact h0 _ hw | exact h0 _ rfl hw | exact h1 _ rfl hw | exact h0 _ ht hw | exact h1 _ ht hw | (simp only [ht, need_iff, reduceCtorEq, grpN, Int.reduceEq, Int.reduceLT, Int.reduceLE, if_true, if_false, reduceIte] at h; (repeat (replace h := And.right h)); cases h; first | exact h0 _ hw | exact h0 _ rfl hw | exact h1 _ rfl hw) | refine ⟨_, hw, ?_⟩); rotate_left; (
        intro st2 ht hw; (try simp only [ht, reduceCtorEq, grpN, Int.reduceEq, Int.reduceLT, Int.reduceLE, if_true, if_false, reduceIte] at hp); (try replace hp := And.intro ht hp); simp only [
Kq_exit, Kq_normal, Kq_ret, Kb_exit, Kb_normal, Kb_ret, Kl_exit, Kl_normal, Kl_ret, reduceIte, Nat.reduceEqDiff, if_true, if_false, eq_self]; refine KW_of hw ?_; simp only [ht, 
          hp, grpA, vsliceS, grpS, grpD, grpF, grpL, eop, vop, bop, uop, fltop, convop, endOk, newE, new1, freshL, Md.isNew, outV, pureV, pureX, pure1, AV.cells, AV.one, storable, laid, refless, refless1, vload, loadC, storeC, vnil, vfaddr, vextract, flatT, flatE, flatC, vconv, vmm, vidxA, viaddrA, vfield, vlen, elemsOf, dF32, dF64, dI64, dU8, dBool, dStr, esOk, elemsS, vsliceX, bnd, ownV, ownC, own1, ownT, isSl, nSl, endL, Md.isOwn, purge, purgeH, purgeB, purgeE, hasName, name1, List.any_cons, List.any_nil, Md.isWr, pureV.pureP, Option.map, reduceIte, Nat.reduceEqDiff, Nat.reduceAdd, Nat.reduceMul, Nat.reduceLT, Nat.reduceLeDiff, List.mapM_cons, List.mapM_nil, Option.pure_def, Option.bind_eq_bind, Option.bind_some, implies_true, forall_const, beq_self_eq_true, decide_true, decide_false, eq_self, Int.reduceEq, Int.reduceLE, Int.reduceLT, if_true, if_false, grpK, Int.reduceAdd, Int.reduceSub, Int.reduceMul, Int.reduceNeg, Int.reducePow, Nat.reducePow, Int.reduceToNat, Nat.reduceSub, List.replicate, Nat.reduceBEq, wAs, wA, wC, zipW, noDupN, grpE, beq_true, beq_false, ↓b_pick, ePk_true, ePk_false])))
      all_goals (try simp only [*, m_impl_areSizes, Bool.and_true, Bool.true_and, Bool.and_false, Bool.false_and, Bool.or_true, Bool.true_or, Bool.or_false, Bool.false_or, Bool.not_true, Bool.not_false, Bool.false_eq_true, if_true, if_false, reduceIte, decide_true, decide_false])
      all_goals (try (simp_all; done))
    · cases h
  · cases h
def v_impl_BytesOfWords_19 (x0 : (List Int)) (z0_1 : Int) (z0_2 : Int) (z1_2 : Int) : Int := (IntKind.wrap .u8 ((IntKind.wrap .u8 (bitop .and .i64 (Int.fdiv (atI x0 z1_2) (2 ^ (min (z0_2 : Int).toNat 64))) 1)) * 2 ^ (min ((IntKind.wrap .i64 (7 - (Int.tmod z0_1 8))) : Int).toNat 8)))
def l_impl_BytesOfWords_0 (x0 : (List Int)) (x1 : (List Int)) (z1_2 : Int) : Nat → (List Int) → Int → Int → Option (Int × (List Int))
  | 0, _, _, _ => none
  | n + 1, z0_0, z0_1, z0_2 => (if (decide (0 ≤ z0_2)) = true then (if (decide ((Int.tmod z0_1 8) = 0)) = true then (need (decide (((List.length z0_0) + 1) * 1 ≤ 17592186044416)) (need (decide ((List.length z0_0) + 1 ≤ 17592186044416)) (need (inB (IntKind.wrap .i64 (Int.tdiv z0_1 8)) ((List.length z0_0) + 1)) (need (decide (0 ≤ z0_2)) (need (decide (0 ≤ (IntKind.wrap .i64 (7 - (Int.tmod z0_1 8))))) (l_impl_BytesOfWords_0 x0 x1 z1_2 n (List.set (z0_0 ++ [0]) (Int.toNat (IntKind.wrap .i64 (Int.tdiv z0_1 8))) (bitop .or .u8 (atI (z0_0 ++ [0]) (IntKind.wrap .i64 (Int.tdiv z0_1 8))) (v_impl_BytesOfWords_19 x0 z0_1 z0_2 z1_2))) (IntKind.wrap .i64 (z0_1 + 1)) (IntKind.wrap .i64 (z0_2 - 1)))))))) else (need (inB (IntKind.wrap .i64 (Int.tdiv z0_1 8)) (List.length z0_0)) (need (decide (0 ≤ z0_2)) (need (decide (0 ≤ (IntKind.wrap .i64 (7 - (Int.tmod z0_1 8))))) (l_impl_BytesOfWords_0 x0 x1 z1_2 n (List.set z0_0 (Int.toNat (IntKind.wrap .i64 (Int.tdiv z0_1 8))) (bitop .or .u8 (atI z0_0 (IntKind.wrap .i64 (Int.tdiv z0_1 8))) (v_impl_BytesOfWords_19 x0 z0_1 z0_2 z1_2))) (IntKind.wrap .i64 (z0_1 + 1)) (IntKind.wrap .i64 (z0_2 - 1))))))) else (some (z0_1, z0_0)))
def l_impl_BytesOfWords_1 (x0 : (List Int)) (x1 : (List Int)) : Nat → (List Int) → Int → Int → Option (Bool × ((List UInt8) × Bool) × (List Int))
  | 0, _, _, _ => none
  | n + 1, z1_0, z1_1, z1_2 => (if (decide (z1_2 < ((List.length x0 : Nat) : Int))) = true then (need (inB z1_2 (List.length x0)) (if (decide ((atI x0 z1_2) < 0)) = true then (some (true, (([] : List UInt8), false), default)) else (need (inB z1_2 (List.length x1)) (need (decide (0 ≤ (atI x1 z1_2))) (if (decide ((IntKind.wrap .i64 (1 * 2 ^ (min ((atI x1 z1_2) : Int).toNat 64))) ≤ (atI x0 z1_2))) = true then (some (true, (([] : List UInt8), false), default)) else (need (Option.isSome (l_impl_BytesOfWords_0 x0 x1 z1_2 (Int.toNat (IntKind.wrap .i64 ((atI x1 z1_2) - 1)) + 2) z1_0 z1_1 (IntKind.wrap .i64 ((atI x1 z1_2) - 1)))) (l_impl_BytesOfWords_1 x0 x1 n (Option.getD (l_impl_BytesOfWords_0 x0 x1 z1_2 (Int.toNat (IntKind.wrap .i64 ((atI x1 z1_2) - 1)) + 2) z1_0 z1_1 (IntKind.wrap .i64 ((atI x1 z1_2) - 1))) default).2 (Option.getD (l_impl_BytesOfWords_0 x0 x1 z1_2 (Int.toNat (IntKind.wrap .i64 ((atI x1 z1_2) - 1)) + 2) z1_0 z1_1 (IntKind.wrap .i64 ((atI x1 z1_2) - 1))) default).1 (IntKind.wrap .i64 (z1_2 + 1))))))))) else (some (false, default, z1_0)))
def m_impl_BytesOfWords (x0 : (List Int)) (x1 : (List Int)) : ((List UInt8) × Bool) := (if (decide (((List.length x0 : Nat) : Int) = ((List.length x1 : Nat) : Int))) = true then (if (m_impl_areSizes x1) = true then (if (Option.getD (l_impl_BytesOfWords_1 x0 x1 (Int.toNat (((List.length x0 : Nat) : Int) - 0) + 2) [] 0 0) default).1 = true then (Option.getD (l_impl_BytesOfWords_1 x0 x1 (Int.toNat (((List.length x0 : Nat) : Int) - 0) + 2) [] 0 0) default).2.1 else ((List.map b8 (Option.getD (l_impl_BytesOfWords_1 x0 x1 (Int.toNat (((List.length x0 : Nat) : Int) - 0) + 2) [] 0 0) default).2.2), true)) else (([] : List UInt8), false)) else (([] : List UInt8), false))
def p_impl_BytesOfWords (x0 : (List Int)) (x1 : (List Int)) : Bool := (!(decide (((List.length x0 : Nat) : Int) = ((List.length x1 : Nat) : Int))) || ((p_impl_areSizes x1) && (!(m_impl_areSizes x1) || (Option.isSome (l_impl_BytesOfWords_1 x0 x1 (Int.toNat (((List.length x0 : Nat) : Int) - 0) + 2) [] 0 0)))))
def g_impl_BytesOfWords : List AV → Option AV
  | [.sl w0, .sl w1] => (match decL dI64 w0 with | some y0 => ((match decL dI64 w1 with | some y1 => (if p_impl_BytesOfWords y0 y1 = true then some (AV.tup [(.str (m_impl_BytesOfWords y0 y1).1), (.bool (m_impl_BytesOfWords y0 y1).2)]) else none) | none => none)) | none => none)
  | _ => none
def lb8_0 : ICode := (.seq (.seq (.reg [⟨(some 44), none, (.mov (.t 10))⟩, ⟨(some 45), none, (.bin .geq false (.t 44) (.c (.int .i64 0)))⟩] [1, 6, 7, 9, 10, 21, 22, 23, 45]) (.cond (.t 45) .skip (.exit 2))) (.seq (.block 3 (.seq (.seq (.reg [⟨(some 48), none, (.mov (.t 7))⟩, ⟨(some 49), none, (.bin .rem false (.t 48) (.c (.int .i64 8)))⟩, ⟨(some 50), none, (.bin .eql false (.t 49) (.c (.int .i64 0)))⟩] [1, 6, 7, 9, 10, 21, 22, 23, 50]) (.cond (.t 50) (.reg [⟨(some 51), none, (.mov (.t 6))⟩, ⟨(some 52), none, (.bslice 1 1 (.int .u8 0) [(0, (.c (.int .u8 0)))])⟩, ⟨(some 53), none, (.append 1 1 (.t 51) (.t 52))⟩, ⟨(some 6), none, (.mov (.t 53))⟩] [1, 6, 7, 9, 10, 21, 22, 23]) .skip)) (.seq (.reg [⟨(some 54), none, (.mov (.t 6))⟩, ⟨(some 55), none, (.mov (.t 7))⟩, ⟨(some 56), none, (.bin .quo false (.t 55) (.c (.int .i64 8)))⟩, ⟨(some 57), none, (.iaddrS 1 (.t 54) (.t 56))⟩, ⟨(some 58), none, (.load none (.t 57))⟩, ⟨(some 59), none, (.mov (.t 9))⟩, ⟨(some 60), none, (.mov (.t 10))⟩, ⟨(some 61), none, (.bin .shr false (.t 59) (.t 60))⟩, ⟨(some 62), none, (.bin .and false (.t 61) (.c (.int .i64 1)))⟩, ⟨(some 63), none, (.conv (.int .u8) (.t 62))⟩, ⟨(some 64), none, (.mov (.t 7))⟩, ⟨(some 65), none, (.bin .rem false (.t 64) (.c (.int .i64 8)))⟩, ⟨(some 66), none, (.bin .sub false (.c (.int .i64 7)) (.t 65))⟩, ⟨(some 67), none, (.bin .shl false (.t 63) (.t 66))⟩, ⟨(some 68), none, (.bin .or false (.t 58) (.t 67))⟩, ⟨(some 69), none, (.iaddrS 1 (.t 54) (.t 56))⟩, ⟨none, none, (.store 1 (.t 69) (.t 68))⟩] [1, 6, 7, 9, 10, 21, 22, 23]) (.reg [⟨(some 70), none, (.mov (.t 7))⟩, ⟨(some 71), none, (.bin .add false (.t 70) (.c (.int .i64 1)))⟩, ⟨(some 7), none, (.mov (.t 71))⟩] [1, 6, 7, 9, 10, 21, 22, 23])))) (.reg [⟨(some 46), none, (.mov (.t 10))⟩, ⟨(some 47), none, (.bin .sub false (.t 46) (.c (.int .i64 1)))⟩, ⟨(some 10), none, (.mov (.t 47))⟩] [1, 6, 7, 9, 10, 21, 22, 23])))
def lb8_1 : ICode := (.seq (.reg [⟨(some 24), none, (.bin .lss false (.t 23) (.t 22))⟩] [1, 6, 7, 21, 22, 23, 24]) (.seq (.cond (.t 24) .skip (.exit 0)) (.seq (.block 1 (.seq (.reg [⟨(some 25), none, (.mov (.t 23))⟩, ⟨(some 26), none, (.iaddrS 1 (.t 21) (.t 23))⟩, ⟨(some 27), none, (.load none (.t 26))⟩, ⟨(some 8), none, (.mov (.t 25))⟩, ⟨(some 9), none, (.mov (.t 27))⟩] [1, 6, 7, 8, 9, 21, 22, 23]) (.seq (.seq (.reg [⟨(some 28), none, (.mov (.t 9))⟩, ⟨(some 29), none, (.bin .lss false (.t 28) (.c (.int .i64 0)))⟩, ⟨(some 30), none, (.mov (.t 29))⟩, ⟨(some 31), (some (30, false)), (.mov (.t 9))⟩, ⟨(some 32), (some (30, false)), (.mov (.t 1))⟩, ⟨(some 33), (some (30, false)), (.mov (.t 8))⟩, ⟨(some 34), (some (30, false)), (.iaddrS 1 (.t 32) (.t 33))⟩, ⟨(some 35), (some (30, false)), (.load none (.t 34))⟩, ⟨(some 36), (some (30, false)), (.bin .shl false (.c (.int .i64 1)) (.t 35))⟩, ⟨(some 37), (some (30, false)), (.bin .geq false (.t 31) (.t 36))⟩, ⟨(some 38), none, (.pick (.t 30) (.c (.bool true)) (.t 37))⟩] [1, 6, 7, 8, 9, 21, 22, 23, 38]) (.cond (.t 38) (.seq (.reg [⟨(some 4), none, (.mov (.c (.str [])))⟩, ⟨(some 5), none, (.mov (.c (.bool false)))⟩] [4, 5]) .ret) .skip)) (.seq (.reg [⟨(some 39), none, (.mov (.t 1))⟩, ⟨(some 40), none, (.mov (.t 8))⟩, ⟨(some 41), none, (.iaddrS 1 (.t 39) (.t 40))⟩, ⟨(some 42), none, (.load none (.t 41))⟩, ⟨(some 43), none, (.bin .sub false (.t 42) (.c (.int .i64 1)))⟩, ⟨(some 10), none, (.mov (.t 43))⟩] [1, 6, 7, 9, 10, 21, 22, 23]) (.block 2 (.loop lb8_0)))))) (.reg [⟨(some 72), none, (.bin .add false (.t 23) (.c (.int .i64 1)))⟩, ⟨(some 23), none, (.mov (.t 72))⟩] [1, 6, 7, 21, 22, 23]))))
def ic8 : ICode := (.seq (.reg [⟨(some 4), none, (.mov (.c (.str [])))⟩, ⟨(some 5), none, (.mov (.c (.bool false)))⟩] [0, 1]) (.seq (.seq (.reg [⟨(some 11), none, (.mov (.t 0))⟩, ⟨(some 12), none, (.len false (.t 11))⟩, ⟨(some 13), none, (.mov (.t 1))⟩, ⟨(some 14), none, (.len false (.t 13))⟩, ⟨(some 15), none, (.bin .neq false (.t 12) (.t 14))⟩, ⟨(some 16), none, (.mov (.t 15))⟩, ⟨(some 17), (some (16, false)), (.mov (.t 1))⟩, ⟨(some 18), (some (16, false)), (.call (.fn 20) [(.t 17)] [])⟩, ⟨(some 19), (some (16, false)), (.un .not (.t 18))⟩, ⟨(some 20), none, (.pick (.t 16) (.c (.bool true)) (.t 19))⟩] [0, 1, 20]) (.cond (.t 20) (.seq (.reg [⟨(some 4), none, (.mov (.c (.str [])))⟩, ⟨(some 5), none, (.mov (.c (.bool false)))⟩] [4, 5]) .ret) .skip)) (.seq (.reg [⟨(some 6), none, (.mov (.c .snil))⟩] [0, 1, 6]) (.seq (.reg [⟨(some 7), none, (.mov (.c (.int .i64 0)))⟩] [0, 1, 6, 7]) (.seq (.seq (.reg [⟨(some 21), none, (.mov (.t 0))⟩, ⟨(some 22), none, (.len false (.t 21))⟩, ⟨(some 23), none, (.mov (.c (.int .i64 0)))⟩] [1, 6, 7, 21, 22, 23]) (.block 0 (.loop lb8_1))) (.seq (.reg [⟨(some 73), none, (.mov (.t 6))⟩, ⟨(some 74), none, (.conv .str (.t 73))⟩, ⟨(some 4), none, (.mov (.t 74))⟩, ⟨(some 5), none, (.mov (.c (.bool true)))⟩] [4, 5]) .ret))))))
def cp8 : CP := CP.mk [] [] [[0, 1], [0, 1, 20], [4, 5], [0, 1, 6], [0, 1, 6, 7], [1, 6, 7, 21, 22, 23], [1, 6, 7, 21, 22, 23, 24], [1, 6, 7, 8, 9, 21, 22, 23], [1, 6, 7, 8, 9, 21, 22, 23, 38], [4, 5], [1, 6, 7, 9, 10, 21, 22, 23], [1, 6, 7, 9, 10, 21, 22, 23, 45], [1, 6, 7, 9, 10, 21, 22, 23], [1, 6, 7, 9, 10, 21, 22, 23, 50], [1, 6, 7, 9, 10, 21, 22, 23], [1, 6, 7, 9, 10, 21, 22, 23], [1, 6, 7, 9, 10, 21, 22, 23], [1, 6, 7, 21, 22, 23], [4, 5]] 75 [] []
theorem sl8_0 (x0 : (List Int)) (x1 : (List Int)) (z1_2 : Int) : ∀ (n : Nat) (z0_0 : (List Int)) (z0_1 : Int) (z0_2 : Int) (o : (Int × (List Int))) (K : IExit → St → Prop), l_impl_BytesOfWords_0 x0 x1 z1_2 n z0_0 z0_1 z0_2 = some o → (∀ st, Wk st (⟨[(1, (.sl (List.map (AV.int .i64) x1))), (6, (.lsl 9006 0 (List.length o.2))), (7, (.int .i64 o.1)), (21, (.sl (List.map (AV.int .i64) x0))), (22, (.int .i64 ((List.length x0 : Nat) : Int))), (23, (.int .i64 z1_2))], [(9006, (some ⟨1, true, (List.map (AV.int .u8) o.2)⟩))]⟩ : St) → K (.exit 2) st) → eA (tabOf [(20, wM .any g_impl_areSizes)]) (.loop lb8_0) (⟨[(1, (.sl (List.map (AV.int .i64) x1))), (6, (.lsl 9006 0 (List.length z0_0))), (7, (.int .i64 z0_1)), (9, (.int .i64 (atI x0 z1_2))), (10, (.int .i64 z0_2)), (21, (.sl (List.map (AV.int .i64) x0))), (22, (.int .i64 ((List.length x0 : Nat) : Int))), (23, (.int .i64 z1_2))], [(9006, (some ⟨1, true, (List.map (AV.int .u8) z0_0)⟩))]⟩ : St) K := by
  intro n
  induction n with
  | zero =>
    intro z0_0 z0_1 z0_2 o K h h0
    simp only [l_impl_BytesOfWords_0, reduceCtorEq] at h
  | succ n ih =>
    intro z0_0 z0_1 z0_2 o K h h0
    refine eA_loop ?_
    unfold lb8_0
    unfold l_impl_BytesOfWords_0 at h
    (try simp only [need_iff, v_impl_BytesOfWords_19] at h)
    simp only [
      need_iff, h, grpA, vsliceS, grpS, grpD, grpF, grpL, eop, vop, bop, uop, fltop, convop, endOk, newE, new1, freshL, Md.isNew, outV, pureV, pureX, pure1, AV.cells, AV.one, storable, laid, refless, refless1, vload, loadC, storeC, vnil, vfaddr, vextract, flatT, flatE, flatC, vconv, vmm, vidxA, viaddrA, vfield, vlen, elemsOf, dF32, dF64, dI64, dU8, dBool, dStr, esOk, elemsS, vsliceX, bnd, ownV, ownC, own1, ownT, isSl, nSl, endL, Md.isOwn, purge, purgeH, purgeB, purgeE, hasName, name1, List.any_cons, List.any_nil, Md.isWr, pureV.pureP, Option.map, reduceIte, Nat.reduceEqDiff, Nat.reduceAdd, Nat.reduceMul, Nat.reduceLT, Nat.reduceLeDiff, List.mapM_cons, List.mapM_nil, Option.pure_def, Option.bind_eq_bind, Option.bind_some, implies_true, forall_const, beq_self_eq_true, decide_true, decide_false, eq_self, Int.reduceEq, Int.reduceLE, Int.reduceLT, if_true, if_false, grpK, Int.reduceAdd, Int.reduceSub, Int.reduceMul, Int.reduceNeg, Int.reducePow, Nat.reducePow, Int.reduceToNat, Nat.reduceSub, List.replicate, Nat.reduceBEq, wAs, wA, wC, zipW, noDupN, grpE, beq_true, beq_false, g_impl_areSizes, ↓b_pick, ePk_true, ePk_false]
    repeat' (first
      | ((first | (refine eGI_of (fun hc => ?_) (fun hc => ?_)) | (refine eCc_of (fun hc => ?_) (fun hc => ?_)) | (refine ePk_of (fun hc => ?_) (fun hc => ?_)) | (have hc := True.intro; refine KW_refl ?_)) <;> (try simp only [Bool.not_eq_true', Bool.not_eq_false'] at hc) <;> (try simp only [hc, need_iff, reduceCtorEq, grpN, Int.reduceEq, Int.reduceLT, Int.reduceLE, if_true, if_false, reduceIte] at h) <;> (first | (have hc2 := hc; simp only [decide_eq_true_eq, decide_eq_false_iff_not] at hc2; (first | (replace hc2 := eq_false hc2) | (replace hc2 := eq_true hc2)); (try simp only [hc2, need_iff, reduceCtorEq, grpN, Int.reduceEq, Int.reduceLT, Int.reduceLE, if_true, if_false, reduceIte] at h); replace h := And.intro hc2 h) | (replace h := And.intro hc h) | skip) <;> simp only [hc,
      need_iff, h, grpA, vsliceS, grpS, grpD, grpF, grpL, eop, vop, bop, uop, fltop, convop, endOk, newE, new1, freshL, Md.isNew, outV, pureV, pureX, pure1, AV.cells, AV.one, storable, laid, refless, refless1, vload, loadC, storeC, vnil, vfaddr, vextract, flatT, flatE, flatC, vconv, vmm, vidxA, viaddrA, vfield, vlen, elemsOf, dF32, dF64, dI64, dU8, dBool, dStr, esOk, elemsS, vsliceX, bnd, ownV, ownC, own1, ownT, isSl, nSl, endL, Md.isOwn, purge, purgeH, purgeB, purgeE, hasName, name1, List.any_cons, List.any_nil, Md.isWr, pureV.pureP, Option.map, reduceIte, Nat.reduceEqDiff, Nat.reduceAdd, Nat.reduceMul, Nat.reduceLT, Nat.reduceLeDiff, List.mapM_cons, List.mapM_nil, Option.pure_def, Option.bind_eq_bind, Option.bind_some, implies_true, forall_const, beq_self_eq_true, decide_true, decide_false, eq_self, Int.reduceEq, Int.reduceLE, Int.reduceLT, if_true, if_false, grpK, Int.reduceAdd, Int.reduceSub, Int.reduceMul, Int.reduceNeg, Int.reducePow, Nat.reducePow, Int.reduceToNat, Nat.reduceSub, List.replicate, Nat.reduceBEq, wAs, wA, wC, zipW, noDupN, grpE, beq_true, beq_false, g_impl_areSizes, ↓b_pick, ePk_true, ePk_false]))
    all_goals (have hf := h)
    all_goals (repeat (replace h := And.right h))
    all_goals ((first | (refine eA_wk (wk_norm (ks := [1, 6, 7, 9, 10, 21, 22, 23]) (ls := [9006]) ?_) (eA_cast ?_ (ih _ _ _ _ _ h h0))) | (cases h; have h := True.intro; refine h0 _ (Wk.cast (wk_norm (ks := [1, 6, 7, 21, 22, 23]) (ls := [9006]) ?_) ?_))) <;> simp only [normOk, optIn, blkIn, nameIn, normS, List.map_append, List.length_append, List.map_set, List.length_set, List.map_replicate, List.length_replicate, List.map_nil, List.map_cons,
      need_iff, h, hf, grpA, vsliceS, grpS, grpD, grpF, grpL, eop, vop, bop, uop, fltop, convop, endOk, newE, new1, freshL, Md.isNew, outV, pureV, pureX, pure1, AV.cells, AV.one, storable, laid, refless, refless1, vload, loadC, storeC, vnil, vfaddr, vextract, flatT, flatE, flatC, vconv, vmm, vidxA, viaddrA, vfield, vlen, elemsOf, dF32, dF64, dI64, dU8, dBool, dStr, esOk, elemsS, vsliceX, bnd, ownV, ownC, own1, ownT, isSl, nSl, endL, Md.isOwn, purge, purgeH, purgeB, purgeE, hasName, name1, List.any_cons, List.any_nil, Md.isWr, pureV.pureP, Option.map, reduceIte, Nat.reduceEqDiff, Nat.reduceAdd, Nat.reduceMul, Nat.reduceLT, Nat.reduceLeDiff, List.mapM_cons, List.mapM_nil, Option.pure_def, Option.bind_eq_bind, Option.bind_some, implies_true, forall_const, beq_self_eq_true, decide_true, decide_false, eq_self, Int.reduceEq, Int.reduceLE, Int.reduceLT, if_true, if_false, grpK, Int.reduceAdd, Int.reduceSub, Int.reduceMul, Int.reduceNeg, Int.reducePow, Nat.reducePow, Int.reduceToNat, Nat.reduceSub, List.replicate, Nat.reduceBEq, wAs, wA, wC, zipW, noDupN, grpE, beq_true, beq_false, g_impl_areSizes, ↓b_pick, ePk_true, ePk_false] <;> first | rfl | (simp only [Nat.add_comm]; done))
theorem sl8_1 (x0 : (List Int)) (x1 : (List Int)) : ∀ (n : Nat) (z1_0 : (List Int)) (z1_1 : Int) (z1_2 : Int) (o : (Bool × ((List UInt8) × Bool) × (List Int))) (K : IExit → St → Prop), l_impl_BytesOfWords_1 x0 x1 n z1_0 z1_1 z1_2 = some o → (∀ st, o.1 = true → outM .any st [(.t 4), (.t 5)] = some (AV.tup [(.str o.2.1.1), (.bool o.2.1.2)]) → K .ret st) → (∀ st, o.1 = false → Wk st (⟨[(6, (.lsl 9006 0 (List.length o.2.2)))], [(9006, (some ⟨1, true, (List.map (AV.int .u8) o.2.2)⟩))]⟩ : St) → K (.exit 0) st) → eA (tabOf [(20, wM .any g_impl_areSizes)]) (.loop lb8_1) (⟨[(1, (.sl (List.map (AV.int .i64) x1))), (6, (.lsl 9006 0 (List.length z1_0))), (7, (.int .i64 z1_1)), (21, (.sl (List.map (AV.int .i64) x0))), (22, (.int .i64 ((List.length x0 : Nat) : Int))), (23, (.int .i64 z1_2))], [(9006, (some ⟨1, true, (List.map (AV.int .u8) z1_0)⟩))]⟩ : St) K := by
  intro n
  induction n with
  | zero =>
    intro z1_0 z1_1 z1_2 o K h h0 h1
    simp only [l_impl_BytesOfWords_1, reduceCtorEq] at h
  | succ n ih =>
    intro z1_0 z1_1 z1_2 o K h h0 h1
    refine eA_loop ?_
    unfold lb8_1
    unfold l_impl_BytesOfWords_1 at h
    (try simp only [need_iff, v_impl_BytesOfWords_19] at h)
    simp only [
      need_iff, h, grpA, vsliceS, grpS, grpD, grpF, grpL, eop, vop, bop, uop, fltop, convop, endOk, newE, new1, freshL, Md.isNew, outV, pureV, pureX, pure1, AV.cells, AV.one, storable, laid, refless, refless1, vload, loadC, storeC, vnil, vfaddr, vextract, flatT, flatE, flatC, vconv, vmm, vidxA, viaddrA, vfield, vlen, elemsOf, dF32, dF64, dI64, dU8, dBool, dStr, esOk, elemsS, vsliceX, bnd, ownV, ownC, own1, ownT, isSl, nSl, endL, Md.isOwn, purge, purgeH, purgeB, purgeE, hasName, name1, List.any_cons, List.any_nil, Md.isWr, pureV.pureP, Option.map, reduceIte, Nat.reduceEqDiff, Nat.reduceAdd, Nat.reduceMul, Nat.reduceLT, Nat.reduceLeDiff, List.mapM_cons, List.mapM_nil, Option.pure_def, Option.bind_eq_bind, Option.bind_some, implies_true, forall_const, beq_self_eq_true, decide_true, decide_false, eq_self, Int.reduceEq, Int.reduceLE, Int.reduceLT, if_true, if_false, grpK, Int.reduceAdd, Int.reduceSub, Int.reduceMul, Int.reduceNeg, Int.reducePow, Nat.reducePow, Int.reduceToNat, Nat.reduceSub, List.replicate, Nat.reduceBEq, wAs, wA, wC, zipW, noDupN, grpE, beq_true, beq_false, g_impl_areSizes, ↓b_pick, ePk_true, ePk_false]
    repeat' (first
      | ((first | (refine eGI_of (fun hc => ?_) (fun hc => ?_)) | (refine eCc_of (fun hc => ?_) (fun hc => ?_)) | (refine ePk_of (fun hc => ?_) (fun hc => ?_)) | (have hc := True.intro; refine KW_refl ?_)) <;> (try simp only [Bool.not_eq_true', Bool.not_eq_false'] at hc) <;> (try simp only [hc, need_iff, reduceCtorEq, grpN, Int.reduceEq, Int.reduceLT, Int.reduceLE, if_true, if_false, reduceIte] at h) <;> (first | (have hc2 := hc; simp only [decide_eq_true_eq, decide_eq_false_iff_not] at hc2; (first | (replace hc2 := eq_false hc2) | (replace hc2 := eq_true hc2)); (try simp only [hc2, need_iff, reduceCtorEq, grpN, Int.reduceEq, Int.reduceLT, Int.reduceLE, if_true, if_false, reduceIte] at h); replace h := And.intro hc2 h) | (replace h := And.intro hc h) | skip) <;> simp only [hc,
      need_iff, h, grpA, vsliceS, grpS, grpD, grpF, grpL, eop, vop, bop, uop, fltop, convop, endOk, newE, new1, freshL, Md.isNew, outV, pureV, pureX, pure1, AV.cells, AV.one, storable, laid, refless, refless1, vload, loadC, storeC, vnil, vfaddr, vextract, flatT, flatE, flatC, vconv, vmm, vidxA, viaddrA, vfield, vlen, elemsOf, dF32, dF64, dI64, dU8, dBool, dStr, esOk, elemsS, vsliceX, bnd, ownV, ownC, own1, ownT, isSl, nSl, endL, Md.isOwn, purge, purgeH, purgeB, purgeE, hasName, name1, List.any_cons, List.any_nil, Md.isWr, pureV.pureP, Option.map, reduceIte, Nat.reduceEqDiff, Nat.reduceAdd, Nat.reduceMul, Nat.reduceLT, Nat.reduceLeDiff, List.mapM_cons, List.mapM_nil, Option.pure_def, Option.bind_eq_bind, Option.bind_some, implies_true, forall_const, beq_self_eq_true, decide_true, decide_false, eq_self, Int.reduceEq, Int.reduceLE, Int.reduceLT, if_true, if_false, grpK, Int.reduceAdd, Int.reduceSub, Int.reduceMul, Int.reduceNeg, Int.reducePow, Nat.reducePow, Int.reduceToNat, Nat.reduceSub, List.replicate, Nat.reduceBEq, wAs, wA, wC, zipW, noDupN, grpE, beq_true, beq_false, g_impl_areSizes, ↓b_pick, ePk_true, ePk_false])
      | (refine eA_wk (wk_norm (ks := [1, 6, 7, 9, 10, 21, 22, 23]) (ls := [9006]) ?_) (eA_cast ?_ (sl8_0 x0 x1 z1_2 _ _ _ _ _ _ (getD_some (d := default) (x := (l_impl_BytesOfWords_0 x0 x1 z1_2 (Int.toNat (IntKind.wrap .i64 ((atI x1 z1_2) - 1)) + 2) z1_0 z1_1 (IntKind.wrap .i64 ((atI x1 z1_2) - 1)))) ?_) ?_)); (iterate 2 (simp only [nilS, nilV, nilB, normOk, optIn, blkIn, nameIn, normS, List.map_append, List.length_append, List.map_set, List.length_set, List.map_replicate, List.length_replicate, List.map_nil, List.map_cons,
      need_iff, h, grpA, vsliceS, grpS, grpD, grpF, grpL, eop, vop, bop, uop, fltop, convop, endOk, newE, new1, freshL, Md.isNew, outV, pureV, pureX, pure1, AV.cells, AV.one, storable, laid, refless, refless1, vload, loadC, storeC, vnil, vfaddr, vextract, flatT, flatE, flatC, vconv, vmm, vidxA, viaddrA, vfield, vlen, elemsOf, dF32, dF64, dI64, dU8, dBool, dStr, esOk, elemsS, vsliceX, bnd, ownV, ownC, own1, ownT, isSl, nSl, endL, Md.isOwn, purge, purgeH, purgeB, purgeE, hasName, name1, List.any_cons, List.any_nil, Md.isWr, pureV.pureP, Option.map, reduceIte, Nat.reduceEqDiff, Nat.reduceAdd, Nat.reduceMul, Nat.reduceLT, Nat.reduceLeDiff, List.mapM_cons, List.mapM_nil, Option.pure_def, Option.bind_eq_bind, Option.bind_some, implies_true, forall_const, beq_self_eq_true, decide_true, decide_false, eq_self, Int.reduceEq, Int.reduceLE, Int.reduceLT, if_true, if_false, grpK, Int.reduceAdd, Int.reduceSub, Int.reduceMul, Int.reduceNeg, Int.reducePow, Nat.reducePow, Int.reduceToNat, Nat.reduceSub, List.replicate, Nat.reduceBEq, wAs, wA, wC, zipW, noDupN, grpE, beq_true, beq_false, g_impl_areSizes, ↓b_pick, ePk_true, ePk_false] <;> first | rfl | (simp only [Nat.add_comm]; done))); (simp only [h]); (
        intro st2 hw; (try simp only [reduceCtorEq, grpN, Int.reduceEq, Int.reduceLT, Int.reduceLE, if_true, if_false, reduceIte] at h); (try replace h := And.intro ht h); simp only [
Kq_exit, Kq_normal, Kq_ret, Kb_exit, Kb_normal, Kb_ret, Kl_exit, Kl_normal, Kl_ret, reduceIte, Nat.reduceEqDiff, if_true, if_false, eq_self]; refine KW_of hw ?_; simp only [
      need_iff, h, grpA, vsliceS, grpS, grpD, grpF, grpL, eop, vop, bop, uop, fltop, convop, endOk, newE, new1, freshL, Md.isNew, outV, pureV, pureX, pure1, AV.cells, AV.one, storable, laid, refless, refless1, vload, loadC, storeC, vnil, vfaddr, vextract, flatT, flatE, flatC, vconv, vmm, vidxA, viaddrA, vfield, vlen, elemsOf, dF32, dF64, dI64, dU8, dBool, dStr, esOk, elemsS, vsliceX, bnd, ownV, ownC, own1, ownT, isSl, nSl, endL, Md.isOwn, purge, purgeH, purgeB, purgeE, hasName, name1, List.any_cons, List.any_nil, Md.isWr, pureV.pureP, Option.map, reduceIte, Nat.reduceEqDiff, Nat.reduceAdd, Nat.reduceMul, Nat.reduceLT, Nat.reduceLeDiff, List.mapM_cons, List.mapM_nil, Option.pure_def, Option.bind_eq_bind, Option.bind_some, implies_true, forall_const, beq_self_eq_true, decide_true, decide_false, eq_self, Int.reduceEq, Int.reduceLE, Int.reduceLT, if_true, if_false, grpK, Int.reduceAdd, Int.reduceSub, Int.reduceMul, Int.reduceNeg, Int.reducePow, Nat.reducePow, Int.reduceToNat, Nat.reduceSub, List.replicate, Nat.reduceBEq, wAs, wA, wC, zipW, noDupN, grpE, beq_true, beq_false, g_impl_areSizes, ↓b_pick, ePk_true, ePk_false])))
    all_goals (have hf := h)
    all_goals (repeat (replace h := And.right h))
    all_goals ((first | (refine eA_wk (wk_norm (ks := [1, 6, 7, 21, 22, 23]) (ls := [9006]) ?_) (eA_cast ?_ (ih _ _ _ _ _ h h0 h1))) | (cases h; have h := True.intro; refine h0 _ rfl ?_) | (cases h; have h := True.intro; refine h1 _ rfl (Wk.cast (wk_norm (ks := [6]) (ls := [9006]) ?_) ?_))) <;> simp only [normOk, optIn, blkIn, nameIn, normS, List.map_append, List.length_append, List.map_set, List.length_set, List.map_replicate, List.length_replicate, List.map_nil, List.map_cons,
      need_iff, h, hf, grpA, vsliceS, grpS, grpD, grpF, grpL, eop, vop, bop, uop, fltop, convop, endOk, newE, new1, freshL, Md.isNew, outV, pureV, pureX, pure1, AV.cells, AV.one, storable, laid, refless, refless1, vload, loadC, storeC, vnil, vfaddr, vextract, flatT, flatE, flatC, vconv, vmm, vidxA, viaddrA, vfield, vlen, elemsOf, dF32, dF64, dI64, dU8, dBool, dStr, esOk, elemsS, vsliceX, bnd, ownV, ownC, own1, ownT, isSl, nSl, endL, Md.isOwn, purge, purgeH, purgeB, purgeE, hasName, name1, List.any_cons, List.any_nil, Md.isWr, pureV.pureP, Option.map, reduceIte, Nat.reduceEqDiff, Nat.reduceAdd, Nat.reduceMul, Nat.reduceLT, Nat.reduceLeDiff, List.mapM_cons, List.mapM_nil, Option.pure_def, Option.bind_eq_bind, Option.bind_some, implies_true, forall_const, beq_self_eq_true, decide_true, decide_false, eq_self, Int.reduceEq, Int.reduceLE, Int.reduceLT, if_true, if_false, grpK, Int.reduceAdd, Int.reduceSub, Int.reduceMul, Int.reduceNeg, Int.reducePow, Nat.reducePow, Int.reduceToNat, Nat.reduceSub, List.replicate, Nat.reduceBEq, wAs, wA, wC, zipW, noDupN, grpE, beq_true, beq_false, g_impl_areSizes, ↓b_pick, ePk_true, ePk_false] <;> first | rfl | (simp only [Nat.add_comm]; done))
theorem s8 : ∀ vs r, g_impl_BytesOfWords vs = some r → SaysM Try.prog .any 8 vs r := by
  intro vs r h
  unfold g_impl_BytesOfWords at h
  split at h
  · rename_i w0 w1
    cases hd_y0 : decL dI64 w0 with
    | none => rw [hd_y0] at h; cases h
    | some y0 =>
    rw [hd_y0] at h
    obtain rfl := decL_inv dI64_inv hd_y0
    clear hd_y0
    dsimp only at h
    cases hd_y1 : decL dI64 w1 with
    | none => rw [hd_y1] at h; cases h
    | some y1 =>
    rw [hd_y1] at h
    obtain rfl := decL_inv dI64_inv hd_y1
    clear hd_y1
    dsimp only at h
    split at h
    · rename_i hp
      cases h
      refine spec_of (m := .any) (tab := tabOf [(20, wM .any g_impl_areSizes)]) (cp := cp8) (ic := ic8) (rvl := [(.t 4), (.t 5)]) hm (tabOk_cons (m := .any) s20 tabOk_nil) Try.func8 rfl rfl rfl (by kernel_rfl) rfl (Nat.le_of_ble_eq_true rfl) (Nat.le_of_ble_eq_true rfl) ?_
      show eA _ _ _ _
      unfold ic8
      unfold p_impl_BytesOfWords at hp
      (try delta v_impl_BytesOfWords_19 at hp)
      (try dsimp only at hp)
      (try simp only [Bool.and_eq_true, Bool.or_eq_true, decide_eq_true_eq, Bool.not_eq_true', decide_eq_false_iff_not] at hp)
      refine eS_to ?_
      repeat' (first
        | ((first | (have h := True.intro; refine eS_of ?_) | (refine eGI_of (fun h => ?_) (fun h => ?_)) | (refine eCc_of (fun h => ?_) (fun h => ?_)) | (refine ePk_of (fun h => ?_) (fun h => ?_)) | (have h := True.intro; refine KW_refl ?_)) <;> (try simp only [Bool.not_eq_true', Bool.not_eq_false'] at h) <;> (try first | exact absurd (Eq.trans (Eq.symm h) (by assumption)) Bool.false_ne_true | exact absurd (Eq.trans (Eq.symm h) (by assumption)) (Ne.symm Bool.false_ne_true)) <;> (try simp only [h, reduceCtorEq, grpN, Int.reduceEq, Int.reduceLT, Int.reduceLE, if_true, if_false, reduceIte] at hp) <;> (first | (have h2 := h; simp only [decide_eq_true_eq, decide_eq_false_iff_not] at h2; (first | (replace h2 := eq_false h2) | (replace h2 := eq_true h2)); (try simp only [h2, reduceCtorEq, grpN, Int.reduceEq, Int.reduceLT, Int.reduceLE, if_true, if_false, reduceIte] at hp); replace hp := And.intro h2 hp) | (replace hp := And.intro h hp) | skip) <;> simp only [h,
          hp, grpA, vsliceS, grpS, grpD, grpF, grpL, eop, vop, bop, uop, fltop, convop, endOk, newE, new1, freshL, Md.isNew, outV, pureV, pureX, pure1, AV.cells, AV.one, storable, laid, refless, refless1, vload, loadC, storeC, vnil, vfaddr, vextract, flatT, flatE, flatC, vconv, vmm, vidxA, viaddrA, vfield, vlen, elemsOf, dF32, dF64, dI64, dU8, dBool, dStr, esOk, elemsS, vsliceX, bnd, ownV, ownC, own1, ownT, isSl, nSl, endL, Md.isOwn, purge, purgeH, purgeB, purgeE, hasName, name1, List.any_cons, List.any_nil, Md.isWr, pureV.pureP, Option.map, reduceIte, Nat.reduceEqDiff, Nat.reduceAdd, Nat.reduceMul, Nat.reduceLT, Nat.reduceLeDiff, List.mapM_cons, List.mapM_nil, Option.pure_def, Option.bind_eq_bind, Option.bind_some, implies_true, forall_const, beq_self_eq_true, decide_true, decide_false, eq_self, Int.reduceEq, Int.reduceLE, Int.reduceLT, if_true, if_false, grpK, Int.reduceAdd, Int.reduceSub, Int.reduceMul, Int.reduceNeg, Int.reducePow, Nat.reducePow, Int.reduceToNat, Nat.reduceSub, List.replicate, Nat.reduceBEq, wAs, wA, wC, zipW, noDupN, grpE, beq_true, beq_false, g_impl_areSizes, ↓b_pick, ePk_true, ePk_false])
        | (refine eA_wk ((wk_nil (t := 6) (i := none) (l := 9006) (es := 1) ?_).trans (wk_norm (ks := [1, 6, 7, 21, 22, 23]) (ls := [9006]) ?_)) (eA_cast ?_ (sl8_1 y0 y1 _ _ _ _ _ _ (getD_some (d := default) (x := (l_impl_BytesOfWords_1 y0 y1 (Int.toNat (((List.length y0 : Nat) : Int) - 0) + 2) [] 0 0)) ?_) ?_ ?_)); (iterate 3 (simp only [nilS, nilV, nilB, normOk, optIn, blkIn, nameIn, normS, List.map_append, List.length_append, List.map_set, List.length_set, List.map_replicate, List.length_replicate, List.map_nil, List.map_cons,
          hp, grpA, vsliceS, grpS, grpD, grpF, grpL, eop, vop, bop, uop, fltop, convop, endOk, newE, new1, freshL, Md.isNew, outV, pureV, pureX, pure1, AV.cells, AV.one, storable, laid, refless, refless1, vload, loadC, storeC, vnil, vfaddr, vextract, flatT, flatE, flatC, vconv, vmm, vidxA, viaddrA, vfield, vlen, elemsOf, dF32, dF64, dI64, dU8, dBool, dStr, esOk, elemsS, vsliceX, bnd, ownV, ownC, own1, ownT, isSl, nSl, endL, Md.isOwn, purge, purgeH, purgeB, purgeE, hasName, name1, List.any_cons, List.any_nil, Md.isWr, pureV.pureP, Option.map, reduceIte, Nat.reduceEqDiff, Nat.reduceAdd, Nat.reduceMul, Nat.reduceLT, Nat.reduceLeDiff, List.mapM_cons, List.mapM_nil, Option.pure_def, Option.bind_eq_bind, Option.bind_some, implies_true, forall_const, beq_self_eq_true, decide_true, decide_false, eq_self, Int.reduceEq, Int.reduceLE, Int.reduceLT, if_true, if_false, grpK, Int.reduceAdd, Int.reduceSub, Int.reduceMul, Int.reduceNeg, Int.reducePow, Nat.reducePow, Int.reduceToNat, Nat.reduceSub, List.replicate, Nat.reduceBEq, wAs, wA, wC, zipW, noDupN, grpE, beq_true, beq_false, g_impl_areSizes, ↓b_pick, ePk_true, ePk_false] <;> first | rfl | (simp only [Nat.add_comm]; done))); (simp only [hp]); (
        intro st2 ht hw; simp only [Kq_ret, Kb_ret, Kl_ret, ret_ok]; first | exact h0 _ hw | exact h0 _ rfl hw | exact h1 _ rfl hw | exact h0 _ ht hw | exact h1 _ ht hw | (simp only [ht, need_iff, reduceCtorEq, grpN, Int.reduceEq, Int.reduceLT, Int.reduceLE, if_true, if_false, reduceIte] at h; (repeat (replace h := And.right h)); cases h; first | exact h0 _ hw | exact h0 _ rfl hw | exact h1 _ rfl hw) | refine ⟨_, hw, ?_⟩); rotate_left; (
        intro st2 ht hw; (try simp only [ht, reduceCtorEq, grpN, Int.reduceEq, Int.reduceLT, Int.reduceLE, if_true, if_false, reduceIte] at hp); (try replace hp := And.intro ht hp); simp only [
Kq_exit, Kq_normal, Kq_ret, Kb_exit, Kb_normal, Kb_ret, Kl_exit, Kl_normal, Kl_ret, reduceIte, Nat.reduceEqDiff, if_true, if_false, eq_self]; refine KW_of hw ?_; simp only [ht, 
          hp, grpA, vsliceS, grpS, grpD, grpF, grpL, eop, vop, bop, uop, fltop, convop, endOk, newE, new1, freshL, Md.isNew, outV, pureV, pureX, pure1, AV.cells, AV.one, storable, laid, refless, refless1, vload, loadC, storeC, vnil, vfaddr, vextract, flatT, flatE, flatC, vconv, vmm, vidxA, viaddrA, vfield, vlen, elemsOf, dF32, dF64, dI64, dU8, dBool, dStr, esOk, elemsS, vsliceX, bnd, ownV, ownC, own1, ownT, isSl, nSl, endL, Md.isOwn, purge, purgeH, purgeB, purgeE, hasName, name1, List.any_cons, List.any_nil, Md.isWr, pureV.pureP, Option.map, reduceIte, Nat.reduceEqDiff, Nat.reduceAdd, Nat.reduceMul, Nat.reduceLT, Nat.reduceLeDiff, List.mapM_cons, List.mapM_nil, Option.pure_def, Option.bind_eq_bind, Option.bind_some, implies_true, forall_const, beq_self_eq_true, decide_true, decide_false, eq_self, Int.reduceEq, Int.reduceLE, Int.reduceLT, if_true, if_false, grpK, Int.reduceAdd, Int.reduceSub, Int.reduceMul, Int.reduceNeg, Int.reducePow, Nat.reducePow, Int.reduceToNat, Nat.reduceSub, List.replicate, Nat.reduceBEq, wAs, wA, wC, zipW, noDupN, grpE, beq_true, beq_false, g_impl_areSizes, ↓b_pick, ePk_true, ePk_false])))
      all_goals (try simp only [*, m_impl_BytesOfWords, v_impl_BytesOfWords_19, Bool.and_true, Bool.true_and, Bool.and_false, Bool.false_and, Bool.or_true, Bool.true_or, Bool.or_false, Bool.false_or, Bool.not_true, Bool.not_false, Bool.false_eq_true, if_true, if_false, reduceIte, decide_true, decide_false])
      all_goals (try (simp_all; done))
    · cases h
  · cases h
def l_impl_WordsOfBytes_0 (x0 : (List UInt8)) (x1 : (List Int)) : Nat → Int → Int → Option Int
  | 0, _, _ => none
  | n + 1, z0_0, z0_1 => (if (decide (z0_1 < ((List.length x1 : Nat) : Int))) = true then (need (inB z0_1 (List.length x1)) (l_impl_WordsOfBytes_0 x0 x1 n (IntKind.wrap .i64 (z0_0 + (atI x1 z0_1))) (IntKind.wrap .i64 (z0_1 + 1)))) else (some z0_0))
def v_impl_WordsOfBytes_0 (x0 : (List UInt8)) (x1 : (List Int)) : Int := (IntKind.wrap .i64 (Int.tdiv (IntKind.wrap .i64 ((Option.getD (l_impl_WordsOfBytes_0 x0 x1 (Int.toNat (((List.length x1 : Nat) : Int) - 0) + 2) 0 0) default) + 7)) 8))
def v_impl_WordsOfBytes_48 (x0 : (List UInt8)) (z1_1 : Int) : Int := (IntKind.wrap .i64 (bitop .and .u8 (Int.fdiv (u8 (atI x0 (IntKind.wrap .i64 (Int.tdiv z1_1 8)))) (2 ^ (min ((IntKind.wrap .i64 (7 - (Int.tmod z1_1 8))) : Int).toNat 8))) 1))
def l_impl_WordsOfBytes_1 (x0 : (List UInt8)) (x1 : (List Int)) (z2_2 : Int) : Nat → (List Int) → Int → Int → Option (Int × (List Int))
  | 0, _, _, _ => none
  | n + 1, z1_0, z1_1, z1_2 => (if (decide (z1_2 < (atI x1 z2_2))) = true then (need (inB z2_2 (List.length z1_0)) (need (inB (IntKind.wrap .i64 (Int.tdiv z1_1 8)) (List.length x0)) (need (decide (0 ≤ (IntKind.wrap .i64 (7 - (Int.tmod z1_1 8))))) (l_impl_WordsOfBytes_1 x0 x1 z2_2 n (List.set z1_0 (Int.toNat z2_2) (bitop .or .i64 (IntKind.wrap .i64 ((atI z1_0 z2_2) * 2)) (v_impl_WordsOfBytes_48 x0 z1_1))) (IntKind.wrap .i64 (z1_1 + 1)) (IntKind.wrap .i64 (z1_2 + 1)))))) else (some (z1_1, z1_0)))
def l_impl_WordsOfBytes_2 (x0 : (List UInt8)) (x1 : (List Int)) : Nat → (List Int) → Int → Int → Option (List Int)
  | 0, _, _, _ => none
  | n + 1, z2_0, z2_1, z2_2 => (if (decide (z2_2 < ((List.length x1 : Nat) : Int))) = true then (need (inB z2_2 (List.length x1)) (need (Option.isSome (l_impl_WordsOfBytes_1 x0 x1 z2_2 (Int.toNat ((atI x1 z2_2) - 0) + 2) z2_0 z2_1 0)) (l_impl_WordsOfBytes_2 x0 x1 n (Option.getD (l_impl_WordsOfBytes_1 x0 x1 z2_2 (Int.toNat ((atI x1 z2_2) - 0) + 2) z2_0 z2_1 0) default).2 (Option.getD (l_impl_WordsOfBytes_1 x0 x1 z2_2 (Int.toNat ((atI x1 z2_2) - 0) + 2) z2_0 z2_1 0) default).1 (IntKind.wrap .i64 (z2_2 + 1))))) else (some z2_0))
def v_impl_WordsOfBytes_369 (x0 : (List UInt8)) (x1 : (List Int)) : Bool := (m_impl_BytesOfWords (Option.getD (l_impl_WordsOfBytes_2 x0 x1 (Int.toNat (((List.length x1 : Nat) : Int) - 0) + 2) (List.replicate (Int.toNat ((List.length x1 : Nat) : Int)) 0) 0 0) default) x1).2
def v_impl_WordsOfBytes_370 (x0 : (List UInt8)) (x1 : (List Int)) : Bool := (!(decide ((m_impl_BytesOfWords (Option.getD (l_impl_WordsOfBytes_2 x0 x1 (Int.toNat (((List.length x1 : Nat) : Int) - 0) + 2) (List.replicate (Int.toNat ((List.length x1 : Nat) : Int)) 0) 0 0) default) x1).1 = x0)))
def m_impl_WordsOfBytes (x0 : (List UInt8)) (x1 : (List Int)) : ((List Int) × Bool) := (if (m_impl_areSizes x1) = true then (if (decide (((List.length x0 : Nat) : Int) = (v_impl_WordsOfBytes_0 x0 x1))) = true then (if (v_impl_WordsOfBytes_369 x0 x1) = true then (if (v_impl_WordsOfBytes_370 x0 x1) = true then ([], false) else ((Option.getD (l_impl_WordsOfBytes_2 x0 x1 (Int.toNat (((List.length x1 : Nat) : Int) - 0) + 2) (List.replicate (Int.toNat ((List.length x1 : Nat) : Int)) 0) 0 0) default), true)) else ([], false)) else ([], false)) else ([], false))
def p_impl_WordsOfBytes (x0 : (List UInt8)) (x1 : (List Int)) : Bool := ((p_impl_areSizes x1) && (!(m_impl_areSizes x1) || ((Option.isSome (l_impl_WordsOfBytes_0 x0 x1 (Int.toNat (((List.length x1 : Nat) : Int) - 0) + 2) 0 0)) && (!(decide (((List.length x0 : Nat) : Int) = (v_impl_WordsOfBytes_0 x0 x1))) || ((decide (0 ≤ ((List.length x1 : Nat) : Int))) && ((decide (((List.length x1 : Nat) : Int) * 8 ≤ 70368744177664)) && ((decide (((List.length x1 : Nat) : Int) ≤ 70368744177664)) && ((Option.isSome (l_impl_WordsOfBytes_2 x0 x1 (Int.toNat (((List.length x1 : Nat) : Int) - 0) + 2) (List.replicate (Int.toNat ((List.length x1 : Nat) : Int)) 0) 0 0)) && (p_impl_BytesOfWords (Option.getD (l_impl_WordsOfBytes_2 x0 x1 (Int.toNat (((List.length x1 : Nat) : Int) - 0) + 2) (List.replicate (Int.toNat ((List.length x1 : Nat) : Int)) 0) 0 0) default) x1)))))))))
def g_impl_WordsOfBytes : List AV → Option AV
  | [.str y0, .sl w1] => (match decL dI64 w1 with | some y1 => (if p_impl_WordsOfBytes y0 y1 = true then some (AV.tup [(.sl (List.map (AV.int .i64) (m_impl_WordsOfBytes y0 y1).1)), (.bool (m_impl_WordsOfBytes y0 y1).2)]) else none) | none => none)
  | _ => none
def lb9_0 : ICode := (.seq (.reg [⟨(some 21), none, (.bin .lss false (.t 20) (.t 19))⟩] [0, 1, 6, 18, 19, 20, 21]) (.seq (.cond (.t 21) .skip (.exit 0)) (.seq (.block 1 (.seq (.reg [⟨(some 22), none, (.iaddrS 1 (.t 18) (.t 20))⟩, ⟨(some 23), none, (.load none (.t 22))⟩, ⟨(some 8), none, (.mov (.t 23))⟩] [0, 1, 6, 8, 18, 19, 20]) (.reg [⟨(some 24), none, (.mov (.t 6))⟩, ⟨(some 25), none, (.mov (.t 8))⟩, ⟨(some 26), none, (.bin .add false (.t 24) (.t 25))⟩, ⟨(some 6), none, (.mov (.t 26))⟩] [0, 1, 6, 18, 19, 20]))) (.reg [⟨(some 27), none, (.bin .add false (.t 20) (.c (.int .i64 1)))⟩, ⟨(some 20), none, (.mov (.t 27))⟩] [0, 1, 6, 18, 19, 20]))))
def lb9_1 : ICode := (.seq (.reg [⟨(some 46), none, (.bin .lss false (.t 45) (.t 44))⟩] [0, 1, 9, 10, 11, 37, 38, 39, 44, 45, 46]) (.seq (.cond (.t 46) .skip (.exit 4)) (.seq (.block 5 (.seq (.reg [⟨(some 47), none, (.mov (.t 9))⟩, ⟨(some 48), none, (.mov (.t 11))⟩, ⟨(some 49), none, (.mov (.t 9))⟩, ⟨(some 50), none, (.mov (.t 11))⟩, ⟨(some 51), none, (.iaddrS 1 (.t 49) (.t 50))⟩, ⟨(some 52), none, (.load none (.t 51))⟩, ⟨(some 53), none, (.bin .shl false (.t 52) (.c (.int .u64 1)))⟩, ⟨(some 54), none, (.mov (.t 0))⟩, ⟨(some 55), none, (.mov (.t 10))⟩, ⟨(some 56), none, (.bin .quo false (.t 55) (.c (.int .i64 8)))⟩, ⟨(some 57), none, (.idxS (.t 54) (.t 56))⟩, ⟨(some 58), none, (.mov (.t 10))⟩, ⟨(some 59), none, (.bin .rem false (.t 58) (.c (.int .i64 8)))⟩, ⟨(some 60), none, (.bin .sub false (.c (.int .i64 7)) (.t 59))⟩, ⟨(some 61), none, (.bin .shr false (.t 57) (.t 60))⟩, ⟨(some 62), none, (.bin .and false (.t 61) (.c (.int .u8 1)))⟩, ⟨(some 63), none, (.conv (.int .i64) (.t 62))⟩, ⟨(some 64), none, (.bin .or false (.t 53) (.t 63))⟩, ⟨(some 65), none, (.iaddrS 1 (.t 47) (.t 48))⟩, ⟨none, none, (.store 1 (.t 65) (.t 64))⟩] [0, 1, 9, 10, 11, 37, 38, 39, 44, 45]) (.reg [⟨(some 66), none, (.mov (.t 10))⟩, ⟨(some 67), none, (.bin .add false (.t 66) (.c (.int .i64 1)))⟩, ⟨(some 10), none, (.mov (.t 67))⟩] [0, 1, 9, 10, 11, 37, 38, 39, 44, 45]))) (.reg [⟨(some 68), none, (.bin .add false (.t 45) (.c (.int .i64 1)))⟩, ⟨(some 45), none, (.mov (.t 68))⟩] [0, 1, 9, 10, 11, 37, 38, 39, 44, 45]))))
def lb9_2 : ICode := (.seq (.reg [⟨(some 40), none, (.bin .lss false (.t 39) (.t 38))⟩] [0, 1, 9, 10, 37, 38, 39, 40]) (.seq (.cond (.t 40) .skip (.exit 2)) (.seq (.block 3 (.seq (.reg [⟨(some 41), none, (.mov (.t 39))⟩, ⟨(some 42), none, (.iaddrS 1 (.t 37) (.t 39))⟩, ⟨(some 43), none, (.load none (.t 42))⟩, ⟨(some 11), none, (.mov (.t 41))⟩, ⟨(some 12), none, (.mov (.t 43))⟩] [0, 1, 9, 10, 11, 12, 37, 38, 39]) (.seq (.reg [⟨(some 44), none, (.mov (.t 12))⟩, ⟨(some 45), none, (.mov (.c (.int .i64 0)))⟩] [0, 1, 9, 10, 11, 37, 38, 39, 44, 45]) (.block 4 (.loop lb9_1))))) (.reg [⟨(some 69), none, (.bin .add false (.t 39) (.c (.int .i64 1)))⟩, ⟨(some 39), none, (.mov (.t 69))⟩] [0, 1, 9, 10, 37, 38, 39]))))
def ic9 : ICode := (.seq (.reg [⟨(some 4), none, (.mov (.c .snil))⟩, ⟨(some 5), none, (.mov (.c (.bool false)))⟩] [0, 1]) (.seq (.seq (.reg [⟨(some 15), none, (.mov (.t 1))⟩, ⟨(some 16), none, (.call (.fn 20) [(.t 15)] [])⟩, ⟨(some 17), none, (.un .not (.t 16))⟩] [0, 1, 17]) (.cond (.t 17) (.seq (.reg [⟨(some 4), none, (.mov (.c .snil))⟩, ⟨(some 5), none, (.mov (.c (.bool false)))⟩] [4, 5]) .ret) .skip)) (.seq (.reg [⟨(some 6), none, (.mov (.c (.int .i64 0)))⟩] [0, 1, 6]) (.seq (.seq (.reg [⟨(some 18), none, (.mov (.t 1))⟩, ⟨(some 19), none, (.len false (.t 18))⟩, ⟨(some 20), none, (.mov (.c (.int .i64 0)))⟩] [0, 1, 6, 18, 19, 20]) (.block 0 (.loop lb9_0))) (.seq (.seq (.reg [⟨(some 28), none, (.mov (.t 0))⟩, ⟨(some 29), none, (.len true (.t 28))⟩, ⟨(some 30), none, (.mov (.t 6))⟩, ⟨(some 31), none, (.bin .add false (.t 30) (.c (.int .i64 7)))⟩, ⟨(some 32), none, (.bin .quo false (.t 31) (.c (.int .i64 8)))⟩, ⟨(some 33), none, (.bin .neq false (.t 29) (.t 32))⟩] [0, 1, 33]) (.cond (.t 33) (.seq (.reg [⟨(some 4), none, (.mov (.c .snil))⟩, ⟨(some 5), none, (.mov (.c (.bool false)))⟩] [4, 5]) .ret) .skip)) (.seq (.reg [⟨(some 34), none, (.mov (.t 1))⟩, ⟨(some 35), none, (.len false (.t 34))⟩, ⟨(some 36), none, (.mkslice 1 8 (.int .i64 0) (.t 35) (.t 35))⟩, ⟨(some 9), none, (.mov (.t 36))⟩] [0, 1, 9]) (.seq (.reg [⟨(some 10), none, (.mov (.c (.int .i64 0)))⟩] [0, 1, 9, 10]) (.seq (.seq (.reg [⟨(some 37), none, (.mov (.t 1))⟩, ⟨(some 38), none, (.len false (.t 37))⟩, ⟨(some 39), none, (.mov (.c (.int .i64 0)))⟩] [0, 1, 9, 10, 37, 38, 39]) (.block 2 (.loop lb9_2))) (.seq (.seq (.reg [⟨(some 71), none, (.mov (.t 9))⟩, ⟨(some 72), none, (.mov (.t 1))⟩, ⟨(some 73), none, (.call (.fn 8) [(.t 71), (.t 72)] [])⟩, ⟨(some 70), none, (.mov (.t 73))⟩, ⟨(some 74), none, (.extract (.t 70) 0)⟩, ⟨(some 75), none, (.extract (.t 70) 1)⟩, ⟨(some 13), none, (.mov (.t 74))⟩, ⟨(some 14), none, (.mov (.t 75))⟩] [0, 9, 13, 14]) (.seq (.reg [⟨(some 76), none, (.mov (.t 14))⟩, ⟨(some 77), none, (.un .not (.t 76))⟩, ⟨(some 78), none, (.mov (.t 77))⟩, ⟨(some 79), (some (78, false)), (.mov (.t 13))⟩, ⟨(some 80), (some (78, false)), (.mov (.t 0))⟩, ⟨(some 81), (some (78, false)), (.bin .neq false (.t 79) (.t 80))⟩, ⟨(some 82), none, (.pick (.t 78) (.c (.bool true)) (.t 81))⟩] [9, 82]) (.cond (.t 82) (.seq (.reg [⟨(some 4), none, (.mov (.c .snil))⟩, ⟨(some 5), none, (.mov (.c (.bool false)))⟩] [4, 5]) .ret) .skip))) (.seq (.reg [⟨(some 83), none, (.mov (.t 9))⟩, ⟨(some 4), none, (.mov (.t
      83))⟩, ⟨(some 5), none, (.mov (.c (.bool true)))⟩] [4, 5]) .ret))))))))))
def cp9 : CP := CP.mk [] [] [[0, 1], [0, 1, 17], [4, 5], [0, 1, 6], [0, 1, 6, 18, 19, 20], [0, 1, 6, 18, 19, 20, 21], [0, 1, 6, 8, 18, 19, 20], [0, 1, 6, 18, 19, 20], [0, 1, 6, 18, 19, 20], [0, 1, 33], [4, 5], [0, 1, 9], [0, 1, 9, 10], [0, 1, 9, 10, 37, 38, 39], [0, 1, 9, 10, 37, 38, 39, 40], [0, 1, 9, 10, 11, 12, 37, 38, 39], [0, 1, 9, 10, 11, 37, 38, 39, 44, 45], [0, 1, 9, 10, 11, 37, 38, 39, 44, 45, 46], [0, 1, 9, 10, 11, 37, 38, 39, 44, 45], [0, 1, 9, 10, 11, 37, 38, 39, 44, 45], [0, 1, 9, 10, 11, 37, 38, 39, 44, 45], [0, 1, 9, 10, 37, 38, 39], [0, 9, 13, 14], [9, 82], [4, 5], [4, 5]] 84 [] []
theorem sl9_0 (x0 : (List UInt8)) (x1 : (List Int)) : ∀ (n : Nat) (z0_0 : Int) (z0_1 : Int) (o : Int) (K : IExit → St → Prop), l_impl_WordsOfBytes_0 x0 x1 n z0_0 z0_1 = some o → (∀ st, Wk st (⟨[(0, (.str x0)), (1, (.sl (List.map (AV.int .i64) x1))), (6, (.int .i64 o))], []⟩ : St) → K (.exit 0) st) → eA (tabOf [(8, wM .any g_impl_BytesOfWords), (20, wM .any g_impl_areSizes)]) (.loop lb9_0) (⟨[(0, (.str x0)), (1, (.sl (List.map (AV.int .i64) x1))), (6, (.int .i64 z0_0)), (18, (.sl (List.map (AV.int .i64) x1))), (19, (.int .i64 ((List.length x1 : Nat) : Int))), (20, (.int .i64 z0_1))], []⟩ : St) K := by
  intro n
  induction n with
  | zero =>
    intro z0_0 z0_1 o K h h0
    simp only [l_impl_WordsOfBytes_0, reduceCtorEq] at h
  | succ n ih =>
    intro z0_0 z0_1 o K h h0
    refine eA_loop ?_
    unfold lb9_0
    unfold l_impl_WordsOfBytes_0 at h
    (try simp only [need_iff, v_impl_WordsOfBytes_0, v_impl_WordsOfBytes_48, v_impl_WordsOfBytes_369, v_impl_WordsOfBytes_370] at h)
    simp only [
      need_iff, h, grpA, vsliceS, grpS, grpD, grpF, grpL, eop, vop, bop, uop, fltop, convop, endOk, newE, new1, freshL, Md.isNew, outV, pureV, pureX, pure1, AV.cells, AV.one, storable, laid, refless, refless1, vload, loadC, storeC, vnil, vfaddr, vextract, flatT, flatE, flatC, vconv, vmm, vidxA, viaddrA, vfield, vlen, elemsOf, dF32, dF64, dI64, dU8, dBool, dStr, esOk, elemsS, vsliceX, bnd, ownV, ownC, own1, ownT, isSl, nSl, endL, Md.isOwn, purge, purgeH, purgeB, purgeE, hasName, name1, List.any_cons, List.any_nil, Md.isWr, pureV.pureP, Option.map, reduceIte, Nat.reduceEqDiff, Nat.reduceAdd, Nat.reduceMul, Nat.reduceLT, Nat.reduceLeDiff, List.mapM_cons, List.mapM_nil, Option.pure_def, Option.bind_eq_bind, Option.bind_some, implies_true, forall_const, beq_self_eq_true, decide_true, decide_false, eq_self, Int.reduceEq, Int.reduceLE, Int.reduceLT, if_true, if_false, grpK, Int.reduceAdd, Int.reduceSub, Int.reduceMul, Int.reduceNeg, Int.reducePow, Nat.reducePow, Int.reduceToNat, Nat.reduceSub, List.replicate, Nat.reduceBEq, wAs, wA, wC, zipW, noDupN, grpE, beq_true, beq_false, g_impl_BytesOfWords, g_impl_areSizes, ↓b_pick, ePk_true, ePk_false]
    repeat' (first
      | ((first | (refine eGI_of (fun hc => ?_) (fun hc => ?_)) | (refine eCc_of (fun hc => ?_) (fun hc => ?_)) | (refine ePk_of (fun hc => ?_) (fun hc => ?_)) | (have hc := True.intro; refine KW_refl ?_)) <;> (try simp only [Bool.not_eq_true', Bool.not_eq_false'] at hc) <;> (try simp only [hc, need_iff, reduceCtorEq, grpN, Int.reduceEq, Int.reduceLT, Int.reduceLE, if_true, if_false, reduceIte] at h) <;> (first | (have hc2 := hc; simp only [decide_eq_true_eq, decide_eq_false_iff_not] at hc2; (first | (replace hc2 := eq_false hc2) | (replace hc2 := eq_true hc2)); (try simp only [hc2, need_iff, reduceCtorEq, grpN, Int.reduceEq, Int.reduceLT, Int.reduceLE, if_true, if_false, reduceIte] at h); replace h := And.intro hc2 h) | (replace h := And.intro hc h) | skip) <;> simp only [hc,
      need_iff, h, grpA, vsliceS, grpS, grpD, grpF, grpL, eop, vop, bop, uop, fltop, convop, endOk, newE, new1, freshL, Md.isNew, outV, pureV, pureX, pure1, AV.cells, AV.one, storable, laid, refless, refless1, vload, loadC, storeC, vnil, vfaddr, vextract, flatT, flatE, flatC, vconv, vmm, vidxA, viaddrA, vfield, vlen, elemsOf, dF32, dF64, dI64, dU8, dBool, dStr, esOk, elemsS, vsliceX, bnd, ownV, ownC, own1, ownT, isSl, nSl, endL, Md.isOwn, purge, purgeH, purgeB, purgeE, hasName, name1, List.any_cons, List.any_nil, Md.isWr, pureV.pureP, Option.map, reduceIte, Nat.reduceEqDiff, Nat.reduceAdd, Nat.reduceMul, Nat.reduceLT, Nat.reduceLeDiff, List.mapM_cons, List.mapM_nil, Option.pure_def, Option.bind_eq_bind, Option.bind_some, implies_true, forall_const, beq_self_eq_true, decide_true, decide_false, eq_self, Int.reduceEq, Int.reduceLE, Int.reduceLT, if_true, if_false, grpK, Int.reduceAdd, Int.reduceSub, Int.reduceMul, Int.reduceNeg, Int.reducePow, Nat.reducePow, Int.reduceToNat, Nat.reduceSub, List.replicate, Nat.reduceBEq, wAs, wA, wC, zipW, noDupN, grpE, beq_true, beq_false, g_impl_BytesOfWords, g_impl_areSizes, ↓b_pick, ePk_true, ePk_false]))
    all_goals (have hf := h)
    all_goals (repeat (replace h := And.right h))
    all_goals ((first | (refine eA_wk (wk_norm (ks := [0, 1, 6, 18, 19, 20]) (ls := []) ?_) (eA_cast ?_ (ih _ _ _ _ h h0))) | (cases h; have h := True.intro; refine h0 _ (Wk.cast (wk_norm (ks := [0, 1, 6]) (ls := []) ?_) ?_))) <;> simp only [normOk, optIn, blkIn, nameIn, normS, List.map_append, List.length_append, List.map_set, List.length_set, List.map_replicate, List.length_replicate, List.map_nil, List.map_cons,
      need_iff, h, hf, grpA, vsliceS, grpS, grpD, grpF, grpL, eop, vop, bop, uop, fltop, convop, endOk, newE, new1, freshL, Md.isNew, outV, pureV, pureX, pure1, AV.cells, AV.one, storable, laid, refless, refless1, vload, loadC, storeC, vnil, vfaddr, vextract, flatT, flatE, flatC, vconv, vmm, vidxA, viaddrA, vfield, vlen, elemsOf, dF32, dF64, dI64, dU8, dBool, dStr, esOk, elemsS, vsliceX, bnd, ownV, ownC, own1, ownT, isSl, nSl, endL, Md.isOwn, purge, purgeH, purgeB, purgeE, hasName, name1, List.any_cons, List.any_nil, Md.isWr, pureV.pureP, Option.map, reduceIte, Nat.reduceEqDiff, Nat.reduceAdd, Nat.reduceMul, Nat.reduceLT, Nat.reduceLeDiff, List.mapM_cons, List.mapM_nil, Option.pure_def, Option.bind_eq_bind, Option.bind_some, implies_true, forall_const, beq_self_eq_true, decide_true, decide_false, eq_self, Int.reduceEq, Int.reduceLE, Int.reduceLT, if_true, if_false, grpK, Int.reduceAdd, Int.reduceSub, Int.reduceMul, Int.reduceNeg, Int.reducePow, Nat.reducePow, Int.reduceToNat, Nat.reduceSub, List.replicate, Nat.reduceBEq, wAs, wA, wC, zipW, noDupN, grpE, beq_true, beq_false, g_impl_BytesOfWords, g_impl_areSizes, ↓b_pick, ePk_true, ePk_false] <;> first | rfl | (simp only [Nat.add_comm]; done))
theorem sl9_1 (x0 : (List UInt8)) (x1 : (List Int)) (z2_2 : Int) : ∀ (n : Nat) (z1_0 : (List Int)) (z1_1 : Int) (z1_2 : Int) (o : (Int × (List Int))) (K : IExit → St → Prop), l_impl_WordsOfBytes_1 x0 x1 z2_2 n z1_0 z1_1 z1_2 = some o → (∀ st, Wk st (⟨[(0, (.str x0)), (1, (.sl (List.map (AV.int .i64) x1))), (9, (.lsl 36 0 (List.length o.2))), (10, (.int .i64 o.1)), (37, (.sl (List.map (AV.int .i64) x1))), (38, (.int .i64 ((List.length x1 : Nat) : Int))), (39, (.int .i64 z2_2))], [(36, (some ⟨1, true, (List.map (AV.int .i64) o.2)⟩))]⟩ : St) → K (.exit 4) st) → eA (tabOf [(8, wM .any g_impl_BytesOfWords), (20, wM .any g_impl_areSizes)]) (.loop lb9_1) (⟨[(0, (.str x0)), (1, (.sl (List.map (AV.int .i64) x1))), (9, (.lsl 36 0 (List.length z1_0))), (10, (.int .i64 z1_1)), (11, (.int .i64 z2_2)), (37, (.sl (List.map (AV.int .i64) x1))), (38, (.int .i64 ((List.length x1 : Nat) : Int))), (39, (.int .i64 z2_2)), (44, (.int .i64 (atI x1 z2_2))), (45, (.int .i64 z1_2))], [(36, (some ⟨1, true, (List.map (AV.int .i64) z1_0)⟩))]⟩ : St) K := by
  intro n
  induction n with
  | zero =>
    intro z1_0 z1_1 z1_2 o K h h0
    simp only [l_impl_WordsOfBytes_1, reduceCtorEq] at h
  | succ n ih =>
    intro z1_0 z1_1 z1_2 o K h h0
    refine eA_loop ?_
    unfold lb9_1
    unfold l_impl_WordsOfBytes_1 at h
    (try simp only [need_iff, v_impl_WordsOfBytes_0, v_impl_WordsOfBytes_48, v_impl_WordsOfBytes_369, v_impl_WordsOfBytes_370] at h)
    simp only [
      need_iff, h, grpA, vsliceS, grpS, grpD, grpF, grpL, eop, vop, bop, uop, fltop, convop, endOk, newE, new1, freshL, Md.isNew, outV, pureV, pureX, pure1, AV.cells, AV.one, storable, laid, refless, refless1, vload, loadC, storeC, vnil, vfaddr, vextract, flatT, flatE, flatC, vconv, vmm, vidxA, viaddrA, vfield, vlen, elemsOf, dF32, dF64, dI64, dU8, dBool, dStr, esOk, elemsS, vsliceX, bnd, ownV, ownC, own1, ownT, isSl, nSl, endL, Md.isOwn, purge, purgeH, purgeB, purgeE, hasName, name1, List.any_cons, List.any_nil, Md.isWr, pureV.pureP, Option.map, reduceIte, Nat.reduceEqDiff, Nat.reduceAdd, Nat.reduceMul, Nat.reduceLT, Nat.reduceLeDiff, List.mapM_cons, List.mapM_nil, Option.pure_def, Option.bind_eq_bind, Option.bind_some, implies_true, forall_const, beq_self_eq_true, decide_true, decide_false, eq_self, Int.reduceEq, Int.reduceLE, Int.reduceLT, if_true, if_false, grpK, Int.reduceAdd, Int.reduceSub, Int.reduceMul, Int.reduceNeg, Int.reducePow, Nat.reducePow, Int.reduceToNat, Nat.reduceSub, List.replicate, Nat.reduceBEq, wAs, wA, wC, zipW, noDupN, grpE, beq_true, beq_false, g_impl_BytesOfWords, g_impl_areSizes, ↓b_pick, ePk_true, ePk_false]
    repeat' (first
      | ((first | (refine eGI_of (fun hc => ?_) (fun hc => ?_)) | (refine eCc_of (fun hc => ?_) (fun hc => ?_)) | (refine ePk_of (fun hc => ?_) (fun hc => ?_)) | (have hc := True.intro; refine KW_refl ?_)) <;> (try simp only [Bool.not_eq_true', Bool.not_eq_false'] at hc) <;> (try simp only [hc, need_iff, reduceCtorEq, grpN, Int.reduceEq, Int.reduceLT, Int.reduceLE, if_true, if_false, reduceIte] at h) <;> (first | (have hc2 := hc; simp only [decide_eq_true_eq, decide_eq_false_iff_not] at hc2; (first | (replace hc2 := eq_false hc2) | (replace hc2 := eq_true hc2)); (try simp only [hc2, need_iff, reduceCtorEq, grpN, Int.reduceEq, Int.reduceLT, Int.reduceLE, if_true, if_false, reduceIte] at h); replace h := And.intro hc2 h) | (replace h := And.intro hc h) | skip) <;> simp only [hc,
      need_iff, h, grpA, vsliceS, grpS, grpD, grpF, grpL, eop, vop, bop, uop, fltop, convop, endOk, newE, new1, freshL, Md.isNew, outV, pureV, pureX, pure1, AV.cells, AV.one, storable, laid, refless, refless1, vload, loadC, storeC, vnil, vfaddr, vextract, flatT, flatE, flatC, vconv, vmm, vidxA, viaddrA, vfield, vlen, elemsOf, dF32, dF64, dI64, dU8, dBool, dStr, esOk, elemsS, vsliceX, bnd, ownV, ownC, own1, ownT, isSl, nSl, endL, Md.isOwn, purge, purgeH, purgeB, purgeE, hasName, name1, List.any_cons, List.any_nil, Md.isWr, pureV.pureP, Option.map, reduceIte, Nat.reduceEqDiff, Nat.reduceAdd, Nat.reduceMul, Nat.reduceLT, Nat.reduceLeDiff, List.mapM_cons, List.mapM_nil, Option.pure_def, Option.bind_eq_bind, Option.bind_some, implies_true, forall_const, beq_self_eq_true, decide_true, decide_false, eq_self, Int.reduceEq, Int.reduceLE, Int.reduceLT, if_true, if_false, grpK, Int.reduceAdd, Int.reduceSub, Int.reduceMul, Int.reduceNeg, Int.reducePow, Nat.reducePow, Int.reduceToNat, Nat.reduceSub, List.replicate, Nat.reduceBEq, wAs, wA, wC, zipW, noDupN, grpE, beq_true, beq_false, g_impl_BytesOfWords, g_impl_areSizes, ↓b_pick, ePk_true, ePk_false]))
    all_goals (have hf := h)
    all_goals (repeat (replace h := And.right h))
    all_goals ((first | (refine eA_wk (wk_norm (ks := [0, 1, 9, 10, 11, 37, 38, 39, 44, 45]) (ls := [36]) ?_) (eA_cast ?_ (ih _ _ _ _ _ h h0))) | (cases h; have h := True.intro; refine h0 _ (Wk.cast (wk_norm (ks := [0, 1, 9, 10, 37, 38, 39]) (ls := [36]) ?_) ?_))) <;> simp only [normOk, optIn, blkIn, nameIn, normS, List.map_append, List.length_append, List.map_set, List.length_set, List.map_replicate, List.length_replicate, List.map_nil, List.map_cons,
      need_iff, h, hf, grpA, vsliceS, grpS, grpD, grpF, grpL, eop, vop, bop, uop, fltop, convop, endOk, newE, new1, freshL, Md.isNew, outV, pureV, pureX, pure1, AV.cells, AV.one, storable, laid, refless, refless1, vload, loadC, storeC, vnil, vfaddr, vextract, flatT, flatE, flatC, vconv, vmm, vidxA, viaddrA, vfield, vlen, elemsOf, dF32, dF64, dI64, dU8, dBool, dStr, esOk, elemsS, vsliceX, bnd, ownV, ownC, own1, ownT, isSl, nSl, endL, Md.isOwn, purge, purgeH, purgeB, purgeE, hasName, name1, List.any_cons, List.any_nil, Md.isWr, pureV.pureP, Option.map, reduceIte, Nat.reduceEqDiff, Nat.reduceAdd, Nat.reduceMul, Nat.reduceLT, Nat.reduceLeDiff, List.mapM_cons, List.mapM_nil, Option.pure_def, Option.bind_eq_bind, Option.bind_some, implies_true, forall_const, beq_self_eq_true, decide_true, decide_false, eq_self, Int.reduceEq, Int.reduceLE, Int.reduceLT, if_true, if_false, grpK, Int.reduceAdd, Int.reduceSub, Int.reduceMul, Int.reduceNeg, Int.reducePow, Nat.reducePow, Int.reduceToNat, Nat.reduceSub, List.replicate, Nat.reduceBEq, wAs, wA, wC, zipW, noDupN, grpE, beq_true, beq_false, g_impl_BytesOfWords, g_impl_areSizes, ↓b_pick, ePk_true, ePk_false] <;> first | rfl | (simp only [Nat.add_comm]; done))
theorem sl9_2 (x0 : (List UInt8)) (x1 : (List Int)) : ∀ (n : Nat) (z2_0 : (List Int)) (z2_1 : Int) (z2_2 : Int) (o : (List Int)) (K : IExit → St → Prop), l_impl_WordsOfBytes_2 x0 x1 n z2_0 z2_1 z2_2 = some o → (∀ st, Wk st (⟨[(0, (.str x0)), (1, (.sl (List.map (AV.int .i64) x1))), (9, (.lsl 36 0 (List.length o)))], [(36, (some ⟨1, true, (List.map (AV.int .i64) o)⟩))]⟩ : St) → K (.exit 2) st) → eA (tabOf [(8, wM .any g_impl_BytesOfWords), (20, wM .any g_impl_areSizes)]) (.loop lb9_2) (⟨[(0, (.str x0)), (1, (.sl (List.map (AV.int .i64) x1))), (9, (.lsl 36 0 (List.length z2_0))), (10, (.int .i64 z2_1)), (37, (.sl (List.map (AV.int .i64) x1))), (38, (.int .i64 ((List.length x1 : Nat) : Int))), (39, (.int .i64 z2_2))], [(36, (some ⟨1, true, (List.map (AV.int .i64) z2_0)⟩))]⟩ : St) K := by
  intro n
  induction n with
  | zero =>
    intro z2_0 z2_1 z2_2 o K h h0
    simp only [l_impl_WordsOfBytes_2, reduceCtorEq] at h
  | succ n ih =>
    intro z2_0 z2_1 z2_2 o K h h0
    refine eA_loop ?_
    unfold lb9_2
    unfold l_impl_WordsOfBytes_2 at h
    (try simp only [need_iff, v_impl_WordsOfBytes_0, v_impl_WordsOfBytes_48, v_impl_WordsOfBytes_369, v_impl_WordsOfBytes_370] at h)
    simp only [
      need_iff, h, grpA, vsliceS, grpS, grpD, grpF, grpL, eop, vop, bop, uop, fltop, convop, endOk, newE, new1, freshL, Md.isNew, outV, pureV, pureX, pure1, AV.cells, AV.one, storable, laid, refless, refless1, vload, loadC, storeC, vnil, vfaddr, vextract, flatT, flatE, flatC, vconv, vmm, vidxA, viaddrA, vfield, vlen, elemsOf, dF32, dF64, dI64, dU8, dBool, dStr, esOk, elemsS, vsliceX, bnd, ownV, ownC, own1, ownT, isSl, nSl, endL, Md.isOwn, purge, purgeH, purgeB, purgeE, hasName, name1, List.any_cons, List.any_nil, Md.isWr, pureV.pureP, Option.map, reduceIte, Nat.reduceEqDiff, Nat.reduceAdd, Nat.reduceMul, Nat.reduceLT, Nat.reduceLeDiff, List.mapM_cons, List.mapM_nil, Option.pure_def, Option.bind_eq_bind, Option.bind_some, implies_true, forall_const, beq_self_eq_true, decide_true, decide_false, eq_self, Int.reduceEq, Int.reduceLE, Int.reduceLT, if_true, if_false, grpK, Int.reduceAdd, Int.reduceSub, Int.reduceMul, Int.reduceNeg, Int.reducePow, Nat.reducePow, Int.reduceToNat, Nat.reduceSub, List.replicate, Nat.reduceBEq, wAs, wA, wC, zipW, noDupN, grpE, beq_true, beq_false, g_impl_BytesOfWords, g_impl_areSizes, ↓b_pick, ePk_true, ePk_false]
    repeat' (first
      | ((first | (refine eGI_of (fun hc => ?_) (fun hc => ?_)) | (refine eCc_of (fun hc => ?_) (fun hc => ?_)) | (refine ePk_of (fun hc => ?_) (fun hc => ?_)) | (have hc := True.intro; refine KW_refl ?_)) <;> (try simp only [Bool.not_eq_true', Bool.not_eq_false'] at hc) <;> (try simp only [hc, need_iff, reduceCtorEq, grpN, Int.reduceEq, Int.reduceLT, Int.reduceLE, if_true, if_false, reduceIte] at h) <;> (first | (have hc2 := hc; simp only [decide_eq_true_eq, decide_eq_false_iff_not] at hc2; (first | (replace hc2 := eq_false hc2) | (replace hc2 := eq_true hc2)); (try simp only [hc2, need_iff, reduceCtorEq, grpN, Int.reduceEq, Int.reduceLT, Int.reduceLE, if_true, if_false, reduceIte] at h); replace h := And.intro hc2 h) | (replace h := And.intro hc h) | skip) <;> simp only [hc,
      need_iff, h, grpA, vsliceS, grpS, grpD, grpF, grpL, eop, vop, bop, uop, fltop, convop, endOk, newE, new1, freshL, Md.isNew, outV, pureV, pureX, pure1, AV.cells, AV.one, storable, laid, refless, refless1, vload, loadC, storeC, vnil, vfaddr, vextract, flatT, flatE, flatC, vconv, vmm, vidxA, viaddrA, vfield, vlen, elemsOf, dF32, dF64, dI64, dU8, dBool, dStr, esOk, elemsS, vsliceX, bnd, ownV, ownC, own1, ownT, isSl, nSl, endL, Md.isOwn, purge, purgeH, purgeB, purgeE, hasName, name1, List.any_cons, List.any_nil, Md.isWr, pureV.pureP, Option.map, reduceIte, Nat.reduceEqDiff, Nat.reduceAdd, Nat.reduceMul, Nat.reduceLT, Nat.reduceLeDiff, List.mapM_cons, List.mapM_nil, Option.pure_def, Option.bind_eq_bind, Option.bind_some, implies_true, forall_const, beq_self_eq_true, decide_true, decide_false, eq_self, Int.reduceEq, Int.reduceLE, Int.reduceLT, if_true, if_false, grpK, Int.reduceAdd, Int.reduceSub, Int.reduceMul, Int.reduceNeg, Int.reducePow, Nat.reducePow, Int.reduceToNat, Nat.reduceSub, List.replicate, Nat.reduceBEq, wAs, wA, wC, zipW, noDupN, grpE, beq_true, beq_false, g_impl_BytesOfWords, g_impl_areSizes, ↓b_pick, ePk_true, ePk_false])
      | (refine eA_wk (wk_norm (ks := [0, 1, 9, 10, 11, 37, 38, 39, 44, 45]) (ls := [36]) ?_) (eA_cast ?_ (sl9_1 x0 x1 z2_2 _ _ _ _ _ _ (getD_some (d := default) (x := (l_impl_WordsOfBytes_1 x0 x1 z2_2 (Int.toNat ((atI x1 z2_2) - 0) + 2) z2_0 z2_1 0)) ?_) ?_)); (iterate 2 (simp only [nilS, nilV, nilB, normOk, optIn, blkIn, nameIn, normS, List.map_append, List.length_append, List.map_set, List.length_set, List.map_replicate, List.length_replicate, List.map_nil, List.map_cons,
      need_iff, h, grpA, vsliceS, grpS, grpD, grpF, grpL, eop, vop, bop, uop, fltop, convop, endOk, newE, new1, freshL, Md.isNew, outV, pureV, pureX, pure1, AV.cells, AV.one, storable, laid, refless, refless1, vload, loadC, storeC, vnil, vfaddr, vextract, flatT, flatE, flatC, vconv, vmm, vidxA, viaddrA, vfield, vlen, elemsOf, dF32, dF64, dI64, dU8, dBool, dStr, esOk, elemsS, vsliceX, bnd, ownV, ownC, own1, ownT, isSl, nSl, endL, Md.isOwn, purge, purgeH, purgeB, purgeE, hasName, name1, List.any_cons, List.any_nil, Md.isWr, pureV.pureP, Option.map, reduceIte, Nat.reduceEqDiff, Nat.reduceAdd, Nat.reduceMul, Nat.reduceLT, Nat.reduceLeDiff, List.mapM_cons, List.mapM_nil, Option.pure_def, Option.bind_eq_bind, Option.bind_some, implies_true, forall_const, beq_self_eq_true, decide_true, decide_false, eq_self, Int.reduceEq, Int.reduceLE, Int.reduceLT, if_true, if_false, grpK, Int.reduceAdd, Int.reduceSub, Int.reduceMul, Int.reduceNeg, Int.reducePow, Nat.reducePow, Int.reduceToNat, Nat.reduceSub, List.replicate, Nat.reduceBEq, wAs, wA, wC, zipW, noDupN, grpE, beq_true, beq_false, g_impl_BytesOfWords, g_impl_areSizes, ↓b_pick, ePk_true, ePk_false] <;> first | rfl | (simp only [Nat.add_comm]; done))); (simp only [h]); (
        intro st2 hw; (try simp only [reduceCtorEq, grpN, Int.reduceEq, Int.reduceLT, Int.reduceLE, if_true, if_false, reduceIte] at h); (try replace h := And.intro ht h); simp only [
Kq_exit, Kq_normal, Kq_ret, Kb_exit, Kb_normal, Kb_ret, Kl_exit, Kl_normal, Kl_ret, reduceIte, Nat.reduceEqDiff, if_true, if_false, eq_self]; refine KW_of hw ?_; simp only [
      need_iff, h, grpA, vsliceS, grpS, grpD, grpF, grpL, eop, vop, bop, uop, fltop, convop, endOk, newE, new1, freshL, Md.isNew, outV, pureV, pureX, pure1, AV.cells, AV.one, storable, laid, refless, refless1, vload, loadC, storeC, vnil, vfaddr, vextract, flatT, flatE, flatC, vconv, vmm, vidxA, viaddrA, vfield, vlen, elemsOf, dF32, dF64, dI64, dU8, dBool, dStr, esOk, elemsS, vsliceX, bnd, ownV, ownC, own1, ownT, isSl, nSl, endL, Md.isOwn, purge, purgeH, purgeB, purgeE, hasName, name1, List.any_cons, List.any_nil, Md.isWr, pureV.pureP, Option.map, reduceIte, Nat.reduceEqDiff, Nat.reduceAdd, Nat.reduceMul, Nat.reduceLT, Nat.reduceLeDiff, List.mapM_cons, List.mapM_nil, Option.pure_def, Option.bind_eq_bind, Option.bind_some, implies_true, forall_const, beq_self_eq_true, decide_true, decide_false, eq_self, Int.reduceEq, Int.reduceLE, Int.reduceLT, if_true, if_false, grpK, Int.reduceAdd, Int.reduceSub, Int.reduceMul, Int.reduceNeg, Int.reducePow, Nat.reducePow, Int.reduceToNat, Nat.reduceSub, List.replicate, Nat.reduceBEq, wAs, wA, wC, zipW, noDupN, grpE, beq_true, beq_false, g_impl_BytesOfWords, g_impl_areSizes, ↓b_pick, ePk_true, ePk_false])))
    all_goals (have hf := h)
    all_goals (repeat (replace h := And.right h))
    all_goals ((first | (refine eA_wk (wk_norm (ks := [0, 1, 9, 10, 37, 38, 39]) (ls := [36]) ?_) (eA_cast ?_ (ih _ _ _ _ _ h h0))) | (cases h; have h := True.intro; refine h0 _ (Wk.cast (wk_norm (ks := [0, 1, 9]) (ls := [36]) ?_) ?_))) <;> simp only [normOk, optIn, blkIn, nameIn, normS, List.map_append, List.length_append, List.map_set, List.length_set, List.map_replicate, List.length_replicate, List.map_nil, List.map_cons,
      need_iff, h, hf, grpA, vsliceS, grpS, grpD, grpF, grpL, eop, vop, bop, uop, fltop, convop, endOk, newE, new1, freshL, Md.isNew, outV, pureV, pureX, pure1, AV.cells, AV.one, storable, laid, refless, refless1, vload, loadC, storeC, vnil, vfaddr, vextract, flatT, flatE, flatC, vconv, vmm, vidxA, viaddrA, vfield, vlen, elemsOf, dF32, dF64, dI64, dU8, dBool, dStr, esOk, elemsS, vsliceX, bnd, ownV, ownC, own1, ownT, isSl, nSl, endL, Md.isOwn, purge, purgeH, purgeB, purgeE, hasName, name1, List.any_cons, List.any_nil, Md.isWr, pureV.pureP, Option.map, reduceIte, Nat.reduceEqDiff, Nat.reduceAdd, Nat.reduceMul, Nat.reduceLT, Nat.reduceLeDiff, List.mapM_cons, List.mapM_nil, Option.pure_def, Option.bind_eq_bind, Option.bind_some, implies_true, forall_const, beq_self_eq_true, decide_true, decide_false, eq_self, Int.reduceEq, Int.reduceLE, Int.reduceLT, if_true, if_false, grpK, Int.reduceAdd, Int.reduceSub, Int.reduceMul, Int.reduceNeg, Int.reducePow, Nat.reducePow, Int.reduceToNat, Nat.reduceSub, List.replicate, Nat.reduceBEq, wAs, wA, wC, zipW, noDupN, grpE, beq_true, beq_false, g_impl_BytesOfWords, g_impl_areSizes, ↓b_pick, ePk_true, ePk_false] <;> first | rfl | (simp only [Nat.add_comm]; done))
theorem s9 : ∀ vs r, g_impl_WordsOfBytes vs = some r → SaysM Try.prog (.own [1]) 9 vs r := by
  intro vs r h
  unfold g_impl_WordsOfBytes at h
  split at h
  · rename_i y0 w1
    cases hd_y1 : decL dI64 w1 with
    | none => rw [hd_y1] at h; cases h
    | some y1 =>
    rw [hd_y1] at h
    obtain rfl := decL_inv dI64_inv hd_y1
    clear hd_y1
    dsimp only at h
    split at h
    · rename_i hp
      cases h
      refine spec_of (m := (.own [1])) (tab := tabOf [(8, wM .any g_impl_BytesOfWords), (20, wM .any g_impl_areSizes)]) (cp := cp9) (ic := ic9) (rvl := [(.t 4), (.t 5)]) hm (tabOk_cons (m := .any) s8 (tabOk_cons (m := .any) s20 tabOk_nil)) Try.func9 rfl rfl rfl (by kernel_rfl) rfl (Nat.le_of_ble_eq_true rfl) (Nat.le_of_ble_eq_true rfl) ?_
      show eA _ _ _ _
      unfold ic9
      unfold p_impl_WordsOfBytes at hp
      (try delta v_impl_WordsOfBytes_370 v_impl_WordsOfBytes_369 v_impl_WordsOfBytes_48 v_impl_WordsOfBytes_0 at hp)
      (try dsimp only at hp)
      (try simp only [Bool.and_eq_true, Bool.or_eq_true, decide_eq_true_eq, Bool.not_eq_true', decide_eq_false_iff_not] at hp)
      refine eS_to ?_
      repeat' (first
        | ((first | (have h := True.intro; refine eS_of ?_) | (refine eGI_of (fun h => ?_) (fun h => ?_)) | (refine eCc_of (fun h => ?_) (fun h => ?_)) | (refine ePk_of (fun h => ?_) (fun h => ?_)) | (have h := True.intro; refine KW_refl ?_)) <;> (try simp only [Bool.not_eq_true', Bool.not_eq_false'] at h) <;> (try first | exact absurd (Eq.trans (Eq.symm h) (by assumption)) Bool.false_ne_true | exact absurd (Eq.trans (Eq.symm h) (by assumption)) (Ne.symm Bool.false_ne_true)) <;> (try simp only [h, reduceCtorEq, grpN, Int.reduceEq, Int.reduceLT, Int.reduceLE, if_true, if_false, reduceIte] at hp) <;> (first | (have h2 := h; simp only [decide_eq_true_eq, decide_eq_false_iff_not] at h2; (first | (replace h2 := eq_false h2) | (replace h2 := eq_true h2)); (try simp only [h2, reduceCtorEq, grpN, Int.reduceEq, Int.reduceLT, Int.reduceLE, if_true, if_false, reduceIte] at hp); replace hp := And.intro h2 hp) | (replace hp := And.intro h hp) | skip) <;> simp only [h,
          hp, grpA, vsliceS, grpS, grpD, grpF, grpL, eop, vop, bop, uop, fltop, convop, endOk, newE, new1, freshL, Md.isNew, outV, pureV, pureX, pure1, AV.cells, AV.one, storable, laid, refless, refless1, vload, loadC, storeC, vnil, vfaddr, vextract, flatT, flatE, flatC, vconv, vmm, vidxA, viaddrA, vfield, vlen, elemsOf, dF32, dF64, dI64, dU8, dBool, dStr, esOk, elemsS, vsliceX, bnd, ownV, ownC, own1, ownT, isSl, nSl, endL, Md.isOwn, purge, purgeH, purgeB, purgeE, hasName, name1, List.any_cons, List.any_nil, Md.isWr, pureV.pureP, Option.map, reduceIte, Nat.reduceEqDiff, Nat.reduceAdd, Nat.reduceMul, Nat.reduceLT, Nat.reduceLeDiff, List.mapM_cons, List.mapM_nil, Option.pure_def, Option.bind_eq_bind, Option.bind_some, implies_true, forall_const, beq_self_eq_true, decide_true, decide_false, eq_self, Int.reduceEq, Int.reduceLE, Int.reduceLT, if_true, if_false, grpK, Int.reduceAdd, Int.reduceSub, Int.reduceMul, Int.reduceNeg, Int.reducePow, Nat.reducePow, Int.reduceToNat, Nat.reduceSub, List.replicate, Nat.reduceBEq, wAs, wA, wC, zipW, noDupN, grpE, beq_true, beq_false, g_impl_BytesOfWords, g_impl_areSizes, ↓b_pick, ePk_true, ePk_false])
        | (refine eA_wk (wk_norm (ks := [0, 1, 6, 18, 19, 20]) (ls := []) ?_) (eA_cast ?_ (sl9_0 y0 y1 _ _ _ _ _ (getD_some (d := default) (x := (l_impl_WordsOfBytes_0 y0 y1 (Int.toNat (((List.length y1 : Nat) : Int) - 0) + 2) 0 0)) ?_) ?_)); (iterate 2 (simp only [nilS, nilV, nilB, normOk, optIn, blkIn, nameIn, normS, List.map_append, List.length_append, List.map_set, List.length_set, List.map_replicate, List.length_replicate, List.map_nil, List.map_cons,
          hp, grpA, vsliceS, grpS, grpD, grpF, grpL, eop, vop, bop, uop, fltop, convop, endOk, newE, new1, freshL, Md.isNew, outV, pureV, pureX, pure1, AV.cells, AV.one, storable, laid, refless, refless1, vload, loadC, storeC, vnil, vfaddr, vextract, flatT, flatE, flatC, vconv, vmm, vidxA, viaddrA, vfield, vlen, elemsOf, dF32, dF64, dI64, dU8, dBool, dStr, esOk, elemsS, vsliceX, bnd, ownV, ownC, own1, ownT, isSl, nSl, endL, Md.isOwn, purge, purgeH, purgeB, purgeE, hasName, name1, List.any_cons, List.any_nil, Md.isWr, pureV.pureP, Option.map, reduceIte, Nat.reduceEqDiff, Nat.reduceAdd, Nat.reduceMul, Nat.reduceLT, Nat.reduceLeDiff, List.mapM_cons, List.mapM_nil, Option.pure_def, Option.bind_eq_bind, Option.bind_some, implies_true, forall_const, beq_self_eq_true, decide_true, decide_false, eq_self, Int.reduceEq, Int.reduceLE, Int.reduceLT, if_true, if_false, grpK, Int.reduceAdd, Int.reduceSub, Int.reduceMul, Int.reduceNeg, Int.reducePow, Nat.reducePow, Int.reduceToNat, Nat.reduceSub, List.replicate, Nat.reduceBEq, wAs, wA, wC, zipW, noDupN, grpE, beq_true, beq_false, g_impl_BytesOfWords, g_impl_areSizes, ↓b_pick, ePk_true, ePk_false] <;> first | rfl | (simp only [Nat.add_comm]; done))); (simp only [hp]); (
        intro st2 hw; (try simp only [reduceCtorEq, grpN, Int.reduceEq, Int.reduceLT, Int.reduceLE, if_true, if_false, reduceIte] at hp); (try replace hp := And.intro ht hp); simp only [
Kq_exit, Kq_normal, Kq_ret, Kb_exit, Kb_normal, Kb_ret, Kl_exit, Kl_normal, Kl_ret, reduceIte, Nat.reduceEqDiff, if_true, if_false, eq_self]; refine KW_of hw ?_; simp only [
          hp, grpA, vsliceS, grpS, grpD, grpF, grpL, eop, vop, bop, uop, fltop, convop, endOk, newE, new1, freshL, Md.isNew, outV, pureV, pureX, pure1, AV.cells, AV.one, storable, laid, refless, refless1, vload, loadC, storeC, vnil, vfaddr, vextract, flatT, flatE, flatC, vconv, vmm, vidxA, viaddrA, vfield, vlen, elemsOf, dF32, dF64, dI64, dU8, dBool, dStr, esOk, elemsS, vsliceX, bnd, ownV, ownC, own1, ownT, isSl, nSl, endL, Md.isOwn, purge, purgeH, purgeB, purgeE, hasName, name1, List.any_cons, List.any_nil, Md.isWr, pureV.pureP, Option.map, reduceIte, Nat.reduceEqDiff, Nat.reduceAdd, Nat.reduceMul, Nat.reduceLT, Nat.reduceLeDiff, List.mapM_cons, List.mapM_nil, Option.pure_def, Option.bind_eq_bind, Option.bind_some, implies_true, forall_const, beq_self_eq_true, decide_true, decide_false, eq_self, Int.reduceEq, Int.reduceLE, Int.reduceLT, if_true, if_false, grpK, Int.reduceAdd, Int.reduceSub, Int.reduceMul, Int.reduceNeg, Int.reducePow, Nat.reducePow, Int.reduceToNat, Nat.reduceSub, List.replicate, Nat.reduceBEq, wAs, wA, wC, zipW, noDupN, grpE, beq_true, beq_false, g_impl_BytesOfWords, g_impl_areSizes, ↓b_pick, ePk_true, ePk_false]))
        | (refine eA_wk (wk_norm (ks := [0, 1, 9, 10, 37, 38, 39]) (ls := [36]) ?_) (eA_cast ?_ (sl9_2 y0 y1 _ _ _ _ _ _ (getD_some (d := default) (x := (l_impl_WordsOfBytes_2 y0 y1 (Int.toNat (((List.length y1 : Nat) : Int) - 0) + 2) (List.replicate (Int.toNat ((List.length y1 : Nat) : Int)) 0) 0 0)) ?_) ?_)); (iterate 2 (simp only [nilS, nilV, nilB, normOk, optIn, blkIn, nameIn, normS, List.map_append, List.length_append, List.map_set, List.length_set, List.map_replicate, List.length_replicate, List.map_nil, List.map_cons,
          hp, grpA, vsliceS, grpS, grpD, grpF, grpL, eop, vop, bop, uop, fltop, convop, endOk, newE, new1, freshL, Md.isNew, outV, pureV, pureX, pure1, AV.cells, AV.one, storable, laid, refless, refless1, vload, loadC, storeC, vnil, vfaddr, vextract, flatT, flatE, flatC, vconv, vmm, vidxA, viaddrA, vfield, vlen, elemsOf, dF32, dF64, dI64, dU8, dBool, dStr, esOk, elemsS, vsliceX, bnd, ownV, ownC, own1, ownT, isSl, nSl, endL, Md.isOwn, purge, purgeH, purgeB, purgeE, hasName, name1, List.any_cons, List.any_nil, Md.isWr, pureV.pureP, Option.map, reduceIte, Nat.reduceEqDiff, Nat.reduceAdd, Nat.reduceMul, Nat.reduceLT, Nat.reduceLeDiff, List.mapM_cons, List.mapM_nil, Option.pure_def, Option.bind_eq_bind, Option.bind_some, implies_true, forall_const, beq_self_eq_true, decide_true, decide_false, eq_self, Int.reduceEq, Int.reduceLE, Int.reduceLT, if_true, if_false, grpK, Int.reduceAdd, Int.reduceSub, Int.reduceMul, Int.reduceNeg, Int.reducePow, Nat.reducePow, Int.reduceToNat, Nat.reduceSub, List.replicate, Nat.reduceBEq, wAs, wA, wC, zipW, noDupN, grpE, beq_true, beq_false, g_impl_BytesOfWords, g_impl_areSizes, ↓b_pick, ePk_true, ePk_false] <;> first | rfl | (simp only [Nat.add_comm]; done))); (simp only [hp]); (
        intro st2 hw; (try simp only [reduceCtorEq, grpN, Int.reduceEq, Int.reduceLT, Int.reduceLE, if_true, if_false, reduceIte] at hp); (try replace hp := And.intro ht hp); simp only [
Kq_exit, Kq_normal, Kq_ret, Kb_exit, Kb_normal, Kb_ret, Kl_exit, Kl_normal, Kl_ret, reduceIte, Nat.reduceEqDiff, if_true, if_false, eq_self]; refine KW_of hw ?_; simp only [
          hp, grpA, vsliceS, grpS, grpD, grpF, grpL, eop, vop, bop, uop, fltop, convop, endOk, newE, new1, freshL, Md.isNew, outV, pureV, pureX, pure1, AV.cells, AV.one, storable, laid, refless, refless1, vload, loadC, storeC, vnil, vfaddr, vextract, flatT, flatE, flatC, vconv, vmm, vidxA, viaddrA, vfield, vlen, elemsOf, dF32, dF64, dI64, dU8, dBool, dStr, esOk, elemsS, vsliceX, bnd, ownV, ownC, own1, ownT, isSl, nSl, endL, Md.isOwn, purge, purgeH, purgeB, purgeE, hasName, name1, List.any_cons, List.any_nil, Md.isWr, pureV.pureP, Option.map, reduceIte, Nat.reduceEqDiff, Nat.reduceAdd, Nat.reduceMul, Nat.reduceLT, Nat.reduceLeDiff, List.mapM_cons, List.mapM_nil, Option.pure_def, Option.bind_eq_bind, Option.bind_some, implies_true, forall_const, beq_self_eq_true, decide_true, decide_false, eq_self, Int.reduceEq, Int.reduceLE, Int.reduceLT, if_true, if_false, grpK, Int.reduceAdd, Int.reduceSub, Int.reduceMul, Int.reduceNeg, Int.reducePow, Nat.reducePow, Int.reduceToNat, Nat.reduceSub, List.replicate, Nat.reduceBEq, wAs, wA, wC, zipW, noDupN, grpE, beq_true, beq_false, g_impl_BytesOfWords, g_impl_areSizes, ↓b_pick, ePk_true, ePk_false])))
      all_goals (try simp only [*, m_impl_WordsOfBytes, v_impl_WordsOfBytes_0, v_impl_WordsOfBytes_48, v_impl_WordsOfBytes_369, v_impl_WordsOfBytes_370, Bool.and_true, Bool.true_and, Bool.and_false, Bool.false_and, Bool.or_true, Bool.true_or, Bool.or_false, Bool.false_or, Bool.not_true, Bool.not_false, Bool.false_eq_true, if_true, if_false, reduceIte, decide_true, decide_false])
      all_goals (try (simp_all; done))
    · cases h
  · cases h
def v_laws_FnWords_1 (x1 : (List Int)) (z0_3 : Int) : Int := (IntKind.wrap .i64 ((IntKind.wrap .i64 ((IntKind.wrap .i64 (65536 * (m_laws_r8At x1 z0_3 256))) + (IntKind.wrap .i64 (256 * (m_laws_r8At x1 (IntKind.wrap .i64 (z0_3 + 8)) 256))))) + (m_laws_r8At x1 (IntKind.wrap .i64 (z0_3 + 16)) 256)))
def v_laws_FnWords_2 (x0 : (List Int)) (x1 : (List Int)) (z0_3 : Int) : Int := (Int.tmod (v_laws_FnWords_1 x1 z0_3) (IntKind.wrap .i64 (1 * 2 ^ (min ((IntKind.wrap .u64 (IntKind.wrap .i64 (1 + (m_laws_r8At x0 z0_3 20)))) : Int).toNat 64))))
def l_laws_FnWords_0 (x0 : (List Int)) (x1 : (List Int)) : Nat → (List Int) → (List Int) → Int → Int → Option (Int × (List Int) × (List Int))
  | 0, _, _, _, _ => none
  | n + 1, z0_0, z0_1, z0_2, z0_3 => (need (p_laws_r8At x0 40 9) (if (decide (z0_3 < (m_laws_r8At x0 40 9))) = true then (need (p_laws_r8At x0 z0_3 20) (need (decide (((List.length z0_0) + 1) * 8 ≤ 17592186044416)) (need (decide ((List.length z0_0) + 1 ≤ 17592186044416)) (need (p_laws_r8At x1 z0_3 256) (need (p_laws_r8At x1 (IntKind.wrap .i64 (z0_3 + 8)) 256) (need (p_laws_r8At x1 (IntKind.wrap .i64 (z0_3 + 16)) 256) (need (decide (0 ≤ (IntKind.wrap .u64 (IntKind.wrap .i64 (1 + (m_laws_r8At x0 z0_3 20)))))) (need (!(decide ((IntKind.wrap .i64 (1 * 2 ^ (min ((IntKind.wrap .u64 (IntKind.wrap .i64 (1 + (m_laws_r8At x0 z0_3 20)))) : Int).toNat 64))) = 0))) (need (decide (((List.length z0_1) + 1) * 8 ≤ 17592186044416)) (need (decide ((List.length z0_1) + 1 ≤ 17592186044416)) (l_laws_FnWords_0 x0 x1 n (z0_0 ++ [(IntKind.wrap .i64 (1 + (m_laws_r8At x0 z0_3 20)))]) (z0_1 ++ [(v_laws_FnWords_2 x0 x1 z0_3)]) (IntKind.wrap .i64 (z0_2 + (IntKind.wrap .i64 (1 + (m_laws_r8At x0 z0_3 20))))) (IntKind.wrap .i64 (z0_3 + 1))))))))))))) else (some (z0_2, z0_0, z0_1))))
def v_laws_FnWords_3 (x0 : (List Int)) (x1 : (List Int)) : Bool := (m_impl_BytesOfWords (Option.getD (l_laws_FnWords_0 x0 x1 (Int.toNat ((m_laws_r8At x0 40 9) - 0) + 2) [] [] 0 0) default).2.2 (Option.getD (l_laws_FnWords_0 x0 x1 (Int.toNat ((m_laws_r8At x0 40 9) - 0) + 2) [] [] 0 0) default).2.1).2
def v_laws_FnWords_4 (x0 : (List Int)) (x1 : (List Int)) : Bool := (m_impl_WordsOfBytes (m_impl_BytesOfWords (Option.getD (l_laws_FnWords_0 x0 x1 (Int.toNat ((m_laws_r8At x0 40 9) - 0) + 2) [] [] 0 0) default).2.2 (Option.getD (l_laws_FnWords_0 x0 x1 (Int.toNat ((m_laws_r8At x0 40 9) - 0) + 2) [] [] 0 0) default).2.1).1 (Option.getD (l_laws_FnWords_0 x0 x1 (Int.toNat ((m_laws_r8At x0 40 9) - 0) + 2) [] [] 0 0) default).2.1).2
def v_laws_FnWords_5 (x0 : (List Int)) (x1 : (List Int)) : Int := ((List.length (m_impl_BytesOfWords (Option.getD (l_laws_FnWords_0 x0 x1 (Int.toNat ((m_laws_r8At x0 40 9) - 0) + 2) [] [] 0 0) default).2.2 (Option.getD (l_laws_FnWords_0 x0 x1 (Int.toNat ((m_laws_r8At x0 40 9) - 0) + 2) [] [] 0 0) default).2.1).1 : Nat) : Int)
def v_laws_FnWords_6 (x0 : (List Int)) (x1 : (List Int)) : Int := (IntKind.wrap .i64 (Int.tdiv (IntKind.wrap .i64 ((Option.getD (l_laws_FnWords_0 x0 x1 (Int.toNat ((m_laws_r8At x0 40 9) - 0) + 2) [] [] 0 0) default).1 + 7)) 8))
def v_laws_FnWords_7 (x0 : (List Int)) (x1 : (List Int)) : Int := ((List.length (m_impl_WordsOfBytes (m_impl_BytesOfWords (Option.getD (l_laws_FnWords_0 x0 x1 (Int.toNat ((m_laws_r8At x0 40 9) - 0) + 2) [] [] 0 0) default).2.2 (Option.getD (l_laws_FnWords_0 x0 x1 (Int.toNat ((m_laws_r8At x0 40 9) - 0) + 2) [] [] 0 0) default).2.1).1 (Option.getD (l_laws_FnWords_0 x0 x1 (Int.toNat ((m_laws_r8At x0 40 9) - 0) + 2) [] [] 0 0) default).2.1).1 : Nat) : Int)
def v_laws_FnWords_8 (x0 : (List Int)) (x1 : (List Int)) : Bool := (!(decide ((v_laws_FnWords_7 x0 x1) = (((List.length (Option.getD (l_laws_FnWords_0 x0 x1 (Int.toNat ((m_laws_r8At x0 40 9) - 0) + 2) [] [] 0 0) default).2.2) : Nat) : Int))))
def v_laws_FnWords_12 (x0 : (List Int)) (x1 : (List Int)) (z1_0 : Int) : Int := (atI (m_impl_WordsOfBytes (m_impl_BytesOfWords (Option.getD (l_laws_FnWords_0 x0 x1 (Int.toNat ((m_laws_r8At x0 40 9) - 0) + 2) [] [] 0 0) default).2.2 (Option.getD (l_laws_FnWords_0 x0 x1 (Int.toNat ((m_laws_r8At x0 40 9) - 0) + 2) [] [] 0 0) default).2.1).1 (Option.getD (l_laws_FnWords_0 x0 x1 (Int.toNat ((m_laws_r8At x0 40 9) - 0) + 2) [] [] 0 0) default).2.1).1 z1_0)
def v_laws_FnWords_13 (x0 : (List Int)) (x1 : (List Int)) (z1_0 : Int) : Bool := (!(decide ((v_laws_FnWords_12 x0 x1 z1_0) = (atI (Option.getD (l_laws_FnWords_0 x0 x1 (Int.toNat ((m_laws_r8At x0 40 9) - 0) + 2) [] [] 0 0) default).2.2 z1_0))))
def v_laws_FnWords_14 (x0 : (List Int)) (x1 : (List Int)) : Bool := (m_impl_WordsOfBytes ((m_impl_BytesOfWords (Option.getD (l_laws_FnWords_0 x0 x1 (Int.toNat ((m_laws_r8At x0 40 9) - 0) + 2) [] [] 0 0) default).2.2 (Option.getD (l_laws_FnWords_0 x0 x1 (Int.toNat ((m_laws_r8At x0 40 9) - 0) + 2) [] [] 0 0) default).2.1).1 ++ ([(b8 120)] : List UInt8)) (Option.getD (l_laws_FnWords_0 x0 x1 (Int.toNat ((m_laws_r8At x0 40 9) - 0) + 2) [] [] 0 0) default).2.1).2
def v_laws_FnWords_15 (x0 : (List Int)) (x1 : (List Int)) : Int := (u8 (atI (m_impl_BytesOfWords (Option.getD (l_laws_FnWords_0 x0 x1 (Int.toNat ((m_laws_r8At x0 40 9) - 0) + 2) [] [] 0 0) default).2.2 (Option.getD (l_laws_FnWords_0 x0 x1 (Int.toNat ((m_laws_r8At x0 40 9) - 0) + 2) [] [] 0 0) default).2.1).1 (IntKind.wrap .i64 ((v_laws_FnWords_5 x0 x1) - 1))))
def v_laws_FnWords_16 (x0 : (List Int)) (x1 : (List Int)) : Bool := (m_impl_WordsOfBytes ((List.take (Int.toNat (IntKind.wrap .i64 ((v_laws_FnWords_5 x0 x1) - 1))) (m_impl_BytesOfWords (Option.getD (l_laws_FnWords_0 x0 x1 (Int.toNat ((m_laws_r8At x0 40 9) - 0) + 2) [] [] 0 0) default).2.2 (Option.getD (l_laws_FnWords_0 x0 x1 (Int.toNat ((m_laws_r8At x0 40 9) - 0) + 2) [] [] 0 0) default).2.1).1) ++ ([(b8 (bitop .or .u8 (v_laws_FnWords_15 x0 x1) 1))] : List UInt8)) (Option.getD (l_laws_FnWords_0 x0 x1 (Int.toNat ((m_laws_r8At x0 40 9) - 0) + 2) [] [] 0 0) default).2.1).2
def l_laws_FnWords_1 (x0 : (List Int)) (x1 : (List Int)) : Nat → Int → Option (Bool × Bool × Unit)
  | 0, _ => none
  | n + 1, z1_0 => (if (decide (z1_0 < (((List.length (Option.getD (l_laws_FnWords_0 x0 x1 (Int.toNat ((m_laws_r8At x0 40 9) - 0) + 2) [] [] 0 0) default).2.2) : Nat) : Int))) = true then (need (inB z1_0 (List.length (m_impl_WordsOfBytes (m_impl_BytesOfWords (Option.getD (l_laws_FnWords_0 x0 x1 (Int.toNat ((m_laws_r8At x0 40 9) - 0) + 2) [] [] 0 0) default).2.2 (Option.getD (l_laws_FnWords_0 x0 x1 (Int.toNat ((m_laws_r8At x0 40 9) - 0) + 2) [] [] 0 0) default).2.1).1 (Option.getD (l_laws_FnWords_0 x0 x1 (Int.toNat ((m_laws_r8At x0 40 9) - 0) + 2) [] [] 0 0) default).2.1).1)) (need (inB z1_0 (List.length (Option.getD (l_laws_FnWords_0 x0 x1 (Int.toNat ((m_laws_r8At x0 40 9) - 0) + 2) [] [] 0 0) default).2.2)) (if (v_laws_FnWords_13 x0 x1 z1_0) = true then (some (true, false, default)) else (l_laws_FnWords_1 x0 x1 n (IntKind.wrap .i64 (z1_0 + 1)))))) else (some (false, default, ())))
def m_laws_FnWords (x0 : (List Int)) (x1 : (List Int)) : Bool := (if (m_laws_r8Long x0 x1) = true then true else (if (v_laws_FnWords_3 x0 x1) = true then (if (v_laws_FnWords_4 x0 x1) = true then (if (decide ((v_laws_FnWords_5 x0 x1) = (v_laws_FnWords_6 x0 x1))) = true then (if (v_laws_FnWords_8 x0 x1) = true then false else (if (Option.getD (l_laws_FnWords_1 x0 x1 (Int.toNat ((((List.length (Option.getD (l_laws_FnWords_0 x0 x1 (Int.toNat ((m_laws_r8At x0 40 9) - 0) + 2) [] [] 0 0) default).2.2) : Nat) : Int) - 0) + 2) 0) default).1 = true then (Option.getD (l_laws_FnWords_1 x0 x1 (Int.toNat ((((List.length (Option.getD (l_laws_FnWords_0 x0 x1 (Int.toNat ((m_laws_r8At x0 40 9) - 0) + 2) [] [] 0 0) default).2.2) : Nat) : Int) - 0) + 2) 0) default).2.1 else (if (v_laws_FnWords_14 x0 x1) = true then (!(v_laws_FnWords_14 x0 x1)) else (if (decide ((Int.tmod (Option.getD (l_laws_FnWords_0 x0 x1 (Int.toNat ((m_laws_r8At x0 40 9) - 0) + 2) [] [] 0 0) default).1 8) = 0)) = true then (!(v_laws_FnWords_14 x0 x1)) else (!(v_laws_FnWords_16 x0 x1)))))) else false) else false) else false))
def p_laws_FnWords (x0 : (List Int)) (x1 : (List Int)) : Bool := ((m_laws_r8Long x0 x1) || ((Option.isSome (l_laws_FnWords_0 x0 x1 (Int.toNat ((m_laws_r8At x0 40 9) - 0) + 2) [] [] 0 0)) && ((p_impl_BytesOfWords (Option.getD (l_laws_FnWords_0 x0 x1 (Int.toNat ((m_laws_r8At x0 40 9) - 0) + 2) [] [] 0 0) default).2.2 (Option.getD (l_laws_FnWords_0 x0 x1 (Int.toNat ((m_laws_r8At x0 40 9) - 0) + 2) [] [] 0 0) default).2.1) && ((p_impl_WordsOfBytes (m_impl_BytesOfWords (Option.getD (l_laws_FnWords_0 x0 x1 (Int.toNat ((m_laws_r8At x0 40 9) - 0) + 2) [] [] 0 0) default).2.2 (Option.getD (l_laws_FnWords_0 x0 x1 (Int.toNat ((m_laws_r8At x0 40 9) - 0) + 2) [] [] 0 0) default).2.1).1 (Option.getD (l_laws_FnWords_0 x0 x1 (Int.toNat ((m_laws_r8At x0 40 9) - 0) + 2) [] [] 0 0) default).2.1) && (!(v_laws_FnWords_3 x0 x1) || (!(v_laws_FnWords_4 x0 x1) || (!(decide ((v_laws_FnWords_5 x0 x1) = (v_laws_FnWords_6 x0 x1))) || ((v_laws_FnWords_8 x0 x1) || ((Option.isSome (l_laws_FnWords_1 x0 x1 (Int.toNat ((((List.length (Option.getD (l_laws_FnWords_0 x0 x1 (Int.toNat ((m_laws_r8At x0 40 9) - 0) + 2) [] [] 0 0) default).2.2) : Nat) : Int) - 0) + 2) 0)) && ((Option.getD (l_laws_FnWords_1 x0 x1 (Int.toNat ((((List.length (Option.getD (l_laws_FnWords_0 x0 x1 (Int.toNat ((m_laws_r8At x0 40 9) - 0) + 2) [] [] 0 0) default).2.2) : Nat) : Int) - 0) + 2) 0) default).1 || ((decide (List.length (m_impl_BytesOfWords (Option.getD (l_laws_FnWords_0 x0 x1 (Int.toNat ((m_laws_r8At x0 40 9) - 0) + 2) [] [] 0 0) default).2.2 (Option.getD (l_laws_FnWords_0 x0 x1 (Int.toNat ((m_laws_r8At x0 40 9) - 0) + 2) [] [] 0 0) default).2.1).1 ≤ 4611686018427387903)) && ((p_impl_WordsOfBytes ((m_impl_BytesOfWords (Option.getD (l_laws_FnWords_0 x0 x1 (Int.toNat ((m_laws_r8At x0 40 9) - 0) + 2) [] [] 0 0) default).2.2 (Option.getD (l_laws_FnWords_0 x0 x1 (Int.toNat ((m_laws_r8At x0 40 9) - 0) + 2) [] [] 0 0) default).2.1).1 ++ ([(b8 120)] : List UInt8)) (Option.getD (l_laws_FnWords_0 x0 x1 (Int.toNat ((m_laws_r8At x0 40 9) - 0) + 2) [] [] 0 0) default).2.1) && ((v_laws_FnWords_14 x0 x1) || ((decide ((Int.tmod (Option.getD (l_laws_FnWords_0 x0 x1 (Int.toNat ((m_laws_r8At x0 40 9) - 0) + 2) [] [] 0 0) default).1 8) = 0)) || ((decide (0 ≤ (IntKind.wrap .i64 ((v_laws_FnWords_5 x0 x1) - 1)))) && ((decide ((0 : Nat) ≤ (Int.toNat (IntKind.wrap .i64 ((v_laws_FnWords_5 x0 x1) - 1))))) && ((decide (((Int.toNat (IntKind.wrap .i64 ((v_laws_FnWords_5 x0 x1) - 1))) : Nat) ≤ (List.length (m_impl_BytesOfWords (Option.getD
      (l_laws_FnWords_0 x0 x1 (Int.toNat ((m_laws_r8At x0 40 9) - 0) + 2) [] [] 0 0) default).2.2 (Option.getD (l_laws_FnWords_0 x0 x1 (Int.toNat ((m_laws_r8At x0 40 9) - 0) + 2) [] [] 0 0) default).2.1).1))) && ((inB (IntKind.wrap .i64 ((v_laws_FnWords_5 x0 x1) - 1)) (List.length (m_impl_BytesOfWords (Option.getD (l_laws_FnWords_0 x0 x1 (Int.toNat ((m_laws_r8At x0 40 9) - 0) + 2) [] [] 0 0) default).2.2 (Option.getD (l_laws_FnWords_0 x0 x1 (Int.toNat ((m_laws_r8At x0 40 9) - 0) + 2) [] [] 0 0) default).2.1).1)) && ((decide (List.length (List.take (Int.toNat (IntKind.wrap .i64 ((v_laws_FnWords_5 x0 x1) - 1))) (m_impl_BytesOfWords (Option.getD (l_laws_FnWords_0 x0 x1 (Int.toNat ((m_laws_r8At x0 40 9) - 0) + 2) [] [] 0 0) default).2.2 (Option.getD (l_laws_FnWords_0 x0 x1 (Int.toNat ((m_laws_r8At x0 40 9) - 0) + 2) [] [] 0 0) default).2.1).1) ≤ 4611686018427387903)) && (p_impl_WordsOfBytes ((List.take (Int.toNat (IntKind.wrap .i64 ((v_laws_FnWords_5 x0 x1) - 1))) (m_impl_BytesOfWords (Option.getD (l_laws_FnWords_0 x0 x1 (Int.toNat ((m_laws_r8At x0 40 9) - 0) + 2) [] [] 0 0) default).2.2 (Option.getD (l_laws_FnWords_0 x0 x1 (Int.toNat ((m_laws_r8At x0 40 9) - 0) + 2) [] [] 0 0) default).2.1).1) ++ ([(b8 (bitop .or .u8 (v_laws_FnWords_15 x0 x1) 1))] : List UInt8)) (Option.getD (l_laws_FnWords_0 x0 x1 (Int.toNat ((m_laws_r8At x0 40 9) - 0) + 2) [] [] 0 0) default).2.1))))))))))))))))))))
def g_laws_FnWords : List AV → Option AV
  | [.sl w0, .sl w1] => (match decL dU8 w0 with | some y0 => ((match decL dU8 w1 with | some y1 => (if p_laws_FnWords y0 y1 = true then some (.bool (m_laws_FnWords y0 y1)) else none) | none => none)) | none => none)
  | _ => none
def lb3_0 : ICode := (.seq (.seq (.reg [⟨(some 25), none, (.mov (.t 8))⟩, ⟨(some 26), none, (.mov (.t 0))⟩, ⟨(some 27), none, (.call (.fn 7) [(.t 26), (.c (.int .i64 40)), (.c (.int .i64 9))] [])⟩, ⟨(some 28), none, (.bin .lss false (.t 25) (.t 27))⟩] [0, 1, 5, 6, 7, 8, 28]) (.cond (.t 28) .skip (.exit 0))) (.seq (.block 1 (.seq (.reg [⟨(some 31), none, (.mov (.t 0))⟩, ⟨(some 32), none, (.mov (.t 8))⟩, ⟨(some 33), none, (.call (.fn 7) [(.t 31), (.t 32), (.c (.int .i64 20))] [])⟩, ⟨(some 34), none, (.bin .add false (.c (.int .i64 1)) (.t 33))⟩, ⟨(some 9), none, (.mov (.t 34))⟩] [0, 1, 5, 6, 7, 8, 9]) (.seq (.reg [⟨(some 35), none, (.mov (.t 5))⟩, ⟨(some 36), none, (.mov (.t 9))⟩, ⟨(some 37), none, (.bslice 1 1 (.int .i64 0) [(0, (.t 36))])⟩, ⟨(some 38), none, (.append 1 8 (.t 35) (.t 37))⟩, ⟨(some 5), none, (.mov (.t 38))⟩] [0, 1, 5, 6, 7, 8, 9]) (.seq (.reg [⟨(some 39), none, (.mov (.t 6))⟩, ⟨(some 40), none, (.mov (.t 1))⟩, ⟨(some 41), none, (.mov (.t 8))⟩, ⟨(some 42), none, (.call (.fn 7) [(.t 40), (.t 41), (.c (.int .i64 256))] [])⟩, ⟨(some 43), none, (.bin .mul false (.c (.int .i64 65536)) (.t 42))⟩, ⟨(some 44), none, (.mov (.t 1))⟩, ⟨(some 45), none, (.mov (.t 8))⟩, ⟨(some 46), none, (.bin .add false (.t 45) (.c (.int .i64 8)))⟩, ⟨(some 47), none, (.call (.fn 7) [(.t 44), (.t 46), (.c (.int .i64 256))] [])⟩, ⟨(some 48), none, (.bin .mul false (.c (.int .i64 256)) (.t 47))⟩, ⟨(some 49), none, (.bin .add false (.t 43) (.t 48))⟩, ⟨(some 50), none, (.mov (.t 1))⟩, ⟨(some 51), none, (.mov (.t 8))⟩, ⟨(some 52), none, (.bin .add false (.t 51) (.c (.int .i64 16)))⟩, ⟨(some 53), none, (.call (.fn 7) [(.t 50), (.t 52), (.c (.int .i64 256))] [])⟩, ⟨(some 54), none, (.bin .add false (.t 49) (.t 53))⟩, ⟨(some 55), none, (.mov (.t 9))⟩, ⟨(some 56), none, (.conv (.int .u64) (.t 55))⟩, ⟨(some 57), none, (.bin .shl false (.c (.int .i64 1)) (.t 56))⟩, ⟨(some 58), none, (.bin .rem false (.t 54) (.t 57))⟩, ⟨(some 59), none, (.bslice 1 1 (.int .i64 0) [(0, (.t 58))])⟩, ⟨(some 60), none, (.append 1 8 (.t 39) (.t 59))⟩, ⟨(some 6), none, (.mov (.t 60))⟩] [0, 1, 5, 6, 7, 8, 9]) (.reg [⟨(some 61), none, (.mov (.t 7))⟩, ⟨(some 62), none, (.mov (.t 9))⟩, ⟨(some 63), none, (.bin .add false (.t 61) (.t 62))⟩, ⟨(some 7), none, (.mov (.t 63))⟩] [0, 1, 5, 6, 7, 8]))))) (.reg [⟨(some 29), none, (.mov (.t 8))⟩, ⟨(some 30), none, (.bin .add false (.t 29) (.c (.int .i64 1)))⟩, ⟨(some 8), none, (.mov (.t 30))⟩] [0, 1, 5, 6, 7, 8])))
def lb3_1 : ICode := (.seq (.seq (.reg [⟨(some 97), none, (.mov (.t 14))⟩, ⟨(some 98), none, (.mov (.t 6))⟩, ⟨(some 99), none, (.len false (.t 98))⟩, ⟨(some 100), none, (.bin .lss false (.t 97) (.t 99))⟩] [5, 6, 7, 10, 12, 14, 100]) (.cond (.t 100) .skip (.exit 2))) (.seq (.block 3 (.seq (.reg [⟨(some 103), none, (.mov (.t 12))⟩, ⟨(some 104), none, (.mov (.t 14))⟩, ⟨(some 105), none, (.iaddrS 1 (.t 103) (.t 104))⟩, ⟨(some 106), none, (.load none (.t 105))⟩, ⟨(some 107), none, (.mov (.t 6))⟩, ⟨(some 108), none, (.mov (.t 14))⟩, ⟨(some 109), none, (.iaddrS 1 (.t 107) (.t 108))⟩, ⟨(some 110), none, (.load none (.t 109))⟩, ⟨(some 111), none, (.bin .neq false (.t 106) (.t 110))⟩] [5, 6, 7, 10, 12, 14, 111]) (.cond (.t 111) (.seq (.reg [⟨(some 4), none, (.mov (.c (.bool false)))⟩] [4]) .ret) .skip))) (.reg [⟨(some 101), none, (.mov (.t 14))⟩, ⟨(some 102), none, (.bin .add false (.t 101) (.c (.int .i64 1)))⟩, ⟨(some 14), none, (.mov (.t 102))⟩] [5, 6, 7, 10, 12, 14])))
def ic3 : ICode := (.seq (.reg [⟨(some 4), none, (.mov (.c (.bool false)))⟩] [0, 1]) (.seq (.seq (.reg [⟨(some 20), none, (.mov (.t 0))⟩, ⟨(some 21), none, (.mov (.t 1))⟩, ⟨(some 22), none, (.call (.fn 6) [(.t 20), (.t 21)] [])⟩] [0, 1, 22]) (.cond (.t 22) (.seq (.reg [⟨(some 4), none, (.mov (.c (.bool true)))⟩] [4]) .ret) .skip)) (.seq (.reg [⟨(some 23), none, (.bslice 1 0 (.int .i64 0) [])⟩, ⟨(some 5), none, (.mov (.t 23))⟩] [0, 1, 5]) (.seq (.reg [⟨(some 24), none, (.bslice 1 0 (.int .i64 0) [])⟩, ⟨(some 6), none, (.mov (.t 24))⟩] [0, 1, 5, 6]) (.seq (.reg [⟨(some 7), none, (.mov (.c (.int .i64 0)))⟩] [0, 1, 5, 6, 7]) (.seq (.seq (.reg [⟨(some 8), none, (.mov (.c (.int .i64 0)))⟩] [0, 1, 5, 6, 7, 8]) (.block 0 (.loop lb3_0))) (.seq (.reg [⟨(some 65), none, (.mov (.t 6))⟩, ⟨(some 66), none, (.mov (.t 5))⟩, ⟨(some 67), none, (.call (.fn 8) [(.t 65), (.t 66)] [])⟩, ⟨(some 64), none, (.mov (.t 67))⟩, ⟨(some 68), none, (.extract (.t 64) 0)⟩, ⟨(some 69), none, (.extract (.t 64) 1)⟩, ⟨(some 10), none, (.mov (.t 68))⟩, ⟨(some 11), none, (.mov (.t 69))⟩] [5, 6, 7, 10, 11]) (.seq (.reg [⟨(some 71), none, (.mov (.t 10))⟩, ⟨(some 72), none, (.mov (.t 5))⟩, ⟨(some 73), none, (.call (.fn 9) [(.t 71), (.t 72)] [])⟩, ⟨(some 70), none, (.mov (.t 73))⟩, ⟨(some 74), none, (.extract (.t 70) 0)⟩, ⟨(some 75), none, (.extract (.t 70) 1)⟩, ⟨(some 12), none, (.mov (.t 74))⟩, ⟨(some 13), none, (.mov (.t 75))⟩] [5, 6, 7, 10, 11, 12, 13]) (.seq (.seq (.reg [⟨(some 76), none, (.mov (.t 11))⟩, ⟨(some 77), none, (.un .not (.t 76))⟩, ⟨(some 78), none, (.mov (.t 77))⟩, ⟨(some 79), (some (78, false)), (.mov (.t 13))⟩, ⟨(some 80), (some (78, false)), (.un .not (.t 79))⟩, ⟨(some 81), none, (.pick (.t 78) (.c (.bool true)) (.t 80))⟩, ⟨(some 82), none, (.mov (.t 81))⟩, ⟨(some 83), (some (82, false)), (.mov (.t 10))⟩, ⟨(some 84), (some (82, false)), (.len true (.t 83))⟩, ⟨(some 85), (some (82, false)), (.mov (.t 7))⟩, ⟨(some 86), (some (82, false)), (.bin .add false (.t 85) (.c (.int .i64 7)))⟩, ⟨(some 87), (some (82, false)), (.bin .quo false (.t 86) (.c (.int .i64 8)))⟩, ⟨(some 88), (some (82, false)), (.bin .neq false (.t 84) (.t 87))⟩, ⟨(some 89), none, (.pick (.t 82) (.c (.bool true)) (.t 88))⟩, ⟨(some 90), none, (.mov (.t 89))⟩, ⟨(some 91), (some (90, false)), (.mov (.t 12))⟩, ⟨(some 92), (some (90, false)), (.len false (.t 91))⟩, ⟨(some 93), (some (90, false)), (.mov (.t 6))⟩, ⟨(some 94), (some (90, false)), (.len false (.t 93))⟩, ⟨(some 95), (some (90, false)), (.bin .neq false (.t
      92) (.t 94))⟩, ⟨(some 96), none, (.pick (.t 90) (.c (.bool true)) (.t 95))⟩] [5, 6, 7, 10, 12, 96]) (.cond (.t 96) (.seq (.reg [⟨(some 4), none, (.mov (.c (.bool false)))⟩] [4]) .ret) .skip)) (.seq (.seq (.reg [⟨(some 14), none, (.mov (.c (.int .i64 0)))⟩] [5, 6, 7, 10, 12, 14]) (.block 2 (.loop lb3_1))) (.seq (.reg [⟨(some 113), none, (.mov (.t 10))⟩, ⟨(some 114), none, (.bin .add false (.t 113) (.c (.str [(b8 120)])))⟩, ⟨(some 115), none, (.mov (.t 5))⟩, ⟨(some 116), none, (.call (.fn 9) [(.t 114), (.t 115)] [])⟩, ⟨(some 112), none, (.mov (.t 116))⟩, ⟨(some 117), none, (.extract (.t 112) 0)⟩, ⟨(some 118), none, (.extract (.t 112) 1)⟩, ⟨(some 15), none, (.mov (.t 117))⟩, ⟨(some 16), none, (.mov (.t 118))⟩] [5, 7, 10, 16]) (.seq (.seq (.reg [⟨(some 119), none, (.mov (.t 16))⟩, ⟨(some 120), none, (.mov (.t 119))⟩, ⟨(some 121), (some (120, false)), (.mov (.t 7))⟩, ⟨(some 122), (some (120, false)), (.bin .rem false (.t 121) (.c (.int .i64 8)))⟩, ⟨(some 123), (some (120, false)), (.bin .eql false (.t 122) (.c (.int .i64 0)))⟩, ⟨(some 124), none, (.pick (.t 120) (.c (.bool true)) (.t 123))⟩] [5, 10, 16, 124]) (.cond (.t 124) (.seq (.reg [⟨(some 125), none, (.mov (.t 16))⟩, ⟨(some 126), none, (.un .not (.t 125))⟩, ⟨(some 4), none, (.mov (.t 126))⟩] [4]) .ret) .skip)) (.seq (.reg [⟨(some 127), none, (.mov (.t 10))⟩, ⟨(some 128), none, (.len true (.t 127))⟩, ⟨(some 129), none, (.bin .sub false (.t 128) (.c (.int .i64 1)))⟩, ⟨(some 17), none, (.mov (.t 129))⟩] [5, 10, 17]) (.seq (.reg [⟨(some 131), none, (.mov (.t 10))⟩, ⟨(some 132), none, (.mov (.t 17))⟩, ⟨(some 133), none, (.sliceS (.t 131) none (some (.t 132)))⟩, ⟨(some 134), none, (.mov (.t 10))⟩, ⟨(some 135), none, (.mov (.t 17))⟩, ⟨(some 136), none, (.idxS (.t 134) (.t 135))⟩, ⟨(some 137), none, (.bin .or false (.t 136) (.c (.int .u8 1)))⟩, ⟨(some 138), none, (.bslice 1 1 (.int .u8 0) [(0, (.t 137))])⟩, ⟨(some 139), none, (.conv .str (.t 138))⟩, ⟨(some 140), none, (.bin .add false (.t 133) (.t 139))⟩, ⟨(some 141), none, (.mov (.t 5))⟩, ⟨(some 142), none, (.call (.fn 9) [(.t 140), (.t 141)] [])⟩, ⟨(some 130), none, (.mov (.t 142))⟩, ⟨(some 143), none, (.extract (.t 130) 0)⟩, ⟨(some 144), none, (.extract (.t 130) 1)⟩, ⟨(some 18), none, (.mov (.t 143))⟩, ⟨(some 19), none, (.mov (.t 144))⟩] [19]) (.seq (.reg [⟨(some 145), none, (.mov (.t 19))⟩, ⟨(some 146), none, (.un .not (.t 145))⟩, ⟨(some 4), none, (.mov (.t 146))⟩] [4]) .ret)))))))))))))))
def cp3 : CP := CP.mk [] [] [[0, 1], [0, 1, 22], [4], [0, 1, 5], [0, 1, 5, 6], [0, 1, 5, 6, 7], [0, 1, 5, 6, 7, 8], [0, 1, 5, 6, 7, 8, 28], [0, 1, 5, 6, 7, 8], [0, 1, 5, 6, 7, 8, 9], [0, 1, 5, 6, 7, 8, 9], [0, 1, 5, 6, 7, 8, 9], [0, 1, 5, 6, 7, 8], [5, 6, 7, 10, 11], [5, 6, 7, 10, 11, 12, 13], [5, 6, 7, 10, 12, 96], [4], [5, 6, 7, 10, 12, 14], [5, 6, 7, 10, 12, 14, 100], [5, 6, 7, 10, 12, 14], [5, 6, 7, 10, 12, 14, 111], [4], [5, 7, 10, 16], [5, 10, 16, 124], [4], [5, 10, 17], [19], [4]] 147 [] []
theorem sl3_0 (x0 : (List Int)) (x1 : (List Int)) : ∀ (n : Nat) (z0_0 : (List Int)) (z0_1 : (List Int)) (z0_2 : Int) (z0_3 : Int) (o : (Int × (List Int) × (List Int))) (K : IExit → St → Prop), l_laws_FnWords_0 x0 x1 n z0_0 z0_1 z0_2 z0_3 = some o → (∀ st, Wk st (⟨[(5, (.lsl 23 0 (List.length o.2.1))), (6, (.lsl 24 0 (List.length o.2.2))), (7, (.int .i64 o.1))], [(23, (some ⟨1, true, (List.map (AV.int .i64) o.2.1)⟩)), (24, (some ⟨1, true, (List.map (AV.int .i64) o.2.2)⟩))]⟩ : St) → K (.exit 0) st) → eA (tabOf [(6, wM .any g_laws_r8Long), (7, wM .any g_laws_r8At), (8, wM .any g_impl_BytesOfWords), (9, wM (.own [1]) g_impl_WordsOfBytes)]) (.loop lb3_0) (⟨[(0, (.sl (List.map (AV.int .u8) x0))), (1, (.sl (List.map (AV.int .u8) x1))), (5, (.lsl 23 0 (List.length z0_0))), (6, (.lsl 24 0 (List.length z0_1))), (7, (.int .i64 z0_2)), (8, (.int .i64 z0_3))], [(23, (some ⟨1, true, (List.map (AV.int .i64) z0_0)⟩)), (24, (some ⟨1, true, (List.map (AV.int .i64) z0_1)⟩))]⟩ : St) K := by
  intro n
  induction n with
  | zero =>
    intro z0_0 z0_1 z0_2 z0_3 o K h h0
    simp only [l_laws_FnWords_0, reduceCtorEq] at h
  | succ n ih =>
    intro z0_0 z0_1 z0_2 z0_3 o K h h0
    refine eA_loop ?_
    unfold lb3_0
    unfold l_laws_FnWords_0 at h
    (try simp only [need_iff, v_laws_FnWords_1, v_laws_FnWords_2, v_laws_FnWords_3, v_laws_FnWords_4, v_laws_FnWords_5, v_laws_FnWords_6, v_laws_FnWords_7, v_laws_FnWords_8, v_laws_FnWords_12, v_laws_FnWords_13, v_laws_FnWords_14, v_laws_FnWords_15, v_laws_FnWords_16] at h)
    simp only [
      need_iff, h, grpA, vsliceS, grpS, grpD, grpF, grpL, eop, vop, bop, uop, fltop, convop, endOk, newE, new1, freshL, Md.isNew, outV, pureV, pureX, pure1, AV.cells, AV.one, storable, laid, refless, refless1, vload, loadC, storeC, vnil, vfaddr, vextract, flatT, flatE, flatC, vconv, vmm, vidxA, viaddrA, vfield, vlen, elemsOf, dF32, dF64, dI64, dU8, dBool, dStr, esOk, elemsS, vsliceX, bnd, ownV, ownC, own1, ownT, isSl, nSl, endL, Md.isOwn, purge, purgeH, purgeB, purgeE, hasName, name1, List.any_cons, List.any_nil, Md.isWr, pureV.pureP, Option.map, reduceIte, Nat.reduceEqDiff, Nat.reduceAdd, Nat.reduceMul, Nat.reduceLT, Nat.reduceLeDiff, List.mapM_cons, List.mapM_nil, Option.pure_def, Option.bind_eq_bind, Option.bind_some, implies_true, forall_const, beq_self_eq_true, decide_true, decide_false, eq_self, Int.reduceEq, Int.reduceLE, Int.reduceLT, if_true, if_false, grpK, Int.reduceAdd, Int.reduceSub, Int.reduceMul, Int.reduceNeg, Int.reducePow, Nat.reducePow, Int.reduceToNat, Nat.reduceSub, List.replicate, Nat.reduceBEq, wAs, wA, wC, zipW, noDupN, grpE, beq_true, beq_false, g_laws_r8Long, g_laws_r8At, g_impl_BytesOfWords, g_impl_WordsOfBytes, ↓b_pick, ePk_true, ePk_false]
    repeat' (first
      | ((first | (refine eGI_of (fun hc => ?_) (fun hc => ?_)) | (refine eCc_of (fun hc => ?_) (fun hc => ?_)) | (refine ePk_of (fun hc => ?_) (fun hc => ?_)) | (have hc := True.intro; refine KW_refl ?_)) <;> (try simp only [Bool.not_eq_true', Bool.not_eq_false'] at hc) <;> (try simp only [hc, need_iff, reduceCtorEq, grpN, Int.reduceEq, Int.reduceLT, Int.reduceLE, if_true, if_false, reduceIte] at h) <;> (first | (have hc2 := hc; simp only [decide_eq_true_eq, decide_eq_false_iff_not] at hc2; (first | (replace hc2 := eq_false hc2) | (replace hc2 := eq_true hc2)); (try simp only [hc2, need_iff, reduceCtorEq, grpN, Int.reduceEq, Int.reduceLT, Int.reduceLE, if_true, if_false, reduceIte] at h); replace h := And.intro hc2 h) | (replace h := And.intro hc h) | skip) <;> simp only [hc,
      need_iff, h, grpA, vsliceS, grpS, grpD, grpF, grpL, eop, vop, bop, uop, fltop, convop, endOk, newE, new1, freshL, Md.isNew, outV, pureV, pureX, pure1, AV.cells, AV.one, storable, laid, refless, refless1, vload, loadC, storeC, vnil, vfaddr, vextract, flatT, flatE, flatC, vconv, vmm, vidxA, viaddrA, vfield, vlen, elemsOf, dF32, dF64, dI64, dU8, dBool, dStr, esOk, elemsS, vsliceX, bnd, ownV, ownC, own1, ownT, isSl, nSl, endL, Md.isOwn, purge, purgeH, purgeB, purgeE, hasName, name1, List.any_cons, List.any_nil, Md.isWr, pureV.pureP, Option.map, reduceIte, Nat.reduceEqDiff, Nat.reduceAdd, Nat.reduceMul, Nat.reduceLT, Nat.reduceLeDiff, List.mapM_cons, List.mapM_nil, Option.pure_def, Option.bind_eq_bind, Option.bind_some, implies_true, forall_const, beq_self_eq_true, decide_true, decide_false, eq_self, Int.reduceEq, Int.reduceLE, Int.reduceLT, if_true, if_false, grpK, Int.reduceAdd, Int.reduceSub, Int.reduceMul, Int.reduceNeg, Int.reducePow, Nat.reducePow, Int.reduceToNat, Nat.reduceSub, List.replicate, Nat.reduceBEq, wAs, wA, wC, zipW, noDupN, grpE, beq_true, beq_false, g_laws_r8Long, g_laws_r8At, g_impl_BytesOfWords, g_impl_WordsOfBytes, ↓b_pick, ePk_true, ePk_false]))
    all_goals (have hf := h)
    all_goals (repeat (replace h := And.right h))
    all_goals ((first | (refine eA_wk (wk_norm (ks := [0, 1, 5, 6, 7, 8]) (ls := [23, 24]) ?_) (eA_cast ?_ (ih _ _ _ _ _ _ h h0))) | (cases h; have h := True.intro; refine h0 _ (Wk.cast (wk_norm (ks := [5, 6, 7]) (ls := [23, 24]) ?_) ?_))) <;> simp only [normOk, optIn, blkIn, nameIn, normS, List.map_append, List.length_append, List.map_set, List.length_set, List.map_replicate, List.length_replicate, List.map_nil, List.map_cons,
      need_iff, h, hf, grpA, vsliceS, grpS, grpD, grpF, grpL, eop, vop, bop, uop, fltop, convop, endOk, newE, new1, freshL, Md.isNew, outV, pureV, pureX, pure1, AV.cells, AV.one, storable, laid, refless, refless1, vload, loadC, storeC, vnil, vfaddr, vextract, flatT, flatE, flatC, vconv, vmm, vidxA, viaddrA, vfield, vlen, elemsOf, dF32, dF64, dI64, dU8, dBool, dStr, esOk, elemsS, vsliceX, bnd, ownV, ownC, own1, ownT, isSl, nSl, endL, Md.isOwn, purge, purgeH, purgeB, purgeE, hasName, name1, List.any_cons, List.any_nil, Md.isWr, pureV.pureP, Option.map, reduceIte, Nat.reduceEqDiff, Nat.reduceAdd, Nat.reduceMul, Nat.reduceLT, Nat.reduceLeDiff, List.mapM_cons, List.mapM_nil, Option.pure_def, Option.bind_eq_bind, Option.bind_some, implies_true, forall_const, beq_self_eq_true, decide_true, decide_false, eq_self, Int.reduceEq, Int.reduceLE, Int.reduceLT, if_true, if_false, grpK, Int.reduceAdd, Int.reduceSub, Int.reduceMul, Int.reduceNeg, Int.reducePow, Nat.reducePow, Int.reduceToNat, Nat.reduceSub, List.replicate, Nat.reduceBEq, wAs, wA, wC, zipW, noDupN, grpE, beq_true, beq_false, g_laws_r8Long, g_laws_r8At, g_impl_BytesOfWords, g_impl_WordsOfBytes, ↓b_pick, ePk_true, ePk_false] <;> first | rfl | (simp only [Nat.add_comm]; done))
theorem sl3_1 (x0 : (List Int)) (x1 : (List Int)) : ∀ (n : Nat) (z1_0 : Int) (o : (Bool × Bool × Unit)) (K : IExit → St → Prop), l_laws_FnWords_1 x0 x1 n z1_0 = some o → (∀ st, o.1 = true → outM .any st [(.t 4)] = some (.bool o.2.1) → K .ret st) → (∀ st, o.1 = false → Wk st (⟨[(5, (.lsl 23 0 (List.length (Option.getD (l_laws_FnWords_0 x0 x1 (Int.toNat ((m_laws_r8At x0 40 9) - 0) + 2) [] [] 0 0) default).2.1))), (7, (.int .i64 (Option.getD (l_laws_FnWords_0 x0 x1 (Int.toNat ((m_laws_r8At x0 40 9) - 0) + 2) [] [] 0 0) default).1)), (10, (.str (m_impl_BytesOfWords (Option.getD (l_laws_FnWords_0 x0 x1 (Int.toNat ((m_laws_r8At x0 40 9) - 0) + 2) [] [] 0 0) default).2.2 (Option.getD (l_laws_FnWords_0 x0 x1 (Int.toNat ((m_laws_r8At x0 40 9) - 0) + 2) [] [] 0 0) default).2.1).1))], [(23, (some ⟨1, true, (List.map (AV.int .i64) (Option.getD (l_laws_FnWords_0 x0 x1 (Int.toNat ((m_laws_r8At x0 40 9) - 0) + 2) [] [] 0 0) default).2.1)⟩))]⟩ : St) → K (.exit 2) st) → eA (tabOf [(6, wM .any g_laws_r8Long), (7, wM .any g_laws_r8At), (8, wM .any g_impl_BytesOfWords), (9, wM (.own [1]) g_impl_WordsOfBytes)]) (.loop lb3_1) (⟨[(5, (.lsl 23 0 (List.length (Option.getD (l_laws_FnWords_0 x0 x1 (Int.toNat ((m_laws_r8At x0 40 9) - 0) + 2) [] [] 0 0) default).2.1))), (6, (.lsl 24 0 (List.length (Option.getD (l_laws_FnWords_0 x0 x1 (Int.toNat ((m_laws_r8At x0 40 9) - 0) + 2) [] [] 0 0) default).2.2))), (7, (.int .i64 (Option.getD (l_laws_FnWords_0 x0 x1 (Int.toNat ((m_laws_r8At x0 40 9) - 0) + 2) [] [] 0 0) default).1)), (10, (.str (m_impl_BytesOfWords (Option.getD (l_laws_FnWords_0 x0 x1 (Int.toNat ((m_laws_r8At x0 40 9) - 0) + 2) [] [] 0 0) default).2.2 (Option.getD (l_laws_FnWords_0 x0 x1 (Int.toNat ((m_laws_r8At x0 40 9) - 0) + 2) [] [] 0 0) default).2.1).1)), (12, (.sl (List.map (AV.int .i64) (m_impl_WordsOfBytes (m_impl_BytesOfWords (Option.getD (l_laws_FnWords_0 x0 x1 (Int.toNat ((m_laws_r8At x0 40 9) - 0) + 2) [] [] 0 0) default).2.2 (Option.getD (l_laws_FnWords_0 x0 x1 (Int.toNat ((m_laws_r8At x0 40 9) - 0) + 2) [] [] 0 0) default).2.1).1 (Option.getD (l_laws_FnWords_0 x0 x1 (Int.toNat ((m_laws_r8At x0 40 9) - 0) + 2) [] [] 0 0) default).2.1).1))), (14, (.int .i64 z1_0))], [(23, (some ⟨1, true, (List.map (AV.int .i64) (Option.getD (l_laws_FnWords_0 x0 x1 (Int.toNat ((m_laws_r8At x0 40 9) - 0) + 2) [] [] 0 0) default).2.1)⟩)), (24, (some ⟨1, true, (List.map (AV.int .i64) (Option.getD (l_laws_FnWords_0 x0 x1 (Int.toNat ((m_laws_r8At x0 40 9) - 0) + 2) [] [] 0 0)
      default).2.2)⟩))]⟩ : St) K := by
  intro n
  induction n with
  | zero =>
    intro z1_0 o K h h0 h1
    simp only [l_laws_FnWords_1, reduceCtorEq] at h
  | succ n ih =>
    intro z1_0 o K h h0 h1
    refine eA_loop ?_
    unfold lb3_1
    unfold l_laws_FnWords_1 at h
    (try simp only [need_iff, v_laws_FnWords_1, v_laws_FnWords_2, v_laws_FnWords_3, v_laws_FnWords_4, v_laws_FnWords_5, v_laws_FnWords_6, v_laws_FnWords_7, v_laws_FnWords_8, v_laws_FnWords_12, v_laws_FnWords_13, v_laws_FnWords_14, v_laws_FnWords_15, v_laws_FnWords_16] at h)
    simp only [
      need_iff, h, grpA, vsliceS, grpS, grpD, grpF, grpL, eop, vop, bop, uop, fltop, convop, endOk, newE, new1, freshL, Md.isNew, outV, pureV, pureX, pure1, AV.cells, AV.one, storable, laid, refless, refless1, vload, loadC, storeC, vnil, vfaddr, vextract, flatT, flatE, flatC, vconv, vmm, vidxA, viaddrA, vfield, vlen, elemsOf, dF32, dF64, dI64, dU8, dBool, dStr, esOk, elemsS, vsliceX, bnd, ownV, ownC, own1, ownT, isSl, nSl, endL, Md.isOwn, purge, purgeH, purgeB, purgeE, hasName, name1, List.any_cons, List.any_nil, Md.isWr, pureV.pureP, Option.map, reduceIte, Nat.reduceEqDiff, Nat.reduceAdd, Nat.reduceMul, Nat.reduceLT, Nat.reduceLeDiff, List.mapM_cons, List.mapM_nil, Option.pure_def, Option.bind_eq_bind, Option.bind_some, implies_true, forall_const, beq_self_eq_true, decide_true, decide_false, eq_self, Int.reduceEq, Int.reduceLE, Int.reduceLT, if_true, if_false, grpK, Int.reduceAdd, Int.reduceSub, Int.reduceMul, Int.reduceNeg, Int.reducePow, Nat.reducePow, Int.reduceToNat, Nat.reduceSub, List.replicate, Nat.reduceBEq, wAs, wA, wC, zipW, noDupN, grpE, beq_true, beq_false, g_laws_r8Long, g_laws_r8At, g_impl_BytesOfWords, g_impl_WordsOfBytes, ↓b_pick, ePk_true, ePk_false]
    repeat' (first
      | ((first | (refine eGI_of (fun hc => ?_) (fun hc => ?_)) | (refine eCc_of (fun hc => ?_) (fun hc => ?_)) | (refine ePk_of (fun hc => ?_) (fun hc => ?_)) | (have hc := True.intro; refine KW_refl ?_)) <;> (try simp only [Bool.not_eq_true', Bool.not_eq_false'] at hc) <;> (try simp only [hc, need_iff, reduceCtorEq, grpN, Int.reduceEq, Int.reduceLT, Int.reduceLE, if_true, if_false, reduceIte] at h) <;> (first | (have hc2 := hc; simp only [decide_eq_true_eq, decide_eq_false_iff_not] at hc2; (first | (replace hc2 := eq_false hc2) | (replace hc2 := eq_true hc2)); (try simp only [hc2, need_iff, reduceCtorEq, grpN, Int.reduceEq, Int.reduceLT, Int.reduceLE, if_true, if_false, reduceIte] at h); replace h := And.intro hc2 h) | (replace h := And.intro hc h) | skip) <;> simp only [hc,
      need_iff, h, grpA, vsliceS, grpS, grpD, grpF, grpL, eop, vop, bop, uop, fltop, convop, endOk, newE, new1, freshL, Md.isNew, outV, pureV, pureX, pure1, AV.cells, AV.one, storable, laid, refless, refless1, vload, loadC, storeC, vnil, vfaddr, vextract, flatT, flatE, flatC, vconv, vmm, vidxA, viaddrA, vfield, vlen, elemsOf, dF32, dF64, dI64, dU8, dBool, dStr, esOk, elemsS, vsliceX, bnd, ownV, ownC, own1, ownT, isSl, nSl, endL, Md.isOwn, purge, purgeH, purgeB, purgeE, hasName, name1, List.any_cons, List.any_nil, Md.isWr, pureV.pureP, Option.map, reduceIte, Nat.reduceEqDiff, Nat.reduceAdd, Nat.reduceMul, Nat.reduceLT, Nat.reduceLeDiff, List.mapM_cons, List.mapM_nil, Option.pure_def, Option.bind_eq_bind, Option.bind_some, implies_true, forall_const, beq_self_eq_true, decide_true, decide_false, eq_self, Int.reduceEq, Int.reduceLE, Int.reduceLT, if_true, if_false, grpK, Int.reduceAdd, Int.reduceSub, Int.reduceMul, Int.reduceNeg, Int.reducePow, Nat.reducePow, Int.reduceToNat, Nat.reduceSub, List.replicate, Nat.reduceBEq, wAs, wA, wC, zipW, noDupN, grpE, beq_true, beq_false, g_laws_r8Long, g_laws_r8At, g_impl_BytesOfWords, g_impl_WordsOfBytes, ↓b_pick, ePk_true, ePk_false]))
    all_goals (have hf := h)
    all_goals (repeat (replace h := And.right h))
    all_goals ((first | (refine eA_wk (wk_norm (ks := [5, 6, 7, 10, 12, 14]) (ls := [23, 24]) ?_) (eA_cast ?_ (ih _ _ _ h h0 h1))) | (cases h; have h := True.intro; refine h0 _ rfl ?_) | (cases h; have h := True.intro; refine h1 _ rfl (Wk.cast (wk_norm (ks := [5, 7, 10]) (ls := [23]) ?_) ?_))) <;> simp only [normOk, optIn, blkIn, nameIn, normS, List.map_append, List.length_append, List.map_set, List.length_set, List.map_replicate, List.length_replicate, List.map_nil, List.map_cons,
      need_iff, h, hf, grpA, vsliceS, grpS, grpD, grpF, grpL, eop, vop, bop, uop, fltop, convop, endOk, newE, new1, freshL, Md.isNew, outV, pureV, pureX, pure1, AV.cells, AV.one, storable, laid, refless, refless1, vload, loadC, storeC, vnil, vfaddr, vextract, flatT, flatE, flatC, vconv, vmm, vidxA, viaddrA, vfield, vlen, elemsOf, dF32, dF64, dI64, dU8, dBool, dStr, esOk, elemsS, vsliceX, bnd, ownV, ownC, own1, ownT, isSl, nSl, endL, Md.isOwn, purge, purgeH, purgeB, purgeE, hasName, name1, List.any_cons, List.any_nil, Md.isWr, pureV.pureP, Option.map, reduceIte, Nat.reduceEqDiff, Nat.reduceAdd, Nat.reduceMul, Nat.reduceLT, Nat.reduceLeDiff, List.mapM_cons, List.mapM_nil, Option.pure_def, Option.bind_eq_bind, Option.bind_some, implies_true, forall_const, beq_self_eq_true, decide_true, decide_false, eq_self, Int.reduceEq, Int.reduceLE, Int.reduceLT, if_true, if_false, grpK, Int.reduceAdd, Int.reduceSub, Int.reduceMul, Int.reduceNeg, Int.reducePow, Nat.reducePow, Int.reduceToNat, Nat.reduceSub, List.replicate, Nat.reduceBEq, wAs, wA, wC, zipW, noDupN, grpE, beq_true, beq_false, g_laws_r8Long, g_laws_r8At, g_impl_BytesOfWords, g_impl_WordsOfBytes, ↓b_pick, ePk_true, ePk_false] <;> first | rfl | (simp only [Nat.add_comm]; done))
theorem s3 : ∀ vs r, g_laws_FnWords vs = some r → SaysM Try.prog .any 3 vs r := by
  intro vs r h
  unfold g_laws_FnWords at h
  split at h
  · rename_i w0 w1
    cases hd_y0 : decL dU8 w0 with
    | none => rw [hd_y0] at h; cases h
    | some y0 =>
    rw [hd_y0] at h
    obtain rfl := decL_inv dU8_inv hd_y0
    clear hd_y0
    dsimp only at h
    cases hd_y1 : decL dU8 w1 with
    | none => rw [hd_y1] at h; cases h
    | some y1 =>
    rw [hd_y1] at h
    obtain rfl := decL_inv dU8_inv hd_y1
    clear hd_y1
    dsimp only at h
    split at h
    · rename_i hp
      cases h
      refine spec_of (m := .any) (tab := tabOf [(6, wM .any g_laws_r8Long), (7, wM .any g_laws_r8At), (8, wM .any g_impl_BytesOfWords), (9, wM (.own [1]) g_impl_WordsOfBytes)]) (cp := cp3) (ic := ic3) (rvl := [(.t 4)]) hm (tabOk_cons (m := .any) s6 (tabOk_cons (m := .any) s7 (tabOk_cons (m := .any) s8 (tabOk_cons (m := (.own [1])) s9 tabOk_nil)))) Try.func3 rfl rfl rfl (by kernel_rfl) rfl (Nat.le_of_ble_eq_true rfl) (Nat.le_of_ble_eq_true rfl) ?_
      show eA _ _ _ _
      unfold ic3
      unfold p_laws_FnWords at hp
      (try delta v_laws_FnWords_16 v_laws_FnWords_15 v_laws_FnWords_14 v_laws_FnWords_13 v_laws_FnWords_12 v_laws_FnWords_8 v_laws_FnWords_7 v_laws_FnWords_6 v_laws_FnWords_5 v_laws_FnWords_4 v_laws_FnWords_3 v_laws_FnWords_2 v_laws_FnWords_1 at hp)
      (try dsimp only at hp)
      (try simp only [Bool.and_eq_true, Bool.or_eq_true, decide_eq_true_eq, Bool.not_eq_true', decide_eq_false_iff_not] at hp)
      refine eS_to ?_
      repeat' (first
        | ((first | (have h := True.intro; refine eS_of ?_) | (refine eGI_of (fun h => ?_) (fun h => ?_)) | (refine eCc_of (fun h => ?_) (fun h => ?_)) | (refine ePk_of (fun h => ?_) (fun h => ?_)) | (have h := True.intro; refine KW_refl ?_)) <;> (try simp only [Bool.not_eq_true', Bool.not_eq_false'] at h) <;> (try first | exact absurd (Eq.trans (Eq.symm h) (by assumption)) Bool.false_ne_true | exact absurd (Eq.trans (Eq.symm h) (by assumption)) (Ne.symm Bool.false_ne_true)) <;> (try simp only [h, reduceCtorEq, grpN, Int.reduceEq, Int.reduceLT, Int.reduceLE, if_true, if_false, reduceIte] at hp) <;> (first | (have h2 := h; simp only [decide_eq_true_eq, decide_eq_false_iff_not] at h2; (first | (replace h2 := eq_false h2) | (replace h2 := eq_true h2)); (try simp only [h2, reduceCtorEq, grpN, Int.reduceEq, Int.reduceLT, Int.reduceLE, if_true, if_false, reduceIte] at hp); replace hp := And.intro h2 hp) | (replace hp := And.intro h hp) | skip) <;> simp only [h,
          hp, grpA, vsliceS, grpS, grpD, grpF, grpL, eop, vop, bop, uop, fltop, convop, endOk, newE, new1, freshL, Md.isNew, outV, pureV, pureX, pure1, AV.cells, AV.one, storable, laid, refless, refless1, vload, loadC, storeC, vnil, vfaddr, vextract, flatT, flatE, flatC, vconv, vmm, vidxA, viaddrA, vfield, vlen, elemsOf, dF32, dF64, dI64, dU8, dBool, dStr, esOk, elemsS, vsliceX, bnd, ownV, ownC, own1, ownT, isSl, nSl, endL, Md.isOwn, purge, purgeH, purgeB, purgeE, hasName, name1, List.any_cons, List.any_nil, Md.isWr, pureV.pureP, Option.map, reduceIte, Nat.reduceEqDiff, Nat.reduceAdd, Nat.reduceMul, Nat.reduceLT, Nat.reduceLeDiff, List.mapM_cons, List.mapM_nil, Option.pure_def, Option.bind_eq_bind, Option.bind_some, implies_true, forall_const, beq_self_eq_true, decide_true, decide_false, eq_self, Int.reduceEq, Int.reduceLE, Int.reduceLT, if_true, if_false, grpK, Int.reduceAdd, Int.reduceSub, Int.reduceMul, Int.reduceNeg, Int.reducePow, Nat.reducePow, Int.reduceToNat, Nat.reduceSub, List.replicate, Nat.reduceBEq, wAs, wA, wC, zipW, noDupN, grpE, beq_true, beq_false, g_laws_r8Long, g_laws_r8At, g_impl_BytesOfWords, g_impl_WordsOfBytes, ↓b_pick, ePk_true, ePk_false])
        | (refine eA_wk (wk_norm (ks := [0, 1, 5, 6, 7, 8]) (ls := [23, 24]) ?_) (eA_cast ?_ (sl3_0 y0 y1 _ _ _ _ _ _ _ (getD_some (d := default) (x := (l_laws_FnWords_0 y0 y1 (Int.toNat ((m_laws_r8At y0 40 9) - 0) + 2) [] [] 0 0)) ?_) ?_)); (iterate 2 (simp only [nilS, nilV, nilB, normOk, optIn, blkIn, nameIn, normS, List.map_append, List.length_append, List.map_set, List.length_set, List.map_replicate, List.length_replicate, List.map_nil, List.map_cons,
          hp, grpA, vsliceS, grpS, grpD, grpF, grpL, eop, vop, bop, uop, fltop, convop, endOk, newE, new1, freshL, Md.isNew, outV, pureV, pureX, pure1, AV.cells, AV.one, storable, laid, refless, refless1, vload, loadC, storeC, vnil, vfaddr, vextract, flatT, flatE, flatC, vconv, vmm, vidxA, viaddrA, vfield, vlen, elemsOf, dF32, dF64, dI64, dU8, dBool, dStr, esOk, elemsS, vsliceX, bnd, ownV, ownC, own1, ownT, isSl, nSl, endL, Md.isOwn, purge, purgeH, purgeB, purgeE, hasName, name1, List.any_cons, List.any_nil, Md.isWr, pureV.pureP, Option.map, reduceIte, Nat.reduceEqDiff, Nat.reduceAdd, Nat.reduceMul, Nat.reduceLT, Nat.reduceLeDiff, List.mapM_cons, List.mapM_nil, Option.pure_def, Option.bind_eq_bind, Option.bind_some, implies_true, forall_const, beq_self_eq_true, decide_true, decide_false, eq_self, Int.reduceEq, Int.reduceLE, Int.reduceLT, if_true, if_false, grpK, Int.reduceAdd, Int.reduceSub, Int.reduceMul, Int.reduceNeg, Int.reducePow, Nat.reducePow, Int.reduceToNat, Nat.reduceSub, List.replicate, Nat.reduceBEq, wAs, wA, wC, zipW, noDupN, grpE, beq_true, beq_false, g_laws_r8Long, g_laws_r8At, g_impl_BytesOfWords, g_impl_WordsOfBytes, ↓b_pick, ePk_true, ePk_false] <;> first | rfl | (simp only [Nat.add_comm]; done))); (simp only [hp]); (
        intro st2 hw; (try simp only [reduceCtorEq, grpN, Int.reduceEq, Int.reduceLT, Int.reduceLE, if_true, if_false, reduceIte] at hp); (try replace hp := And.intro ht hp); simp only [
Kq_exit, Kq_normal, Kq_ret, Kb_exit, Kb_normal, Kb_ret, Kl_exit, Kl_normal, Kl_ret, reduceIte, Nat.reduceEqDiff, if_true, if_false, eq_self]; refine KW_of hw ?_; simp only [
          hp, grpA, vsliceS, grpS, grpD, grpF, grpL, eop, vop, bop, uop, fltop, convop, endOk, newE, new1, freshL, Md.isNew, outV, pureV, pureX, pure1, AV.cells, AV.one, storable, laid, refless, refless1, vload, loadC, storeC, vnil, vfaddr, vextract, flatT, flatE, flatC, vconv, vmm, vidxA, viaddrA, vfield, vlen, elemsOf, dF32, dF64, dI64, dU8, dBool, dStr, esOk, elemsS, vsliceX, bnd, ownV, ownC, own1, ownT, isSl, nSl, endL, Md.isOwn, purge, purgeH, purgeB, purgeE, hasName, name1, List.any_cons, List.any_nil, Md.isWr, pureV.pureP, Option.map, reduceIte, Nat.reduceEqDiff, Nat.reduceAdd, Nat.reduceMul, Nat.reduceLT, Nat.reduceLeDiff, List.mapM_cons, List.mapM_nil, Option.pure_def, Option.bind_eq_bind, Option.bind_some, implies_true, forall_const, beq_self_eq_true, decide_true, decide_false, eq_self, Int.reduceEq, Int.reduceLE, Int.reduceLT, if_true, if_false, grpK, Int.reduceAdd, Int.reduceSub, Int.reduceMul, Int.reduceNeg, Int.reducePow, Nat.reducePow, Int.reduceToNat, Nat.reduceSub, List.replicate, Nat.reduceBEq, wAs, wA, wC, zipW, noDupN, grpE, beq_true, beq_false, g_laws_r8Long, g_laws_r8At, g_impl_BytesOfWords, g_impl_WordsOfBytes, ↓b_pick, ePk_true, ePk_false]))
        | (refine eA_wk (wk_norm (ks := [5, 6, 7, 10, 12, 14]) (ls := [23, 24]) ?_) (eA_cast ?_ (sl3_1 y0 y1 _ _ _ _ (getD_some (d := default) (x := (l_laws_FnWords_1 y0 y1 (Int.toNat ((((List.length (Option.getD (l_laws_FnWords_0 y0 y1 (Int.toNat ((m_laws_r8At y0 40 9) - 0) + 2) [] [] 0 0) default).2.2) : Nat) : Int) - 0) + 2) 0)) ?_) ?_ ?_)); (iterate 2 (simp only [nilS, nilV, nilB, normOk, optIn, blkIn, nameIn, normS, List.map_append, List.length_append, List.map_set, List.length_set, List.map_replicate, List.length_replicate, List.map_nil, List.map_cons,
          hp, grpA, vsliceS, grpS, grpD, grpF, grpL, eop, vop, bop, uop, fltop, convop, endOk, newE, new1, freshL, Md.isNew, outV, pureV, pureX, pure1, AV.cells, AV.one, storable, laid, refless, refless1, vload, loadC, storeC, vnil, vfaddr, vextract, flatT, flatE, flatC, vconv, vmm, vidxA, viaddrA, vfield, vlen, elemsOf, dF32, dF64, dI64, dU8, dBool, dStr, esOk, elemsS, vsliceX, bnd, ownV, ownC, own1, ownT, isSl, nSl, endL, Md.isOwn, purge, purgeH, purgeB, purgeE, hasName, name1, List.any_cons, List.any_nil, Md.isWr, pureV.pureP, Option.map, reduceIte, Nat.reduceEqDiff, Nat.reduceAdd, Nat.reduceMul, Nat.reduceLT, Nat.reduceLeDiff, List.mapM_cons, List.mapM_nil, Option.pure_def, Option.bind_eq_bind, Option.bind_some, implies_true, forall_const, beq_self_eq_true, decide_true, decide_false, eq_self, Int.reduceEq, Int.reduceLE, Int.reduceLT, if_true, if_false, grpK, Int.reduceAdd, Int.reduceSub, Int.reduceMul, Int.reduceNeg, Int.reducePow, Nat.reducePow, Int.reduceToNat, Nat.reduceSub, List.replicate, Nat.reduceBEq, wAs, wA, wC, zipW, noDupN, grpE, beq_true, beq_false, g_laws_r8Long, g_laws_r8At, g_impl_BytesOfWords, g_impl_WordsOfBytes, ↓b_pick, ePk_true, ePk_false] <;> first | rfl | (simp only [Nat.add_comm]; done))); (simp only [hp]); (
        intro st2 ht hw; simp only [Kq_ret, Kb_ret, Kl_ret, ret_ok]; first | exact h0 _ hw | exact h0 _ rfl hw | exact h1 _ rfl hw | exact h0 _ ht hw | exact h1 _ ht hw | (simp only [ht, need_iff, reduceCtorEq, grpN, Int.reduceEq, Int.reduceLT, Int.reduceLE, if_true, if_false, reduceIte] at h; (repeat (replace h := And.right h)); cases h; first | exact h0 _ hw | exact h0 _ rfl hw | exact h1 _ rfl hw) | refine ⟨_, hw, ?_⟩); rotate_left; (
        intro st2 ht hw; (try simp only [ht, reduceCtorEq, grpN, Int.reduceEq, Int.reduceLT, Int.reduceLE, if_true, if_false, reduceIte] at hp); (try replace hp := And.intro ht hp); simp only [
Kq_exit, Kq_normal, Kq_ret, Kb_exit, Kb_normal, Kb_ret, Kl_exit, Kl_normal, Kl_ret, reduceIte, Nat.reduceEqDiff, if_true, if_false, eq_self]; refine KW_of hw ?_; simp only [ht, 
          hp, grpA, vsliceS, grpS, grpD, grpF, grpL, eop, vop, bop, uop, fltop, convop, endOk, newE, new1, freshL, Md.isNew, outV, pureV, pureX, pure1, AV.cells, AV.one, storable, laid, refless, refless1, vload, loadC, storeC, vnil, vfaddr, vextract, flatT, flatE, flatC, vconv, vmm, vidxA, viaddrA, vfield, vlen, elemsOf, dF32, dF64, dI64, dU8, dBool, dStr, esOk, elemsS, vsliceX, bnd, ownV, ownC, own1, ownT, isSl, nSl, endL, Md.isOwn, purge, purgeH, purgeB, purgeE, hasName, name1, List.any_cons, List.any_nil, Md.isWr, pureV.pureP, Option.map, reduceIte, Nat.reduceEqDiff, Nat.reduceAdd, Nat.reduceMul, Nat.reduceLT, Nat.reduceLeDiff, List.mapM_cons, List.mapM_nil, Option.pure_def, Option.bind_eq_bind, Option.bind_some, implies_true, forall_const, beq_self_eq_true, decide_true, decide_false, eq_self, Int.reduceEq, Int.reduceLE, Int.reduceLT, if_true, if_false, grpK, Int.reduceAdd, Int.reduceSub, Int.reduceMul, Int.reduceNeg, Int.reducePow, Nat.reducePow, Int.reduceToNat, Nat.reduceSub, List.replicate, Nat.reduceBEq, wAs, wA, wC, zipW, noDupN, grpE, beq_true, beq_false, g_laws_r8Long, g_laws_r8At, g_impl_BytesOfWords, g_impl_WordsOfBytes, ↓b_pick, ePk_true, ePk_false])))
      all_goals (try simp only [*, m_laws_FnWords, v_laws_FnWords_1, v_laws_FnWords_2, v_laws_FnWords_3, v_laws_FnWords_4, v_laws_FnWords_5, v_laws_FnWords_6, v_laws_FnWords_7, v_laws_FnWords_8, v_laws_FnWords_12, v_laws_FnWords_13, v_laws_FnWords_14, v_laws_FnWords_15, v_laws_FnWords_16, Bool.and_true, Bool.true_and, Bool.and_false, Bool.false_and, Bool.or_true, Bool.true_or, Bool.or_false, Bool.false_or, Bool.not_true, Bool.not_false, Bool.false_eq_true, if_true, if_false, reduceIte, decide_true, decide_false])
      all_goals (try (simp_all; done))
    · cases h
  · cases h
end Go.Proofs
namespace Go.Proofs
open Go.Ab
/-- sizes of codes: at most 512, each 1 .. 62 -/
def Szs (y : List Int) : Prop := y.length ≤ 512 ∧ ∀ j : Nat, j < y.length → 1 ≤ y.getD j default ∧ y.getD j default ≤ 62
end Go.Proofs
namespace Go.Proofs
open Go.Ab
def bwPut (w : Nat) (out : List Int) (used bit : Nat) : List Int :=
  let o := if used % 8 = 0 then out ++ [0] else out
  if w / 2 ^ bit % 2 = 1 then o.set (used / 8) (bitop .or .u8 (o.getD (used / 8) default) ((128 / 2 ^ (used % 8) : Nat) : Int)) else o
def Bw (out : List Int) (used : Nat) : Prop := out.length = (used + 7) / 8 ∧ used ≤ 40000 ∧ ∀ e ∈ out, 0 ≤ e ∧ e < 256
theorem or_range (x y : Int) : 0 ≤ bitop .or .u8 x y ∧ bitop .or .u8 x y < 256 := by
  unfold bitop
  show 0 ≤ IntKind.wrap .u8 _ ∧ IntKind.wrap .u8 _ < 256
  generalize (((BitVec.ofInt (IntKind.bits .u8) x ||| BitVec.ofInt (IntKind.bits .u8) y).toNat : Nat) : Int) = v
  have h : IntKind.wrap .u8 v = v % 256 := by
    unfold IntKind.wrap
    simp only [IntKind.bits, IntKind.signed]
    simp
  rw [h]; omega
theorem or_zero {x : Int} (h0 : 0 ≤ x) (h : x < 256) : bitop .or .u8 x 0 = x := by
  unfold bitop
  show IntKind.wrap .u8 (((BitVec.ofInt 8 x ||| BitVec.ofInt 8 0).toNat : Nat) : Int) = x
  have e : BitVec.ofInt 8 x ||| BitVec.ofInt 8 0 = BitVec.ofInt 8 x := by
    rw [show BitVec.ofInt 8 0 = 0#8 by decide, BitVec.or_zero]
  rw [e, BitVec.toNat_ofInt]
  have h : ∀ v : Int, IntKind.wrap .u8 v = v % 256 := by
    intro v
    unfold IntKind.wrap
    simp only [IntKind.bits, IntKind.signed]
    simp
  rw [h]
  omega
theorem bwPut_ok {w : Nat} {out : List Int} {used bit : Nat} (h : Bw out used) (hu : used < 40000) : Bw (bwPut w out used bit) (used + 1) := by
  obtain ⟨h1, h2, h3⟩ := h
  unfold bwPut
  have ho : (if used % 8 = 0 then out ++ [0] else out).length = (used + 1 + 7) / 8 ∧ ∀ e ∈ (if used % 8 = 0 then out ++ [0] else out), 0 ≤ e ∧ e < 256 := by
    by_cases hr : used % 8 = 0
    · rw [if_pos hr, List.length_append, h1]
      refine ⟨by simp; omega, fun e he => ?_⟩
      rcases List.mem_append.1 he with h | h
      · exact h3 e h
      · rw [List.mem_singleton.1 h]; omega
    · rw [if_neg hr, h1]
      exact ⟨by omega, h3⟩
  generalize (if used % 8 = 0 then out ++ [0] else out) = o at *
  dsimp only
  split
  · refine ⟨by rw [List.length_set]; exact ho.1, by omega, fun e he => ?_⟩
    rcases List.mem_or_eq_of_mem_set he with h | h
    · exact ho.2 e h
    · rw [h]; exact or_range _ _
  · exact ⟨ho.1, by omega, ho.2⟩
theorem fdiv_nat' (a n : Nat) : Int.fdiv (a : Int) (2 ^ n) = ((a / 2 ^ n : Nat) : Int) := by
  rw [Int.fdiv_eq_ediv_of_nonneg _ (by exact_mod_cast Nat.zero_le (2 ^ n))]
  exact_mod_cast rfl
theorem tmod8 (a : Nat) : Int.tmod (a : Int) 8 = ((a % 8 : Nat) : Int) := by
  rw [Int.tmod_eq_emod_of_nonneg (by omega)]
  exact_mod_cast rfl
theorem tdiv8 (a : Nat) : Int.tdiv (a : Int) 8 = ((a / 8 : Nat) : Int) := by
  rw [Int.tdiv_eq_ediv_of_nonneg (by omega)]
  exact_mod_cast rfl
theorem bit_one {w bit : Nat} (hw : w < 2 ^ 62) (hb : bit ≤ 61) : bitop .and .i64 (Int.fdiv (w : Int) (2 ^ (min bit 64))) 1 = ((w / 2 ^ bit % 2 : Nat) : Int) := by
  rw [Nat.min_eq_left (by omega), fdiv_nat']
  have := bit_and_mask (n := w / 2 ^ bit) (k := 1) (Nat.lt_of_le_of_lt (Nat.div_le_self _ _) (by omega)) (by omega)
  exact this
theorem place_ok (r : Nat) (h : r < 8) : Int.fdiv 128 (2 ^ (min ((IntKind.wrap .u64 (r : Int)) : Int).toNat 8)) = ((128 / 2 ^ r : Nat) : Int) ∧ 0 ≤ IntKind.wrap .u64 (r : Int) ∧ 0 ≤ IntKind.wrap .i64 (7 - (r : Int)) ∧
    IntKind.wrap .u8 ((IntKind.wrap .u8 ((1 : Nat) : Int)) * 2 ^ (min ((IntKind.wrap .i64 (7 - (r : Int))) : Int).toNat 8)) = ((128 / 2 ^ r : Nat) : Int) ∧ IntKind.wrap .u8 ((IntKind.wrap .u8 ((0 : Nat) : Int)) * 2 ^ (min ((IntKind.wrap .i64 (7 - (r : Int))) : Int).toNat 8)) = 0 := by
  have : r = 0 ∨ r = 1 ∨ r = 2 ∨ r = 3 ∨ r = 4 ∨ r = 5 ∨ r = 6 ∨ r = 7 := by omega
  rcases this with rfl | rfl | rfl | rfl | rfl | rfl | rfl | rfl
  all_goals exact ⟨by decide, by decide, by decide, by decide, by decide⟩
theorem u64N {n : Nat} (h : n < 2 ^ 64) : IntKind.wrap .u64 (n : Int) = n := by
  unfold IntKind.wrap
  simp only [IntKind.bits, IntKind.signed]
  simp
  omega
theorem dec_no {p : Prop} [Decidable p] (h : ¬ p) : ¬ (decide p = true) := by simpa using h
theorem set_get_self {l : List Int} {j : Nat} (h : j < l.length) : l.set j (l.getD j default) = l := by
  apply List.ext_getElem
  · simp
  · intro n h1 h2
    rw [List.getElem_set]
    split
    · subst_vars; simp [List.getD, h]
    · rfl
section
variable {x y : List Int} {j w : Nat} (hj : j < x.length) (hw : x.getD j default = (w : Int)) (hw2 : w < 2 ^ 62)
include hj hw hw2
theorem impl_bit {n : Nat} {out : List Int} {used bit : Nat} (h : Bw out used) (hb : bit ≤ 61) (hu : used < 40000) : l_impl_BytesOfWords_0 x y (j : Int) (n + 1) out (used : Int) (bit : Int) = l_impl_BytesOfWords_0 x y (j : Int) n (bwPut w out used bit) ((used + 1 : Nat) : Int) (IntKind.wrap .i64 ((bit : Int) - 1)) := by
  obtain ⟨h1, h2, h3⟩ := h
  rw [l_impl_BytesOfWords_0]
  have e5 : ∀ {α : Type} (z : Option α), need true z = z := fun _ => rfl
  have e6 : atI x (j : Int) = (w : Int) := hw
  obtain ⟨p1, p2, p3, p4, p5⟩ := place_ok (used % 8) (by omega)
  unfold v_impl_BytesOfWords_19
  rw [decide_eq_true (show (0 : Int) ≤ (bit : Int) by omega), if_pos rfl, tmod8, tdiv8, e6, Int.toNat_natCast, bit_one hw2 hb, wrapS (k := used) (by omega), wrapN (n := used / 8) (by omega), decide_eq_true p3]
  have hv : IntKind.wrap .u8 ((IntKind.wrap .u8 ((w / 2 ^ bit % 2 : Nat) : Int)) * 2 ^ (min ((IntKind.wrap .i64 (7 - ((used % 8 : Nat) : Int))) : Int).toNat 8)) = if w / 2 ^ bit % 2 = 1 then ((128 / 2 ^ (used % 8) : Nat) : Int) else 0 := by
    by_cases hbit : w / 2 ^ bit % 2 = 1
    · rw [if_pos hbit, hbit]; exact p4
    · rw [if_neg hbit, show w / 2 ^ bit % 2 = 0 by omega]; exact p5
  rw [hv]
  unfold bwPut
  have hfin : ∀ o : List Int, used / 8 < o.length → (∀ e ∈ o, 0 ≤ e ∧ e < 256) →
      o.set (used / 8) (bitop .or .u8 (o.getD (used / 8) default) (if w / 2 ^ bit % 2 = 1 then ((128 / 2 ^ (used % 8) : Nat) : Int) else 0)) = if w / 2 ^ bit % 2 = 1 then o.set (used / 8) (bitop .or .u8 (o.getD (used / 8) default) ((128 / 2 ^ (used % 8) : Nat) : Int)) else o := by
    intro o hl he
    by_cases hbit : w / 2 ^ bit % 2 = 1
    · rw [if_pos hbit, if_pos hbit]
    · rw [if_neg hbit, if_neg hbit]
      have hm : o.getD (used / 8) default ∈ o := by
        simp [List.getD, hl]
      obtain ⟨g1, g2⟩ := he _ hm
      rw [or_zero g1 g2, set_get_self hl]
  by_cases hr : used % 8 = 0
  · have ho : out.length = used / 8 := by omega
    rw [if_pos hr, decide_eq_true (show ((used % 8 : Nat) : Int) = 0 by omega), if_pos rfl, decide_eq_true (show (out.length + 1) * 1 ≤ 17592186044416 by omega), decide_eq_true (show out.length + 1 ≤ 17592186044416 by omega),
      show inB ((used / 8 : Nat) : Int) (out.length + 1) = true by unfold inB; simp; omega]
    simp only [e5]
    rw [← hfin (out ++ [0]) (by rw [List.length_append]; simp; omega) (fun e he => by
      rcases List.mem_append.1 he with h | h
      · exact h3 e h
      · rw [List.mem_singleton.1 h]; omega)]
    rfl
  · have ho : out.length = used / 8 + 1 := by omega
    rw [if_neg hr, decide_eq_false (show ¬ ((used % 8 : Nat) : Int) = 0 by omega), if_neg (by decide), show inB ((used / 8 : Nat) : Int) out.length = true by unfold inB; simp; omega]
    simp only [e5]
    rw [← hfin out (by omega) h3]
    rfl
end
def okW (x y : List Int) (j : Nat) : Prop := 0 ≤ x.getD j default ∧ x.getD j default < 2 ^ (y.getD j default).toNat
theorem size_pow {s : Int} (h1 : 1 ≤ s) (h2 : s ≤ 62) : ∃ b : Nat, 1 ≤ b ∧ b ≤ 62 ∧ s = (b : Int) ∧ IntKind.wrap .i64 (1 * 2 ^ (min s.toNat 64)) = ((2 ^ b : Nat) : Int) ∧ IntKind.wrap .u64 s = s ∧ (2 : Nat) ^ b ≤ 2 ^ 62 ∧ IntKind.wrap .i64 (s - 1) = s - 1 := by
  refine ⟨s.toNat, by omega, by omega, by omega, ?_, ?_, Nat.pow_le_pow_right (by omega) (by omega), wrapI (by omega) (by omega)⟩
  · rw [Nat.min_eq_left (by omega), Int.one_mul]
    have hp : 2 ^ s.toNat ≤ 2 ^ 62 := Nat.pow_le_pow_right (by omega) (by omega)
    have : (2 : Int) ^ s.toNat = ((2 ^ s.toNat : Nat) : Int) := by exact_mod_cast rfl
    rw [this, wrapN (by omega)]
  · have := u64N (n := s.toNat) (by omega)
    rw [show ((s.toNat : Nat) : Int) = s by omega] at this; exact this
def bitAt (x : List UInt8) (u : Nat) : Int := IntKind.wrap .i64 (bitop .and .u8 (Int.fdiv (Go.Ab.u8 (x.getD (u / 8) default)) (2 ^ (7 - u % 8))) 1)
theorem bitAt_01 (x : List UInt8) (u : Nat) : bitAt x u = 0 ∨ bitAt x u = 1 := by
  unfold bitAt bitop
  generalize Int.fdiv _ _ = v
  show IntKind.wrap .i64 (IntKind.wrap .u8 (((BitVec.ofInt 8 v &&& BitVec.ofInt 8 1).toNat : Nat) : Int)) = 0 ∨ IntKind.wrap .i64 (IntKind.wrap .u8 (((BitVec.ofInt 8 v &&& BitVec.ofInt 8 1).toNat : Nat) : Int)) = 1
  rw [show BitVec.ofInt 8 1 = 1#8 by decide, BitVec.toNat_and]
  have : (BitVec.ofInt 8 v).toNat &&& (1#8).toNat ≤ 1 := Nat.and_le_right
  generalize (BitVec.ofInt 8 v).toNat &&& (1#8).toNat = b at *
  have : b = 0 ∨ b = 1 := by omega
  rcases this with rfl | rfl
  · left; decide
  · right; decide
theorem or_bit {w : Nat} {b : Int} (hw : w < 2 ^ 62) (hb : b = 0 ∨ b = 1) : bitop .or .i64 (IntKind.wrap .i64 ((w : Int) * 2)) b = 2 * (w : Int) + b := by
  have e : (w : Int) * 2 = ((2 * w : Nat) : Int) := by omega
  rw [e, wrapN (by omega)]
  unfold bitop
  show IntKind.wrap .i64 (((BitVec.ofInt 64 ((2 * w : Nat) : Int) ||| BitVec.ofInt 64 b).toNat : Nat) : Int) = _
  have e2 : BitVec.ofInt 64 ((2 * w : Nat) : Int) = BitVec.ofNat 64 (2 * w) := by
    apply BitVec.eq_of_toNat_eq
    rw [BitVec.toNat_ofInt, BitVec.toNat_ofNat]
    omega
  rw [e2, BitVec.toNat_or, BitVec.toNat_ofNat, Nat.mod_eq_of_lt (by omega)]
  rcases hb with rfl | rfl
  · rw [show (BitVec.ofInt 64 0).toNat = 0 by decide, Nat.or_zero, wrapN (by omega)]; omega
  · rw [show (BitVec.ofInt 64 1).toNat = 1 by decide, show 2 * w ||| 1 = 2 * w + 1 from ?_, wrapN (by omega)]
    · omega
    · have := Nat.two_pow_add_eq_or_of_lt (i := 1) (b := 1) (by omega) w
      rw [show 2 ^ 1 * w = 2 * w by omega] at this
      exact this.symm
theorem shift_ok (u : Nat) : min (IntKind.wrap .u64 (IntKind.wrap .i64 (7 - ((u % 8 : Nat) : Int)))).toNat 8 = 7 - u % 8 ∧ 0 ≤ IntKind.wrap .u64 (IntKind.wrap .i64 (7 - ((u % 8 : Nat) : Int))) ∧ min (IntKind.wrap .i64 (7 - ((u % 8 : Nat) : Int))).toNat 8 = 7 - u % 8 ∧ 0 ≤ IntKind.wrap .i64 (7 - ((u % 8 : Nat) : Int)) := by
  have h8 : u % 8 < 8 := by omega
  generalize u % 8 = r at *
  have : r = 0 ∨ r = 1 ∨ r = 2 ∨ r = 3 ∨ r = 4 ∨ r = 5 ∨ r = 6 ∨ r = 7 := by omega
  rcases this with rfl | rfl | rfl | rfl | rfl | rfl | rfl | rfl
  all_goals exact ⟨by decide, by decide, by decide, by decide⟩
def wRun (x : List UInt8) : Nat → Nat → Int → Int
  | 0, _, w => w
  | m + 1, u, w => wRun x m (u + 1) (2 * w + bitAt x u)
theorem wRun_range (x : List UInt8) : ∀ (m u i : Nat) (w : Int), 0 ≤ w → w < 2 ^ i → 0 ≤ wRun x m u w ∧ wRun x m u w < 2 ^ (i + m)
  | 0, u, i, w, h0, h => ⟨h0, h⟩
  | m + 1, u, i, w, h0, h => by
    have hb := bitAt_01 x u
    have := wRun_range x m (u + 1) (i + 1) (2 * w + bitAt x u) (by omega) (by rw [Int.pow_succ]; omega)
    rw [show i + (m + 1) = i + 1 + m by omega]
    exact this
section
variable {x : List UInt8} {y : List Int} {j s : Nat} (hj : j < y.length) (hs : y.getD j default = (s : Int)) (hs2 : s ≤ 62) (hx : x.length ≤ 5000)
include hj hs hs2 hx
theorem impl_word : ∀ (m n u i : Nat) (l : List Int), j < l.length → i + m = s → m < n → u + m ≤ 8 * x.length → 0 ≤ l.getD j default → l.getD j default < 2 ^ i →
    l_impl_WordsOfBytes_1 x y (j : Int) n l (u : Int) (i : Int) = some (((u + m : Nat) : Int), l.set j (wRun x m u (l.getD j default)))
  | 0, 0, _, _, _, _, _, h, _, _, _ => by omega
  | 0, n + 1, u, i, l, hl, hi, _, _, _, _ => by
    have e2 : atI y (j : Int) = (s : Int) := hs
    rw [l_impl_WordsOfBytes_1, e2, decide_eq_false (show ¬ (i : Int) < (s : Int) by omega), wRun, set_get_self hl]
    rfl
  | m + 1, 0, _, _, _, _, _, h, _, _, _ => by omega
  | m + 1, n + 1, u, i, l, hl, hi, hn, hu, h0, hw => by
    have e2 : atI y (j : Int) = (s : Int) := hs
    have e3 : atI l (j : Int) = l.getD j default := rfl
    obtain ⟨p1, p2, p3, p4⟩ := shift_ok u
    generalize hg : l.getD j default = w at *
    obtain ⟨v, rfl⟩ : ∃ v : Nat, w = (v : Int) := ⟨w.toNat, by omega⟩
    have hv : v < 2 ^ 62 := by
      have h1 : v < 2 ^ i := by exact_mod_cast hw
      exact Nat.lt_of_lt_of_le h1 (Nat.pow_le_pow_right (by omega) (by omega))
    have hb := bitAt_01 x u
    rw [l_impl_WordsOfBytes_1, e2, e3, decide_eq_true (show (i : Int) < (s : Int) by omega)]
    unfold v_impl_WordsOfBytes_48
    rw [tmod8, tdiv8, p3, decide_eq_true p4, wrapN (n := u / 8) (by omega), show inB ((u / 8 : Nat) : Int) x.length = true by unfold inB; simp; omega, show inB (j : Int) l.length = true by unfold inB; simp; omega, wrapS (k := u) (by omega), wrapS (k := i) (by omega)]
    have hbit : IntKind.wrap .i64 (bitop .and .u8 (Int.fdiv (Go.Ab.u8 (atI x ((u / 8 : Nat) : Int))) (2 ^ (7 - u % 8))) 1) = bitAt x u := rfl
    rw [hbit, or_bit hv hb]
    have hset : (l.set j (2 * (v : Int) + bitAt x u)).getD j default = 2 * (v : Int) + bitAt x u := by simp [List.getD, hl]
    have ih := impl_word m n (u + 1) (i + 1) (l.set j (2 * (v : Int) + bitAt x u)) (by simpa using hl) (by omega) (by omega) (by omega) (by rw [hset]; omega) (by rw [hset, Int.pow_succ]; omega)
    rw [hset, List.set_set] at ih
    rw [show u + (m + 1) = u + 1 + m by omega]
    exact ih
end
def sumTo (y : List Int) : Nat → Nat → Nat
  | 0, _ => 0
  | m + 1, k => (y.getD k default).toNat + sumTo y m (k + 1)
section
variable {y : List Int} (hs : Szs y)
include hs
theorem sumTo_le : ∀ (m k : Nat), k + m = y.length → sumTo y m k ≤ 62 * m
  | 0, _, _ => Nat.zero_le _
  | m + 1, k, h => by
    have := sumTo_le m (k + 1) (by omega)
    have := hs.2 k (by omega)
    unfold sumTo; omega
end
def wAll (x : List UInt8) (y : List Int) : Nat → Nat → Nat → List Int
  | 0, _, _ => []
  | m + 1, k, u => wRun x (y.getD k default).toNat u 0 :: wAll x y m (k + 1) (u + (y.getD k default).toNat)
theorem wAll_len (x : List UInt8) (y : List Int) : ∀ (m k u : Nat), (wAll x y m k u).length = m
  | 0, _, _ => rfl
  | m + 1, k, u => by rw [wAll, List.length_cons, wAll_len x y m]
theorem wAll_get (x : List UInt8) (y : List Int) : ∀ (m k u i : Nat), i < m → ∃ u', (wAll x y m k u).getD i default = wRun x (y.getD (k + i) default).toNat u' 0
  | 0, _, _, _, h => by omega
  | m + 1, k, u, 0, h => ⟨u, rfl⟩
  | m + 1, k, u, i + 1, h => by
    obtain ⟨u', h'⟩ := wAll_get x y m (k + 1) (u + (y.getD k default).toNat) i (by omega)
    refine ⟨u', ?_⟩
    rw [wAll, List.getD_cons_succ, h', show k + 1 + i = k + (i + 1) by omega]
theorem sizes_true {y : List Int} (h : Szs y) : m_impl_areSizes y = true ∧ p_impl_areSizes y = true := by
  have key : ∀ (n k : Nat), k ≤ y.length → y.length - k < n → l_impl_areSizes_0 y n (k : Int) = some (false, default, ()) := by
    intro n
    induction n with
    | zero => intro k _ h; omega
    | succ n ih =>
      intro k hk hn
      have h512 := h.1
      rw [l_impl_areSizes_0]
      by_cases hlt : k < y.length
      · have := h.2 k hlt
        have e3 : atI y (k : Int) = y.getD k default := rfl
        rw [decide_eq_true (show (k : Int) < ((List.length y : Nat) : Int) by omega), show inB (k : Int) y.length = true by unfold inB; simp; omega, e3, decide_eq_false (show ¬ y.getD k default < 1 by omega), decide_eq_false (show ¬ 62 < y.getD k default by omega), wrapS (by omega)]
        exact ih (k + 1) (by omega) (by omega)
      · rw [decide_eq_false (show ¬ (k : Int) < ((List.length y : Nat) : Int) by omega)]; rfl
  have h512 := h.1
  have o1 : l_impl_areSizes_0 y (Int.toNat (((List.length y : Nat) : Int) - 0) + 2) 0 = some (false, default, ()) := key _ 0 (by omega) (by omega)
  unfold m_impl_areSizes p_impl_areSizes
  rw [o1]
  exact ⟨decide_eq_true (show ((List.length y : Nat) : Int) ≤ 512 by omega), rfl⟩
end Go.Proofs
namespace Go.Proofs
open Go.Ab
theorem orN {x y : Nat} (hx : x < 256) (hy : y < 256) : bitop .or .u8 (x : Int) (y : Int) = ((x ||| y : Nat) : Int) := by
  unfold bitop
  show IntKind.wrap .u8 (((BitVec.ofInt 8 (x : Int) ||| BitVec.ofInt 8 (y : Int)).toNat : Nat) : Int) = _
  have e : ∀ v : Nat, v < 256 → BitVec.ofInt 8 (v : Int) = BitVec.ofNat 8 v := by
    intro v hv
    apply BitVec.eq_of_toNat_eq
    rw [BitVec.toNat_ofInt, BitVec.toNat_ofNat]; omega
  have hlt : x ||| y < 256 := Nat.or_lt_two_pow (n := 8) hx hy
  rw [e x hx, e y hy, BitVec.toNat_or, BitVec.toNat_ofNat, BitVec.toNat_ofNat, Nat.mod_eq_of_lt (by omega), Nat.mod_eq_of_lt (by omega)]
  have h : ∀ v : Int, IntKind.wrap .u8 v = v % 256 := by
    intro v
    unfold IntKind.wrap
    simp only [IntKind.bits, IntKind.signed]
    simp
  rw [h]; omega
theorem andN {x : Nat} (hx : x < 256) : bitop .and .u8 (x : Int) 1 = ((x % 2 : Nat) : Int) := by
  unfold bitop
  show IntKind.wrap .u8 (((BitVec.ofInt 8 (x : Int) &&& BitVec.ofInt 8 1).toNat : Nat) : Int) = _
  have e : BitVec.ofInt 8 (x : Int) = BitVec.ofNat 8 x := by
    apply BitVec.eq_of_toNat_eq
    rw [BitVec.toNat_ofInt, BitVec.toNat_ofNat]; omega
  rw [e, show BitVec.ofInt 8 1 = BitVec.ofNat 8 1 by decide, BitVec.toNat_and, BitVec.toNat_ofNat, BitVec.toNat_ofNat, Nat.mod_eq_of_lt (show x < 2 ^ 8 by omega), show 1 % 2 ^ 8 = 2 ^ 1 - 1 by decide, Nat.and_two_pow_sub_one_eq_mod]
  have h : ∀ v : Int, IntKind.wrap .u8 v = v % 256 := by
    intro v
    unfold IntKind.wrap
    simp only [IntKind.bits, IntKind.signed]
    simp
  rw [h, show 2 ^ 1 = 2 by decide]; omega
/-- a bit of the bytes -/
def bAt (r : List Int) (u : Nat) : Bool := (r.getD (u / 8) 0).toNat.testBit (7 - u % 8)
theorem put_bits {w : Nat} {out : List Int} {used bit : Nat} (h : Bw out used) (hz : ∀ u, used ≤ u → bAt out u = false) :
    bAt (bwPut w out used bit) used = w.testBit bit ∧ ∀ u, u ≠ used → bAt (bwPut w out used bit) u = bAt out u := by
  obtain ⟨h1, h2, h3⟩ := h
  have ho : ∀ i, (if used % 8 = 0 then out ++ [0] else out).getD i 0 = out.getD i 0 := by
    intro i
    split
    · simp only [List.getD_eq_getElem?_getD, List.getElem?_append]
      split
      · rfl
      · rename_i hi
        rw [List.getElem?_eq_none (show out.length ≤ i by omega)]
        rcases Nat.lt_or_ge (i - out.length) 1 with h | h
        · rw [show i - out.length = 0 by omega]; rfl
        · rw [List.getElem?_eq_none (by simpa using h)]
    · rfl
  have hl : used / 8 < (if used % 8 = 0 then out ++ [0] else out).length := by
    split
    · rw [List.length_append, h1]; simp; omega
    · rw [h1]; omega
  have hbo : ∀ u, ((if used % 8 = 0 then out ++ [0] else out).getD (u / 8) 0).toNat.testBit (7 - u % 8) = bAt out u := by
    intro u; rw [ho]; rfl
  have hx : 0 ≤ (if used % 8 = 0 then out ++ [0] else out).getD (used / 8) 0 ∧ (if used % 8 = 0 then out ++ [0] else out).getD (used / 8) 0 < 256 := by
    rw [ho]
    rw [List.getD_eq_getElem?_getD]
    cases hg : out[used / 8]? with
    | none => exact ⟨by decide, by decide⟩
    | some e => exact h3 e (List.mem_of_getElem? hg)
  unfold bwPut
  generalize (if used % 8 = 0 then out ++ [0] else out) = o at *
  dsimp only
  rw [Nat.testBit_eq_decide_div_mod_eq]
  by_cases hb : w / 2 ^ bit % 2 = 1
  · rw [if_pos hb, decide_eq_true hb]
    have hdef : o.getD (used / 8) default = o.getD (used / 8) 0 := rfl
    rw [hdef]
    obtain ⟨x, hxx⟩ : ∃ x : Nat, o.getD (used / 8) 0 = (x : Int) := ⟨(o.getD (used / 8) 0).toNat, by omega⟩
    rw [hxx] at hx ⊢
    have hp : 128 / 2 ^ (used % 8) = 2 ^ (7 - used % 8) := by
      have : used % 8 = 0 ∨ used % 8 = 1 ∨ used % 8 = 2 ∨ used % 8 = 3 ∨ used % 8 = 4 ∨ used % 8 = 5 ∨ used % 8 = 6 ∨ used % 8 = 7 := by omega
      rcases this with h | h | h | h | h | h | h | h <;> rw [h]
    have hp2 : 2 ^ (7 - used % 8) < 256 := Nat.pow_lt_pow_right (n := 8) (by omega) (by omega)
    rw [hp, orN (by omega) hp2]
    have hset : ∀ u, bAt (o.set (used / 8) ((x ||| 2 ^ (7 - used % 8) : Nat) : Int)) u = if u / 8 = used / 8 then (x ||| 2 ^ (7 - used % 8)).testBit (7 - u % 8) else bAt out u := by
      intro u
      unfold bAt
      by_cases hu : u / 8 = used / 8
      · rw [if_pos hu, hu, List.getD_eq_getElem?_getD, List.getElem?_set_self hl]; rfl
      · rw [if_neg hu, List.getD_eq_getElem?_getD, List.getElem?_set_ne (Ne.symm hu), ← List.getD_eq_getElem?_getD]
        exact hbo u
    refine ⟨?_, fun u hu => ?_⟩
    · rw [hset, if_pos rfl, Nat.testBit_or, Nat.testBit_two_pow_self, Bool.or_true]
    · rw [hset]
      by_cases he : u / 8 = used / 8
      · rw [if_pos he, Nat.testBit_or]
        have : Nat.testBit (2 ^ (7 - used % 8)) (7 - u % 8) = false := Nat.testBit_two_pow_of_ne (by omega)
        rw [this, Bool.or_false, ← hbo u, he, hxx]; rfl
      · rw [if_neg he]
  · rw [if_neg hb, decide_eq_false hb]
    have hb' : ∀ u, bAt o u = bAt out u := hbo
    exact ⟨by rw [hb']; exact hz used (Nat.le_refl _), fun u _ => hb' u⟩
section
variable {x y : List Int} {j w : Nat} (hj : j < x.length) (hw : x.getD j default = (w : Int)) (hw2 : w < 2 ^ 62)
include hj hw hw2
theorem word_bits : ∀ (b n : Nat) (out : List Int) (used : Nat), b ≤ 62 → b < n → Bw out used → (∀ u, used ≤ u → bAt out u = false) → used + b ≤ 40000 →
    ∃ r, Bw r (used + b) ∧ l_impl_BytesOfWords_0 x y (j : Int) n out (used : Int) ((b : Int) - 1) = some (((used + b : Nat) : Int), r) ∧ (∀ u, used + b ≤ u → bAt r u = false) ∧ (∀ u, u < used → bAt r u = bAt out u) ∧ ∀ t, t < b → bAt r (used + t) = w.testBit (b - 1 - t) := by
  intro b
  induction b with
  | zero =>
    intro n out used _ hn h hz _
    cases n with
    | zero => omega
    | succ n =>
      refine ⟨out, h, ?_, hz, fun _ _ => rfl, fun t ht => by omega⟩
      rw [l_impl_BytesOfWords_0]; rfl
  | succ b ih =>
    intro n out used hb hn h hz hu
    cases n with
    | zero => omega
    | succ n =>
      obtain ⟨p1, p2⟩ := put_bits (w := w) (bit := b) h hz
      obtain ⟨r, r1, r2, r3, r4, r5⟩ := ih n (bwPut w out used b) (used + 1) (by omega) (by omega) (bwPut_ok h (by omega)) (fun u hu' => by rw [p2 u (by omega)]; exact hz u (by omega)) (by omega)
      have e1 : ((b + 1 : Nat) : Int) - 1 = (b : Int) := by omega
      have e2 : IntKind.wrap .i64 ((b : Int) - 1) = (b : Int) - 1 := wrapI (by omega) (by omega)
      refine ⟨r, by rw [show used + (b + 1) = used + 1 + b by omega]; exact r1, ?_, fun u hu' => r3 u (by omega), fun u hu' => ?_, fun t ht => ?_⟩
      · rw [e1, impl_bit hj hw hw2 h (by omega) (by omega), e2, r2, show used + (b + 1) = used + 1 + b by omega]
      · rw [r4 u (by omega), p2 u (by omega)]
      · cases t with
        | zero =>
          rw [Nat.add_zero, r4 used (by omega), p1]; congr 1
        | succ t =>
          rw [show used + (t + 1) = used + 1 + t by omega, r5 t (by omega)]; congr 1; omega
end
/-- the words lie in the bytes -/
def Fits (r : List Int) (x y : List Int) : Nat → Nat → Nat → Prop
  | 0, _, _ => True
  | m + 1, k, u => (∀ t, t < (y.getD k default).toNat → bAt r (u + t) = (x.getD k default).toNat.testBit ((y.getD k default).toNat - 1 - t)) ∧ Fits r x y m (k + 1) (u + (y.getD k default).toNat)
section
variable {x y : List Int} (hl : x.length = y.length) (hs : Szs y) (hok : ∀ j, j < x.length → okW x y j)
include hl hs hok
theorem words_bits : ∀ (m n k : Nat) (out : List Int) (used : Nat), k + m = x.length → m < n → Bw out used → (∀ u, used ≤ u → bAt out u = false) → used ≤ 62 * k →
    ∃ r, Bw r (used + sumTo y m k) ∧ l_impl_BytesOfWords_1 x y n out (used : Int) (k : Int) = some (false, default, r) ∧ (∀ u, used + sumTo y m k ≤ u → bAt r u = false) ∧ (∀ u, u < used → bAt r u = bAt out u) ∧ Fits r x y m k used
  | 0, 0, _, _, _, _, h, _, _, _ => by omega
  | 0, n + 1, k, out, used, hk, _, hB, hz, _ => by
    refine ⟨out, hB, ?_, hz, fun _ _ => rfl, trivial⟩
    rw [l_impl_BytesOfWords_1, decide_eq_false (show ¬ (k : Int) < ((List.length x : Nat) : Int) by omega)]; rfl
  | m + 1, 0, _, _, _, _, h, _, _, _ => by omega
  | m + 1, n + 1, k, out, used, hk, hn, hB, hz, hu => by
    have h512 := hs.1
    obtain ⟨g1, g2⟩ := hs.2 k (by omega)
    obtain ⟨b, b1, b2, b3, b4, b5, b6, b7⟩ := size_pow g1 g2
    have hk' := hok k (by omega)
    obtain ⟨w, hw⟩ : ∃ w : Nat, x.getD k default = (w : Int) := ⟨(x.getD k default).toNat, by have := hk'.1; omega⟩
    have hw2 : w < 2 ^ b := by
      have := hk'.2
      rw [hw, b3, Int.toNat_natCast] at this
      exact_mod_cast this
    have hbn : (y.getD k default).toNat = b := by omega
    obtain ⟨r, r1, r2, r3, r4, r5⟩ := word_bits (x := x) (y := y) (j := k) (w := w) (by omega) hw (by omega) b (Int.toNat (IntKind.wrap .i64 (y.getD k default - 1)) + 2) out used b2 (by rw [b7, b3]; omega) hB hz (by omega)
    obtain ⟨q, q1, q2, q3, q4, q5⟩ := words_bits m n (k + 1) r (used + b) (by omega) (by omega) r1 r3 (by omega)
    refine ⟨q, ?_, ?_, ?_, ?_, ?_⟩
    · rw [sumTo, hbn, ← Nat.add_assoc]; exact q1
    · have e1 : atI x (k : Int) = x.getD k default := rfl
      have e2 : atI y (k : Int) = y.getD k default := rfl
      rw [l_impl_BytesOfWords_1, decide_eq_true (show (k : Int) < ((List.length x : Nat) : Int) by omega), if_pos rfl, show inB (k : Int) x.length = true by unfold inB; simp; omega, show inB (k : Int) y.length = true by unfold inB; simp; omega, e1, e2, b4, b7]
      rw [b7] at r2
      rw [decide_eq_false (show ¬ x.getD k default < 0 by rw [hw]; omega), if_neg (show ¬ (false = true) by decide), decide_eq_true (show 0 ≤ y.getD k default by omega), decide_eq_false (show ¬ ((2 ^ b : Nat) : Int) ≤ x.getD k default by rw [hw]; omega), if_neg (show ¬ (false = true) by decide)]
      rw [b3] at r2 ⊢
      rw [r2, wrapS (by omega)]
      exact q2
    · intro u hu'
      rw [sumTo, hbn, ← Nat.add_assoc] at hu'
      exact q3 u hu'
    · intro u hu'
      rw [q4 u (by omega), r4 u hu']
    · refine ⟨fun t ht => ?_, ?_⟩
      · rw [hbn] at ht ⊢
        rw [q4 _ (by omega), r5 t ht, hw]; rfl
      · rw [hbn]; exact q5
end
theorem wRun_read {X : List UInt8} {w : Nat} : ∀ (m u : Nat), (∀ t, t < m → bitAt X (u + t) = if w.testBit (m - 1 - t) = true then 1 else 0) → wRun X m u ((w / 2 ^ m : Nat) : Int) = (w : Int)
  | 0, u, _ => by rw [wRun, Nat.pow_zero, Nat.div_one]
  | m + 1, u, h => by
    have h0 := h 0 (by omega)
    rw [Nat.add_zero] at h0
    have e : 2 * ((w / 2 ^ (m + 1) : Nat) : Int) + bitAt X u = ((w / 2 ^ m : Nat) : Int) := by
      rw [h0, show m + 1 - 1 - 0 = m by omega, Nat.testBit_eq_decide_div_mod_eq, Nat.pow_succ, ← Nat.div_div_eq_div_mul]
      by_cases hb : w / 2 ^ m % 2 = 1
      · rw [if_pos (decide_eq_true hb)]; omega
      · rw [if_neg (by simpa using hb)]; omega
    rw [wRun, e]
    refine wRun_read m (u + 1) fun t ht => ?_
    rw [show u + 1 + t = u + (t + 1) by omega, h (t + 1) (by omega)]
    congr 3; omega
theorem bitAt_byte {X : List UInt8} {u v : Nat} (h : Go.Ab.u8 (X.getD (u / 8) default) = (v : Int)) : bitAt X u = if v.testBit (7 - u % 8) = true then 1 else 0 := by
  have hv : v < 256 := by
    have := (X.getD (u / 8) default).toNat_lt
    unfold Go.Ab.u8 at h; omega
  unfold bitAt
  rw [h, fdiv_nat', andN (Nat.lt_of_le_of_lt (Nat.div_le_self _ _) hv), Nat.testBit_eq_decide_div_mod_eq]
  by_cases hb : v / 2 ^ (7 - u % 8) % 2 = 1
  · rw [if_pos (decide_eq_true hb), hb]; decide
  · rw [if_neg (by simpa using hb), show v / 2 ^ (7 - u % 8) % 2 = 0 by omega]; decide
theorem wAll_read {X : List UInt8} {r x y : List Int} (hl : x.length = y.length) (hs : Szs y) (hok : ∀ j, j < x.length → okW x y j) : ∀ (m k u : Nat), k + m = x.length → Fits r x y m k u →
    (∀ v, u ≤ v → v < u + sumTo y m k → bitAt X v = if bAt r v = true then 1 else 0) → wAll X y m k u = x.drop k
  | 0, k, u, hk, _, _ => by rw [wAll, List.drop_of_length_le (by omega)]
  | m + 1, k, u, hk, hf, hb => by
    obtain ⟨f1, f2⟩ := hf
    rw [sumTo] at hb
    have hk' := hok k (by omega)
    have hsz := hs.2 k (by omega)
    generalize hg : (y.getD k default).toNat = b at *
    have hx : x.drop k = x.getD k default :: x.drop (k + 1) := by
      rw [List.drop_eq_getElem_cons (show k < x.length by omega)]
      simp [List.getD, show k < x.length by omega]
    rw [wAll, hg, hx, wAll_read hl hs hok m (k + 1) (u + b) (by omega) f2 fun v h1 h2 => hb v (by omega) (by omega)]
    congr 1
    obtain ⟨w, hw⟩ : ∃ w : Nat, x.getD k default = (w : Int) := ⟨(x.getD k default).toNat, by have := hk'.1; omega⟩
    have hw2 : w < 2 ^ b := by
      have := hk'.2
      rw [hw, hg] at this
      exact_mod_cast this
    have key := wRun_read (X := X) (w := w) b u fun t ht => by
      rw [hb (u + t) (by omega) (by omega), f1 t ht, hw]; rfl
    rw [Nat.div_eq_of_lt hw2] at key
    rw [hw]; exact key
section
variable {x : List UInt8} {y : List Int} (hs : Szs y)
include hs
theorem sum_impl : ∀ (m n k a : Nat), k + m = y.length → m < n → a ≤ 62 * k → l_impl_WordsOfBytes_0 x y n (a : Int) (k : Int) = some ((a + sumTo y m k : Nat) : Int)
  | 0, 0, _, _, _, h, _ => by omega
  | 0, n + 1, k, a, hk, _, _ => by
    rw [l_impl_WordsOfBytes_0, decide_eq_false (show ¬ (k : Int) < ((List.length y : Nat) : Int) by omega)]
    rfl
  | m + 1, 0, _, _, _, h, _ => by omega
  | m + 1, n + 1, k, a, hk, hn, ha => by
    have hk62 := hs.2 k (by omega)
    have e2 : atI y (k : Int) = (((y.getD k default).toNat : Nat) : Int) := by show y.getD k default = _; omega
    have h512 := hs.1
    have e3 : IntKind.wrap .i64 ((a : Int) + (((y.getD k default).toNat : Nat) : Int)) = ((a + (y.getD k default).toNat : Nat) : Int) := by rw [← Int.natCast_add]; exact wrapN (by omega)
    have ih := sum_impl m n (k + 1) (a + (y.getD k default).toNat) (by omega) (by omega) (by omega)
    rw [l_impl_WordsOfBytes_0, decide_eq_true (show (k : Int) < ((List.length y : Nat) : Int) by omega), show inB (k : Int) y.length = true by unfold inB; simp; omega, e2, e3, wrapS (by omega), sumTo, ← Nat.add_assoc]
    exact ih
theorem words_impl (hx : x.length ≤ 5000) : ∀ (m n k u : Nat) (z : List Int), k + m = y.length → m < n → z.length = k → u + sumTo y m k ≤ 8 * x.length →
    l_impl_WordsOfBytes_2 x y n (z ++ List.replicate m 0) (u : Int) (k : Int) = some (z ++ wAll x y m k u)
  | 0, 0, _, _, _, _, h, _, _ => by omega
  | 0, n + 1, k, u, z, hk, _, _, _ => by
    rw [l_impl_WordsOfBytes_2, decide_eq_false (show ¬ (k : Int) < ((List.length y : Nat) : Int) by omega)]
    rw [wAll]; rfl
  | m + 1, 0, _, _, _, _, h, _, _ => by omega
  | m + 1, n + 1, k, u, z, hk, hn, hz, hu => by
    have h512 := hs.1
    have hk62 := hs.2 k (by omega)
    generalize hg : (y.getD k default).toNat = s at *
    have hs' : y.getD k default = (s : Int) := by omega
    rw [sumTo, hg] at hu
    have e2 : atI y (k : Int) = (s : Int) := hs'
    have hget : (z ++ List.replicate (m + 1) (0 : Int)).getD k default = 0 := by simp [List.getD, hz]
    have hset : ∀ v : Int, (z ++ List.replicate (m + 1) (0 : Int)).set k v = (z ++ [v]) ++ List.replicate m 0 := by
      intro v
      rw [List.set_append_right _ _ (by omega), hz, Nat.sub_self, List.replicate_succ, List.set_cons_zero, List.append_assoc]
      rfl
    have r2 := impl_word (x := x) (y := y) (j := k) (s := s) (by omega) hs' (by omega) hx s (Int.toNat ((s : Int) - 0) + 2) u 0 (z ++ List.replicate (m + 1) 0) (by simp; omega) (by omega) (by omega) (by omega) (by rw [hget]; omega) (by rw [hget]; decide)
    rw [hget, hset] at r2
    replace r2 : l_impl_WordsOfBytes_1 x y (k : Int) (Int.toNat ((s : Int) - 0) + 2) (z ++ List.replicate (m + 1) 0) (u : Int) 0 = some (((u + s : Nat) : Int), (z ++ [wRun x s u 0]) ++ List.replicate m 0) := r2
    have i2 := words_impl hx m n (k + 1) (u + s) (z ++ [wRun x s u 0]) (by omega) (by omega) (by simp [hz]) (by omega)
    have hw : z ++ wAll x y (m + 1) k u = (z ++ [wRun x s u 0]) ++ wAll x y m (k + 1) (u + s) := by rw [wAll, hg, List.append_assoc]; rfl
    rw [hw, l_impl_WordsOfBytes_2, decide_eq_true (show (k : Int) < ((List.length y : Nat) : Int) by omega), show inB (k : Int) y.length = true by unfold inB; simp; omega, e2, r2, wrapS (by omega)]
    exact i2
end
/-- the bytes of words that fit -/
theorem bow {x y : List Int} (hl : x.length = y.length) (hs : Szs y) (hok : ∀ j, j < x.length → okW x y j) :
    ∃ r, Bw r (sumTo y y.length 0) ∧ (∀ u, sumTo y y.length 0 ≤ u → bAt r u = false) ∧ Fits r x y x.length 0 0 ∧ m_impl_BytesOfWords x y = (List.map b8 r, true) ∧ p_impl_BytesOfWords x y = true := by
  obtain ⟨hm, hp⟩ := sizes_true hs
  obtain ⟨r, r1, r2, r3, r4, r5⟩ := words_bits hl hs hok x.length (Int.toNat (((List.length x : Nat) : Int) - 0) + 2) 0 [] 0 (by omega) (by omega) ⟨rfl, by omega, fun e he => by cases he⟩ (fun u _ => by unfold bAt; simp) (by omega)
  rw [Nat.zero_add, hl] at r1 r3
  replace r2 : l_impl_BytesOfWords_1 x y (Int.toNat (((List.length x : Nat) : Int) - 0) + 2) [] 0 0 = some (false, default, r) := r2
  refine ⟨r, r1, r3, r5, ?_, ?_⟩
  · unfold m_impl_BytesOfWords
    rw [decide_eq_true (show ((List.length x : Nat) : Int) = ((List.length y : Nat) : Int) by omega), hm, r2]; rfl
  · unfold p_impl_BytesOfWords
    rw [decide_eq_true (show ((List.length x : Nat) : Int) = ((List.length y : Nat) : Int) by omega), hm, hp, r2]; rfl
/-- the words of bytes -/
theorem wob {X : List UInt8} {y : List Int} (hs : Szs y) :
    (X.length ≠ (sumTo y y.length 0 + 7) / 8 → m_impl_WordsOfBytes X y = ([], false) ∧ p_impl_WordsOfBytes X y = true) ∧
    (X.length = (sumTo y y.length 0 + 7) / 8 → p_impl_WordsOfBytes X y = true ∧ (m_impl_BytesOfWords (wAll X y y.length 0 0) y = (X, true) → m_impl_WordsOfBytes X y = (wAll X y y.length 0 0, true)) ∧
      ((m_impl_BytesOfWords (wAll X y y.length 0 0) y).1 ≠ X → m_impl_WordsOfBytes X y = ([], false))) := by
  have h512 := hs.1
  obtain ⟨hm, hp⟩ := sizes_true hs
  have hsum := sumTo_le hs y.length 0 (by omega)
  have s2 := sum_impl (x := X) hs y.length (Int.toNat (((List.length y : Nat) : Int) - 0) + 2) 0 0 (by omega) (by omega) (by omega)
  rw [Nat.zero_add] at s2
  replace s2 : l_impl_WordsOfBytes_0 X y (Int.toNat (((List.length y : Nat) : Int) - 0) + 2) 0 0 = some ((sumTo y y.length 0 : Nat) : Int) := s2
  generalize hS : sumTo y y.length 0 = S at *
  have v2 : v_impl_WordsOfBytes_0 X y = (((S + 7) / 8 : Nat) : Int) := by
    unfold v_impl_WordsOfBytes_0; rw [s2]
    show IntKind.wrap .i64 (Int.tdiv (IntKind.wrap .i64 ((S : Int) + 7)) 8) = _
    rw [show (S : Int) + 7 = ((S + 7 : Nat) : Int) by omega, wrapN (by omega), tdiv8, wrapN (by omega)]
  refine ⟨fun hb => ?_, fun hb => ?_⟩
  · have hb' : (decide (((List.length X : Nat) : Int) = (((S + 7) / 8 : Nat) : Int))) = false := decide_eq_false (by omega)
    unfold m_impl_WordsOfBytes p_impl_WordsOfBytes
    rw [hm, hp, v2, s2, hb']
    exact ⟨rfl, rfl⟩
  · have hb' : (decide (((List.length X : Nat) : Int) = (((S + 7) / 8 : Nat) : Int))) = true := decide_eq_true (by omega)
    have w2 := words_impl (x := X) hs (by omega) y.length (Int.toNat (((List.length y : Nat) : Int) - 0) + 2) 0 0 [] (by omega) (by omega) rfl (by omega)
    rw [List.nil_append, List.nil_append] at w2
    replace w2 : l_impl_WordsOfBytes_2 X y (Int.toNat (((List.length y : Nat) : Int) - 0) + 2) (List.replicate (Int.toNat ((List.length y : Nat) : Int)) 0) 0 0 = some (wAll X y y.length 0 0) := w2
    have hlen := wAll_len X y y.length 0 0
    have hok : ∀ j, j < (wAll X y y.length 0 0).length → okW (wAll X y y.length 0 0) y j := by
      intro j hj
      rw [hlen] at hj
      obtain ⟨u', hu'⟩ := wAll_get X y y.length 0 0 j hj
      unfold okW
      rw [hu', Nat.zero_add]
      have := wRun_range X (y.getD j default).toNat u' 0 0 (by omega) (by decide)
      rw [Nat.zero_add] at this
      exact this
    generalize wAll X y y.length 0 0 = w at *
    obtain ⟨r, b1, b2, b3, b4, b5⟩ := bow (x := w) (y := y) hlen hs hok
    unfold m_impl_WordsOfBytes p_impl_WordsOfBytes v_impl_WordsOfBytes_369 v_impl_WordsOfBytes_370
    rw [hm, hp, v2, s2, hb', w2]
    rw [show ∀ d : List Int, Option.getD (some w) d = w from fun _ => rfl, b5]
    refine ⟨by simp; omega, fun h => ?_, fun h => ?_⟩
    · rw [h]; simp
    · rw [b4] at h ⊢
      simp [h]
end Go.Proofs
namespace Go.Proofs
open Go.Ab
theorem r8_ok {l : List Int} (hl : ∀ q ∈ l, 0 ≤ q ∧ q ≤ 255) {i n : Int} (hi : 0 ≤ i) (hn : 2 ≤ n) : p_laws_r8At l i n = true ∧ 0 ≤ m_laws_r8At l i n ∧ m_laws_r8At l i n < n := by
  unfold p_laws_r8At m_laws_r8At
  rw [decide_eq_false (show ¬ n ≤ 1 by omega), decide_eq_false (show ¬ n = 0 by omega)]
  by_cases h : ((List.length l : Nat) : Int) ≤ i
  · rw [decide_eq_true h]
    exact ⟨rfl, Int.le_refl _, show (0 : Int) < n by omega⟩
  · rw [decide_eq_false h]
    have hb : inB i l.length = true := by unfold inB; simp; omega
    have hm : atI l i ∈ l := by
      unfold atI
      have : i.toNat < l.length := by omega
      simp [List.getD, this]
    obtain ⟨h1, h2⟩ := hl _ hm
    rw [hb]
    have hw : IntKind.wrap .i64 (atI l i) = atI l i := wrapI (by omega) (by omega)
    refine ⟨rfl, ?_, ?_⟩
    · show 0 ≤ Int.tmod (IntKind.wrap .i64 (atI l i)) n
      rw [hw]; exact Int.tmod_nonneg _ h1
    · show Int.tmod (IntKind.wrap .i64 (atI l i)) n < n
      rw [hw]; exact Int.tmod_lt_of_pos _ (by omega)
def Good (S W : List Int) : Prop := ∀ j, j < S.length → (1 ≤ S.getD j default ∧ S.getD j default ≤ 20) ∧ okW W S j
theorem get_app {l : List Int} {v : Int} (j : Nat) (h : j < l.length + 1) : (l ++ [v]).getD j default = if j = l.length then v else l.getD j default := by
  rw [List.getD_eq_getElem?_getD, List.getElem?_append]
  split
  · rw [if_neg (by omega), ← List.getD_eq_getElem?_getD]
  · rw [if_pos (by omega), show j - l.length = 0 by omega]; rfl
section
variable {x0 x1 : List Int} (h0 : ∀ q ∈ x0, 0 ≤ q ∧ q ≤ 255) (h1 : ∀ q ∈ x1, 0 ≤ q ∧ q ≤ 255) {N : Nat} (hN : m_laws_r8At x0 40 9 = (N : Int)) (hN8 : N ≤ 8)
include h0 h1 hN hN8
theorem words_loop : ∀ (m n k : Nat) (S W : List Int), k + m = N → m < n → S.length = k → W.length = k → Good S W → (S.map Int.toNat).sum ≤ 20 * k →
    ∃ S' W', l_laws_FnWords_0 x0 x1 n S W (((S.map Int.toNat).sum : Nat) : Int) (k : Int) = some ((((S'.map Int.toNat).sum : Nat) : Int), S', W') ∧ S'.length = N ∧ W'.length = N ∧ Good S' W' ∧ (S'.map Int.toNat).sum ≤ 160
  | 0, 0, _, _, _, _, h, _, _, _, _ => by omega
  | 0, n + 1, k, S, W, hk, _, hS, hW, hg, hs => by
    have hp := (r8_ok h0 (i := 40) (n := 9) (by omega) (by omega)).1
    rw [l_laws_FnWords_0, hp, hN, decide_eq_false (show ¬ (k : Int) < (N : Int) by omega)]
    exact ⟨S, W, rfl, by omega, by omega, hg, by omega⟩
  | m + 1, 0, _, _, _, _, h, _, _, _, _ => by omega
  | m + 1, n + 1, k, S, W, hk, hn, hS, hW, hg, hs => by
    have hp := (r8_ok h0 (i := 40) (n := 9) (by omega) (by omega)).1
    obtain ⟨a1, a2, a3⟩ := r8_ok h0 (i := (k : Int)) (n := 20) (by omega) (by omega)
    obtain ⟨b1, b2, b3⟩ := r8_ok h1 (i := (k : Int)) (n := 256) (by omega) (by omega)
    obtain ⟨c1, c2, c3⟩ := r8_ok h1 (i := (k : Int) + 8) (n := 256) (by omega) (by omega)
    obtain ⟨d1, d2, d3⟩ := r8_ok h1 (i := (k : Int) + 16) (n := 256) (by omega) (by omega)
    have e8 : IntKind.wrap .i64 ((k : Int) + 8) = (k : Int) + 8 := wrapI (by omega) (by omega)
    have e16 : IntKind.wrap .i64 ((k : Int) + 16) = (k : Int) + 16 := wrapI (by omega) (by omega)
    rw [l_laws_FnWords_0]
    unfold v_laws_FnWords_2 v_laws_FnWords_1
    rw [hp, hN, e8, e16, a1, b1, c1, d1]
    generalize m_laws_r8At x0 (k : Int) 20 = s at *
    generalize m_laws_r8At x1 (k : Int) 256 = a at *
    generalize m_laws_r8At x1 ((k : Int) + 8) 256 = b at *
    generalize m_laws_r8At x1 ((k : Int) + 16) 256 = c at *
    have es : IntKind.wrap .i64 (1 + s) = 1 + s := wrapI (by omega) (by omega)
    obtain ⟨B, q1, q2, q3, q4, q5, q6, q7⟩ := size_pow (s := 1 + s) (by omega) (by omega)
    have eA : IntKind.wrap .i64 (IntKind.wrap .i64 (IntKind.wrap .i64 (65536 * a) + IntKind.wrap .i64 (256 * b)) + c) = 65536 * a + 256 * b + c := by
      rw [wrapI (n := 65536 * a) (by omega) (by omega), wrapI (n := 256 * b) (by omega) (by omega), wrapI (n := 65536 * a + 256 * b) (by omega) (by omega)]
      exact wrapI (by omega) (by omega)
    have hBpos : 1 ≤ 2 ^ B := Nat.one_le_two_pow
    have esum : IntKind.wrap .i64 ((((S.map Int.toNat).sum : Nat) : Int) + (1 + s)) = ((((S ++ [1 + s]).map Int.toNat).sum : Nat) : Int) := by
      rw [List.map_append, List.sum_append]
      simp only [List.map_cons, List.map_nil, List.sum_cons, List.sum_nil, Nat.add_zero]
      rw [wrapI (by omega) (by omega)]; omega
    rw [es, q5, q4, eA, esum, decide_eq_true (show (k : Int) < (N : Int) by omega), decide_eq_true (show 0 ≤ 1 + s by omega), decide_eq_false (show ¬ ((2 ^ B : Nat) : Int) = 0 by omega),
      decide_eq_true (show (S.length + 1) * 8 ≤ 17592186044416 by omega), decide_eq_true (show S.length + 1 ≤ 17592186044416 by omega), decide_eq_true (show (W.length + 1) * 8 ≤ 17592186044416 by omega), decide_eq_true (show W.length + 1 ≤ 17592186044416 by omega), wrapS (k := k) (by omega)]
    generalize hA : 65536 * a + 256 * b + c = A at *
    have hA0 : 0 ≤ A := by omega
    have t1 : 0 ≤ Int.tmod A ((2 ^ B : Nat) : Int) := Int.tmod_nonneg _ hA0
    have t2 : Int.tmod A ((2 ^ B : Nat) : Int) < ((2 ^ B : Nat) : Int) := Int.tmod_lt_of_pos _ (by omega)
    generalize Int.tmod A ((2 ^ B : Nat) : Int) = v at *
    have hsum : ((S ++ [1 + s]).map Int.toNat).sum ≤ 20 * (k + 1) := by
      rw [List.map_append, List.sum_append]
      simp only [List.map_cons, List.map_nil, List.sum_cons, List.sum_nil, Nat.add_zero]
      omega
    have hgood : Good (S ++ [1 + s]) (W ++ [v]) := by
      intro j hj
      rw [List.length_append] at hj
      simp only [List.length_singleton] at hj
      unfold okW
      rw [get_app j hj, get_app j (by omega)]
      by_cases hjk : j = S.length
      · rw [if_pos hjk, if_pos (by omega), q3, Int.toNat_natCast]
        have : (2 : Int) ^ B = ((2 ^ B : Nat) : Int) := by exact_mod_cast rfl
        rw [this]
        exact ⟨⟨by omega, by omega⟩, t1, t2⟩
      · rw [if_neg hjk, if_neg (by omega)]
        exact hg j (by omega)
    exact words_loop m n (k + 1) (S ++ [1 + s]) (W ++ [v]) (by omega) (by omega) (by simp [hS]) (by simp [hW]) hgood hsum
end
theorem sumTo_sum (y : List Int) : ∀ (m k : Nat), k + m = y.length → sumTo y m k = ((y.drop k).map Int.toNat).sum
  | 0, k, h => by rw [sumTo, List.drop_of_length_le (by omega)]; rfl
  | m + 1, k, h => by
    have hx : y.drop k = y.getD k default :: y.drop (k + 1) := by
      rw [List.drop_eq_getElem_cons (show k < y.length by omega)]
      simp [List.getD, show k < y.length by omega]
    rw [sumTo, hx, List.map_cons, List.sum_cons, sumTo_sum y m (k + 1) (by omega)]
theorem u8_b8 {e : Int} (h0 : 0 ≤ e) (h : e < 256) : Go.Ab.u8 (b8 e) = e := by
  unfold Go.Ab.u8 b8
  rw [UInt8.toNat_ofNat']
  omega
theorem bit_of_bytes {r : List Int} {T : Nat} (hB : Bw r T) {u : Nat} (hu : u < 8 * r.length) : bitAt (List.map b8 r) u = if bAt r u = true then 1 else 0 := by
  have hi : u / 8 < r.length := by omega
  obtain ⟨g1, g2⟩ := hB.2.2 (r[u / 8]) (List.getElem_mem hi)
  refine bitAt_byte (v := (r.getD (u / 8) 0).toNat) ?_
  have e1 : r.getD (u / 8) 0 = r[u / 8] := by simp [List.getD, hi]
  have e2 : (List.map b8 r).getD (u / 8) default = b8 (r[u / 8]) := by simp [List.getD, hi]
  rw [e1, e2, u8_b8 g1 g2]; omega
theorem same_loop {x0 x1 : List Int} {W S : List Int} {X : List UInt8} {n0 : Nat} {o : Int × List Int × List Int} (ho : Option.getD (l_laws_FnWords_0 x0 x1 (Int.toNat ((m_laws_r8At x0 40 9) - 0) + 2) [] [] 0 0) default = o) (hb : m_impl_BytesOfWords o.2.2 o.2.1 = (X, true)) (hw : m_impl_WordsOfBytes X o.2.1 = (o.2.2, true)) (hl : o.2.2.length ≤ 8) :
    ∀ (n k : Nat), k ≤ o.2.2.length → o.2.2.length - k < n → l_laws_FnWords_1 x0 x1 n (k : Int) = some (false, default, ())
  | 0, _, _, h => by omega
  | n + 1, k, hk, hn => by
    rw [l_laws_FnWords_1]
    unfold v_laws_FnWords_13 v_laws_FnWords_12
    rw [ho, hb]
    dsimp only
    rw [hw]
    dsimp only
    by_cases hlt : k < o.2.2.length
    · rw [decide_eq_true (show (k : Int) < ((List.length o.2.2 : Nat) : Int) by omega), show inB (k : Int) o.2.2.length = true by unfold inB; simp; omega, decide_eq_true rfl, wrapS (by omega)]
      exact same_loop (W := W) (S := S) (n0 := n0) ho hb hw hl n (k + 1) (by omega) (by omega)
    · rw [decide_eq_false (show ¬ (k : Int) < ((List.length o.2.2 : Nat) : Int) by omega)]; rfl
theorem fnWords_ok {x0 x1 : List Int} (h0 : ∀ q ∈ x0, 0 ≤ q ∧ q ≤ 255) (h1 : ∀ q ∈ x1, 0 ≤ q ∧ q ≤ 255) : p_laws_FnWords x0 x1 = true ∧ m_laws_FnWords x0 x1 = true := by
  by_cases hlong : m_laws_r8Long x0 x1 = true
  · unfold p_laws_FnWords m_laws_FnWords
    rw [hlong]; exact ⟨rfl, rfl⟩
  have hlong' : m_laws_r8Long x0 x1 = false := by simpa using hlong
  obtain ⟨n1, n2, n3⟩ := r8_ok h0 (i := 40) (n := 9) (by omega) (by omega)
  obtain ⟨N, hN⟩ : ∃ N : Nat, m_laws_r8At x0 40 9 = (N : Int) := ⟨(m_laws_r8At x0 40 9).toNat, by omega⟩
  obtain ⟨S, W, o1, o2, o3, o4, o5⟩ := words_loop h0 h1 hN (by omega) N (Int.toNat ((m_laws_r8At x0 40 9) - 0) + 2) 0 [] [] (by omega) (by omega) rfl rfl (fun j hj => by simp at hj) (by simp)
  replace o1 : l_laws_FnWords_0 x0 x1 (Int.toNat ((m_laws_r8At x0 40 9) - 0) + 2) [] [] 0 0 = some ((((S.map Int.toNat).sum : Nat) : Int), S, W) := o1
  have hl : W.length = S.length := by omega
  have hs : Szs S := ⟨by omega, fun j hj => ⟨(o4 j hj).1.1, by have := (o4 j hj).1.2; omega⟩⟩
  have hok : ∀ j, j < W.length → okW W S j := fun j hj => (o4 j (by omega)).2
  obtain ⟨r, b1, b2, b3, b4, b5⟩ := bow hl hs hok
  have hT : sumTo S S.length 0 = (S.map Int.toNat).sum := by rw [sumTo_sum S S.length 0 (by omega)]; rfl
  obtain ⟨w1, w2⟩ := wob (X := List.map b8 r) hs
  rw [hT] at b1 b2 w1 w2
  generalize hTT : (S.map Int.toNat).sum = T at *
  have hrl : r.length = (T + 7) / 8 := b1.1
  have hXl : (List.map b8 r).length = (T + 7) / 8 := by rw [List.length_map]; exact hrl
  have hbits : ∀ v, v < T → bitAt (List.map b8 r) v = if bAt r v = true then 1 else 0 := fun v hv => bit_of_bytes b1 (by omega)
  have hread : wAll (List.map b8 r) S S.length 0 0 = W := by
    rw [← hl, wAll_read hl hs hok W.length 0 0 (by omega) b3 fun v _ h2 => hbits v (by rw [hl, hT] at h2; omega)]; rfl
  obtain ⟨p2, q2, _⟩ := w2 hXl
  rw [hread] at q2
  have hback := q2 b4
  have hext := (wob (X := List.map b8 r ++ [b8 120]) hs).1 (by rw [List.length_append, hXl, hT]; simp)
  have ho : Option.getD (l_laws_FnWords_0 x0 x1 (Int.toNat ((m_laws_r8At x0 40 9) - 0) + 2) [] [] 0 0) default = ((T : Int), S, W) := by rw [o1]; rfl
  have hloop := same_loop (W := W) (S := S) (n0 := 0) ho b4 hback (by show W.length ≤ 8; omega) (Int.toNat (((List.length W : Nat) : Int) - 0) + 2) 0 (by omega) (by show W.length - 0 < _; omega)
  replace hloop : l_laws_FnWords_1 x0 x1 (Int.toNat (((List.length W : Nat) : Int) - 0) + 2) 0 = some (false, default, ()) := hloop
  have e6 : IntKind.wrap .i64 (Int.tdiv (IntKind.wrap .i64 ((T : Int) + 7)) 8) = ((List.length (List.map b8 r) : Nat) : Int) := by
    rw [show (T : Int) + 7 = ((T + 7 : Nat) : Int) by omega, wrapN (by omega), tdiv8, wrapN (by omega), hXl]
  -- the last byte with its last bit
  have hlast : T % 8 ≠ 0 → 1 ≤ r.length ∧ p_impl_WordsOfBytes (List.take (r.length - 1) (List.map b8 r) ++ [b8 (bitop .or .u8 (Go.Ab.u8 (atI (List.map b8 r) ((r.length - 1 : Nat) : Int))) 1)]) S = true ∧ (m_impl_WordsOfBytes (List.take (r.length - 1) (List.map b8 r) ++ [b8 (bitop .or .u8 (Go.Ab.u8 (atI (List.map b8 r) ((r.length - 1 : Nat) : Int))) 1)]) S).2 = false := by
    intro hT8
    have hr1 : 1 ≤ r.length := by omega
    have hi : r.length - 1 < r.length := by omega
    obtain ⟨g1, g2⟩ := b1.2.2 (r[r.length - 1]) (List.getElem_mem hi)
    have ea : Go.Ab.u8 (atI (List.map b8 r) ((r.length - 1 : Nat) : Int)) = r[r.length - 1] := by
      have : atI (List.map b8 r) ((r.length - 1 : Nat) : Int) = b8 (r[r.length - 1]) := by
        unfold atI; rw [Int.toNat_natCast]; simp [List.getD, hi]
      rw [this, u8_b8 g1 g2]
    rw [ea]
    obtain ⟨v, hv⟩ : ∃ v : Nat, r[r.length - 1] = (v : Int) := ⟨(r[r.length - 1]).toNat, by omega⟩
    rw [hv] at g2 ⊢
    have hor : bitop .or .u8 (v : Int) 1 = ((v ||| 1 : Nat) : Int) := orN (by omega) (show 1 < 256 by decide)
    have hor2 : v ||| 1 < 256 := Nat.or_lt_two_pow (n := 8) (by omega) (by decide)
    rw [hor]
    generalize hX' : List.take (r.length - 1) (List.map b8 r) ++ [b8 ((v ||| 1 : Nat) : Int)] = X'
    have hX'l : X'.length = (T + 7) / 8 := by rw [← hX', List.length_append, List.length_take, List.length_map]; simp; omega
    have hget : ∀ i, i < r.length → Go.Ab.u8 (X'.getD i default) = if i = r.length - 1 then ((v ||| 1 : Nat) : Int) else r.getD i 0 := by
      intro i hir
      rw [← hX']
      by_cases hil : i = r.length - 1
      · subst hil
        rw [if_pos rfl, List.getD_eq_getElem?_getD, List.getElem?_append_right (by rw [List.length_take, List.length_map]; omega)]
        rw [List.length_take, List.length_map, show r.length - 1 - min (r.length - 1) r.length = 0 by omega]
        show Go.Ab.u8 (b8 ((v ||| 1 : Nat) : Int)) = _
        exact u8_b8 (by omega) (by omega)
      · rw [if_neg hil, List.getD_eq_getElem?_getD, List.getElem?_append_left (by rw [List.length_take, List.length_map]; omega), List.getElem?_take_of_lt (by omega), List.getElem?_map, List.getElem?_eq_getElem hir]
        obtain ⟨k1, k2⟩ := b1.2.2 (r[i]) (List.getElem_mem hir)
        show Go.Ab.u8 (b8 (r[i])) = _
        rw [u8_b8 k1 k2]; simp [List.getD, hir]
    have hrv : (r.getD (r.length - 1) 0).toNat = v := by
      have : r.getD (r.length - 1) 0 = r[r.length - 1] := by simp [List.getD, hi]
      rw [this, hv]; rfl
    have hbits' : ∀ u, u < T → bitAt X' u = if bAt r u = true then 1 else 0 := by
      intro u hu
      have hur : u / 8 < r.length := by omega
      by_cases hul : u / 8 = r.length - 1
      · rw [bitAt_byte (v := v ||| 1) (by rw [hget _ hur, if_pos hul])]
        have e1 : Nat.testBit (v ||| 1) (7 - u % 8) = bAt r u := by
          unfold bAt
          rw [hul, hrv, Nat.testBit_or]
          have : Nat.testBit 1 (7 - u % 8) = false := Nat.testBit_two_pow_of_ne (n := 0) (by omega)
          rw [this, Bool.or_false]
        rw [e1]
      · have hnn : 0 ≤ r.getD (u / 8) 0 := by
          obtain ⟨k1, k2⟩ := b1.2.2 (r[u / 8]) (List.getElem_mem hur)
          have : r.getD (u / 8) 0 = r[u / 8] := by simp [List.getD, hur]
          rw [this]; exact k1
        rw [bitAt_byte (v := (r.getD (u / 8) 0).toNat) (by rw [hget _ hur, if_neg hul]; omega)]; rfl
    have hread' : wAll X' S S.length 0 0 = W := by
      rw [← hl, wAll_read hl hs hok W.length 0 0 (by omega) b3 fun v _ h2 => hbits' v (by rw [hl, hT] at h2; omega)]; rfl
    obtain ⟨_, w4⟩ := wob (X := X') hs
    rw [hT] at w4
    obtain ⟨p4, _, q4⟩ := w4 hX'l
    rw [hread'] at q4
    refine ⟨hr1, p4, ?_⟩
    rw [q4 ?_]
    rw [b4]
    intro he
    have h1 := hget (r.length - 1) hi
    rw [if_pos rfl, ← he] at h1
    have h2 : (List.map b8 r).getD (r.length - 1) default = b8 (r[r.length - 1]) := by simp [List.getD, hi]
    rw [h2, hv, u8_b8 (by omega) (by omega)] at h1
    have h3 : v = v ||| 1 := by omega
    have h4 : bAt r (8 * (r.length - 1) + 7) = false := b2 _ (by omega)
    unfold bAt at h4
    rw [show (8 * (r.length - 1) + 7) / 8 = r.length - 1 by omega, hrv, show 7 - (8 * (r.length - 1) + 7) % 8 = 0 by omega] at h4
    rw [h3, Nat.testBit_or] at h4
    simp at h4
  have el : IntKind.wrap .i64 (((List.length (List.map b8 r) : Nat) : Int) - 1) = if r.length = 0 then -1 else ((r.length - 1 : Nat) : Int) := by
    rw [List.length_map]
    split
    · rw [wrapI (by omega) (by omega)]; omega
    · rw [wrapI (by omega) (by omega)]; omega
  unfold p_laws_FnWords m_laws_FnWords v_laws_FnWords_8 v_laws_FnWords_7 v_laws_FnWords_14 v_laws_FnWords_16 v_laws_FnWords_15 v_laws_FnWords_3 v_laws_FnWords_4 v_laws_FnWords_5 v_laws_FnWords_6
  rw [hlong', ho, o1]
  dsimp only
  rw [b4, b5]
  dsimp only
  rw [hback, p2, hloop, hext.1, hext.2, e6, tmod8, el]
  by_cases hT8 : T % 8 = 0
  · rw [decide_eq_true (show ((T % 8 : Nat) : Int) = 0 by omega)]
    refine ⟨?_, by simp⟩
    simp; omega
  · obtain ⟨k1, k2, k3⟩ := hlast hT8
    have hz : ¬ r.length = 0 := by omega
    rw [if_neg hz, Int.toNat_natCast, decide_eq_false (show ¬ ((T % 8 : Nat) : Int) = 0 by omega), k2, k3]
    refine ⟨?_, by simp⟩
    have hin : inB ((r.length - 1 : Nat) : Int) (List.map b8 r).length = true := by unfold inB; rw [List.length_map]; simp; omega
    rw [hin]
    simp; omega
theorem law_FnWords (x : List Int) (_ : x.length ≤ maxLen) (hx : ∀ q ∈ x, (Lit.int .u8 q).wf = true) (y : List Int) (_ : y.length ≤ maxLen) (hy : ∀ q ∈ y, (Lit.int .u8 q).wf = true) :
    g_laws_FnWords [.sl (List.map (AV.int .u8) x), .sl (List.map (AV.int .u8) y)] = some (.bool true) := by
  have wf : ∀ q : Int, (Lit.int .u8 q).wf = true → 0 ≤ q ∧ q ≤ 255 := by
    intro q h
    simp only [Lit.wf, Bool.and_eq_true, decide_eq_true_eq] at h
    exact h
  obtain ⟨k1, k2⟩ := fnWords_ok (fun q hq => wf q (hx q hq)) (fun q hq => wf q (hy q hq))
  unfold g_laws_FnWords
  simp only [dU8_map, k1, k2, if_true]
end Go.Proofs
