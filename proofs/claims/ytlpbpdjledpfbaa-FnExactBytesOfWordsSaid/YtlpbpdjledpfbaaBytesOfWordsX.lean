/- What functions that FnExactBytesOfWords reaches compute, and that the program's and the reference's answers are the same. No conditions. -/
import Derived.Test.YtlpbpdjledpfbaaFwF
import Derived.Test.YtlpbpdjledpfbaaProg
import Derived.KernelRfl
set_option maxRecDepth 100000
set_option maxHeartbeats 4000000
set_option linter.all false
namespace Go.Proofs
open Go.Ab
theorem hm : Try.prog.follows .mixedOrders = true := by kernel_rfl
theorem fc0 : (min 0 8 : Nat) = 0 := by decide
theorem fc1 : (min 1 8 : Nat) = 1 := by decide
theorem fc2 : (min 2 8 : Nat) = 2 := by decide
theorem fc3 : (min 3 8 : Nat) = 3 := by decide
theorem fc4 : (min 4 8 : Nat) = 4 := by decide
theorem fc5 : (min 5 8 : Nat) = 5 := by decide
theorem fc6 : (min 6 8 : Nat) = 6 := by decide
theorem fc7 : (min 7 8 : Nat) = 7 := by decide
theorem fc8 : IntKind.wrap .i64 0 = 0 := by decide
theorem fc9 : IntKind.wrap .i64 1 = 1 := by decide
theorem fc10 : IntKind.wrap .i64 2 = 2 := by decide
theorem fc11 : IntKind.wrap .i64 3 = 3 := by decide
theorem fc12 : IntKind.wrap .i64 4 = 4 := by decide
theorem fc13 : IntKind.wrap .i64 5 = 5 := by decide
theorem fc14 : IntKind.wrap .i64 6 = 6 := by decide
theorem fc15 : IntKind.wrap .i64 7 = 7 := by decide
theorem fc16 : IntKind.wrap .i64 8 = 8 := by decide
theorem fc17 : IntKind.wrap .u64 0 = 0 := by decide
theorem fc18 : IntKind.wrap .u64 1 = 1 := by decide
theorem fc19 : IntKind.wrap .u64 2 = 2 := by decide
theorem fc20 : IntKind.wrap .u64 3 = 3 := by decide
theorem fc21 : IntKind.wrap .u64 4 = 4 := by decide
theorem fc22 : IntKind.wrap .u64 5 = 5 := by decide
theorem fc23 : IntKind.wrap .u64 6 = 6 := by decide
theorem fc24 : IntKind.wrap .u64 7 = 7 := by decide
theorem fc25 : inB 0 1 = true := by decide
def grpK := And.intro fc0 <| And.intro fc1 <| And.intro fc2 <| And.intro fc3 <| And.intro fc4 <| And.intro fc5 <| And.intro fc6 <| And.intro fc7 <| And.intro fc8 <| And.intro fc9 <| And.intro fc10 <| And.intro fc11 <| And.intro fc12 <| And.intro fc13 <| And.intro fc14 <| And.intro fc15 <| And.intro fc16 <| And.intro fc17 <| And.intro fc18 <| And.intro fc19 <| And.intro fc20 <| And.intro fc21 <| And.intro fc22 <| And.intro fc23 <| And.intro fc24 fc25
def l_laws_toInt64S_0 (x0 : (List Int)) : Nat → (List Int) → Int → Option (List Int)
  | 0, _, _ => none
  | n + 1, z0_0, z0_1 => (if (decide (z0_1 < ((List.length x0 : Nat) : Int))) = true then (need (inB z0_1 (List.length x0)) (need (inB z0_1 (List.length z0_0)) (l_laws_toInt64S_0 x0 n (List.set z0_0 (Int.toNat z0_1) (atI x0 z0_1)) (IntKind.wrap .i64 (z0_1 + 1))))) else (some z0_0))
def m_laws_toInt64S (x0 : (List Int)) : (List Int) := (Option.getD (l_laws_toInt64S_0 x0 (Int.toNat (((List.length x0 : Nat) : Int) - 0) + 2) (List.replicate (Int.toNat ((List.length x0 : Nat) : Int)) 0) 0) default)
def p_laws_toInt64S (x0 : (List Int)) : Bool := ((decide (0 ≤ ((List.length x0 : Nat) : Int))) && ((decide (((List.length x0 : Nat) : Int) * 8 ≤ 70368744177664)) && ((decide (((List.length x0 : Nat) : Int) ≤ 70368744177664)) && (Option.isSome (l_laws_toInt64S_0 x0 (Int.toNat (((List.length x0 : Nat) : Int) - 0) + 2) (List.replicate (Int.toNat ((List.length x0 : Nat) : Int)) 0) 0)))))
def g_laws_toInt64S : List AV → Option AV
  | [.sl w0] => (match decL dI64 w0 with | some y0 => (if p_laws_toInt64S y0 = true then some (.sl (List.map (AV.int .i64) (m_laws_toInt64S y0))) else none) | none => none)
  | _ => none
def lb16_0 : ICode := (.seq (.seq (.reg [⟨(some 8), none, (.mov (.t 4))⟩, ⟨(some 9), none, (.mov (.t 0))⟩, ⟨(some 10), none, (.len false (.t 9))⟩, ⟨(some 11), none, (.bin .lss false (.t 8) (.t 10))⟩] [0, 3, 4, 11]) (.cond (.t 11) .skip (.exit 0))) (.seq (.block 1 (.reg [⟨(some 14), none, (.mov (.t 3))⟩, ⟨(some 15), none, (.mov (.t 4))⟩, ⟨(some 16), none, (.mov (.t 0))⟩, ⟨(some 17), none, (.mov (.t 4))⟩, ⟨(some 18), none, (.iaddrS 1 (.t 16) (.t 17))⟩, ⟨(some 19), none, (.load none (.t 18))⟩, ⟨(some 20), none, (.iaddrS 1 (.t 14) (.t 15))⟩, ⟨none, none, (.store 1 (.t 20) (.t 19))⟩] [0, 3, 4])) (.reg [⟨(some 12), none, (.mov (.t 4))⟩, ⟨(some 13), none, (.bin .add false (.t 12) (.c (.int .i64 1)))⟩, ⟨(some 4), none, (.mov (.t 13))⟩] [0, 3, 4])))
def ic16 : ICode := (.seq (.reg [⟨(some 2), none, (.mov (.c .snil))⟩] [0]) (.seq (.reg [⟨(some 5), none, (.mov (.t 0))⟩, ⟨(some 6), none, (.len false (.t 5))⟩, ⟨(some 7), none, (.mkslice 1 8 (.int .i64 0) (.t 6) (.t 6))⟩, ⟨(some 3), none, (.mov (.t 7))⟩] [0, 3]) (.seq (.seq (.reg [⟨(some 4), none, (.mov (.c (.int .i64 0)))⟩] [0, 3, 4]) (.block 0 (.loop lb16_0))) (.seq (.reg [⟨(some 21), none, (.mov (.t 3))⟩, ⟨(some 2), none, (.mov (.t 21))⟩] [2]) .ret))))
def cp16 : CP := CP.mk [] [] [[0], [0, 3], [0, 3, 4], [0, 3, 4, 11], [0, 3, 4], [0, 3, 4], [2]] 22 [] []
theorem sl16_0 (x0 : (List Int)) : ∀ (n : Nat) (z0_0 : (List Int)) (z0_1 : Int) (o : (List Int)) (K : IExit → St → Prop), l_laws_toInt64S_0 x0 n z0_0 z0_1 = some o → (∀ st, Wk st (⟨[(3, (.lsl 7 0 (List.length o)))], [(7, (some ⟨1, true, (List.map (AV.int .i64) o)⟩))]⟩ : St) → K (.exit 0) st) → eA (tabOf []) (.loop lb16_0) (⟨[(0, (.sl (List.map (AV.int .i64) x0))), (3, (.lsl 7 0 (List.length z0_0))), (4, (.int .i64 z0_1))], [(7, (some ⟨1, true, (List.map (AV.int .i64) z0_0)⟩))]⟩ : St) K := by
  intro n
  induction n with
  | zero =>
    intro z0_0 z0_1 o K h h0
    simp only [l_laws_toInt64S_0, reduceCtorEq] at h
  | succ n ih =>
    intro z0_0 z0_1 o K h h0
    refine eA_loop ?_
    unfold lb16_0
    unfold l_laws_toInt64S_0 at h
    (try simp only [need_iff] at h)
    simp only [
      need_iff, h, grpA, vsliceS, grpS, grpD, grpF, grpL, eop, vop, bop, uop, fltop, convop, endOk, newE, new1, freshL, Md.isNew, outV, pureV, pureX, pure1, AV.cells, AV.one, storable, laid, refless, refless1, vload, loadC, storeC, vnil, vfaddr, vextract, flatT, flatE, flatC, vconv, vmm, vidxA, viaddrA, vfield, vlen, elemsOf, dF32, dF64, dI64, dU8, dBool, dStr, esOk, elemsS, vsliceX, bnd, ownV, ownC, own1, ownT, isSl, nSl, endL, Md.isOwn, purge, purgeH, purgeB, purgeE, hasName, name1, List.any_cons, List.any_nil, Md.isWr, pureV.pureP, Option.map, reduceIte, Nat.reduceEqDiff, Nat.reduceAdd, Nat.reduceMul, Nat.reduceLT, Nat.reduceLeDiff, List.mapM_cons, List.mapM_nil, Option.pure_def, Option.bind_eq_bind, Option.bind_some, implies_true, forall_const, beq_self_eq_true, decide_true, decide_false, eq_self, Int.reduceEq, Int.reduceLE, Int.reduceLT, if_true, if_false, grpK, Int.reduceAdd, Int.reduceSub, Int.reduceMul, Int.reduceNeg, Int.reducePow, Nat.reducePow, Int.reduceToNat, Nat.reduceSub, List.replicate, Nat.reduceBEq, wAs, wA, wC, zipW, noDupN, grpE, beq_true, beq_false]
    repeat' (first
      | ((first | (refine eGI_of (fun hc => ?_) (fun hc => ?_)) | (refine eCc_of (fun hc => ?_) (fun hc => ?_)) | (have hc := True.intro; refine KW_refl ?_)) <;> (try simp only [Bool.not_eq_true', Bool.not_eq_false'] at hc) <;> (try simp only [hc, need_iff, reduceCtorEq, grpN, Int.reduceEq, Int.reduceLT, Int.reduceLE, if_true, if_false, reduceIte] at h) <;> (first | (have hc2 := hc; simp only [decide_eq_true_eq, decide_eq_false_iff_not] at hc2; (first | (replace hc2 := eq_false hc2) | (replace hc2 := eq_true hc2)); (try simp only [hc2, need_iff, reduceCtorEq, grpN, Int.reduceEq, Int.reduceLT, Int.reduceLE, if_true, if_false, reduceIte] at h); replace h := And.intro hc2 h) | (replace h := And.intro hc h) | skip) <;> simp only [hc,
      need_iff, h, grpA, vsliceS, grpS, grpD, grpF, grpL, eop, vop, bop, uop, fltop, convop, endOk, newE, new1, freshL, Md.isNew, outV, pureV, pureX, pure1, AV.cells, AV.one, storable, laid, refless, refless1, vload, loadC, storeC, vnil, vfaddr, vextract, flatT, flatE, flatC, vconv, vmm, vidxA, viaddrA, vfield, vlen, elemsOf, dF32, dF64, dI64, dU8, dBool, dStr, esOk, elemsS, vsliceX, bnd, ownV, ownC, own1, ownT, isSl, nSl, endL, Md.isOwn, purge, purgeH, purgeB, purgeE, hasName, name1, List.any_cons, List.any_nil, Md.isWr, pureV.pureP, Option.map, reduceIte, Nat.reduceEqDiff, Nat.reduceAdd, Nat.reduceMul, Nat.reduceLT, Nat.reduceLeDiff, List.mapM_cons, List.mapM_nil, Option.pure_def, Option.bind_eq_bind, Option.bind_some, implies_true, forall_const, beq_self_eq_true, decide_true, decide_false, eq_self, Int.reduceEq, Int.reduceLE, Int.reduceLT, if_true, if_false, grpK, Int.reduceAdd, Int.reduceSub, Int.reduceMul, Int.reduceNeg, Int.reducePow, Nat.reducePow, Int.reduceToNat, Nat.reduceSub, List.replicate, Nat.reduceBEq, wAs, wA, wC, zipW, noDupN, grpE, beq_true, beq_false]))
    all_goals (have hf := h)
    all_goals (repeat (replace h := And.right h))
    all_goals ((first | (refine eA_wk (wk_norm (ks := [0, 3, 4]) (ls := [7]) ?_) (eA_cast ?_ (ih _ _ _ _ h h0))) | (cases h; have h := True.intro; refine h0 _ (Wk.cast (wk_norm (ks := [3]) (ls := [7]) ?_) ?_))) <;> simp only [normOk, optIn, blkIn, nameIn, normS, List.map_append, List.length_append, List.map_set, List.length_set, List.map_replicate, List.length_replicate, List.map_nil, List.map_cons,
      need_iff, h, hf, grpA, vsliceS, grpS, grpD, grpF, grpL, eop, vop, bop, uop, fltop, convop, endOk, newE, new1, freshL, Md.isNew, outV, pureV, pureX, pure1, AV.cells, AV.one, storable, laid, refless, refless1, vload, loadC, storeC, vnil, vfaddr, vextract, flatT, flatE, flatC, vconv, vmm, vidxA, viaddrA, vfield, vlen, elemsOf, dF32, dF64, dI64, dU8, dBool, dStr, esOk, elemsS, vsliceX, bnd, ownV, ownC, own1, ownT, isSl, nSl, endL, Md.isOwn, purge, purgeH, purgeB, purgeE, hasName, name1, List.any_cons, List.any_nil, Md.isWr, pureV.pureP, Option.map, reduceIte, Nat.reduceEqDiff, Nat.reduceAdd, Nat.reduceMul, Nat.reduceLT, Nat.reduceLeDiff, List.mapM_cons, List.mapM_nil, Option.pure_def, Option.bind_eq_bind, Option.bind_some, implies_true, forall_const, beq_self_eq_true, decide_true, decide_false, eq_self, Int.reduceEq, Int.reduceLE, Int.reduceLT, if_true, if_false, grpK, Int.reduceAdd, Int.reduceSub, Int.reduceMul, Int.reduceNeg, Int.reducePow, Nat.reducePow, Int.reduceToNat, Nat.reduceSub, List.replicate, Nat.reduceBEq, wAs, wA, wC, zipW, noDupN, grpE, beq_true, beq_false] <;> first | rfl | (simp only [Nat.add_comm]; done))
theorem s16 : ∀ vs r, g_laws_toInt64S vs = some r → SaysM Try.prog (.own [1]) 16 vs r := by
  intro vs r h
  unfold g_laws_toInt64S at h
  split at h
  · rename_i w0
    cases hd_y0 : decL dI64 w0 with
    | none => rw [hd_y0] at h; cases h
    | some y0 =>
    rw [hd_y0] at h
    obtain rfl := decL_inv dI64_inv hd_y0
    clear hd_y0
    dsimp only at h
    split at h
    · rename_i hp
      cases h
      refine spec_of (m := (.own [1])) (tab := tabOf []) (cp := cp16) (ic := ic16) (rvl := [(.t 2)]) hm tabOk_nil Try.func16 rfl rfl rfl (by kernel_rfl) rfl (Nat.le_of_ble_eq_true rfl) (Nat.le_of_ble_eq_true rfl) ?_
      show eA _ _ _ _
      unfold ic16
      simp only [p_laws_toInt64S, Bool.and_eq_true, Bool.or_eq_true, decide_eq_true_eq, Bool.not_eq_true', decide_eq_false_iff_not] at hp
      refine eS_to ?_
      repeat' (first
        | ((first | (have h := True.intro; refine eS_of ?_) | (refine eGI_of (fun h => ?_) (fun h => ?_)) | (refine eCc_of (fun h => ?_) (fun h => ?_)) | (have h := True.intro; refine KW_refl ?_)) <;> (try simp only [Bool.not_eq_true', Bool.not_eq_false'] at h) <;> (try first | exact absurd (Eq.trans (Eq.symm h) (by assumption)) Bool.false_ne_true | exact absurd (Eq.trans (Eq.symm h) (by assumption)) (Ne.symm Bool.false_ne_true)) <;> (try simp only [h, reduceCtorEq, grpN, Int.reduceEq, Int.reduceLT, Int.reduceLE, if_true, if_false, reduceIte] at hp) <;> (first | (have h2 := h; simp only [decide_eq_true_eq, decide_eq_false_iff_not] at h2; (first | (replace h2 := eq_false h2) | (replace h2 := eq_true h2)); (try simp only [h2, reduceCtorEq, grpN, Int.reduceEq, Int.reduceLT, Int.reduceLE, if_true, if_false, reduceIte] at hp); replace hp := And.intro h2 hp) | (replace hp := And.intro h hp) | skip) <;> simp only [h,
          hp, grpA, vsliceS, grpS, grpD, grpF, grpL, eop, vop, bop, uop, fltop, convop, endOk, newE, new1, freshL, Md.isNew, outV, pureV, pureX, pure1, AV.cells, AV.one, storable, laid, refless, refless1, vload, loadC, storeC, vnil, vfaddr, vextract, flatT, flatE, flatC, vconv, vmm, vidxA, viaddrA, vfield, vlen, elemsOf, dF32, dF64, dI64, dU8, dBool, dStr, esOk, elemsS, vsliceX, bnd, ownV, ownC, own1, ownT, isSl, nSl, endL, Md.isOwn, purge, purgeH, purgeB, purgeE, hasName, name1, List.any_cons, List.any_nil, Md.isWr, pureV.pureP, Option.map, reduceIte, Nat.reduceEqDiff, Nat.reduceAdd, Nat.reduceMul, Nat.reduceLT, Nat.reduceLeDiff, List.mapM_cons, List.mapM_nil, Option.pure_def, Option.bind_eq_bind, Option.bind_some, implies_true, forall_const, beq_self_eq_true, decide_true, decide_false, eq_self, Int.reduceEq, Int.reduceLE, Int.reduceLT, if_true, if_false, grpK, Int.reduceAdd, Int.reduceSub, Int.reduceMul, Int.reduceNeg, Int.reducePow, Nat.reducePow, Int.reduceToNat, Nat.reduceSub, List.replicate, Nat.reduceBEq, wAs, wA, wC, zipW, noDupN, grpE, beq_true, beq_false])
        | (refine eA_wk (wk_norm (ks := [0, 3, 4]) (ls := [7]) ?_) (eA_cast ?_ (sl16_0 y0 _ _ _ _ _ (getD_some (d := default) (x := (l_laws_toInt64S_0 y0 (Int.toNat (((List.length y0 : Nat) : Int) - 0) + 2) (List.replicate (Int.toNat ((List.length y0 : Nat) : Int)) 0) 0)) ?_) ?_)); (iterate 2 (simp only [nilS, nilV, normOk, optIn, blkIn, nameIn, normS, List.map_append, List.length_append, List.map_set, List.length_set, List.map_replicate, List.length_replicate, List.map_nil, List.map_cons,
          hp, grpA, vsliceS, grpS, grpD, grpF, grpL, eop, vop, bop, uop, fltop, convop, endOk, newE, new1, freshL, Md.isNew, outV, pureV, pureX, pure1, AV.cells, AV.one, storable, laid, refless, refless1, vload, loadC, storeC, vnil, vfaddr, vextract, flatT, flatE, flatC, vconv, vmm, vidxA, viaddrA, vfield, vlen, elemsOf, dF32, dF64, dI64, dU8, dBool, dStr, esOk, elemsS, vsliceX, bnd, ownV, ownC, own1, ownT, isSl, nSl, endL, Md.isOwn, purge, purgeH, purgeB, purgeE, hasName, name1, List.any_cons, List.any_nil, Md.isWr, pureV.pureP, Option.map, reduceIte, Nat.reduceEqDiff, Nat.reduceAdd, Nat.reduceMul, Nat.reduceLT, Nat.reduceLeDiff, List.mapM_cons, List.mapM_nil, Option.pure_def, Option.bind_eq_bind, Option.bind_some, implies_true, forall_const, beq_self_eq_true, decide_true, decide_false, eq_self, Int.reduceEq, Int.reduceLE, Int.reduceLT, if_true, if_false, grpK, Int.reduceAdd, Int.reduceSub, Int.reduceMul, Int.reduceNeg, Int.reducePow, Nat.reducePow, Int.reduceToNat, Nat.reduceSub, List.replicate, Nat.reduceBEq, wAs, wA, wC, zipW, noDupN, grpE, beq_true, beq_false] <;> first | rfl | (simp only [Nat.add_comm]; done))); (simp only [hp]); (
        intro st2 hw; (try simp only [reduceCtorEq, grpN, Int.reduceEq, Int.reduceLT, Int.reduceLE, if_true, if_false, reduceIte] at hp); (try replace hp := And.intro ht hp); simp only [
Kq_exit, Kq_normal, Kq_ret, Kb_exit, Kb_normal, Kb_ret, Kl_exit, Kl_normal, Kl_ret, reduceIte, Nat.reduceEqDiff, if_true, if_false, eq_self]; refine KW_of hw ?_; simp only [
          hp, grpA, vsliceS, grpS, grpD, grpF, grpL, eop, vop, bop, uop, fltop, convop, endOk, newE, new1, freshL, Md.isNew, outV, pureV, pureX, pure1, AV.cells, AV.one, storable, laid, refless, refless1, vload, loadC, storeC, vnil, vfaddr, vextract, flatT, flatE, flatC, vconv, vmm, vidxA, viaddrA, vfield, vlen, elemsOf, dF32, dF64, dI64, dU8, dBool, dStr, esOk, elemsS, vsliceX, bnd, ownV, ownC, own1, ownT, isSl, nSl, endL, Md.isOwn, purge, purgeH, purgeB, purgeE, hasName, name1, List.any_cons, List.any_nil, Md.isWr, pureV.pureP, Option.map, reduceIte, Nat.reduceEqDiff, Nat.reduceAdd, Nat.reduceMul, Nat.reduceLT, Nat.reduceLeDiff, List.mapM_cons, List.mapM_nil, Option.pure_def, Option.bind_eq_bind, Option.bind_some, implies_true, forall_const, beq_self_eq_true, decide_true, decide_false, eq_self, Int.reduceEq, Int.reduceLE, Int.reduceLT, if_true, if_false, grpK, Int.reduceAdd, Int.reduceSub, Int.reduceMul, Int.reduceNeg, Int.reducePow, Nat.reducePow, Int.reduceToNat, Nat.reduceSub, List.replicate, Nat.reduceBEq, wAs, wA, wC, zipW, noDupN, grpE, beq_true, beq_false])))
      all_goals (try simp only [*, m_laws_toInt64S, Bool.and_true, Bool.true_and, Bool.and_false, Bool.false_and, Bool.or_true, Bool.true_or, Bool.or_false, Bool.false_or, Bool.not_true, Bool.not_false, Bool.false_eq_true, if_true, if_false, reduceIte, decide_true, decide_false])
      all_goals (try (simp_all; done))
    · cases h
  · cases h
def m_spec_l00In (x0 : Int) (x1 : Int) (x2 : Int) : Bool := (if (decide (x1 ≤ x0)) = true then (decide (x0 ≤ x2)) else false)
def g_spec_l00In : List AV → Option AV
  | [.int .i64 y0, .int .i64 y1, .int .i64 y2] => some (.bool (m_spec_l00In y0 y1 y2))
  | _ => none
def ic44 : ICode := (.seq (.reg [⟨(some 6), none, (.mov (.c (.bool false)))⟩] [0, 1, 2]) (.seq (.reg [⟨(some 7), none, (.mov (.t 0))⟩, ⟨(some 8), none, (.mov (.t 1))⟩, ⟨(some 9), none, (.bin .geq false (.t 7) (.t 8))⟩, ⟨(some 10), none, (.mov (.t 9))⟩, ⟨(some 11), (some (10, true)), (.mov (.t 0))⟩, ⟨(some 12), (some (10, true)), (.mov (.t 2))⟩, ⟨(some 13), (some (10, true)), (.bin .leq false (.t 11) (.t 12))⟩, ⟨(some 14), none, (.pick (.t 10) (.t 13) (.c (.bool false)))⟩, ⟨(some 6), none, (.mov (.t 14))⟩] [6]) .ret))
def cp44 : CP := CP.mk [] [] [[0, 1, 2], [6]] 15 [] []
theorem s44 : ∀ vs r, g_spec_l00In vs = some r → SaysM Try.prog .any 44 vs r := by
  intro vs r h
  unfold g_spec_l00In at h
  split at h
  · rename_i y0 y1 y2
    cases h
    refine spec_of (m := .any) (tab := tabOf []) (cp := cp44) (ic := ic44) (rvl := [(.t 6)]) hm tabOk_nil Try.func44 rfl rfl rfl (by kernel_rfl) rfl (Nat.le_of_ble_eq_true rfl) (Nat.le_of_ble_eq_true rfl) ?_
    show eA _ _ _ _
    unfold ic44
    refine eS_to ?_
    repeat' (first
      | ((first | (have h := True.intro; refine eS_of ?_) | (refine eGI_of (fun h => ?_) (fun h => ?_)) | (refine eCc_of (fun h => ?_) (fun h => ?_)) | (refine ePk_of (fun h => ?_) (fun h => ?_))) <;> (try simp only [Bool.not_eq_true', Bool.not_eq_false'] at h) <;> (try first | exact absurd (Eq.trans (Eq.symm h) (by assumption)) Bool.false_ne_true | exact absurd (Eq.trans (Eq.symm h) (by assumption)) (Ne.symm Bool.false_ne_true)) <;> simp only [h,
        grpA, vsliceS, grpS, grpD, grpF, grpL, eop, vop, bop, uop, fltop, convop, endOk, newE, new1, freshL, Md.isNew, outV, pureV, pureX, pure1, AV.cells, AV.one, storable, laid, refless, refless1, vload, loadC, storeC, vnil, vfaddr, vextract, flatT, flatE, flatC, vconv, vmm, vidxA, viaddrA, vfield, vlen, elemsOf, dF32, dF64, dI64, dU8, dBool, dStr, esOk, elemsS, vsliceX, bnd, ownV, ownC, own1, ownT, isSl, nSl, endL, Md.isOwn, purge, purgeH, purgeB, purgeE, hasName, name1, List.any_cons, List.any_nil, Md.isWr, pureV.pureP, Option.map, reduceIte, Nat.reduceEqDiff, Nat.reduceAdd, Nat.reduceMul, Nat.reduceLT, Nat.reduceLeDiff, List.mapM_cons, List.mapM_nil, Option.pure_def, Option.bind_eq_bind, Option.bind_some, implies_true, forall_const, beq_self_eq_true, decide_true, decide_false, eq_self, Int.reduceEq, Int.reduceLE, Int.reduceLT, if_true, if_false, grpK, Int.reduceAdd, Int.reduceSub, Int.reduceMul, Int.reduceNeg, Int.reducePow, Nat.reducePow, Int.reduceToNat, Nat.reduceSub, List.replicate, Nat.reduceBEq, wAs, wA, wC, zipW, noDupN, grpE, beq_true, beq_false, ↓b_pick, ePk_true, ePk_false]))
    all_goals (try simp only [*, m_spec_l00In, Bool.and_true, Bool.true_and, Bool.and_false, Bool.false_and, Bool.or_true, Bool.true_or, Bool.or_false, Bool.false_or, Bool.not_true, Bool.not_false, Bool.false_eq_true, if_true, if_false, reduceIte, decide_true, decide_false])
    all_goals (try (simp_all; done))
  · cases h
def l_spec_l06Sizes_0 (x0 : (List Int)) : Nat → Int → Option (Bool × Bool × Unit)
  | 0, _ => none
  | n + 1, z0_0 => (if (decide (z0_0 < ((List.length x0 : Nat) : Int))) = true then (if (decide (((List.length x0 : Nat) : Int) ≤ 512)) = true then (need (inB z0_0 (List.length x0)) (if (m_spec_l00In (atI x0 z0_0) 1 62) = true then (l_spec_l06Sizes_0 x0 n (IntKind.wrap .i64 (z0_0 + 1))) else (some (true, false, default)))) else (some (false, default, ()))) else (some (false, default, ())))
def m_spec_l06Sizes (x0 : (List Int)) : Bool := (if (Option.getD (l_spec_l06Sizes_0 x0 (Int.toNat (((List.length x0 : Nat) : Int) - 0) + 2) 0) default).1 = true then (Option.getD (l_spec_l06Sizes_0 x0 (Int.toNat (((List.length x0 : Nat) : Int) - 0) + 2) 0) default).2.1 else (decide (((List.length x0 : Nat) : Int) ≤ 512)))
def p_spec_l06Sizes (x0 : (List Int)) : Bool := (Option.isSome (l_spec_l06Sizes_0 x0 (Int.toNat (((List.length x0 : Nat) : Int) - 0) + 2) 0))
def g_spec_l06Sizes : List AV → Option AV
  | [.sl w0] => (match decL dI64 w0 with | some y0 => (if p_spec_l06Sizes y0 = true then some (.bool (m_spec_l06Sizes y0)) else none) | none => none)
  | _ => none
def lb43_0 : ICode := (.seq (.seq (.reg [⟨(some 4), none, (.mov (.t 3))⟩, ⟨(some 5), none, (.mov (.t 0))⟩, ⟨(some 6), none, (.len false (.t 5))⟩, ⟨(some 7), none, (.bin .lss false (.t 4) (.t 6))⟩, ⟨(some 8), none, (.mov (.t 7))⟩, ⟨(some 9), (some (8, true)), (.mov (.t 0))⟩, ⟨(some 10), (some (8, true)), (.len false (.t 9))⟩, ⟨(some 11), (some (8, true)), (.bin .leq false (.t 10) (.c (.int .i64 512)))⟩, ⟨(some 12), none, (.pick (.t 8) (.t 11) (.c (.bool false)))⟩] [0, 3, 12]) (.cond (.t 12) .skip (.exit 0))) (.seq (.block 1 (.seq (.reg [⟨(some 15), none, (.mov (.t 0))⟩, ⟨(some 16), none, (.mov (.t 3))⟩, ⟨(some 17), none, (.iaddrS 1 (.t 15) (.t 16))⟩, ⟨(some 18), none, (.load none (.t 17))⟩, ⟨(some 19), none, (.call (.fn 44) [(.t 18), (.c (.int .i64 1)), (.c (.int .i64 62))] [])⟩, ⟨(some 20), none, (.un .not (.t 19))⟩] [0, 3, 20]) (.cond (.t 20) (.seq (.reg [⟨(some 2), none, (.mov (.c (.bool false)))⟩] [2]) .ret) .skip))) (.reg [⟨(some 13), none, (.mov (.t 3))⟩, ⟨(some 14), none, (.bin .add false (.t 13) (.c (.int .i64 1)))⟩, ⟨(some 3), none, (.mov (.t 14))⟩] [0, 3])))
def ic43 : ICode := (.seq (.reg [⟨(some 2), none, (.mov (.c (.bool false)))⟩] [0]) (.seq (.seq (.reg [⟨(some 3), none, (.mov (.c (.int .i64 0)))⟩] [0, 3]) (.block 0 (.loop lb43_0))) (.seq (.reg [⟨(some 21), none, (.mov (.t 0))⟩, ⟨(some 22), none, (.len false (.t 21))⟩, ⟨(some 23), none, (.bin .leq false (.t 22) (.c (.int .i64 512)))⟩, ⟨(some 2), none, (.mov (.t 23))⟩] [2]) .ret)))
def cp43 : CP := CP.mk [] [] [[0], [0, 3], [0, 3, 12], [0, 3], [0, 3, 20], [2], [2]] 24 [] []
theorem sl43_0 (x0 : (List Int)) : ∀ (n : Nat) (z0_0 : Int) (o : (Bool × Bool × Unit)) (K : IExit → St → Prop), l_spec_l06Sizes_0 x0 n z0_0 = some o → (∀ st, o.1 = true → outM .any st [(.t 2)] = some (.bool o.2.1) → K .ret st) → (∀ st, o.1 = false → Wk st (⟨[(0, (.sl (List.map (AV.int .i64) x0)))], []⟩ : St) → K (.exit 0) st) → eA (tabOf [(44, wM .any g_spec_l00In)]) (.loop lb43_0) (⟨[(0, (.sl (List.map (AV.int .i64) x0))), (3, (.int .i64 z0_0))], []⟩ : St) K := by
  intro n
  induction n with
  | zero =>
    intro z0_0 o K h h0 h1
    simp only [l_spec_l06Sizes_0, reduceCtorEq] at h
  | succ n ih =>
    intro z0_0 o K h h0 h1
    refine eA_loop ?_
    unfold lb43_0
    unfold l_spec_l06Sizes_0 at h
    (try simp only [need_iff] at h)
    simp only [
      need_iff, h, grpA, vsliceS, grpS, grpD, grpF, grpL, eop, vop, bop, uop, fltop, convop, endOk, newE, new1, freshL, Md.isNew, outV, pureV, pureX, pure1, AV.cells, AV.one, storable, laid, refless, refless1, vload, loadC, storeC, vnil, vfaddr, vextract, flatT, flatE, flatC, vconv, vmm, vidxA, viaddrA, vfield, vlen, elemsOf, dF32, dF64, dI64, dU8, dBool, dStr, esOk, elemsS, vsliceX, bnd, ownV, ownC, own1, ownT, isSl, nSl, endL, Md.isOwn, purge, purgeH, purgeB, purgeE, hasName, name1, List.any_cons, List.any_nil, Md.isWr, pureV.pureP, Option.map, reduceIte, Nat.reduceEqDiff, Nat.reduceAdd, Nat.reduceMul, Nat.reduceLT, Nat.reduceLeDiff, List.mapM_cons, List.mapM_nil, Option.pure_def, Option.bind_eq_bind, Option.bind_some, implies_true, forall_const, beq_self_eq_true, decide_true, decide_false, eq_self, Int.reduceEq, Int.reduceLE, Int.reduceLT, if_true, if_false, grpK, Int.reduceAdd, Int.reduceSub, Int.reduceMul, Int.reduceNeg, Int.reducePow, Nat.reducePow, Int.reduceToNat, Nat.reduceSub, List.replicate, Nat.reduceBEq, wAs, wA, wC, zipW, noDupN, grpE, beq_true, beq_false, g_spec_l00In, ↓b_pick, ePk_true, ePk_false]
    repeat' (first
      | ((first | (refine eGI_of (fun hc => ?_) (fun hc => ?_)) | (refine eCc_of (fun hc => ?_) (fun hc => ?_)) | (refine ePk_of (fun hc => ?_) (fun hc => ?_)) | (have hc := True.intro; refine KW_refl ?_)) <;> (try simp only [Bool.not_eq_true', Bool.not_eq_false'] at hc) <;> (try simp only [hc, need_iff, reduceCtorEq, grpN, Int.reduceEq, Int.reduceLT, Int.reduceLE, if_true, if_false, reduceIte] at h) <;> (first | (have hc2 := hc; simp only [decide_eq_true_eq, decide_eq_false_iff_not] at hc2; (first | (replace hc2 := eq_false hc2) | (replace hc2 := eq_true hc2)); (try simp only [hc2, need_iff, reduceCtorEq, grpN, Int.reduceEq, Int.reduceLT, Int.reduceLE, if_true, if_false, reduceIte] at h); replace h := And.intro hc2 h) | (replace h := And.intro hc h) | skip) <;> simp only [hc,
      need_iff, h, grpA, vsliceS, grpS, grpD, grpF, grpL, eop, vop, bop, uop, fltop, convop, endOk, newE, new1, freshL, Md.isNew, outV, pureV, pureX, pure1, AV.cells, AV.one, storable, laid, refless, refless1, vload, loadC, storeC, vnil, vfaddr, vextract, flatT, flatE, flatC, vconv, vmm, vidxA, viaddrA, vfield, vlen, elemsOf, dF32, dF64, dI64, dU8, dBool, dStr, esOk, elemsS, vsliceX, bnd, ownV, ownC, own1, ownT, isSl, nSl, endL, Md.isOwn, purge, purgeH, purgeB, purgeE, hasName, name1, List.any_cons, List.any_nil, Md.isWr, pureV.pureP, Option.map, reduceIte, Nat.reduceEqDiff, Nat.reduceAdd, Nat.reduceMul, Nat.reduceLT, Nat.reduceLeDiff, List.mapM_cons, List.mapM_nil, Option.pure_def, Option.bind_eq_bind, Option.bind_some, implies_true, forall_const, beq_self_eq_true, decide_true, decide_false, eq_self, Int.reduceEq, Int.reduceLE, Int.reduceLT, if_true, if_false, grpK, Int.reduceAdd, Int.reduceSub, Int.reduceMul, Int.reduceNeg, Int.reducePow, Nat.reducePow, Int.reduceToNat, Nat.reduceSub, List.replicate, Nat.reduceBEq, wAs, wA, wC, zipW, noDupN, grpE, beq_true, beq_false, g_spec_l00In, ↓b_pick, ePk_true, ePk_false]))
    all_goals (have hf := h)
    all_goals (repeat (replace h := And.right h))
    all_goals ((first | (refine eA_wk (wk_norm (ks := [0, 3]) (ls := []) ?_) (eA_cast ?_ (ih _ _ _ h h0 h1))) | (cases h; have h := True.intro; refine h0 _ rfl ?_) | (cases h; have h := True.intro; refine h1 _ rfl (Wk.cast (wk_norm (ks := [0]) (ls := []) ?_) ?_))) <;> simp only [normOk, optIn, blkIn, nameIn, normS, List.map_append, List.length_append, List.map_set, List.length_set, List.map_replicate, List.length_replicate, List.map_nil, List.map_cons,
      need_iff, h, hf, grpA, vsliceS, grpS, grpD, grpF, grpL, eop, vop, bop, uop, fltop, convop, endOk, newE, new1, freshL, Md.isNew, outV, pureV, pureX, pure1, AV.cells, AV.one, storable, laid, refless, refless1, vload, loadC, storeC, vnil, vfaddr, vextract, flatT, flatE, flatC, vconv, vmm, vidxA, viaddrA, vfield, vlen, elemsOf, dF32, dF64, dI64, dU8, dBool, dStr, esOk, elemsS, vsliceX, bnd, ownV, ownC, own1, ownT, isSl, nSl, endL, Md.isOwn, purge, purgeH, purgeB, purgeE, hasName, name1, List.any_cons, List.any_nil, Md.isWr, pureV.pureP, Option.map, reduceIte, Nat.reduceEqDiff, Nat.reduceAdd, Nat.reduceMul, Nat.reduceLT, Nat.reduceLeDiff, List.mapM_cons, List.mapM_nil, Option.pure_def, Option.bind_eq_bind, Option.bind_some, implies_true, forall_const, beq_self_eq_true, decide_true, decide_false, eq_self, Int.reduceEq, Int.reduceLE, Int.reduceLT, if_true, if_false, grpK, Int.reduceAdd, Int.reduceSub, Int.reduceMul, Int.reduceNeg, Int.reducePow, Nat.reducePow, Int.reduceToNat, Nat.reduceSub, List.replicate, Nat.reduceBEq, wAs, wA, wC, zipW, noDupN, grpE, beq_true, beq_false, g_spec_l00In, ↓b_pick, ePk_true, ePk_false] <;> first | rfl | (simp only [Nat.add_comm]; done))
theorem s43 : ∀ vs r, g_spec_l06Sizes vs = some r → SaysM Try.prog .any 43 vs r := by
  intro vs r h
  unfold g_spec_l06Sizes at h
  split at h
  · rename_i w0
    cases hd_y0 : decL dI64 w0 with
    | none => rw [hd_y0] at h; cases h
    | some y0 =>
    rw [hd_y0] at h
    obtain rfl := decL_inv dI64_inv hd_y0
    clear hd_y0
    dsimp only at h
    split at h
    · rename_i hp
      cases h
      refine spec_of (m := .any) (tab := tabOf [(44, wM .any g_spec_l00In)]) (cp := cp43) (ic := ic43) (rvl := [(.t 2)]) hm (tabOk_cons (m := .any) s44 tabOk_nil) Try.func43 rfl rfl rfl (by kernel_rfl) rfl (Nat.le_of_ble_eq_true rfl) (Nat.le_of_ble_eq_true rfl) ?_
      show eA _ _ _ _
      unfold ic43
      simp only [p_spec_l06Sizes, Bool.and_eq_true, Bool.or_eq_true, decide_eq_true_eq, Bool.not_eq_true', decide_eq_false_iff_not] at hp
      refine eS_to ?_
      repeat' (first
        | ((first | (have h := True.intro; refine eS_of ?_) | (refine eGI_of (fun h => ?_) (fun h => ?_)) | (refine eCc_of (fun h => ?_) (fun h => ?_)) | (refine ePk_of (fun h => ?_) (fun h => ?_)) | (have h := True.intro; refine KW_refl ?_)) <;> (try simp only [Bool.not_eq_true', Bool.not_eq_false'] at h) <;> (try first | exact absurd (Eq.trans (Eq.symm h) (by assumption)) Bool.false_ne_true | exact absurd (Eq.trans (Eq.symm h) (by assumption)) (Ne.symm Bool.false_ne_true)) <;> (try simp only [h, reduceCtorEq, grpN, Int.reduceEq, Int.reduceLT, Int.reduceLE, if_true, if_false, reduceIte] at hp) <;> (first | (have h2 := h; simp only [decide_eq_true_eq, decide_eq_false_iff_not] at h2; (first | (replace h2 := eq_false h2) | (replace h2 := eq_true h2)); (try simp only [h2, reduceCtorEq, grpN, Int.reduceEq, Int.reduceLT, Int.reduceLE, if_true, if_false, reduceIte] at hp); replace hp := And.intro h2 hp) | (replace hp := And.intro h hp) | skip) <;> simp only [h,
          hp, grpA, vsliceS, grpS, grpD, grpF, grpL, eop, vop, bop, uop, fltop, convop, endOk, newE, new1, freshL, Md.isNew, outV, pureV, pureX, pure1, AV.cells, AV.one, storable, laid, refless, refless1, vload, loadC, storeC, vnil, vfaddr, vextract, flatT, flatE, flatC, vconv, vmm, vidxA, viaddrA, vfield, vlen, elemsOf, dF32, dF64, dI64, dU8, dBool, dStr, esOk, elemsS, vsliceX, bnd, ownV, ownC, own1, ownT, isSl, nSl, endL, Md.isOwn, purge, purgeH, purgeB, purgeE, hasName, name1, List.any_cons, List.any_nil, Md.isWr, pureV.pureP, Option.map, reduceIte, Nat.reduceEqDiff, Nat.reduceAdd, Nat.reduceMul, Nat.reduceLT, Nat.reduceLeDiff, List.mapM_cons, List.mapM_nil, Option.pure_def, Option.bind_eq_bind, Option.bind_some, implies_true, forall_const, beq_self_eq_true, decide_true, decide_false, eq_self, Int.reduceEq, Int.reduceLE, Int.reduceLT, if_true, if_false, grpK, Int.reduceAdd, Int.reduceSub, Int.reduceMul, Int.reduceNeg, Int.reducePow, Nat.reducePow, Int.reduceToNat, Nat.reduceSub, List.replicate, Nat.reduceBEq, wAs, wA, wC, zipW, noDupN, grpE, beq_true, beq_false, g_spec_l00In, ↓b_pick, ePk_true, ePk_false])
        | (refine eA_wk (wk_norm (ks := [0, 3]) (ls := []) ?_) (eA_cast ?_ (sl43_0 y0 _ _ _ _ (getD_some (d := default) (x := (l_spec_l06Sizes_0 y0 (Int.toNat (((List.length y0 : Nat) : Int) - 0) + 2) 0)) ?_) ?_ ?_)); (iterate 2 (simp only [nilS, nilV, normOk, optIn, blkIn, nameIn, normS, List.map_append, List.length_append, List.map_set, List.length_set, List.map_replicate, List.length_replicate, List.map_nil, List.map_cons,
          hp, grpA, vsliceS, grpS, grpD, grpF, grpL, eop, vop, bop, uop, fltop, convop, endOk, newE, new1, freshL, Md.isNew, outV, pureV, pureX, pure1, AV.cells, AV.one, storable, laid, refless, refless1, vload, loadC, storeC, vnil, vfaddr, vextract, flatT, flatE, flatC, vconv, vmm, vidxA, viaddrA, vfield, vlen, elemsOf, dF32, dF64, dI64, dU8, dBool, dStr, esOk, elemsS, vsliceX, bnd, ownV, ownC, own1, ownT, isSl, nSl, endL, Md.isOwn, purge, purgeH, purgeB, purgeE, hasName, name1, List.any_cons, List.any_nil, Md.isWr, pureV.pureP, Option.map, reduceIte, Nat.reduceEqDiff, Nat.reduceAdd, Nat.reduceMul, Nat.reduceLT, Nat.reduceLeDiff, List.mapM_cons, List.mapM_nil, Option.pure_def, Option.bind_eq_bind, Option.bind_some, implies_true, forall_const, beq_self_eq_true, decide_true, decide_false, eq_self, Int.reduceEq, Int.reduceLE, Int.reduceLT, if_true, if_false, grpK, Int.reduceAdd, Int.reduceSub, Int.reduceMul, Int.reduceNeg, Int.reducePow, Nat.reducePow, Int.reduceToNat, Nat.reduceSub, List.replicate, Nat.reduceBEq, wAs, wA, wC, zipW, noDupN, grpE, beq_true, beq_false, g_spec_l00In, ↓b_pick, ePk_true, ePk_false] <;> first | rfl | (simp only [Nat.add_comm]; done))); (simp only [hp]); (
        intro st2 ht hw; simp only [Kq_ret, Kb_ret, Kl_ret, ret_ok]; first | exact h0 _ hw | exact h0 _ rfl hw | exact h1 _ rfl hw | exact h0 _ ht hw | exact h1 _ ht hw | (simp only [ht, need_iff, reduceCtorEq, grpN, Int.reduceEq, Int.reduceLT, Int.reduceLE, if_true, if_false, reduceIte] at h; (repeat (replace h := And.right h)); cases h; first | exact h0 _ hw | exact h0 _ rfl hw | exact h1 _ rfl hw) | refine ⟨_, hw, ?_⟩); rotate_left; (
        intro st2 ht hw; (try simp only [ht, reduceCtorEq, grpN, Int.reduceEq, Int.reduceLT, Int.reduceLE, if_true, if_false, reduceIte] at hp); (try replace hp := And.intro ht hp); simp only [
Kq_exit, Kq_normal, Kq_ret, Kb_exit, Kb_normal, Kb_ret, Kl_exit, Kl_normal, Kl_ret, reduceIte, Nat.reduceEqDiff, if_true, if_false, eq_self]; refine KW_of hw ?_; simp only [ht, 
          hp, grpA, vsliceS, grpS, grpD, grpF, grpL, eop, vop, bop, uop, fltop, convop, endOk, newE, new1, freshL, Md.isNew, outV, pureV, pureX, pure1, AV.cells, AV.one, storable, laid, refless, refless1, vload, loadC, storeC, vnil, vfaddr, vextract, flatT, flatE, flatC, vconv, vmm, vidxA, viaddrA, vfield, vlen, elemsOf, dF32, dF64, dI64, dU8, dBool, dStr, esOk, elemsS, vsliceX, bnd, ownV, ownC, own1, ownT, isSl, nSl, endL, Md.isOwn, purge, purgeH, purgeB, purgeE, hasName, name1, List.any_cons, List.any_nil, Md.isWr, pureV.pureP, Option.map, reduceIte, Nat.reduceEqDiff, Nat.reduceAdd, Nat.reduceMul, Nat.reduceLT, Nat.reduceLeDiff, List.mapM_cons, List.mapM_nil, Option.pure_def, Option.bind_eq_bind, Option.bind_some, implies_true, forall_const, beq_self_eq_true, decide_true, decide_false, eq_self, Int.reduceEq, Int.reduceLE, Int.reduceLT, if_true, if_false, grpK, Int.reduceAdd, Int.reduceSub, Int.reduceMul, Int.reduceNeg, Int.reducePow, Nat.reducePow, Int.reduceToNat, Nat.reduceSub, List.replicate, Nat.reduceBEq, wAs, wA, wC, zipW, noDupN, grpE, beq_true, beq_false, g_spec_l00In, ↓b_pick, ePk_true, ePk_false])))
      all_goals (try simp only [*, m_spec_l06Sizes, Bool.and_true, Bool.true_and, Bool.and_false, Bool.false_and, Bool.or_true, Bool.true_or, Bool.or_false, Bool.false_or, Bool.not_true, Bool.not_false, Bool.false_eq_true, if_true, if_false, reduceIte, decide_true, decide_false])
      all_goals (try (simp_all; done))
    · cases h
  · cases h
def v_spec_l06Bytes_12 (z0_0 : (List Int)) (z0_1 : Int) : Int := (bitop .or .u8 (atI (z0_0 ++ [0]) (IntKind.wrap .i64 (((((List.length z0_0) + 1) : Nat) : Int) - 1))) (Int.fdiv 128 (2 ^ (min ((IntKind.wrap .u64 (Int.tmod z0_1 8)) : Int).toNat 8))))
def v_spec_l06Bytes_13 (z0_0 : (List Int)) (z0_1 : Int) : Int := (bitop .or .u8 (atI z0_0 (IntKind.wrap .i64 ((((List.length z0_0) : Nat) : Int) - 1))) (Int.fdiv 128 (2 ^ (min ((IntKind.wrap .u64 (Int.tmod z0_1 8)) : Int).toNat 8))))
def l_spec_l06Bytes_0 (x0 : (List Int)) (x1 : (List Int)) (z1_2 : Int) : Nat → (List Int) → Int → Int → Option (Int × (List Int))
  | 0, _, _, _ => none
  | n + 1, z0_0, z0_1, z0_2 => (if (decide (0 ≤ z0_2)) = true then (if (decide ((Int.tmod z0_1 8) = 0)) = true then (need (decide (((List.length z0_0) + 1) * 1 ≤ 17592186044416)) (need (decide ((List.length z0_0) + 1 ≤ 17592186044416)) (need (inB z1_2 (List.length x0)) (need (decide (0 ≤ (IntKind.wrap .u64 z0_2))) (if (decide ((bitop .and .i64 (Int.fdiv (atI x0 z1_2) (2 ^ (min ((IntKind.wrap .u64 z0_2) : Int).toNat 64))) 1) = 1)) = true then (need (inB (IntKind.wrap .i64 (((((List.length z0_0) + 1) : Nat) : Int) - 1)) ((List.length z0_0) + 1)) (need (decide (0 ≤ (IntKind.wrap .u64 (Int.tmod z0_1 8)))) (l_spec_l06Bytes_0 x0 x1 z1_2 n (List.set (z0_0 ++ [0]) (Int.toNat (IntKind.wrap .i64 (((((List.length z0_0) + 1) : Nat) : Int) - 1))) (v_spec_l06Bytes_12 z0_0 z0_1)) (IntKind.wrap .i64 (z0_1 + 1)) (IntKind.wrap .i64 (z0_2 - 1))))) else (l_spec_l06Bytes_0 x0 x1 z1_2 n (z0_0 ++ [0]) (IntKind.wrap .i64 (z0_1 + 1)) (IntKind.wrap .i64 (z0_2 - 1)))))))) else (need (inB z1_2 (List.length x0)) (need (decide (0 ≤ (IntKind.wrap .u64 z0_2))) (if (decide ((bitop .and .i64 (Int.fdiv (atI x0 z1_2) (2 ^ (min ((IntKind.wrap .u64 z0_2) : Int).toNat 64))) 1) = 1)) = true then (need (inB (IntKind.wrap .i64 ((((List.length z0_0) : Nat) : Int) - 1)) (List.length z0_0)) (need (decide (0 ≤ (IntKind.wrap .u64 (Int.tmod z0_1 8)))) (l_spec_l06Bytes_0 x0 x1 z1_2 n (List.set z0_0 (Int.toNat (IntKind.wrap .i64 ((((List.length z0_0) : Nat) : Int) - 1))) (v_spec_l06Bytes_13 z0_0 z0_1)) (IntKind.wrap .i64 (z0_1 + 1)) (IntKind.wrap .i64 (z0_2 - 1))))) else (l_spec_l06Bytes_0 x0 x1 z1_2 n z0_0 (IntKind.wrap .i64 (z0_1 + 1)) (IntKind.wrap .i64 (z0_2 - 1))))))) else (some (z0_1, z0_0)))
def l_spec_l06Bytes_1 (x0 : (List Int)) (x1 : (List Int)) : Nat → (List Int) → Int → Int → Option (List Int)
  | 0, _, _, _ => none
  | n + 1, z1_0, z1_1, z1_2 => (if (decide (z1_2 < ((List.length x0 : Nat) : Int))) = true then (need (inB z1_2 (List.length x1)) (need (Option.isSome (l_spec_l06Bytes_0 x0 x1 z1_2 (Int.toNat (IntKind.wrap .i64 ((atI x1 z1_2) - 1)) + 2) z1_0 z1_1 (IntKind.wrap .i64 ((atI x1 z1_2) - 1)))) (l_spec_l06Bytes_1 x0 x1 n (Option.getD (l_spec_l06Bytes_0 x0 x1 z1_2 (Int.toNat (IntKind.wrap .i64 ((atI x1 z1_2) - 1)) + 2) z1_0 z1_1 (IntKind.wrap .i64 ((atI x1 z1_2) - 1))) default).2 (Option.getD (l_spec_l06Bytes_0 x0 x1 z1_2 (Int.toNat (IntKind.wrap .i64 ((atI x1 z1_2) - 1)) + 2) z1_0 z1_1 (IntKind.wrap .i64 ((atI x1 z1_2) - 1))) default).1 (IntKind.wrap .i64 (z1_2 + 1))))) else (some z1_0))
def m_spec_l06Bytes (x0 : (List Int)) (x1 : (List Int)) : (List UInt8) := (List.map b8 (Option.getD (l_spec_l06Bytes_1 x0 x1 (Int.toNat (((List.length x0 : Nat) : Int) - 0) + 2) [] 0 0) default))
def p_spec_l06Bytes (x0 : (List Int)) (x1 : (List Int)) : Bool := (Option.isSome (l_spec_l06Bytes_1 x0 x1 (Int.toNat (((List.length x0 : Nat) : Int) - 0) + 2) [] 0 0))
def g_spec_l06Bytes : List AV → Option AV
  | [.sl w0, .sl w1] => (match decL dI64 w0 with | some y0 => ((match decL dI64 w1 with | some y1 => (if p_spec_l06Bytes y0 y1 = true then some (.str (m_spec_l06Bytes y0 y1)) else none) | none => none)) | none => none)
  | _ => none
def lb45_0 : ICode := (.seq (.seq (.reg [⟨(some 21), none, (.mov (.t 8))⟩, ⟨(some 22), none, (.bin .geq false (.t 21) (.c (.int .i64 0)))⟩] [0, 1, 5, 6, 7, 8, 22]) (.cond (.t 22) .skip (.exit 2))) (.seq (.block 3 (.seq (.seq (.reg [⟨(some 25), none, (.mov (.t 6))⟩, ⟨(some 26), none, (.bin .rem false (.t 25) (.c (.int .i64 8)))⟩, ⟨(some 27), none, (.bin .eql false (.t 26) (.c (.int .i64 0)))⟩] [0, 1, 5, 6, 7, 8, 27]) (.cond (.t 27) (.reg [⟨(some 28), none, (.mov (.t 5))⟩, ⟨(some 29), none, (.bslice 1 1 (.int .u8 0) [(0, (.c (.int .u8 0)))])⟩, ⟨(some 30), none, (.append 1 1 (.t 28) (.t 29))⟩, ⟨(some 5), none, (.mov (.t 30))⟩] [0, 1, 5, 6, 7, 8]) .skip)) (.seq (.seq (.reg [⟨(some 31), none, (.mov (.t 0))⟩, ⟨(some 32), none, (.mov (.t 7))⟩, ⟨(some 33), none, (.iaddrS 1 (.t 31) (.t 32))⟩, ⟨(some 34), none, (.load none (.t 33))⟩, ⟨(some 35), none, (.mov (.t 8))⟩, ⟨(some 36), none, (.conv (.int .u64) (.t 35))⟩, ⟨(some 37), none, (.bin .shr false (.t 34) (.t 36))⟩, ⟨(some 38), none, (.bin .and false (.t 37) (.c (.int .i64 1)))⟩, ⟨(some 39), none, (.bin .eql false (.t 38) (.c (.int .i64 1)))⟩] [0, 1, 5, 6, 7, 8, 39]) (.cond (.t 39) (.reg [⟨(some 40), none, (.mov (.t 5))⟩, ⟨(some 41), none, (.mov (.t 5))⟩, ⟨(some 42), none, (.len false (.t 41))⟩, ⟨(some 43), none, (.bin .sub false (.t 42) (.c (.int .i64 1)))⟩, ⟨(some 44), none, (.iaddrS 1 (.t 40) (.t 43))⟩, ⟨(some 45), none, (.load none (.t 44))⟩, ⟨(some 46), none, (.mov (.t 6))⟩, ⟨(some 47), none, (.bin .rem false (.t 46) (.c (.int .i64 8)))⟩, ⟨(some 48), none, (.conv (.int .u64) (.t 47))⟩, ⟨(some 49), none, (.bin .shr false (.c (.int .u8 128)) (.t 48))⟩, ⟨(some 50), none, (.bin .or false (.t 45) (.t 49))⟩, ⟨(some 51), none, (.iaddrS 1 (.t 40) (.t 43))⟩, ⟨none, none, (.store 1 (.t 51) (.t 50))⟩] [0, 1, 5, 6, 7, 8]) .skip)) (.reg [⟨(some 52), none, (.mov (.t 6))⟩, ⟨(some 53), none, (.bin .add false (.t 52) (.c (.int .i64 1)))⟩, ⟨(some 6), none, (.mov (.t 53))⟩] [0, 1, 5, 6, 7, 8])))) (.reg [⟨(some 23), none, (.mov (.t 8))⟩, ⟨(some 24), none, (.bin .sub false (.t 23) (.c (.int .i64 1)))⟩, ⟨(some 8), none, (.mov (.t 24))⟩] [0, 1, 5, 6, 7, 8])))
def lb45_1 : ICode := (.seq (.seq (.reg [⟨(some 10), none, (.mov (.t 7))⟩, ⟨(some 11), none, (.mov (.t 0))⟩, ⟨(some 12), none, (.len false (.t 11))⟩, ⟨(some 13), none, (.bin .lss false (.t 10) (.t 12))⟩] [0, 1, 5, 6, 7, 13]) (.cond (.t 13) .skip (.exit 0))) (.seq (.block 1 (.seq (.reg [⟨(some 16), none, (.mov (.t 1))⟩, ⟨(some 17), none, (.mov (.t 7))⟩, ⟨(some 18), none, (.iaddrS 1 (.t 16) (.t 17))⟩, ⟨(some 19), none, (.load none (.t 18))⟩, ⟨(some 20), none, (.bin .sub false (.t 19) (.c (.int .i64 1)))⟩, ⟨(some 8), none, (.mov (.t 20))⟩] [0, 1, 5, 6, 7, 8]) (.block 2 (.loop lb45_0)))) (.reg [⟨(some 14), none, (.mov (.t 7))⟩, ⟨(some 15), none, (.bin .add false (.t 14) (.c (.int .i64 1)))⟩, ⟨(some 7), none, (.mov (.t 15))⟩] [0, 1, 5, 6, 7])))
def ic45 : ICode := (.seq (.reg [⟨(some 4), none, (.mov (.c (.str [])))⟩] [0, 1]) (.seq (.reg [⟨(some 9), none, (.bslice 1 0 (.int .u8 0) [])⟩, ⟨(some 5), none, (.mov (.t 9))⟩] [0, 1, 5]) (.seq (.reg [⟨(some 6), none, (.mov (.c (.int .i64 0)))⟩] [0, 1, 5, 6]) (.seq (.seq (.reg [⟨(some 7), none, (.mov (.c (.int .i64 0)))⟩] [0, 1, 5, 6, 7]) (.block 0 (.loop lb45_1))) (.seq (.reg [⟨(some 54), none, (.mov (.t 5))⟩, ⟨(some 55), none, (.conv .str (.t 54))⟩, ⟨(some 4), none, (.mov (.t 55))⟩] [4]) .ret)))))
def cp45 : CP := CP.mk [] [] [[0, 1], [0, 1, 5], [0, 1, 5, 6], [0, 1, 5, 6, 7], [0, 1, 5, 6, 7, 13], [0, 1, 5, 6, 7], [0, 1, 5, 6, 7, 8], [0, 1, 5, 6, 7, 8, 22], [0, 1, 5, 6, 7, 8], [0, 1, 5, 6, 7, 8, 27], [0, 1, 5, 6, 7, 8], [0, 1, 5, 6, 7, 8, 39], [0, 1, 5, 6, 7, 8], [0, 1, 5, 6, 7, 8], [4]] 56 [] []
theorem sl45_0 (x0 : (List Int)) (x1 : (List Int)) (z1_2 : Int) : ∀ (n : Nat) (z0_0 : (List Int)) (z0_1 : Int) (z0_2 : Int) (o : (Int × (List Int))) (K : IExit → St → Prop), l_spec_l06Bytes_0 x0 x1 z1_2 n z0_0 z0_1 z0_2 = some o → (∀ st, Wk st (⟨[(0, (.sl (List.map (AV.int .i64) x0))), (1, (.sl (List.map (AV.int .i64) x1))), (5, (.lsl 9 0 (List.length o.2))), (6, (.int .i64 o.1)), (7, (.int .i64 z1_2))], [(9, (some ⟨1, true, (List.map (AV.int .u8) o.2)⟩))]⟩ : St) → K (.exit 2) st) → eA (tabOf []) (.loop lb45_0) (⟨[(0, (.sl (List.map (AV.int .i64) x0))), (1, (.sl (List.map (AV.int .i64) x1))), (5, (.lsl 9 0 (List.length z0_0))), (6, (.int .i64 z0_1)), (7, (.int .i64 z1_2)), (8, (.int .i64 z0_2))], [(9, (some ⟨1, true, (List.map (AV.int .u8) z0_0)⟩))]⟩ : St) K := by
  intro n
  induction n with
  | zero =>
    intro z0_0 z0_1 z0_2 o K h h0
    simp only [l_spec_l06Bytes_0, reduceCtorEq] at h
  | succ n ih =>
    intro z0_0 z0_1 z0_2 o K h h0
    refine eA_loop ?_
    unfold lb45_0
    unfold l_spec_l06Bytes_0 at h
    (try simp only [need_iff, v_spec_l06Bytes_12, v_spec_l06Bytes_13] at h)
    simp only [
      need_iff, h, grpA, vsliceS, grpS, grpD, grpF, grpL, eop, vop, bop, uop, fltop, convop, endOk, newE, new1, freshL, Md.isNew, outV, pureV, pureX, pure1, AV.cells, AV.one, storable, laid, refless, refless1, vload, loadC, storeC, vnil, vfaddr, vextract, flatT, flatE, flatC, vconv, vmm, vidxA, viaddrA, vfield, vlen, elemsOf, dF32, dF64, dI64, dU8, dBool, dStr, esOk, elemsS, vsliceX, bnd, ownV, ownC, own1, ownT, isSl, nSl, endL, Md.isOwn, purge, purgeH, purgeB, purgeE, hasName, name1, List.any_cons, List.any_nil, Md.isWr, pureV.pureP, Option.map, reduceIte, Nat.reduceEqDiff, Nat.reduceAdd, Nat.reduceMul, Nat.reduceLT, Nat.reduceLeDiff, List.mapM_cons, List.mapM_nil, Option.pure_def, Option.bind_eq_bind, Option.bind_some, implies_true, forall_const, beq_self_eq_true, decide_true, decide_false, eq_self, Int.reduceEq, Int.reduceLE, Int.reduceLT, if_true, if_false, grpK, Int.reduceAdd, Int.reduceSub, Int.reduceMul, Int.reduceNeg, Int.reducePow, Nat.reducePow, Int.reduceToNat, Nat.reduceSub, List.replicate, Nat.reduceBEq, wAs, wA, wC, zipW, noDupN, grpE, beq_true, beq_false]
    repeat' (first
      | ((first | (refine eGI_of (fun hc => ?_) (fun hc => ?_)) | (refine eCc_of (fun hc => ?_) (fun hc => ?_)) | (have hc := True.intro; refine KW_refl ?_)) <;> (try simp only [Bool.not_eq_true', Bool.not_eq_false'] at hc) <;> (try simp only [hc, need_iff, reduceCtorEq, grpN, Int.reduceEq, Int.reduceLT, Int.reduceLE, if_true, if_false, reduceIte] at h) <;> (first | (have hc2 := hc; simp only [decide_eq_true_eq, decide_eq_false_iff_not] at hc2; (first | (replace hc2 := eq_false hc2) | (replace hc2 := eq_true hc2)); (try simp only [hc2, need_iff, reduceCtorEq, grpN, Int.reduceEq, Int.reduceLT, Int.reduceLE, if_true, if_false, reduceIte] at h); replace h := And.intro hc2 h) | (replace h := And.intro hc h) | skip) <;> simp only [hc,
      need_iff, h, grpA, vsliceS, grpS, grpD, grpF, grpL, eop, vop, bop, uop, fltop, convop, endOk, newE, new1, freshL, Md.isNew, outV, pureV, pureX, pure1, AV.cells, AV.one, storable, laid, refless, refless1, vload, loadC, storeC, vnil, vfaddr, vextract, flatT, flatE, flatC, vconv, vmm, vidxA, viaddrA, vfield, vlen, elemsOf, dF32, dF64, dI64, dU8, dBool, dStr, esOk, elemsS, vsliceX, bnd, ownV, ownC, own1, ownT, isSl, nSl, endL, Md.isOwn, purge, purgeH, purgeB, purgeE, hasName, name1, List.any_cons, List.any_nil, Md.isWr, pureV.pureP, Option.map, reduceIte, Nat.reduceEqDiff, Nat.reduceAdd, Nat.reduceMul, Nat.reduceLT, Nat.reduceLeDiff, List.mapM_cons, List.mapM_nil, Option.pure_def, Option.bind_eq_bind, Option.bind_some, implies_true, forall_const, beq_self_eq_true, decide_true, decide_false, eq_self, Int.reduceEq, Int.reduceLE, Int.reduceLT, if_true, if_false, grpK, Int.reduceAdd, Int.reduceSub, Int.reduceMul, Int.reduceNeg, Int.reducePow, Nat.reducePow, Int.reduceToNat, Nat.reduceSub, List.replicate, Nat.reduceBEq, wAs, wA, wC, zipW, noDupN, grpE, beq_true, beq_false]))
    all_goals (have hf := h)
    all_goals (repeat (replace h := And.right h))
    all_goals ((first | (refine eA_wk (wk_norm (ks := [0, 1, 5, 6, 7, 8]) (ls := [9]) ?_) (eA_cast ?_ (ih _ _ _ _ _ h h0))) | (cases h; have h := True.intro; refine h0 _ (Wk.cast (wk_norm (ks := [0, 1, 5, 6, 7]) (ls := [9]) ?_) ?_))) <;> simp only [normOk, optIn, blkIn, nameIn, normS, List.map_append, List.length_append, List.map_set, List.length_set, List.map_replicate, List.length_replicate, List.map_nil, List.map_cons,
      need_iff, h, hf, grpA, vsliceS, grpS, grpD, grpF, grpL, eop, vop, bop, uop, fltop, convop, endOk, newE, new1, freshL, Md.isNew, outV, pureV, pureX, pure1, AV.cells, AV.one, storable, laid, refless, refless1, vload, loadC, storeC, vnil, vfaddr, vextract, flatT, flatE, flatC, vconv, vmm, vidxA, viaddrA, vfield, vlen, elemsOf, dF32, dF64, dI64, dU8, dBool, dStr, esOk, elemsS, vsliceX, bnd, ownV, ownC, own1, ownT, isSl, nSl, endL, Md.isOwn, purge, purgeH, purgeB, purgeE, hasName, name1, List.any_cons, List.any_nil, Md.isWr, pureV.pureP, Option.map, reduceIte, Nat.reduceEqDiff, Nat.reduceAdd, Nat.reduceMul, Nat.reduceLT, Nat.reduceLeDiff, List.mapM_cons, List.mapM_nil, Option.pure_def, Option.bind_eq_bind, Option.bind_some, implies_true, forall_const, beq_self_eq_true, decide_true, decide_false, eq_self, Int.reduceEq, Int.reduceLE, Int.reduceLT, if_true, if_false, grpK, Int.reduceAdd, Int.reduceSub, Int.reduceMul, Int.reduceNeg, Int.reducePow, Nat.reducePow, Int.reduceToNat, Nat.reduceSub, List.replicate, Nat.reduceBEq, wAs, wA, wC, zipW, noDupN, grpE, beq_true, beq_false] <;> first | rfl | (simp only [Nat.add_comm]; done))
theorem sl45_1 (x0 : (List Int)) (x1 : (List Int)) : ∀ (n : Nat) (z1_0 : (List Int)) (z1_1 : Int) (z1_2 : Int) (o : (List Int)) (K : IExit → St → Prop), l_spec_l06Bytes_1 x0 x1 n z1_0 z1_1 z1_2 = some o → (∀ st, Wk st (⟨[(5, (.lsl 9 0 (List.length o)))], [(9, (some ⟨1, true, (List.map (AV.int .u8) o)⟩))]⟩ : St) → K (.exit 0) st) → eA (tabOf []) (.loop lb45_1) (⟨[(0, (.sl (List.map (AV.int .i64) x0))), (1, (.sl (List.map (AV.int .i64) x1))), (5, (.lsl 9 0 (List.length z1_0))), (6, (.int .i64 z1_1)), (7, (.int .i64 z1_2))], [(9, (some ⟨1, true, (List.map (AV.int .u8) z1_0)⟩))]⟩ : St) K := by
  intro n
  induction n with
  | zero =>
    intro z1_0 z1_1 z1_2 o K h h0
    simp only [l_spec_l06Bytes_1, reduceCtorEq] at h
  | succ n ih =>
    intro z1_0 z1_1 z1_2 o K h h0
    refine eA_loop ?_
    unfold lb45_1
    unfold l_spec_l06Bytes_1 at h
    (try simp only [need_iff, v_spec_l06Bytes_12, v_spec_l06Bytes_13] at h)
    simp only [
      need_iff, h, grpA, vsliceS, grpS, grpD, grpF, grpL, eop, vop, bop, uop, fltop, convop, endOk, newE, new1, freshL, Md.isNew, outV, pureV, pureX, pure1, AV.cells, AV.one, storable, laid, refless, refless1, vload, loadC, storeC, vnil, vfaddr, vextract, flatT, flatE, flatC, vconv, vmm, vidxA, viaddrA, vfield, vlen, elemsOf, dF32, dF64, dI64, dU8, dBool, dStr, esOk, elemsS, vsliceX, bnd, ownV, ownC, own1, ownT, isSl, nSl, endL, Md.isOwn, purge, purgeH, purgeB, purgeE, hasName, name1, List.any_cons, List.any_nil, Md.isWr, pureV.pureP, Option.map, reduceIte, Nat.reduceEqDiff, Nat.reduceAdd, Nat.reduceMul, Nat.reduceLT, Nat.reduceLeDiff, List.mapM_cons, List.mapM_nil, Option.pure_def, Option.bind_eq_bind, Option.bind_some, implies_true, forall_const, beq_self_eq_true, decide_true, decide_false, eq_self, Int.reduceEq, Int.reduceLE, Int.reduceLT, if_true, if_false, grpK, Int.reduceAdd, Int.reduceSub, Int.reduceMul, Int.reduceNeg, Int.reducePow, Nat.reducePow, Int.reduceToNat, Nat.reduceSub, List.replicate, Nat.reduceBEq, wAs, wA, wC, zipW, noDupN, grpE, beq_true, beq_false]
    repeat' (first
      | ((first | (refine eGI_of (fun hc => ?_) (fun hc => ?_)) | (refine eCc_of (fun hc => ?_) (fun hc => ?_)) | (have hc := True.intro; refine KW_refl ?_)) <;> (try simp only [Bool.not_eq_true', Bool.not_eq_false'] at hc) <;> (try simp only [hc, need_iff, reduceCtorEq, grpN, Int.reduceEq, Int.reduceLT, Int.reduceLE, if_true, if_false, reduceIte] at h) <;> (first | (have hc2 := hc; simp only [decide_eq_true_eq, decide_eq_false_iff_not] at hc2; (first | (replace hc2 := eq_false hc2) | (replace hc2 := eq_true hc2)); (try simp only [hc2, need_iff, reduceCtorEq, grpN, Int.reduceEq, Int.reduceLT, Int.reduceLE, if_true, if_false, reduceIte] at h); replace h := And.intro hc2 h) | (replace h := And.intro hc h) | skip) <;> simp only [hc,
      need_iff, h, grpA, vsliceS, grpS, grpD, grpF, grpL, eop, vop, bop, uop, fltop, convop, endOk, newE, new1, freshL, Md.isNew, outV, pureV, pureX, pure1, AV.cells, AV.one, storable, laid, refless, refless1, vload, loadC, storeC, vnil, vfaddr, vextract, flatT, flatE, flatC, vconv, vmm, vidxA, viaddrA, vfield, vlen, elemsOf, dF32, dF64, dI64, dU8, dBool, dStr, esOk, elemsS, vsliceX, bnd, ownV, ownC, own1, ownT, isSl, nSl, endL, Md.isOwn, purge, purgeH, purgeB, purgeE, hasName, name1, List.any_cons, List.any_nil, Md.isWr, pureV.pureP, Option.map, reduceIte, Nat.reduceEqDiff, Nat.reduceAdd, Nat.reduceMul, Nat.reduceLT, Nat.reduceLeDiff, List.mapM_cons, List.mapM_nil, Option.pure_def, Option.bind_eq_bind, Option.bind_some, implies_true, forall_const, beq_self_eq_true, decide_true, decide_false, eq_self, Int.reduceEq, Int.reduceLE, Int.reduceLT, if_true, if_false, grpK, Int.reduceAdd, Int.reduceSub, Int.reduceMul, Int.reduceNeg, Int.reducePow, Nat.reducePow, Int.reduceToNat, Nat.reduceSub, List.replicate, Nat.reduceBEq, wAs, wA, wC, zipW, noDupN, grpE, beq_true, beq_false])
      | (refine eA_wk (wk_norm (ks := [0, 1, 5, 6, 7, 8]) (ls := [9]) ?_) (eA_cast ?_ (sl45_0 x0 x1 z1_2 _ _ _ _ _ _ (getD_some (d := default) (x := (l_spec_l06Bytes_0 x0 x1 z1_2 (Int.toNat (IntKind.wrap .i64 ((atI x1 z1_2) - 1)) + 2) z1_0 z1_1 (IntKind.wrap .i64 ((atI x1 z1_2) - 1)))) ?_) ?_)); (iterate 2 (simp only [nilS, nilV, normOk, optIn, blkIn, nameIn, normS, List.map_append, List.length_append, List.map_set, List.length_set, List.map_replicate, List.length_replicate, List.map_nil, List.map_cons,
      need_iff, h, grpA, vsliceS, grpS, grpD, grpF, grpL, eop, vop, bop, uop, fltop, convop, endOk, newE, new1, freshL, Md.isNew, outV, pureV, pureX, pure1, AV.cells, AV.one, storable, laid, refless, refless1, vload, loadC, storeC, vnil, vfaddr, vextract, flatT, flatE, flatC, vconv, vmm, vidxA, viaddrA, vfield, vlen, elemsOf, dF32, dF64, dI64, dU8, dBool, dStr, esOk, elemsS, vsliceX, bnd, ownV, ownC, own1, ownT, isSl, nSl, endL, Md.isOwn, purge, purgeH, purgeB, purgeE, hasName, name1, List.any_cons, List.any_nil, Md.isWr, pureV.pureP, Option.map, reduceIte, Nat.reduceEqDiff, Nat.reduceAdd, Nat.reduceMul, Nat.reduceLT, Nat.reduceLeDiff, List.mapM_cons, List.mapM_nil, Option.pure_def, Option.bind_eq_bind, Option.bind_some, implies_true, forall_const, beq_self_eq_true, decide_true, decide_false, eq_self, Int.reduceEq, Int.reduceLE, Int.reduceLT, if_true, if_false, grpK, Int.reduceAdd, Int.reduceSub, Int.reduceMul, Int.reduceNeg, Int.reducePow, Nat.reducePow, Int.reduceToNat, Nat.reduceSub, List.replicate, Nat.reduceBEq, wAs, wA, wC, zipW, noDupN, grpE, beq_true, beq_false] <;> first | rfl | (simp only [Nat.add_comm]; done))); (simp only [h]); (
        intro st2 hw; (try simp only [reduceCtorEq, grpN, Int.reduceEq, Int.reduceLT, Int.reduceLE, if_true, if_false, reduceIte] at h); (try replace h := And.intro ht h); simp only [
Kq_exit, Kq_normal, Kq_ret, Kb_exit, Kb_normal, Kb_ret, Kl_exit, Kl_normal, Kl_ret, reduceIte, Nat.reduceEqDiff, if_true, if_false, eq_self]; refine KW_of hw ?_; simp only [
      need_iff, h, grpA, vsliceS, grpS, grpD, grpF, grpL, eop, vop, bop, uop, fltop, convop, endOk, newE, new1, freshL, Md.isNew, outV, pureV, pureX, pure1, AV.cells, AV.one, storable, laid, refless, refless1, vload, loadC, storeC, vnil, vfaddr, vextract, flatT, flatE, flatC, vconv, vmm, vidxA, viaddrA, vfield, vlen, elemsOf, dF32, dF64, dI64, dU8, dBool, dStr, esOk, elemsS, vsliceX, bnd, ownV, ownC, own1, ownT, isSl, nSl, endL, Md.isOwn, purge, purgeH, purgeB, purgeE, hasName, name1, List.any_cons, List.any_nil, Md.isWr, pureV.pureP, Option.map, reduceIte, Nat.reduceEqDiff, Nat.reduceAdd, Nat.reduceMul, Nat.reduceLT, Nat.reduceLeDiff, List.mapM_cons, List.mapM_nil, Option.pure_def, Option.bind_eq_bind, Option.bind_some, implies_true, forall_const, beq_self_eq_true, decide_true, decide_false, eq_self, Int.reduceEq, Int.reduceLE, Int.reduceLT, if_true, if_false, grpK, Int.reduceAdd, Int.reduceSub, Int.reduceMul, Int.reduceNeg, Int.reducePow, Nat.reducePow, Int.reduceToNat, Nat.reduceSub, List.replicate, Nat.reduceBEq, wAs, wA, wC, zipW, noDupN, grpE, beq_true, beq_false])))
    all_goals (have hf := h)
    all_goals (repeat (replace h := And.right h))
    all_goals ((first | (refine eA_wk (wk_norm (ks := [0, 1, 5, 6, 7]) (ls := [9]) ?_) (eA_cast ?_ (ih _ _ _ _ _ h h0))) | (cases h; have h := True.intro; refine h0 _ (Wk.cast (wk_norm (ks := [5]) (ls := [9]) ?_) ?_))) <;> simp only [normOk, optIn, blkIn, nameIn, normS, List.map_append, List.length_append, List.map_set, List.length_set, List.map_replicate, List.length_replicate, List.map_nil, List.map_cons,
      need_iff, h, hf, grpA, vsliceS, grpS, grpD, grpF, grpL, eop, vop, bop, uop, fltop, convop, endOk, newE, new1, freshL, Md.isNew, outV, pureV, pureX, pure1, AV.cells, AV.one, storable, laid, refless, refless1, vload, loadC, storeC, vnil, vfaddr, vextract, flatT, flatE, flatC, vconv, vmm, vidxA, viaddrA, vfield, vlen, elemsOf, dF32, dF64, dI64, dU8, dBool, dStr, esOk, elemsS, vsliceX, bnd, ownV, ownC, own1, ownT, isSl, nSl, endL, Md.isOwn, purge, purgeH, purgeB, purgeE, hasName, name1, List.any_cons, List.any_nil, Md.isWr, pureV.pureP, Option.map, reduceIte, Nat.reduceEqDiff, Nat.reduceAdd, Nat.reduceMul, Nat.reduceLT, Nat.reduceLeDiff, List.mapM_cons, List.mapM_nil, Option.pure_def, Option.bind_eq_bind, Option.bind_some, implies_true, forall_const, beq_self_eq_true, decide_true, decide_false, eq_self, Int.reduceEq, Int.reduceLE, Int.reduceLT, if_true, if_false, grpK, Int.reduceAdd, Int.reduceSub, Int.reduceMul, Int.reduceNeg, Int.reducePow, Nat.reducePow, Int.reduceToNat, Nat.reduceSub, List.replicate, Nat.reduceBEq, wAs, wA, wC, zipW, noDupN, grpE, beq_true, beq_false] <;> first | rfl | (simp only [Nat.add_comm]; done))
theorem s45 : ∀ vs r, g_spec_l06Bytes vs = some r → SaysM Try.prog .any 45 vs r := by
  intro vs r h
  unfold g_spec_l06Bytes at h
  split at h
  · rename_i w0 w1
    cases hd_y0 : decL dI64 w0 with
    | none => rw [hd_y0] at h; cases h
    | some y0 =>
    rw [hd_y0] at h
    obtain rfl := decL_inv dI64_inv hd_y0
    clear hd_y0
    dsimp only at h
    cases hd_y1 : decL dI64 w1 with
    | none => rw [hd_y1] at h; cases h
    | some y1 =>
    rw [hd_y1] at h
    obtain rfl := decL_inv dI64_inv hd_y1
    clear hd_y1
    dsimp only at h
    split at h
    · rename_i hp
      cases h
      refine spec_of (m := .any) (tab := tabOf []) (cp := cp45) (ic := ic45) (rvl := [(.t 4)]) hm tabOk_nil Try.func45 rfl rfl rfl (by kernel_rfl) rfl (Nat.le_of_ble_eq_true rfl) (Nat.le_of_ble_eq_true rfl) ?_
      show eA _ _ _ _
      unfold ic45
      simp only [p_spec_l06Bytes, v_spec_l06Bytes_12, v_spec_l06Bytes_13, Bool.and_eq_true, Bool.or_eq_true, decide_eq_true_eq, Bool.not_eq_true', decide_eq_false_iff_not] at hp
      refine eS_to ?_
      repeat' (first
        | ((first | (have h := True.intro; refine eS_of ?_) | (refine eGI_of (fun h => ?_) (fun h => ?_)) | (refine eCc_of (fun h => ?_) (fun h => ?_)) | (have h := True.intro; refine KW_refl ?_)) <;> (try simp only [Bool.not_eq_true', Bool.not_eq_false'] at h) <;> (try first | exact absurd (Eq.trans (Eq.symm h) (by assumption)) Bool.false_ne_true | exact absurd (Eq.trans (Eq.symm h) (by assumption)) (Ne.symm Bool.false_ne_true)) <;> (try simp only [h, reduceCtorEq, grpN, Int.reduceEq, Int.reduceLT, Int.reduceLE, if_true, if_false, reduceIte] at hp) <;> (first | (have h2 := h; simp only [decide_eq_true_eq, decide_eq_false_iff_not] at h2; (first | (replace h2 := eq_false h2) | (replace h2 := eq_true h2)); (try simp only [h2, reduceCtorEq, grpN, Int.reduceEq, Int.reduceLT, Int.reduceLE, if_true, if_false, reduceIte] at hp); replace hp := And.intro h2 hp) | (replace hp := And.intro h hp) | skip) <;> simp only [h,
          hp, grpA, vsliceS, grpS, grpD, grpF, grpL, eop, vop, bop, uop, fltop, convop, endOk, newE, new1, freshL, Md.isNew, outV, pureV, pureX, pure1, AV.cells, AV.one, storable, laid, refless, refless1, vload, loadC, storeC, vnil, vfaddr, vextract, flatT, flatE, flatC, vconv, vmm, vidxA, viaddrA, vfield, vlen, elemsOf, dF32, dF64, dI64, dU8, dBool, dStr, esOk, elemsS, vsliceX, bnd, ownV, ownC, own1, ownT, isSl, nSl, endL, Md.isOwn, purge, purgeH, purgeB, purgeE, hasName, name1, List.any_cons, List.any_nil, Md.isWr, pureV.pureP, Option.map, reduceIte, Nat.reduceEqDiff, Nat.reduceAdd, Nat.reduceMul, Nat.reduceLT, Nat.reduceLeDiff, List.mapM_cons, List.mapM_nil, Option.pure_def, Option.bind_eq_bind, Option.bind_some, implies_true, forall_const, beq_self_eq_true, decide_true, decide_false, eq_self, Int.reduceEq, Int.reduceLE, Int.reduceLT, if_true, if_false, grpK, Int.reduceAdd, Int.reduceSub, Int.reduceMul, Int.reduceNeg, Int.reducePow, Nat.reducePow, Int.reduceToNat, Nat.reduceSub, List.replicate, Nat.reduceBEq, wAs, wA, wC, zipW, noDupN, grpE, beq_true, beq_false])
        | (refine eA_wk (wk_norm (ks := [0, 1, 5, 6, 7]) (ls := [9]) ?_) (eA_cast ?_ (sl45_1 y0 y1 _ _ _ _ _ _ (getD_some (d := default) (x := (l_spec_l06Bytes_1 y0 y1 (Int.toNat (((List.length y0 : Nat) : Int) - 0) + 2) [] 0 0)) ?_) ?_)); (iterate 2 (simp only [nilS, nilV, normOk, optIn, blkIn, nameIn, normS, List.map_append, List.length_append, List.map_set, List.length_set, List.map_replicate, List.length_replicate, List.map_nil, List.map_cons,
          hp, grpA, vsliceS, grpS, grpD, grpF, grpL, eop, vop, bop, uop, fltop, convop, endOk, newE, new1, freshL, Md.isNew, outV, pureV, pureX, pure1, AV.cells, AV.one, storable, laid, refless, refless1, vload, loadC, storeC, vnil, vfaddr, vextract, flatT, flatE, flatC, vconv, vmm, vidxA, viaddrA, vfield, vlen, elemsOf, dF32, dF64, dI64, dU8, dBool, dStr, esOk, elemsS, vsliceX, bnd, ownV, ownC, own1, ownT, isSl, nSl, endL, Md.isOwn, purge, purgeH, purgeB, purgeE, hasName, name1, List.any_cons, List.any_nil, Md.isWr, pureV.pureP, Option.map, reduceIte, Nat.reduceEqDiff, Nat.reduceAdd, Nat.reduceMul, Nat.reduceLT, Nat.reduceLeDiff, List.mapM_cons, List.mapM_nil, Option.pure_def, Option.bind_eq_bind, Option.bind_some, implies_true, forall_const, beq_self_eq_true, decide_true, decide_false, eq_self, Int.reduceEq, Int.reduceLE, Int.reduceLT, if_true, if_false, grpK, Int.reduceAdd, Int.reduceSub, Int.reduceMul, Int.reduceNeg, Int.reducePow, Nat.reducePow, Int.reduceToNat, Nat.reduceSub, List.replicate, Nat.reduceBEq, wAs, wA, wC, zipW, noDupN, grpE, beq_true, beq_false] <;> first | rfl | (simp only [Nat.add_comm]; done))); (simp only [hp]); (
        intro st2 hw; (try simp only [reduceCtorEq, grpN, Int.reduceEq, Int.reduceLT, Int.reduceLE, if_true, if_false, reduceIte] at hp); (try replace hp := And.intro ht hp); simp only [
Kq_exit, Kq_normal, Kq_ret, Kb_exit, Kb_normal, Kb_ret, Kl_exit, Kl_normal, Kl_ret, reduceIte, Nat.reduceEqDiff, if_true, if_false, eq_self]; refine KW_of hw ?_; simp only [
          hp, grpA, vsliceS, grpS, grpD, grpF, grpL, eop, vop, bop, uop, fltop, convop, endOk, newE, new1, freshL, Md.isNew, outV, pureV, pureX, pure1, AV.cells, AV.one, storable, laid, refless, refless1, vload, loadC, storeC, vnil, vfaddr, vextract, flatT, flatE, flatC, vconv, vmm, vidxA, viaddrA, vfield, vlen, elemsOf, dF32, dF64, dI64, dU8, dBool, dStr, esOk, elemsS, vsliceX, bnd, ownV, ownC, own1, ownT, isSl, nSl, endL, Md.isOwn, purge, purgeH, purgeB, purgeE, hasName, name1, List.any_cons, List.any_nil, Md.isWr, pureV.pureP, Option.map, reduceIte, Nat.reduceEqDiff, Nat.reduceAdd, Nat.reduceMul, Nat.reduceLT, Nat.reduceLeDiff, List.mapM_cons, List.mapM_nil, Option.pure_def, Option.bind_eq_bind, Option.bind_some, implies_true, forall_const, beq_self_eq_true, decide_true, decide_false, eq_self, Int.reduceEq, Int.reduceLE, Int.reduceLT, if_true, if_false, grpK, Int.reduceAdd, Int.reduceSub, Int.reduceMul, Int.reduceNeg, Int.reducePow, Nat.reducePow, Int.reduceToNat, Nat.reduceSub, List.replicate, Nat.reduceBEq, wAs, wA, wC, zipW, noDupN, grpE, beq_true, beq_false])))
      all_goals (try simp only [*, m_spec_l06Bytes, v_spec_l06Bytes_12, v_spec_l06Bytes_13, Bool.and_true, Bool.true_and, Bool.and_false, Bool.false_and, Bool.or_true, Bool.true_or, Bool.or_false, Bool.false_or, Bool.not_true, Bool.not_false, Bool.false_eq_true, if_true, if_false, reduceIte, decide_true, decide_false])
      all_goals (try (simp_all; done))
    · cases h
  · cases h
def l_spec_BytesOfWords_0 (x0 : (List Int)) (x1 : (List Int)) : Nat → Int → Option (Bool × ((List UInt8) × Bool) × Unit)
  | 0, _ => none
  | n + 1, z0_0 => (if (decide (z0_0 < ((List.length x0 : Nat) : Int))) = true then (need (inB z0_0 (List.length x0)) (need (inB z0_0 (List.length x1)) (need (decide (0 ≤ (IntKind.wrap .u64 (atI x1 z0_0)))) (if (m_spec_l00In (atI x0 z0_0) 0 (IntKind.wrap .i64 ((IntKind.wrap .i64 (1 * 2 ^ (min ((IntKind.wrap .u64 (atI x1 z0_0)) : Int).toNat 64))) - 1))) = true then (l_spec_BytesOfWords_0 x0 x1 n (IntKind.wrap .i64 (z0_0 + 1))) else (some (true, (([] : List UInt8), false), default)))))) else (some (false, default, ())))
def m_spec_BytesOfWords (x0 : (List Int)) (x1 : (List Int)) : ((List UInt8) × Bool) := (if (m_spec_l06Sizes x1) = true then (if (decide (((List.length x0 : Nat) : Int) = ((List.length x1 : Nat) : Int))) = true then (if (Option.getD (l_spec_BytesOfWords_0 x0 x1 (Int.toNat (((List.length x0 : Nat) : Int) - 0) + 2) 0) default).1 = true then (Option.getD (l_spec_BytesOfWords_0 x0 x1 (Int.toNat (((List.length x0 : Nat) : Int) - 0) + 2) 0) default).2.1 else ((m_spec_l06Bytes x0 x1), true)) else (([] : List UInt8), false)) else (([] : List UInt8), false))
def p_spec_BytesOfWords (x0 : (List Int)) (x1 : (List Int)) : Bool := ((p_spec_l06Sizes x1) && (!(m_spec_l06Sizes x1) || (!(decide (((List.length x0 : Nat) : Int) = ((List.length x1 : Nat) : Int))) || ((Option.isSome (l_spec_BytesOfWords_0 x0 x1 (Int.toNat (((List.length x0 : Nat) : Int) - 0) + 2) 0)) && ((Option.getD (l_spec_BytesOfWords_0 x0 x1 (Int.toNat (((List.length x0 : Nat) : Int) - 0) + 2) 0) default).1 || (p_spec_l06Bytes x0 x1))))))
def g_spec_BytesOfWords : List AV → Option AV
  | [.sl w0, .sl w1] => (match decL dI64 w0 with | some y0 => ((match decL dI64 w1 with | some y1 => (if p_spec_BytesOfWords y0 y1 = true then some (AV.tup [(.str (m_spec_BytesOfWords y0 y1).1), (.bool (m_spec_BytesOfWords y0 y1).2)]) else none) | none => none)) | none => none)
  | _ => none
def lb15_0 : ICode := (.seq (.seq (.reg [⟨(some 17), none, (.mov (.t 6))⟩, ⟨(some 18), none, (.mov (.t 0))⟩, ⟨(some 19), none, (.len false (.t 18))⟩, ⟨(some 20), none, (.bin .lss false (.t 17) (.t 19))⟩] [0, 1, 6, 20]) (.cond (.t 20) .skip (.exit 0))) (.seq (.block 1 (.seq (.reg [⟨(some 23), none, (.mov (.t 0))⟩, ⟨(some 24), none, (.mov (.t 6))⟩, ⟨(some 25), none, (.iaddrS 1 (.t 23) (.t 24))⟩, ⟨(some 26), none, (.load none (.t 25))⟩, ⟨(some 27), none, (.mov (.t 1))⟩, ⟨(some 28), none, (.mov (.t 6))⟩, ⟨(some 29), none, (.iaddrS 1 (.t 27) (.t 28))⟩, ⟨(some 30), none, (.load none (.t 29))⟩, ⟨(some 31), none, (.conv (.int .u64) (.t 30))⟩, ⟨(some 32), none, (.bin .shl false (.c (.int .i64 1)) (.t 31))⟩, ⟨(some 33), none, (.bin .sub false (.t 32) (.c (.int .i64 1)))⟩, ⟨(some 34), none, (.call (.fn 44) [(.t 26), (.c (.int .i64 0)), (.t 33)] [])⟩, ⟨(some 35), none, (.un .not (.t 34))⟩] [0, 1, 6, 35]) (.cond (.t 35) (.seq (.reg [⟨(some 4), none, (.mov (.c (.str [])))⟩, ⟨(some 5), none, (.mov (.c (.bool false)))⟩] [4, 5]) .ret) .skip))) (.reg [⟨(some 21), none, (.mov (.t 6))⟩, ⟨(some 22), none, (.bin .add false (.t 21) (.c (.int .i64 1)))⟩, ⟨(some 6), none, (.mov (.t 22))⟩] [0, 1, 6])))
def ic15 : ICode := (.seq (.reg [⟨(some 4), none, (.mov (.c (.str [])))⟩, ⟨(some 5), none, (.mov (.c (.bool false)))⟩] [0, 1]) (.seq (.seq (.reg [⟨(some 7), none, (.mov (.t 1))⟩, ⟨(some 8), none, (.call (.fn 43) [(.t 7)] [])⟩, ⟨(some 9), none, (.un .not (.t 8))⟩, ⟨(some 10), none, (.mov (.t 9))⟩, ⟨(some 11), (some (10, false)), (.mov (.t 0))⟩, ⟨(some 12), (some (10, false)), (.len false (.t 11))⟩, ⟨(some 13), (some (10, false)), (.mov (.t 1))⟩, ⟨(some 14), (some (10, false)), (.len false (.t 13))⟩, ⟨(some 15), (some (10, false)), (.bin .neq false (.t 12) (.t 14))⟩, ⟨(some 16), none, (.pick (.t 10) (.c (.bool true)) (.t 15))⟩] [0, 1, 16]) (.cond (.t 16) (.seq (.reg [⟨(some 4), none, (.mov (.c (.str [])))⟩, ⟨(some 5), none, (.mov (.c (.bool false)))⟩] [4, 5]) .ret) .skip)) (.seq (.seq (.reg [⟨(some 6), none, (.mov (.c (.int .i64 0)))⟩] [0, 1, 6]) (.block 0 (.loop lb15_0))) (.seq (.reg [⟨(some 36), none, (.mov (.t 0))⟩, ⟨(some 37), none, (.mov (.t 1))⟩, ⟨(some 38), none, (.call (.fn 45) [(.t 36), (.t 37)] [])⟩, ⟨(some 4), none, (.mov (.t 38))⟩, ⟨(some 5), none, (.mov (.c (.bool true)))⟩] [4, 5]) .ret))))
def cp15 : CP := CP.mk [] [] [[0, 1], [0, 1, 16], [4, 5], [0, 1, 6], [0, 1, 6, 20], [0, 1, 6], [0, 1, 6, 35], [4, 5], [4, 5]] 39 [] []
theorem sl15_0 (x0 : (List Int)) (x1 : (List Int)) : ∀ (n : Nat) (z0_0 : Int) (o : (Bool × ((List UInt8) × Bool) × Unit)) (K : IExit → St → Prop), l_spec_BytesOfWords_0 x0 x1 n z0_0 = some o → (∀ st, o.1 = true → outM .any st [(.t 4), (.t 5)] = some (AV.tup [(.str o.2.1.1), (.bool o.2.1.2)]) → K .ret st) → (∀ st, o.1 = false → Wk st (⟨[(0, (.sl (List.map (AV.int .i64) x0))), (1, (.sl (List.map (AV.int .i64) x1)))], []⟩ : St) → K (.exit 0) st) → eA (tabOf [(43, wM .any g_spec_l06Sizes), (44, wM .any g_spec_l00In), (45, wM .any g_spec_l06Bytes)]) (.loop lb15_0) (⟨[(0, (.sl (List.map (AV.int .i64) x0))), (1, (.sl (List.map (AV.int .i64) x1))), (6, (.int .i64 z0_0))], []⟩ : St) K := by
  intro n
  induction n with
  | zero =>
    intro z0_0 o K h h0 h1
    simp only [l_spec_BytesOfWords_0, reduceCtorEq] at h
  | succ n ih =>
    intro z0_0 o K h h0 h1
    refine eA_loop ?_
    unfold lb15_0
    unfold l_spec_BytesOfWords_0 at h
    (try simp only [need_iff] at h)
    simp only [
      need_iff, h, grpA, vsliceS, grpS, grpD, grpF, grpL, eop, vop, bop, uop, fltop, convop, endOk, newE, new1, freshL, Md.isNew, outV, pureV, pureX, pure1, AV.cells, AV.one, storable, laid, refless, refless1, vload, loadC, storeC, vnil, vfaddr, vextract, flatT, flatE, flatC, vconv, vmm, vidxA, viaddrA, vfield, vlen, elemsOf, dF32, dF64, dI64, dU8, dBool, dStr, esOk, elemsS, vsliceX, bnd, ownV, ownC, own1, ownT, isSl, nSl, endL, Md.isOwn, purge, purgeH, purgeB, purgeE, hasName, name1, List.any_cons, List.any_nil, Md.isWr, pureV.pureP, Option.map, reduceIte, Nat.reduceEqDiff, Nat.reduceAdd, Nat.reduceMul, Nat.reduceLT, Nat.reduceLeDiff, List.mapM_cons, List.mapM_nil, Option.pure_def, Option.bind_eq_bind, Option.bind_some, implies_true, forall_const, beq_self_eq_true, decide_true, decide_false, eq_self, Int.reduceEq, Int.reduceLE, Int.reduceLT, if_true, if_false, grpK, Int.reduceAdd, Int.reduceSub, Int.reduceMul, Int.reduceNeg, Int.reducePow, Nat.reducePow, Int.reduceToNat, Nat.reduceSub, List.replicate, Nat.reduceBEq, wAs, wA, wC, zipW, noDupN, grpE, beq_true, beq_false, g_spec_l06Sizes, g_spec_l00In, g_spec_l06Bytes, ↓b_pick, ePk_true, ePk_false]
    repeat' (first
      | ((first | (refine eGI_of (fun hc => ?_) (fun hc => ?_)) | (refine eCc_of (fun hc => ?_) (fun hc => ?_)) | (refine ePk_of (fun hc => ?_) (fun hc => ?_)) | (have hc := True.intro; refine KW_refl ?_)) <;> (try simp only [Bool.not_eq_true', Bool.not_eq_false'] at hc) <;> (try simp only [hc, need_iff, reduceCtorEq, grpN, Int.reduceEq, Int.reduceLT, Int.reduceLE, if_true, if_false, reduceIte] at h) <;> (first | (have hc2 := hc; simp only [decide_eq_true_eq, decide_eq_false_iff_not] at hc2; (first | (replace hc2 := eq_false hc2) | (replace hc2 := eq_true hc2)); (try simp only [hc2, need_iff, reduceCtorEq, grpN, Int.reduceEq, Int.reduceLT, Int.reduceLE, if_true, if_false, reduceIte] at h); replace h := And.intro hc2 h) | (replace h := And.intro hc h) | skip) <;> simp only [hc,
      need_iff, h, grpA, vsliceS, grpS, grpD, grpF, grpL, eop, vop, bop, uop, fltop, convop, endOk, newE, new1, freshL, Md.isNew, outV, pureV, pureX, pure1, AV.cells, AV.one, storable, laid, refless, refless1, vload, loadC, storeC, vnil, vfaddr, vextract, flatT, flatE, flatC, vconv, vmm, vidxA, viaddrA, vfield, vlen, elemsOf, dF32, dF64, dI64, dU8, dBool, dStr, esOk, elemsS, vsliceX, bnd, ownV, ownC, own1, ownT, isSl, nSl, endL, Md.isOwn, purge, purgeH, purgeB, purgeE, hasName, name1, List.any_cons, List.any_nil, Md.isWr, pureV.pureP, Option.map, reduceIte, Nat.reduceEqDiff, Nat.reduceAdd, Nat.reduceMul, Nat.reduceLT, Nat.reduceLeDiff, List.mapM_cons, List.mapM_nil, Option.pure_def, Option.bind_eq_bind, Option.bind_some, implies_true, forall_const, beq_self_eq_true, decide_true, decide_false, eq_self, Int.reduceEq, Int.reduceLE, Int.reduceLT, if_true, if_false, grpK, Int.reduceAdd, Int.reduceSub, Int.reduceMul, Int.reduceNeg, Int.reducePow, Nat.reducePow, Int.reduceToNat, Nat.reduceSub, List.replicate, Nat.reduceBEq, wAs, wA, wC, zipW, noDupN, grpE, beq_true, beq_false, g_spec_l06Sizes, g_spec_l00In, g_spec_l06Bytes, ↓b_pick, ePk_true, ePk_false]))
    all_goals (have hf := h)
    all_goals (repeat (replace h := And.right h))
    all_goals ((first | (refine eA_wk (wk_norm (ks := [0, 1, 6]) (ls := []) ?_) (eA_cast ?_ (ih _ _ _ h h0 h1))) | (cases h; have h := True.intro; refine h0 _ rfl ?_) | (cases h; have h := True.intro; refine h1 _ rfl (Wk.cast (wk_norm (ks := [0, 1]) (ls := []) ?_) ?_))) <;> simp only [normOk, optIn, blkIn, nameIn, normS, List.map_append, List.length_append, List.map_set, List.length_set, List.map_replicate, List.length_replicate, List.map_nil, List.map_cons,
      need_iff, h, hf, grpA, vsliceS, grpS, grpD, grpF, grpL, eop, vop, bop, uop, fltop, convop, endOk, newE, new1, freshL, Md.isNew, outV, pureV, pureX, pure1, AV.cells, AV.one, storable, laid, refless, refless1, vload, loadC, storeC, vnil, vfaddr, vextract, flatT, flatE, flatC, vconv, vmm, vidxA, viaddrA, vfield, vlen, elemsOf, dF32, dF64, dI64, dU8, dBool, dStr, esOk, elemsS, vsliceX, bnd, ownV, ownC, own1, ownT, isSl, nSl, endL, Md.isOwn, purge, purgeH, purgeB, purgeE, hasName, name1, List.any_cons, List.any_nil, Md.isWr, pureV.pureP, Option.map, reduceIte, Nat.reduceEqDiff, Nat.reduceAdd, Nat.reduceMul, Nat.reduceLT, Nat.reduceLeDiff, List.mapM_cons, List.mapM_nil, Option.pure_def, Option.bind_eq_bind, Option.bind_some, implies_true, forall_const, beq_self_eq_true, decide_true, decide_false, eq_self, Int.reduceEq, Int.reduceLE, Int.reduceLT, if_true, if_false, grpK, Int.reduceAdd, Int.reduceSub, Int.reduceMul, Int.reduceNeg, Int.reducePow, Nat.reducePow, Int.reduceToNat, Nat.reduceSub, List.replicate, Nat.reduceBEq, wAs, wA, wC, zipW, noDupN, grpE, beq_true, beq_false, g_spec_l06Sizes, g_spec_l00In, g_spec_l06Bytes, ↓b_pick, ePk_true, ePk_false] <;> first | rfl | (simp only [Nat.add_comm]; done))
theorem s15 : ∀ vs r, g_spec_BytesOfWords vs = some r → SaysM Try.prog .any 15 vs r := by
  intro vs r h
  unfold g_spec_BytesOfWords at h
  split at h
  · rename_i w0 w1
    cases hd_y0 : decL dI64 w0 with
    | none => rw [hd_y0] at h; cases h
    | some y0 =>
    rw [hd_y0] at h
    obtain rfl := decL_inv dI64_inv hd_y0
    clear hd_y0
    dsimp only at h
    cases hd_y1 : decL dI64 w1 with
    | none => rw [hd_y1] at h; cases h
    | some y1 =>
    rw [hd_y1] at h
    obtain rfl := decL_inv dI64_inv hd_y1
    clear hd_y1
    dsimp only at h
    split at h
    · rename_i hp
      cases h
      refine spec_of (m := .any) (tab := tabOf [(43, wM .any g_spec_l06Sizes), (44, wM .any g_spec_l00In), (45, wM .any g_spec_l06Bytes)]) (cp := cp15) (ic := ic15) (rvl := [(.t 4), (.t 5)]) hm (tabOk_cons (m := .any) s43 (tabOk_cons (m := .any) s44 (tabOk_cons (m := .any) s45 tabOk_nil))) Try.func15 rfl rfl rfl (by kernel_rfl) rfl (Nat.le_of_ble_eq_true rfl) (Nat.le_of_ble_eq_true rfl) ?_
      show eA _ _ _ _
      unfold ic15
      simp only [p_spec_BytesOfWords, Bool.and_eq_true, Bool.or_eq_true, decide_eq_true_eq, Bool.not_eq_true', decide_eq_false_iff_not] at hp
      refine eS_to ?_
      repeat' (first
        | ((first | (have h := True.intro; refine eS_of ?_) | (refine eGI_of (fun h => ?_) (fun h => ?_)) | (refine eCc_of (fun h => ?_) (fun h => ?_)) | (refine ePk_of (fun h => ?_) (fun h => ?_)) | (have h := True.intro; refine KW_refl ?_)) <;> (try simp only [Bool.not_eq_true', Bool.not_eq_false'] at h) <;> (try first | exact absurd (Eq.trans (Eq.symm h) (by assumption)) Bool.false_ne_true | exact absurd (Eq.trans (Eq.symm h) (by assumption)) (Ne.symm Bool.false_ne_true)) <;> (try simp only [h, reduceCtorEq, grpN, Int.reduceEq, Int.reduceLT, Int.reduceLE, if_true, if_false, reduceIte] at hp) <;> (first | (have h2 := h; simp only [decide_eq_true_eq, decide_eq_false_iff_not] at h2; (first | (replace h2 := eq_false h2) | (replace h2 := eq_true h2)); (try simp only [h2, reduceCtorEq, grpN, Int.reduceEq, Int.reduceLT, Int.reduceLE, if_true, if_false, reduceIte] at hp); replace hp := And.intro h2 hp) | (replace hp := And.intro h hp) | skip) <;> simp only [h,
          hp, grpA, vsliceS, grpS, grpD, grpF, grpL, eop, vop, bop, uop, fltop, convop, endOk, newE, new1, freshL, Md.isNew, outV, pureV, pureX, pure1, AV.cells, AV.one, storable, laid, refless, refless1, vload, loadC, storeC, vnil, vfaddr, vextract, flatT, flatE, flatC, vconv, vmm, vidxA, viaddrA, vfield, vlen, elemsOf, dF32, dF64, dI64, dU8, dBool, dStr, esOk, elemsS, vsliceX, bnd, ownV, ownC, own1, ownT, isSl, nSl, endL, Md.isOwn, purge, purgeH, purgeB, purgeE, hasName, name1, List.any_cons, List.any_nil, Md.isWr, pureV.pureP, Option.map, reduceIte, Nat.reduceEqDiff, Nat.reduceAdd, Nat.reduceMul, Nat.reduceLT, Nat.reduceLeDiff, List.mapM_cons, List.mapM_nil, Option.pure_def, Option.bind_eq_bind, Option.bind_some, implies_true, forall_const, beq_self_eq_true, decide_true, decide_false, eq_self, Int.reduceEq, Int.reduceLE, Int.reduceLT, if_true, if_false, grpK, Int.reduceAdd, Int.reduceSub, Int.reduceMul, Int.reduceNeg, Int.reducePow, Nat.reducePow, Int.reduceToNat, Nat.reduceSub, List.replicate, Nat.reduceBEq, wAs, wA, wC, zipW, noDupN, grpE, beq_true, beq_false, g_spec_l06Sizes, g_spec_l00In, g_spec_l06Bytes, ↓b_pick, ePk_true, ePk_false])
        | (refine eA_wk (wk_norm (ks := [0, 1, 6]) (ls := []) ?_) (eA_cast ?_ (sl15_0 y0 y1 _ _ _ _ (getD_some (d := default) (x := (l_spec_BytesOfWords_0 y0 y1 (Int.toNat (((List.length y0 : Nat) : Int) - 0) + 2) 0)) ?_) ?_ ?_)); (iterate 2 (simp only [nilS, nilV, normOk, optIn, blkIn, nameIn, normS, List.map_append, List.length_append, List.map_set, List.length_set, List.map_replicate, List.length_replicate, List.map_nil, List.map_cons,
          hp, grpA, vsliceS, grpS, grpD, grpF, grpL, eop, vop, bop, uop, fltop, convop, endOk, newE, new1, freshL, Md.isNew, outV, pureV, pureX, pure1, AV.cells, AV.one, storable, laid, refless, refless1, vload, loadC, storeC, vnil, vfaddr, vextract, flatT, flatE, flatC, vconv, vmm, vidxA, viaddrA, vfield, vlen, elemsOf, dF32, dF64, dI64, dU8, dBool, dStr, esOk, elemsS, vsliceX, bnd, ownV, ownC, own1, ownT, isSl, nSl, endL, Md.isOwn, purge, purgeH, purgeB, purgeE, hasName, name1, List.any_cons, List.any_nil, Md.isWr, pureV.pureP, Option.map, reduceIte, Nat.reduceEqDiff, Nat.reduceAdd, Nat.reduceMul, Nat.reduceLT, Nat.reduceLeDiff, List.mapM_cons, List.mapM_nil, Option.pure_def, Option.bind_eq_bind, Option.bind_some, implies_true, forall_const, beq_self_eq_true, decide_true, decide_false, eq_self, Int.reduceEq, Int.reduceLE, Int.reduceLT, if_true, if_false, grpK, Int.reduceAdd, Int.reduceSub, Int.reduceMul, Int.reduceNeg, Int.reducePow, Nat.reducePow, Int.reduceToNat, Nat.reduceSub, List.replicate, Nat.reduceBEq, wAs, wA, wC, zipW, noDupN, grpE, beq_true, beq_false, g_spec_l06Sizes, g_spec_l00In, g_spec_l06Bytes, ↓b_pick, ePk_true, ePk_false] <;> first | rfl | (simp only [Nat.add_comm]; done))); (simp only [hp]); (
        intro st2 ht hw; simp only [Kq_ret, Kb_ret, Kl_ret, ret_ok]; first | exact h0 _ hw | exact h0 _ rfl hw | exact h1 _ rfl hw | exact h0 _ ht hw | exact h1 _ ht hw | (simp only [ht, need_iff, reduceCtorEq, grpN, Int.reduceEq, Int.reduceLT, Int.reduceLE, if_true, if_false, reduceIte] at h; (repeat (replace h := And.right h)); cases h; first | exact h0 _ hw | exact h0 _ rfl hw | exact h1 _ rfl hw) | refine ⟨_, hw, ?_⟩); rotate_left; (
        intro st2 ht hw; (try simp only [ht, reduceCtorEq, grpN, Int.reduceEq, Int.reduceLT, Int.reduceLE, if_true, if_false, reduceIte] at hp); (try replace hp := And.intro ht hp); simp only [
Kq_exit, Kq_normal, Kq_ret, Kb_exit, Kb_normal, Kb_ret, Kl_exit, Kl_normal, Kl_ret, reduceIte, Nat.reduceEqDiff, if_true, if_false, eq_self]; refine KW_of hw ?_; simp only [ht, 
          hp, grpA, vsliceS, grpS, grpD, grpF, grpL, eop, vop, bop, uop, fltop, convop, endOk, newE, new1, freshL, Md.isNew, outV, pureV, pureX, pure1, AV.cells, AV.one, storable, laid, refless, refless1, vload, loadC, storeC, vnil, vfaddr, vextract, flatT, flatE, flatC, vconv, vmm, vidxA, viaddrA, vfield, vlen, elemsOf, dF32, dF64, dI64, dU8, dBool, dStr, esOk, elemsS, vsliceX, bnd, ownV, ownC, own1, ownT, isSl, nSl, endL, Md.isOwn, purge, purgeH, purgeB, purgeE, hasName, name1, List.any_cons, List.any_nil, Md.isWr, pureV.pureP, Option.map, reduceIte, Nat.reduceEqDiff, Nat.reduceAdd, Nat.reduceMul, Nat.reduceLT, Nat.reduceLeDiff, List.mapM_cons, List.mapM_nil, Option.pure_def, Option.bind_eq_bind, Option.bind_some, implies_true, forall_const, beq_self_eq_true, decide_true, decide_false, eq_self, Int.reduceEq, Int.reduceLE, Int.reduceLT, if_true, if_false, grpK, Int.reduceAdd, Int.reduceSub, Int.reduceMul, Int.reduceNeg, Int.reducePow, Nat.reducePow, Int.reduceToNat, Nat.reduceSub, List.replicate, Nat.reduceBEq, wAs, wA, wC, zipW, noDupN, grpE, beq_true, beq_false, g_spec_l06Sizes, g_spec_l00In, g_spec_l06Bytes, ↓b_pick, ePk_true, ePk_false])))
      all_goals (try simp only [*, m_spec_BytesOfWords, Bool.and_true, Bool.true_and, Bool.and_false, Bool.false_and, Bool.or_true, Bool.true_or, Bool.or_false, Bool.false_or, Bool.not_true, Bool.not_false, Bool.false_eq_true, if_true, if_false, reduceIte, decide_true, decide_false])
      all_goals (try (simp_all; done))
    · cases h
  · cases h
def l_impl_areSizes_0 (x0 : (List Int)) : Nat → Int → Option (Bool × Bool × Unit)
  | 0, _ => none
  | n + 1, z0_0 => (if (decide (z0_0 < ((List.length x0 : Nat) : Int))) = true then (need (inB z0_0 (List.length x0)) (if (decide ((atI x0 z0_0) < 1)) = true then (some (true, false, default)) else (if (decide (62 < (atI x0 z0_0))) = true then (some (true, false, default)) else (l_impl_areSizes_0 x0 n (IntKind.wrap .i64 (z0_0 + 1)))))) else (some (false, default, ())))
def m_impl_areSizes (x0 : (List Int)) : Bool := (if (Option.getD (l_impl_areSizes_0 x0 (Int.toNat (((List.length x0 : Nat) : Int) - 0) + 2) 0) default).1 = true then (Option.getD (l_impl_areSizes_0 x0 (Int.toNat (((List.length x0 : Nat) : Int) - 0) + 2) 0) default).2.1 else (decide (((List.length x0 : Nat) : Int) ≤ 512)))
def p_impl_areSizes (x0 : (List Int)) : Bool := (Option.isSome (l_impl_areSizes_0 x0 (Int.toNat (((List.length x0 : Nat) : Int) - 0) + 2) 0))
def g_impl_areSizes : List AV → Option AV
  | [.sl w0] => (match decL dI64 w0 with | some y0 => (if p_impl_areSizes y0 = true then some (.bool (m_impl_areSizes y0)) else none) | none => none)
  | _ => none
def lb42_0 : ICode := (.seq (.reg [⟨(some 8), none, (.bin .lss false (.t 7) (.t 6))⟩] [0, 5, 6, 7, 8]) (.seq (.cond (.t 8) .skip (.exit 0)) (.seq (.block 1 (.seq (.reg [⟨(some 9), none, (.iaddrS 1 (.t 5) (.t 7))⟩, ⟨(some 10), none, (.load none (.t 9))⟩, ⟨(some 4), none, (.mov (.t 10))⟩] [0, 4, 5, 6, 7]) (.seq (.reg [⟨(some 11), none, (.mov (.t 4))⟩, ⟨(some 12), none, (.bin .lss false (.t 11) (.c (.int .i64 1)))⟩, ⟨(some 13), none, (.mov (.t 12))⟩, ⟨(some 14), (some (13, false)), (.mov (.t 4))⟩, ⟨(some 15), (some (13, false)), (.bin .gtr false (.t 14) (.c (.int .i64 62)))⟩, ⟨(some 16), none, (.pick (.t 13) (.c (.bool true)) (.t 15))⟩] [0, 5, 6, 7, 16]) (.cond (.t 16) (.seq (.reg [⟨(some 2), none, (.mov (.c (.bool false)))⟩] [2]) .ret) .skip)))) (.reg [⟨(some 17), none, (.bin .add false (.t 7) (.c (.int .i64 1)))⟩, ⟨(some 7), none, (.mov (.t 17))⟩] [0, 5, 6, 7]))))
def ic42 : ICode := (.seq (.reg [⟨(some 2), none, (.mov (.c (.bool false)))⟩] [0]) (.seq (.seq (.reg [⟨(some 5), none, (.mov (.t 0))⟩, ⟨(some 6), none, (.len false (.t 5))⟩, ⟨(some 7), none, (.mov (.c (.int .i64 0)))⟩] [0, 5, 6, 7]) (.block 0 (.loop lb42_0))) (.seq (.reg [⟨(some 18), none, (.mov (.t 0))⟩, ⟨(some 19), none, (.len false (.t 18))⟩, ⟨(some 20), none, (.bin .leq false (.t 19) (.c (.int .i64 512)))⟩, ⟨(some 2), none, (.mov (.t 20))⟩] [2]) .ret)))
def cp42 : CP := CP.mk [] [] [[0], [0, 5, 6, 7], [0, 5, 6, 7, 8], [0, 4, 5, 6, 7], [0, 5, 6, 7, 16], [2], [0, 5, 6, 7], [2]] 21 [] []
theorem sl42_0 (x0 : (List Int)) : ∀ (n : Nat) (z0_0 : Int) (o : (Bool × Bool × Unit)) (K : IExit → St → Prop), l_impl_areSizes_0 x0 n z0_0 = some o → (∀ st, o.1 = true → outM .any st [(.t 2)] = some (.bool o.2.1) → K .ret st) → (∀ st, o.1 = false → Wk st (⟨[(0, (.sl (List.map (AV.int .i64) x0)))], []⟩ : St) → K (.exit 0) st) → eA (tabOf []) (.loop lb42_0) (⟨[(0, (.sl (List.map (AV.int .i64) x0))), (5, (.sl (List.map (AV.int .i64) x0))), (6, (.int .i64 ((List.length x0 : Nat) : Int))), (7, (.int .i64 z0_0))], []⟩ : St) K := by
  intro n
  induction n with
  | zero =>
    intro z0_0 o K h h0 h1
    simp only [l_impl_areSizes_0, reduceCtorEq] at h
  | succ n ih =>
    intro z0_0 o K h h0 h1
    refine eA_loop ?_
    unfold lb42_0
    unfold l_impl_areSizes_0 at h
    (try simp only [need_iff] at h)
    simp only [
      need_iff, h, grpA, vsliceS, grpS, grpD, grpF, grpL, eop, vop, bop, uop, fltop, convop, endOk, newE, new1, freshL, Md.isNew, outV, pureV, pureX, pure1, AV.cells, AV.one, storable, laid, refless, refless1, vload, loadC, storeC, vnil, vfaddr, vextract, flatT, flatE, flatC, vconv, vmm, vidxA, viaddrA, vfield, vlen, elemsOf, dF32, dF64, dI64, dU8, dBool, dStr, esOk, elemsS, vsliceX, bnd, ownV, ownC, own1, ownT, isSl, nSl, endL, Md.isOwn, purge, purgeH, purgeB, purgeE, hasName, name1, List.any_cons, List.any_nil, Md.isWr, pureV.pureP, Option.map, reduceIte, Nat.reduceEqDiff, Nat.reduceAdd, Nat.reduceMul, Nat.reduceLT, Nat.reduceLeDiff, List.mapM_cons, List.mapM_nil, Option.pure_def, Option.bind_eq_bind, Option.bind_some, implies_true, forall_const, beq_self_eq_true, decide_true, decide_false, eq_self, Int.reduceEq, Int.reduceLE, Int.reduceLT, if_true, if_false, grpK, Int.reduceAdd, Int.reduceSub, Int.reduceMul, Int.reduceNeg, Int.reducePow, Nat.reducePow, Int.reduceToNat, Nat.reduceSub, List.replicate, Nat.reduceBEq, wAs, wA, wC, zipW, noDupN, grpE, beq_true, beq_false, ↓b_pick, ePk_true, ePk_false]
    repeat' (first
      | ((first | (refine eGI_of (fun hc => ?_) (fun hc => ?_)) | (refine eCc_of (fun hc => ?_) (fun hc => ?_)) | (refine ePk_of (fun hc => ?_) (fun hc => ?_)) | (have hc := True.intro; refine KW_refl ?_)) <;> (try simp only [Bool.not_eq_true', Bool.not_eq_false'] at hc) <;> (try simp only [hc, need_iff, reduceCtorEq, grpN, Int.reduceEq, Int.reduceLT, Int.reduceLE, if_true, if_false, reduceIte] at h) <;> (first | (have hc2 := hc; simp only [decide_eq_true_eq, decide_eq_false_iff_not] at hc2; (first | (replace hc2 := eq_false hc2) | (replace hc2 := eq_true hc2)); (try simp only [hc2, need_iff, reduceCtorEq, grpN, Int.reduceEq, Int.reduceLT, Int.reduceLE, if_true, if_false, reduceIte] at h); replace h := And.intro hc2 h) | (replace h := And.intro hc h) | skip) <;> simp only [hc,
      need_iff, h, grpA, vsliceS, grpS, grpD, grpF, grpL, eop, vop, bop, uop, fltop, convop, endOk, newE, new1, freshL, Md.isNew, outV, pureV, pureX, pure1, AV.cells, AV.one, storable, laid, refless, refless1, vload, loadC, storeC, vnil, vfaddr, vextract, flatT, flatE, flatC, vconv, vmm, vidxA, viaddrA, vfield, vlen, elemsOf, dF32, dF64, dI64, dU8, dBool, dStr, esOk, elemsS, vsliceX, bnd, ownV, ownC, own1, ownT, isSl, nSl, endL, Md.isOwn, purge, purgeH, purgeB, purgeE, hasName, name1, List.any_cons, List.any_nil, Md.isWr, pureV.pureP, Option.map, reduceIte, Nat.reduceEqDiff, Nat.reduceAdd, Nat.reduceMul, Nat.reduceLT, Nat.reduceLeDiff, List.mapM_cons, List.mapM_nil, Option.pure_def, Option.bind_eq_bind, Option.bind_some, implies_true, forall_const, beq_self_eq_true, decide_true, decide_false, eq_self, Int.reduceEq, Int.reduceLE, Int.reduceLT, if_true, if_false, grpK, Int.reduceAdd, Int.reduceSub, Int.reduceMul, Int.reduceNeg, Int.reducePow, Nat.reducePow, Int.reduceToNat, Nat.reduceSub, List.replicate, Nat.reduceBEq, wAs, wA, wC, zipW, noDupN, grpE, beq_true, beq_false, ↓b_pick, ePk_true, ePk_false]))
    all_goals (have hf := h)
    all_goals (repeat (replace h := And.right h))
    all_goals ((first | (refine eA_wk (wk_norm (ks := [0, 5, 6, 7]) (ls := []) ?_) (eA_cast ?_ (ih _ _ _ h h0 h1))) | (cases h; have h := True.intro; refine h0 _ rfl ?_) | (cases h; have h := True.intro; refine h1 _ rfl (Wk.cast (wk_norm (ks := [0]) (ls := []) ?_) ?_))) <;> simp only [normOk, optIn, blkIn, nameIn, normS, List.map_append, List.length_append, List.map_set, List.length_set, List.map_replicate, List.length_replicate, List.map_nil, List.map_cons,
      need_iff, h, hf, grpA, vsliceS, grpS, grpD, grpF, grpL, eop, vop, bop, uop, fltop, convop, endOk, newE, new1, freshL, Md.isNew, outV, pureV, pureX, pure1, AV.cells, AV.one, storable, laid, refless, refless1, vload, loadC, storeC, vnil, vfaddr, vextract, flatT, flatE, flatC, vconv, vmm, vidxA, viaddrA, vfield, vlen, elemsOf, dF32, dF64, dI64, dU8, dBool, dStr, esOk, elemsS, vsliceX, bnd, ownV, ownC, own1, ownT, isSl, nSl, endL, Md.isOwn, purge, purgeH, purgeB, purgeE, hasName, name1, List.any_cons, List.any_nil, Md.isWr, pureV.pureP, Option.map, reduceIte, Nat.reduceEqDiff, Nat.reduceAdd, Nat.reduceMul, Nat.reduceLT, Nat.reduceLeDiff, List.mapM_cons, List.mapM_nil, Option.pure_def, Option.bind_eq_bind, Option.bind_some, implies_true, forall_const, beq_self_eq_true, decide_true, decide_false, eq_self, Int.reduceEq, Int.reduceLE, Int.reduceLT, if_true, if_false, grpK, Int.reduceAdd, Int.reduceSub, Int.reduceMul, Int.reduceNeg, Int.reducePow, Nat.reducePow, Int.reduceToNat, Nat.reduceSub, List.replicate, Nat.reduceBEq, wAs, wA, wC, zipW, noDupN, grpE, beq_true, beq_false, ↓b_pick, ePk_true, ePk_false] <;> first | rfl | (simp only [Nat.add_comm]; done))
theorem s42 : ∀ vs r, g_impl_areSizes vs = some r → SaysM Try.prog .any 42 vs r := by
  intro vs r h
  unfold g_impl_areSizes at h
  split at h
  · rename_i w0
    cases hd_y0 : decL dI64 w0 with
    | none => rw [hd_y0] at h; cases h
    | some y0 =>
    rw [hd_y0] at h
    obtain rfl := decL_inv dI64_inv hd_y0
    clear hd_y0
    dsimp only at h
    split at h
    · rename_i hp
      cases h
      refine spec_of (m := .any) (tab := tabOf []) (cp := cp42) (ic := ic42) (rvl := [(.t 2)]) hm tabOk_nil Try.func42 rfl rfl rfl (by kernel_rfl) rfl (Nat.le_of_ble_eq_true rfl) (Nat.le_of_ble_eq_true rfl) ?_
      show eA _ _ _ _
      unfold ic42
      simp only [p_impl_areSizes, Bool.and_eq_true, Bool.or_eq_true, decide_eq_true_eq, Bool.not_eq_true', decide_eq_false_iff_not] at hp
      refine eS_to ?_
      repeat' (first
        | ((first | (have h := True.intro; refine eS_of ?_) | (refine eGI_of (fun h => ?_) (fun h => ?_)) | (refine eCc_of (fun h => ?_) (fun h => ?_)) | (refine ePk_of (fun h => ?_) (fun h => ?_)) | (have h := True.intro; refine KW_refl ?_)) <;> (try simp only [Bool.not_eq_true', Bool.not_eq_false'] at h) <;> (try first | exact absurd (Eq.trans (Eq.symm h) (by assumption)) Bool.false_ne_true | exact absurd (Eq.trans (Eq.symm h) (by assumption)) (Ne.symm Bool.false_ne_true)) <;> (try simp only [h, reduceCtorEq, grpN, Int.reduceEq, Int.reduceLT, Int.reduceLE, if_true, if_false, reduceIte] at hp) <;> (first | (have h2 := h; simp only [decide_eq_true_eq, decide_eq_false_iff_not] at h2; (first | (replace h2 := eq_false h2) | (replace h2 := eq_true h2)); (try simp only [h2, reduceCtorEq, grpN, Int.reduceEq, Int.reduceLT, Int.reduceLE, if_true, if_false, reduceIte] at hp); replace hp := And.intro h2 hp) | (replace hp := And.intro h hp) | skip) <;> simp only [h,
          hp, grpA, vsliceS, grpS, grpD, grpF, grpL, eop, vop, bop, uop, fltop, convop, endOk, newE, new1, freshL, Md.isNew, outV, pureV, pureX, pure1, AV.cells, AV.one, storable, laid, refless, refless1, vload, loadC, storeC, vnil, vfaddr, vextract, flatT, flatE, flatC, vconv, vmm, vidxA, viaddrA, vfield, vlen, elemsOf, dF32, dF64, dI64, dU8, dBool, dStr, esOk, elemsS, vsliceX, bnd, ownV, ownC, own1, ownT, isSl, nSl, endL, Md.isOwn, purge, purgeH, purgeB, purgeE, hasName, name1, List.any_cons, List.any_nil, Md.isWr, pureV.pureP, Option.map, reduceIte, Nat.reduceEqDiff, Nat.reduceAdd, Nat.reduceMul, Nat.reduceLT, Nat.reduceLeDiff, List.mapM_cons, List.mapM_nil, Option.pure_def, Option.bind_eq_bind, Option.bind_some, implies_true, forall_const, beq_self_eq_true, decide_true, decide_false, eq_self, Int.reduceEq, Int.reduceLE, Int.reduceLT, if_true, if_false, grpK, Int.reduceAdd, Int.reduceSub, Int.reduceMul, Int.reduceNeg, Int.reducePow, Nat.reducePow, Int.reduceToNat, Nat.reduceSub, List.replicate, Nat.reduceBEq, wAs, wA, wC, zipW, noDupN, grpE, beq_true, beq_false, ↓b_pick, ePk_true, ePk_false])
        | (refine eA_wk (wk_norm (ks := [0, 5, 6, 7]) (ls := []) ?_) (eA_cast ?_ (sl42_0 y0 _ _ _ _ (getD_some (d := default) (x := (l_impl_areSizes_0 y0 (Int.toNat (((List.length y0 : Nat) : Int) - 0) + 2) 0)) ?_) ?_ ?_)); (iterate 2 (simp only [nilS, nilV, normOk, optIn, blkIn, nameIn, normS, List.map_append, List.length_append, List.map_set, List.length_set, List.map_replicate, List.length_replicate, List.map_nil, List.map_cons,
          hp, grpA, vsliceS, grpS, grpD, grpF, grpL, eop, vop, bop, uop, fltop, convop, endOk, newE, new1, freshL, Md.isNew, outV, pureV, pureX, pure1, AV.cells, AV.one, storable, laid, refless, refless1, vload, loadC, storeC, vnil, vfaddr, vextract, flatT, flatE, flatC, vconv, vmm, vidxA, viaddrA, vfield, vlen, elemsOf, dF32, dF64, dI64, dU8, dBool, dStr, esOk, elemsS, vsliceX, bnd, ownV, ownC, own1, ownT, isSl, nSl, endL, Md.isOwn, purge, purgeH, purgeB, purgeE, hasName, name1, List.any_cons, List.any_nil, Md.isWr, pureV.pureP, Option.map, reduceIte, Nat.reduceEqDiff, Nat.reduceAdd, Nat.reduceMul, Nat.reduceLT, Nat.reduceLeDiff, List.mapM_cons, List.mapM_nil, Option.pure_def, Option.bind_eq_bind, Option.bind_some, implies_true, forall_const, beq_self_eq_true, decide_true, decide_false, eq_self, Int.reduceEq, Int.reduceLE, Int.reduceLT, if_true, if_false, grpK, Int.reduceAdd, Int.reduceSub, Int.reduceMul, Int.reduceNeg, Int.reducePow, Nat.reducePow, Int.reduceToNat, Nat.reduceSub, List.replicate, Nat.reduceBEq, wAs, wA, wC, zipW, noDupN, grpE, beq_true, beq_false, ↓b_pick, ePk_true, ePk_false] <;> first | rfl | (simp only [Nat.add_comm]; done))); (simp only [hp]); (
        intro st2 ht hw; simp only [Kq_ret, Kb_ret, Kl_ret, ret_ok]; first | exact h0 _ hw | exact h0 _ rfl hw | exact h1 _ rfl hw | exact h0 _ ht hw | exact h1 _ ht hw | (simp only [ht, need_iff, reduceCtorEq, grpN, Int.reduceEq, Int.reduceLT, Int.reduceLE, if_true, if_false, reduceIte] at h; (repeat (replace h := And.right h)); cases h; first | exact h0 _ hw | exact h0 _ rfl hw | exact h1 _ rfl hw) | refine ⟨_, hw, ?_⟩); rotate_left; (
        intro st2 ht hw; (try simp only [ht, reduceCtorEq, grpN, Int.reduceEq, Int.reduceLT, Int.reduceLE, if_true, if_false, reduceIte] at hp); (try replace hp := And.intro ht hp); simp only [
Kq_exit, Kq_normal, Kq_ret, Kb_exit, Kb_normal, Kb_ret, Kl_exit, Kl_normal, Kl_ret, reduceIte, Nat.reduceEqDiff, if_true, if_false, eq_self]; refine KW_of hw ?_; simp only [ht, 
          hp, grpA, vsliceS, grpS, grpD, grpF, grpL, eop, vop, bop, uop, fltop, convop, endOk, newE, new1, freshL, Md.isNew, outV, pureV, pureX, pure1, AV.cells, AV.one, storable, laid, refless, refless1, vload, loadC, storeC, vnil, vfaddr, vextract, flatT, flatE, flatC, vconv, vmm, vidxA, viaddrA, vfield, vlen, elemsOf, dF32, dF64, dI64, dU8, dBool, dStr, esOk, elemsS, vsliceX, bnd, ownV, ownC, own1, ownT, isSl, nSl, endL, Md.isOwn, purge, purgeH, purgeB, purgeE, hasName, name1, List.any_cons, List.any_nil, Md.isWr, pureV.pureP, Option.map, reduceIte, Nat.reduceEqDiff, Nat.reduceAdd, Nat.reduceMul, Nat.reduceLT, Nat.reduceLeDiff, List.mapM_cons, List.mapM_nil, Option.pure_def, Option.bind_eq_bind, Option.bind_some, implies_true, forall_const, beq_self_eq_true, decide_true, decide_false, eq_self, Int.reduceEq, Int.reduceLE, Int.reduceLT, if_true, if_false, grpK, Int.reduceAdd, Int.reduceSub, Int.reduceMul, Int.reduceNeg, Int.reducePow, Nat.reducePow, Int.reduceToNat, Nat.reduceSub, List.replicate, Nat.reduceBEq, wAs, wA, wC, zipW, noDupN, grpE, beq_true, beq_false, ↓b_pick, ePk_true, ePk_false])))
      all_goals (try simp only [*, m_impl_areSizes, Bool.and_true, Bool.true_and, Bool.and_false, Bool.false_and, Bool.or_true, Bool.true_or, Bool.or_false, Bool.false_or, Bool.not_true, Bool.not_false, Bool.false_eq_true, if_true, if_false, reduceIte, decide_true, decide_false])
      all_goals (try (simp_all; done))
    · cases h
  · cases h
def v_impl_BytesOfWords_19 (x0 : (List Int)) (z0_1 : Int) (z0_2 : Int) (z1_2 : Int) : Int := (IntKind.wrap .u8 ((IntKind.wrap .u8 (bitop .and .i64 (Int.fdiv (atI x0 z1_2) (2 ^ (min (z0_2 : Int).toNat 64))) 1)) * 2 ^ (min ((IntKind.wrap .i64 (7 - (Int.tmod z0_1 8))) : Int).toNat 8)))
def l_impl_BytesOfWords_0 (x0 : (List Int)) (x1 : (List Int)) (z1_2 : Int) : Nat → (List Int) → Int → Int → Option (Int × (List Int))
  | 0, _, _, _ => none
  | n + 1, z0_0, z0_1, z0_2 => (if (decide (0 ≤ z0_2)) = true then (if (decide ((Int.tmod z0_1 8) = 0)) = true then (need (decide (((List.length z0_0) + 1) * 1 ≤ 17592186044416)) (need (decide ((List.length z0_0) + 1 ≤ 17592186044416)) (need (inB (IntKind.wrap .i64 (Int.tdiv z0_1 8)) ((List.length z0_0) + 1)) (need (decide (0 ≤ z0_2)) (need (decide (0 ≤ (IntKind.wrap .i64 (7 - (Int.tmod z0_1 8))))) (l_impl_BytesOfWords_0 x0 x1 z1_2 n (List.set (z0_0 ++ [0]) (Int.toNat (IntKind.wrap .i64 (Int.tdiv z0_1 8))) (bitop .or .u8 (atI (z0_0 ++ [0]) (IntKind.wrap .i64 (Int.tdiv z0_1 8))) (v_impl_BytesOfWords_19 x0 z0_1 z0_2 z1_2))) (IntKind.wrap .i64 (z0_1 + 1)) (IntKind.wrap .i64 (z0_2 - 1)))))))) else (need (inB (IntKind.wrap .i64 (Int.tdiv z0_1 8)) (List.length z0_0)) (need (decide (0 ≤ z0_2)) (need (decide (0 ≤ (IntKind.wrap .i64 (7 - (Int.tmod z0_1 8))))) (l_impl_BytesOfWords_0 x0 x1 z1_2 n (List.set z0_0 (Int.toNat (IntKind.wrap .i64 (Int.tdiv z0_1 8))) (bitop .or .u8 (atI z0_0 (IntKind.wrap .i64 (Int.tdiv z0_1 8))) (v_impl_BytesOfWords_19 x0 z0_1 z0_2 z1_2))) (IntKind.wrap .i64 (z0_1 + 1)) (IntKind.wrap .i64 (z0_2 - 1))))))) else (some (z0_1, z0_0)))
def l_impl_BytesOfWords_1 (x0 : (List Int)) (x1 : (List Int)) : Nat → (List Int) → Int → Int → Option (Bool × ((List UInt8) × Bool) × (List Int))
  | 0, _, _, _ => none
  | n + 1, z1_0, z1_1, z1_2 => (if (decide (z1_2 < ((List.length x0 : Nat) : Int))) = true then (need (inB z1_2 (List.length x0)) (if (decide ((atI x0 z1_2) < 0)) = true then (some (true, (([] : List UInt8), false), default)) else (need (inB z1_2 (List.length x1)) (need (decide (0 ≤ (atI x1 z1_2))) (if (decide ((IntKind.wrap .i64 (1 * 2 ^ (min ((atI x1 z1_2) : Int).toNat 64))) ≤ (atI x0 z1_2))) = true then (some (true, (([] : List UInt8), false), default)) else (need (Option.isSome (l_impl_BytesOfWords_0 x0 x1 z1_2 (Int.toNat (IntKind.wrap .i64 ((atI x1 z1_2) - 1)) + 2) z1_0 z1_1 (IntKind.wrap .i64 ((atI x1 z1_2) - 1)))) (l_impl_BytesOfWords_1 x0 x1 n (Option.getD (l_impl_BytesOfWords_0 x0 x1 z1_2 (Int.toNat (IntKind.wrap .i64 ((atI x1 z1_2) - 1)) + 2) z1_0 z1_1 (IntKind.wrap .i64 ((atI x1 z1_2) - 1))) default).2 (Option.getD (l_impl_BytesOfWords_0 x0 x1 z1_2 (Int.toNat (IntKind.wrap .i64 ((atI x1 z1_2) - 1)) + 2) z1_0 z1_1 (IntKind.wrap .i64 ((atI x1 z1_2) - 1))) default).1 (IntKind.wrap .i64 (z1_2 + 1))))))))) else (some (false, default, z1_0)))
def m_impl_BytesOfWords (x0 : (List Int)) (x1 : (List Int)) : ((List UInt8) × Bool) := (if (decide (((List.length x0 : Nat) : Int) = ((List.length x1 : Nat) : Int))) = true then (if (m_impl_areSizes x1) = true then (if (Option.getD (l_impl_BytesOfWords_1 x0 x1 (Int.toNat (((List.length x0 : Nat) : Int) - 0) + 2) [] 0 0) default).1 = true then (Option.getD (l_impl_BytesOfWords_1 x0 x1 (Int.toNat (((List.length x0 : Nat) : Int) - 0) + 2) [] 0 0) default).2.1 else ((List.map b8 (Option.getD (l_impl_BytesOfWords_1 x0 x1 (Int.toNat (((List.length x0 : Nat) : Int) - 0) + 2) [] 0 0) default).2.2), true)) else (([] : List UInt8), false)) else (([] : List UInt8), false))
def p_impl_BytesOfWords (x0 : (List Int)) (x1 : (List Int)) : Bool := (!(decide (((List.length x0 : Nat) : Int) = ((List.length x1 : Nat) : Int))) || ((p_impl_areSizes x1) && (!(m_impl_areSizes x1) || (Option.isSome (l_impl_BytesOfWords_1 x0 x1 (Int.toNat (((List.length x0 : Nat) : Int) - 0) + 2) [] 0 0)))))
def g_impl_BytesOfWords : List AV → Option AV
  | [.sl w0, .sl w1] => (match decL dI64 w0 with | some y0 => ((match decL dI64 w1 with | some y1 => (if p_impl_BytesOfWords y0 y1 = true then some (AV.tup [(.str (m_impl_BytesOfWords y0 y1).1), (.bool (m_impl_BytesOfWords y0 y1).2)]) else none) | none => none)) | none => none)
  | _ => none
def lb13_0 : ICode := (.seq (.seq (.reg [⟨(some 44), none, (.mov (.t 10))⟩, ⟨(some 45), none, (.bin .geq false (.t 44) (.c (.int .i64 0)))⟩] [1, 6, 7, 9, 10, 21, 22, 23, 45]) (.cond (.t 45) .skip (.exit 2))) (.seq (.block 3 (.seq (.seq (.reg [⟨(some 48), none, (.mov (.t 7))⟩, ⟨(some 49), none, (.bin .rem false (.t 48) (.c (.int .i64 8)))⟩, ⟨(some 50), none, (.bin .eql false (.t 49) (.c (.int .i64 0)))⟩] [1, 6, 7, 9, 10, 21, 22, 23, 50]) (.cond (.t 50) (.reg [⟨(some 51), none, (.mov (.t 6))⟩, ⟨(some 52), none, (.bslice 1 1 (.int .u8 0) [(0, (.c (.int .u8 0)))])⟩, ⟨(some 53), none, (.append 1 1 (.t 51) (.t 52))⟩, ⟨(some 6), none, (.mov (.t 53))⟩] [1, 6, 7, 9, 10, 21, 22, 23]) .skip)) (.seq (.reg [⟨(some 54), none, (.mov (.t 6))⟩, ⟨(some 55), none, (.mov (.t 7))⟩, ⟨(some 56), none, (.bin .quo false (.t 55) (.c (.int .i64 8)))⟩, ⟨(some 57), none, (.iaddrS 1 (.t 54) (.t 56))⟩, ⟨(some 58), none, (.load none (.t 57))⟩, ⟨(some 59), none, (.mov (.t 9))⟩, ⟨(some 60), none, (.mov (.t 10))⟩, ⟨(some 61), none, (.bin .shr false (.t 59) (.t 60))⟩, ⟨(some 62), none, (.bin .and false (.t 61) (.c (.int .i64 1)))⟩, ⟨(some 63), none, (.conv (.int .u8) (.t 62))⟩, ⟨(some 64), none, (.mov (.t 7))⟩, ⟨(some 65), none, (.bin .rem false (.t 64) (.c (.int .i64 8)))⟩, ⟨(some 66), none, (.bin .sub false (.c (.int .i64 7)) (.t 65))⟩, ⟨(some 67), none, (.bin .shl false (.t 63) (.t 66))⟩, ⟨(some 68), none, (.bin .or false (.t 58) (.t 67))⟩, ⟨(some 69), none, (.iaddrS 1 (.t 54) (.t 56))⟩, ⟨none, none, (.store 1 (.t 69) (.t 68))⟩] [1, 6, 7, 9, 10, 21, 22, 23]) (.reg [⟨(some 70), none, (.mov (.t 7))⟩, ⟨(some 71), none, (.bin .add false (.t 70) (.c (.int .i64 1)))⟩, ⟨(some 7), none, (.mov (.t 71))⟩] [1, 6, 7, 9, 10, 21, 22, 23])))) (.reg [⟨(some 46), none, (.mov (.t 10))⟩, ⟨(some 47), none, (.bin .sub false (.t 46) (.c (.int .i64 1)))⟩, ⟨(some 10), none, (.mov (.t 47))⟩] [1, 6, 7, 9, 10, 21, 22, 23])))
def lb13_1 : ICode := (.seq (.reg [⟨(some 24), none, (.bin .lss false (.t 23) (.t 22))⟩] [1, 6, 7, 21, 22, 23, 24]) (.seq (.cond (.t 24) .skip (.exit 0)) (.seq (.block 1 (.seq (.reg [⟨(some 25), none, (.mov (.t 23))⟩, ⟨(some 26), none, (.iaddrS 1 (.t 21) (.t 23))⟩, ⟨(some 27), none, (.load none (.t 26))⟩, ⟨(some 8), none, (.mov (.t 25))⟩, ⟨(some 9), none, (.mov (.t 27))⟩] [1, 6, 7, 8, 9, 21, 22, 23]) (.seq (.seq (.reg [⟨(some 28), none, (.mov (.t 9))⟩, ⟨(some 29), none, (.bin .lss false (.t 28) (.c (.int .i64 0)))⟩, ⟨(some 30), none, (.mov (.t 29))⟩, ⟨(some 31), (some (30, false)), (.mov (.t 9))⟩, ⟨(some 32), (some (30, false)), (.mov (.t 1))⟩, ⟨(some 33), (some (30, false)), (.mov (.t 8))⟩, ⟨(some 34), (some (30, false)), (.iaddrS 1 (.t 32) (.t 33))⟩, ⟨(some 35), (some (30, false)), (.load none (.t 34))⟩, ⟨(some 36), (some (30, false)), (.bin .shl false (.c (.int .i64 1)) (.t 35))⟩, ⟨(some 37), (some (30, false)), (.bin .geq false (.t 31) (.t 36))⟩, ⟨(some 38), none, (.pick (.t 30) (.c (.bool true)) (.t 37))⟩] [1, 6, 7, 8, 9, 21, 22, 23, 38]) (.cond (.t 38) (.seq (.reg [⟨(some 4), none, (.mov (.c (.str [])))⟩, ⟨(some 5), none, (.mov (.c (.bool false)))⟩] [4, 5]) .ret) .skip)) (.seq (.reg [⟨(some 39), none, (.mov (.t 1))⟩, ⟨(some 40), none, (.mov (.t 8))⟩, ⟨(some 41), none, (.iaddrS 1 (.t 39) (.t 40))⟩, ⟨(some 42), none, (.load none (.t 41))⟩, ⟨(some 43), none, (.bin .sub false (.t 42) (.c (.int .i64 1)))⟩, ⟨(some 10), none, (.mov (.t 43))⟩] [1, 6, 7, 9, 10, 21, 22, 23]) (.block 2 (.loop lb13_0)))))) (.reg [⟨(some 72), none, (.bin .add false (.t 23) (.c (.int .i64 1)))⟩, ⟨(some 23), none, (.mov (.t 72))⟩] [1, 6, 7, 21, 22, 23]))))
def ic13 : ICode := (.seq (.reg [⟨(some 4), none, (.mov (.c (.str [])))⟩, ⟨(some 5), none, (.mov (.c (.bool false)))⟩] [0, 1]) (.seq (.seq (.reg [⟨(some 11), none, (.mov (.t 0))⟩, ⟨(some 12), none, (.len false (.t 11))⟩, ⟨(some 13), none, (.mov (.t 1))⟩, ⟨(some 14), none, (.len false (.t 13))⟩, ⟨(some 15), none, (.bin .neq false (.t 12) (.t 14))⟩, ⟨(some 16), none, (.mov (.t 15))⟩, ⟨(some 17), (some (16, false)), (.mov (.t 1))⟩, ⟨(some 18), (some (16, false)), (.call (.fn 42) [(.t 17)] [])⟩, ⟨(some 19), (some (16, false)), (.un .not (.t 18))⟩, ⟨(some 20), none, (.pick (.t 16) (.c (.bool true)) (.t 19))⟩] [0, 1, 20]) (.cond (.t 20) (.seq (.reg [⟨(some 4), none, (.mov (.c (.str [])))⟩, ⟨(some 5), none, (.mov (.c (.bool false)))⟩] [4, 5]) .ret) .skip)) (.seq (.reg [⟨(some 6), none, (.mov (.c .snil))⟩] [0, 1, 6]) (.seq (.reg [⟨(some 7), none, (.mov (.c (.int .i64 0)))⟩] [0, 1, 6, 7]) (.seq (.seq (.reg [⟨(some 21), none, (.mov (.t 0))⟩, ⟨(some 22), none, (.len false (.t 21))⟩, ⟨(some 23), none, (.mov (.c (.int .i64 0)))⟩] [1, 6, 7, 21, 22, 23]) (.block 0 (.loop lb13_1))) (.seq (.reg [⟨(some 73), none, (.mov (.t 6))⟩, ⟨(some 74), none, (.conv .str (.t 73))⟩, ⟨(some 4), none, (.mov (.t 74))⟩, ⟨(some 5), none, (.mov (.c (.bool true)))⟩] [4, 5]) .ret))))))
def cp13 : CP := CP.mk [] [] [[0, 1], [0, 1, 20], [4, 5], [0, 1, 6], [0, 1, 6, 7], [1, 6, 7, 21, 22, 23], [1, 6, 7, 21, 22, 23, 24], [1, 6, 7, 8, 9, 21, 22, 23], [1, 6, 7, 8, 9, 21, 22, 23, 38], [4, 5], [1, 6, 7, 9, 10, 21, 22, 23], [1, 6, 7, 9, 10, 21, 22, 23, 45], [1, 6, 7, 9, 10, 21, 22, 23], [1, 6, 7, 9, 10, 21, 22, 23, 50], [1, 6, 7, 9, 10, 21, 22, 23], [1, 6, 7, 9, 10, 21, 22, 23], [1, 6, 7, 9, 10, 21, 22, 23], [1, 6, 7, 21, 22, 23], [4, 5]] 75 [] []
theorem sl13_0 (x0 : (List Int)) (x1 : (List Int)) (z1_2 : Int) : ∀ (n : Nat) (z0_0 : (List Int)) (z0_1 : Int) (z0_2 : Int) (o : (Int × (List Int))) (K : IExit → St → Prop), l_impl_BytesOfWords_0 x0 x1 z1_2 n z0_0 z0_1 z0_2 = some o → (∀ st, Wk st (⟨[(1, (.sl (List.map (AV.int .i64) x1))), (6, (.lsl 9006 0 (List.length o.2))), (7, (.int .i64 o.1)), (21, (.sl (List.map (AV.int .i64) x0))), (22, (.int .i64 ((List.length x0 : Nat) : Int))), (23, (.int .i64 z1_2))], [(9006, (some ⟨1, true, (List.map (AV.int .u8) o.2)⟩))]⟩ : St) → K (.exit 2) st) → eA (tabOf [(42, wM .any g_impl_areSizes)]) (.loop lb13_0) (⟨[(1, (.sl (List.map (AV.int .i64) x1))), (6, (.lsl 9006 0 (List.length z0_0))), (7, (.int .i64 z0_1)), (9, (.int .i64 (atI x0 z1_2))), (10, (.int .i64 z0_2)), (21, (.sl (List.map (AV.int .i64) x0))), (22, (.int .i64 ((List.length x0 : Nat) : Int))), (23, (.int .i64 z1_2))], [(9006, (some ⟨1, true, (List.map (AV.int .u8) z0_0)⟩))]⟩ : St) K := by
  intro n
  induction n with
  | zero =>
    intro z0_0 z0_1 z0_2 o K h h0
    simp only [l_impl_BytesOfWords_0, reduceCtorEq] at h
  | succ n ih =>
    intro z0_0 z0_1 z0_2 o K h h0
    refine eA_loop ?_
    unfold lb13_0
    unfold l_impl_BytesOfWords_0 at h
    (try simp only [need_iff, v_impl_BytesOfWords_19] at h)
    simp only [
      need_iff, h, grpA, vsliceS, grpS, grpD, grpF, grpL, eop, vop, bop, uop, fltop, convop, endOk, newE, new1, freshL, Md.isNew, outV, pureV, pureX, pure1, AV.cells, AV.one, storable, laid, refless, refless1, vload, loadC, storeC, vnil, vfaddr, vextract, flatT, flatE, flatC, vconv, vmm, vidxA, viaddrA, vfield, vlen, elemsOf, dF32, dF64, dI64, dU8, dBool, dStr, esOk, elemsS, vsliceX, bnd, ownV, ownC, own1, ownT, isSl, nSl, endL, Md.isOwn, purge, purgeH, purgeB, purgeE, hasName, name1, List.any_cons, List.any_nil, Md.isWr, pureV.pureP, Option.map, reduceIte, Nat.reduceEqDiff, Nat.reduceAdd, Nat.reduceMul, Nat.reduceLT, Nat.reduceLeDiff, List.mapM_cons, List.mapM_nil, Option.pure_def, Option.bind_eq_bind, Option.bind_some, implies_true, forall_const, beq_self_eq_true, decide_true, decide_false, eq_self, Int.reduceEq, Int.reduceLE, Int.reduceLT, if_true, if_false, grpK, Int.reduceAdd, Int.reduceSub, Int.reduceMul, Int.reduceNeg, Int.reducePow, Nat.reducePow, Int.reduceToNat, Nat.reduceSub, List.replicate, Nat.reduceBEq, wAs, wA, wC, zipW, noDupN, grpE, beq_true, beq_false, g_impl_areSizes, ↓b_pick, ePk_true, ePk_false]
    repeat' (first
      | ((first | (refine eGI_of (fun hc => ?_) (fun hc => ?_)) | (refine eCc_of (fun hc => ?_) (fun hc => ?_)) | (refine ePk_of (fun hc => ?_) (fun hc => ?_)) | (have hc := True.intro; refine KW_refl ?_)) <;> (try simp only [Bool.not_eq_true', Bool.not_eq_false'] at hc) <;> (try simp only [hc, need_iff, reduceCtorEq, grpN, Int.reduceEq, Int.reduceLT, Int.reduceLE, if_true, if_false, reduceIte] at h) <;> (first | (have hc2 := hc; simp only [decide_eq_true_eq, decide_eq_false_iff_not] at hc2; (first | (replace hc2 := eq_false hc2) | (replace hc2 := eq_true hc2)); (try simp only [hc2, need_iff, reduceCtorEq, grpN, Int.reduceEq, Int.reduceLT, Int.reduceLE, if_true, if_false, reduceIte] at h); replace h := And.intro hc2 h) | (replace h := And.intro hc h) | skip) <;> simp only [hc,
      need_iff, h, grpA, vsliceS, grpS, grpD, grpF, grpL, eop, vop, bop, uop, fltop, convop, endOk, newE, new1, freshL, Md.isNew, outV, pureV, pureX, pure1, AV.cells, AV.one, storable, laid, refless, refless1, vload, loadC, storeC, vnil, vfaddr, vextract, flatT, flatE, flatC, vconv, vmm, vidxA, viaddrA, vfield, vlen, elemsOf, dF32, dF64, dI64, dU8, dBool, dStr, esOk, elemsS, vsliceX, bnd, ownV, ownC, own1, ownT, isSl, nSl, endL, Md.isOwn, purge, purgeH, purgeB, purgeE, hasName, name1, List.any_cons, List.any_nil, Md.isWr, pureV.pureP, Option.map, reduceIte, Nat.reduceEqDiff, Nat.reduceAdd, Nat.reduceMul, Nat.reduceLT, Nat.reduceLeDiff, List.mapM_cons, List.mapM_nil, Option.pure_def, Option.bind_eq_bind, Option.bind_some, implies_true, forall_const, beq_self_eq_true, decide_true, decide_false, eq_self, Int.reduceEq, Int.reduceLE, Int.reduceLT, if_true, if_false, grpK, Int.reduceAdd, Int.reduceSub, Int.reduceMul, Int.reduceNeg, Int.reducePow, Nat.reducePow, Int.reduceToNat, Nat.reduceSub, List.replicate, Nat.reduceBEq, wAs, wA, wC, zipW, noDupN, grpE, beq_true, beq_false, g_impl_areSizes, ↓b_pick, ePk_true, ePk_false]))
    all_goals (have hf := h)
    all_goals (repeat (replace h := And.right h))
    all_goals ((first | (refine eA_wk (wk_norm (ks := [1, 6, 7, 9, 10, 21, 22, 23]) (ls := [9006]) ?_) (eA_cast ?_ (ih _ _ _ _ _ h h0))) | (cases h; have h := True.intro; refine h0 _ (Wk.cast (wk_norm (ks := [1, 6, 7, 21, 22, 23]) (ls := [9006]) ?_) ?_))) <;> simp only [normOk, optIn, blkIn, nameIn, normS, List.map_append, List.length_append, List.map_set, List.length_set, List.map_replicate, List.length_replicate, List.map_nil, List.map_cons,
      need_iff, h, hf, grpA, vsliceS, grpS, grpD, grpF, grpL, eop, vop, bop, uop, fltop, convop, endOk, newE, new1, freshL, Md.isNew, outV, pureV, pureX, pure1, AV.cells, AV.one, storable, laid, refless, refless1, vload, loadC, storeC, vnil, vfaddr, vextract, flatT, flatE, flatC, vconv, vmm, vidxA, viaddrA, vfield, vlen, elemsOf, dF32, dF64, dI64, dU8, dBool, dStr, esOk, elemsS, vsliceX, bnd, ownV, ownC, own1, ownT, isSl, nSl, endL, Md.isOwn, purge, purgeH, purgeB, purgeE, hasName, name1, List.any_cons, List.any_nil, Md.isWr, pureV.pureP, Option.map, reduceIte, Nat.reduceEqDiff, Nat.reduceAdd, Nat.reduceMul, Nat.reduceLT, Nat.reduceLeDiff, List.mapM_cons, List.mapM_nil, Option.pure_def, Option.bind_eq_bind, Option.bind_some, implies_true, forall_const, beq_self_eq_true, decide_true, decide_false, eq_self, Int.reduceEq, Int.reduceLE, Int.reduceLT, if_true, if_false, grpK, Int.reduceAdd, Int.reduceSub, Int.reduceMul, Int.reduceNeg, Int.reducePow, Nat.reducePow, Int.reduceToNat, Nat.reduceSub, List.replicate, Nat.reduceBEq, wAs, wA, wC, zipW, noDupN, grpE, beq_true, beq_false, g_impl_areSizes, ↓b_pick, ePk_true, ePk_false] <;> first | rfl | (simp only [Nat.add_comm]; done))
theorem sl13_1 (x0 : (List Int)) (x1 : (List Int)) : ∀ (n : Nat) (z1_0 : (List Int)) (z1_1 : Int) (z1_2 : Int) (o : (Bool × ((List UInt8) × Bool) × (List Int))) (K : IExit → St → Prop), l_impl_BytesOfWords_1 x0 x1 n z1_0 z1_1 z1_2 = some o → (∀ st, o.1 = true → outM .any st [(.t 4), (.t 5)] = some (AV.tup [(.str o.2.1.1), (.bool o.2.1.2)]) → K .ret st) → (∀ st, o.1 = false → Wk st (⟨[(6, (.lsl 9006 0 (List.length o.2.2)))], [(9006, (some ⟨1, true, (List.map (AV.int .u8) o.2.2)⟩))]⟩ : St) → K (.exit 0) st) → eA (tabOf [(42, wM .any g_impl_areSizes)]) (.loop lb13_1) (⟨[(1, (.sl (List.map (AV.int .i64) x1))), (6, (.lsl 9006 0 (List.length z1_0))), (7, (.int .i64 z1_1)), (21, (.sl (List.map (AV.int .i64) x0))), (22, (.int .i64 ((List.length x0 : Nat) : Int))), (23, (.int .i64 z1_2))], [(9006, (some ⟨1, true, (List.map (AV.int .u8) z1_0)⟩))]⟩ : St) K := by
  intro n
  induction n with
  | zero =>
    intro z1_0 z1_1 z1_2 o K h h0 h1
    simp only [l_impl_BytesOfWords_1, reduceCtorEq] at h
  | succ n ih =>
    intro z1_0 z1_1 z1_2 o K h h0 h1
    refine eA_loop ?_
    unfold lb13_1
    unfold l_impl_BytesOfWords_1 at h
    (try simp only [need_iff, v_impl_BytesOfWords_19] at h)
    simp only [
      need_iff, h, grpA, vsliceS, grpS, grpD, grpF, grpL, eop, vop, bop, uop, fltop, convop, endOk, newE, new1, freshL, Md.isNew, outV, pureV, pureX, pure1, AV.cells, AV.one, storable, laid, refless, refless1, vload, loadC, storeC, vnil, vfaddr, vextract, flatT, flatE, flatC, vconv, vmm, vidxA, viaddrA, vfield, vlen, elemsOf, dF32, dF64, dI64, dU8, dBool, dStr, esOk, elemsS, vsliceX, bnd, ownV, ownC, own1, ownT, isSl, nSl, endL, Md.isOwn, purge, purgeH, purgeB, purgeE, hasName, name1, List.any_cons, List.any_nil, Md.isWr, pureV.pureP, Option.map, reduceIte, Nat.reduceEqDiff, Nat.reduceAdd, Nat.reduceMul, Nat.reduceLT, Nat.reduceLeDiff, List.mapM_cons, List.mapM_nil, Option.pure_def, Option.bind_eq_bind, Option.bind_some, implies_true, forall_const, beq_self_eq_true, decide_true, decide_false, eq_self, Int.reduceEq, Int.reduceLE, Int.reduceLT, if_true, if_false, grpK, Int.reduceAdd, Int.reduceSub, Int.reduceMul, Int.reduceNeg, Int.reducePow, Nat.reducePow, Int.reduceToNat, Nat.reduceSub, List.replicate, Nat.reduceBEq, wAs, wA, wC, zipW, noDupN, grpE, beq_true, beq_false, g_impl_areSizes, ↓b_pick, ePk_true, ePk_false]
    repeat' (first
      | ((first | (refine eGI_of (fun hc => ?_) (fun hc => ?_)) | (refine eCc_of (fun hc => ?_) (fun hc => ?_)) | (refine ePk_of (fun hc => ?_) (fun hc => ?_)) | (have hc := True.intro; refine KW_refl ?_)) <;> (try simp only [Bool.not_eq_true', Bool.not_eq_false'] at hc) <;> (try simp only [hc, need_iff, reduceCtorEq, grpN, Int.reduceEq, Int.reduceLT, Int.reduceLE, if_true, if_false, reduceIte] at h) <;> (first | (have hc2 := hc; simp only [decide_eq_true_eq, decide_eq_false_iff_not] at hc2; (first | (replace hc2 := eq_false hc2) | (replace hc2 := eq_true hc2)); (try simp only [hc2, need_iff, reduceCtorEq, grpN, Int.reduceEq, Int.reduceLT, Int.reduceLE, if_true, if_false, reduceIte] at h); replace h := And.intro hc2 h) | (replace h := And.intro hc h) | skip) <;> simp only [hc,
      need_iff, h, grpA, vsliceS, grpS, grpD, grpF, grpL, eop, vop, bop, uop, fltop, convop, endOk, newE, new1, freshL, Md.isNew, outV, pureV, pureX, pure1, AV.cells, AV.one, storable, laid, refless, refless1, vload, loadC, storeC, vnil, vfaddr, vextract, flatT, flatE, flatC, vconv, vmm, vidxA, viaddrA, vfield, vlen, elemsOf, dF32, dF64, dI64, dU8, dBool, dStr, esOk, elemsS, vsliceX, bnd, ownV, ownC, own1, ownT, isSl, nSl, endL, Md.isOwn, purge, purgeH, purgeB, purgeE, hasName, name1, List.any_cons, List.any_nil, Md.isWr, pureV.pureP, Option.map, reduceIte, Nat.reduceEqDiff, Nat.reduceAdd, Nat.reduceMul, Nat.reduceLT, Nat.reduceLeDiff, List.mapM_cons, List.mapM_nil, Option.pure_def, Option.bind_eq_bind, Option.bind_some, implies_true, forall_const, beq_self_eq_true, decide_true, decide_false, eq_self, Int.reduceEq, Int.reduceLE, Int.reduceLT, if_true, if_false, grpK, Int.reduceAdd, Int.reduceSub, Int.reduceMul, Int.reduceNeg, Int.reducePow, Nat.reducePow, Int.reduceToNat, Nat.reduceSub, List.replicate, Nat.reduceBEq, wAs, wA, wC, zipW, noDupN, grpE, beq_true, beq_false, g_impl_areSizes, ↓b_pick, ePk_true, ePk_false])
      | (refine eA_wk (wk_norm (ks := [1, 6, 7, 9, 10, 21, 22, 23]) (ls := [9006]) ?_) (eA_cast ?_ (sl13_0 x0 x1 z1_2 _ _ _ _ _ _ (getD_some (d := default) (x := (l_impl_BytesOfWords_0 x0 x1 z1_2 (Int.toNat (IntKind.wrap .i64 ((atI x1 z1_2) - 1)) + 2) z1_0 z1_1 (IntKind.wrap .i64 ((atI x1 z1_2) - 1)))) ?_) ?_)); (iterate 2 (simp only [nilS, nilV, normOk, optIn, blkIn, nameIn, normS, List.map_append, List.length_append, List.map_set, List.length_set, List.map_replicate, List.length_replicate, List.map_nil, List.map_cons,
      need_iff, h, grpA, vsliceS, grpS, grpD, grpF, grpL, eop, vop, bop, uop, fltop, convop, endOk, newE, new1, freshL, Md.isNew, outV, pureV, pureX, pure1, AV.cells, AV.one, storable, laid, refless, refless1, vload, loadC, storeC, vnil, vfaddr, vextract, flatT, flatE, flatC, vconv, vmm, vidxA, viaddrA, vfield, vlen, elemsOf, dF32, dF64, dI64, dU8, dBool, dStr, esOk, elemsS, vsliceX, bnd, ownV, ownC, own1, ownT, isSl, nSl, endL, Md.isOwn, purge, purgeH, purgeB, purgeE, hasName, name1, List.any_cons, List.any_nil, Md.isWr, pureV.pureP, Option.map, reduceIte, Nat.reduceEqDiff, Nat.reduceAdd, Nat.reduceMul, Nat.reduceLT, Nat.reduceLeDiff, List.mapM_cons, List.mapM_nil, Option.pure_def, Option.bind_eq_bind, Option.bind_some, implies_true, forall_const, beq_self_eq_true, decide_true, decide_false, eq_self, Int.reduceEq, Int.reduceLE, Int.reduceLT, if_true, if_false, grpK, Int.reduceAdd, Int.reduceSub, Int.reduceMul, Int.reduceNeg, Int.reducePow, Nat.reducePow, Int.reduceToNat, Nat.reduceSub, List.replicate, Nat.reduceBEq, wAs, wA, wC, zipW, noDupN, grpE, beq_true, beq_false, g_impl_areSizes, ↓b_pick, ePk_true, ePk_false] <;> first | rfl | (simp only [Nat.add_comm]; done))); (simp only [h]); (
        intro st2 hw; (try simp only [reduceCtorEq, grpN, Int.reduceEq, Int.reduceLT, Int.reduceLE, if_true, if_false, reduceIte] at h); (try replace h := And.intro ht h); simp only [
Kq_exit, Kq_normal, Kq_ret, Kb_exit, Kb_normal, Kb_ret, Kl_exit, Kl_normal, Kl_ret, reduceIte, Nat.reduceEqDiff, if_true, if_false, eq_self]; refine KW_of hw ?_; simp only [
      need_iff, h, grpA, vsliceS, grpS, grpD, grpF, grpL, eop, vop, bop, uop, fltop, convop, endOk, newE, new1, freshL, Md.isNew, outV, pureV, pureX, pure1, AV.cells, AV.one, storable, laid, refless, refless1, vload, loadC, storeC, vnil, vfaddr, vextract, flatT, flatE, flatC, vconv, vmm, vidxA, viaddrA, vfield, vlen, elemsOf, dF32, dF64, dI64, dU8, dBool, dStr, esOk, elemsS, vsliceX, bnd, ownV, ownC, own1, ownT, isSl, nSl, endL, Md.isOwn, purge, purgeH, purgeB, purgeE, hasName, name1, List.any_cons, List.any_nil, Md.isWr, pureV.pureP, Option.map, reduceIte, Nat.reduceEqDiff, Nat.reduceAdd, Nat.reduceMul, Nat.reduceLT, Nat.reduceLeDiff, List.mapM_cons, List.mapM_nil, Option.pure_def, Option.bind_eq_bind, Option.bind_some, implies_true, forall_const, beq_self_eq_true, decide_true, decide_false, eq_self, Int.reduceEq, Int.reduceLE, Int.reduceLT, if_true, if_false, grpK, Int.reduceAdd, Int.reduceSub, Int.reduceMul, Int.reduceNeg, Int.reducePow, Nat.reducePow, Int.reduceToNat, Nat.reduceSub, List.replicate, Nat.reduceBEq, wAs, wA, wC, zipW, noDupN, grpE, beq_true, beq_false, g_impl_areSizes, ↓b_pick, ePk_true, ePk_false])))
    all_goals (have hf := h)
    all_goals (repeat (replace h := And.right h))
    all_goals ((first | (refine eA_wk (wk_norm (ks := [1, 6, 7, 21, 22, 23]) (ls := [9006]) ?_) (eA_cast ?_ (ih _ _ _ _ _ h h0 h1))) | (cases h; have h := True.intro; refine h0 _ rfl ?_) | (cases h; have h := True.intro; refine h1 _ rfl (Wk.cast (wk_norm (ks := [6]) (ls := [9006]) ?_) ?_))) <;> simp only [normOk, optIn, blkIn, nameIn, normS, List.map_append, List.length_append, List.map_set, List.length_set, List.map_replicate, List.length_replicate, List.map_nil, List.map_cons,
      need_iff, h, hf, grpA, vsliceS, grpS, grpD, grpF, grpL, eop, vop, bop, uop, fltop, convop, endOk, newE, new1, freshL, Md.isNew, outV, pureV, pureX, pure1, AV.cells, AV.one, storable, laid, refless, refless1, vload, loadC, storeC, vnil, vfaddr, vextract, flatT, flatE, flatC, vconv, vmm, vidxA, viaddrA, vfield, vlen, elemsOf, dF32, dF64, dI64, dU8, dBool, dStr, esOk, elemsS, vsliceX, bnd, ownV, ownC, own1, ownT, isSl, nSl, endL, Md.isOwn, purge, purgeH, purgeB, purgeE, hasName, name1, List.any_cons, List.any_nil, Md.isWr, pureV.pureP, Option.map, reduceIte, Nat.reduceEqDiff, Nat.reduceAdd, Nat.reduceMul, Nat.reduceLT, Nat.reduceLeDiff, List.mapM_cons, List.mapM_nil, Option.pure_def, Option.bind_eq_bind, Option.bind_some, implies_true, forall_const, beq_self_eq_true, decide_true, decide_false, eq_self, Int.reduceEq, Int.reduceLE, Int.reduceLT, if_true, if_false, grpK, Int.reduceAdd, Int.reduceSub, Int.reduceMul, Int.reduceNeg, Int.reducePow, Nat.reducePow, Int.reduceToNat, Nat.reduceSub, List.replicate, Nat.reduceBEq, wAs, wA, wC, zipW, noDupN, grpE, beq_true, beq_false, g_impl_areSizes, ↓b_pick, ePk_true, ePk_false] <;> first | rfl | (simp only [Nat.add_comm]; done))
theorem s13 : ∀ vs r, g_impl_BytesOfWords vs = some r → SaysM Try.prog .any 13 vs r := by
  intro vs r h
  unfold g_impl_BytesOfWords at h
  split at h
  · rename_i w0 w1
    cases hd_y0 : decL dI64 w0 with
    | none => rw [hd_y0] at h; cases h
    | some y0 =>
    rw [hd_y0] at h
    obtain rfl := decL_inv dI64_inv hd_y0
    clear hd_y0
    dsimp only at h
    cases hd_y1 : decL dI64 w1 with
    | none => rw [hd_y1] at h; cases h
    | some y1 =>
    rw [hd_y1] at h
    obtain rfl := decL_inv dI64_inv hd_y1
    clear hd_y1
    dsimp only at h
    split at h
    · rename_i hp
      cases h
      refine spec_of (m := .any) (tab := tabOf [(42, wM .any g_impl_areSizes)]) (cp := cp13) (ic := ic13) (rvl := [(.t 4), (.t 5)]) hm (tabOk_cons (m := .any) s42 tabOk_nil) Try.func13 rfl rfl rfl (by kernel_rfl) rfl (Nat.le_of_ble_eq_true rfl) (Nat.le_of_ble_eq_true rfl) ?_
      show eA _ _ _ _
      unfold ic13
      simp only [p_impl_BytesOfWords, v_impl_BytesOfWords_19, Bool.and_eq_true, Bool.or_eq_true, decide_eq_true_eq, Bool.not_eq_true', decide_eq_false_iff_not] at hp
      refine eS_to ?_
      repeat' (first
        | ((first | (have h := True.intro; refine eS_of ?_) | (refine eGI_of (fun h => ?_) (fun h => ?_)) | (refine eCc_of (fun h => ?_) (fun h => ?_)) | (refine ePk_of (fun h => ?_) (fun h => ?_)) | (have h := True.intro; refine KW_refl ?_)) <;> (try simp only [Bool.not_eq_true', Bool.not_eq_false'] at h) <;> (try first | exact absurd (Eq.trans (Eq.symm h) (by assumption)) Bool.false_ne_true | exact absurd (Eq.trans (Eq.symm h) (by assumption)) (Ne.symm Bool.false_ne_true)) <;> (try simp only [h, reduceCtorEq, grpN, Int.reduceEq, Int.reduceLT, Int.reduceLE, if_true, if_false, reduceIte] at hp) <;> (first | (have h2 := h; simp only [decide_eq_true_eq, decide_eq_false_iff_not] at h2; (first | (replace h2 := eq_false h2) | (replace h2 := eq_true h2)); (try simp only [h2, reduceCtorEq, grpN, Int.reduceEq, Int.reduceLT, Int.reduceLE, if_true, if_false, reduceIte] at hp); replace hp := And.intro h2 hp) | (replace hp := And.intro h hp) | skip) <;> simp only [h,
          hp, grpA, vsliceS, grpS, grpD, grpF, grpL, eop, vop, bop, uop, fltop, convop, endOk, newE, new1, freshL, Md.isNew, outV, pureV, pureX, pure1, AV.cells, AV.one, storable, laid, refless, refless1, vload, loadC, storeC, vnil, vfaddr, vextract, flatT, flatE, flatC, vconv, vmm, vidxA, viaddrA, vfield, vlen, elemsOf, dF32, dF64, dI64, dU8, dBool, dStr, esOk, elemsS, vsliceX, bnd, ownV, ownC, own1, ownT, isSl, nSl, endL, Md.isOwn, purge, purgeH, purgeB, purgeE, hasName, name1, List.any_cons, List.any_nil, Md.isWr, pureV.pureP, Option.map, reduceIte, Nat.reduceEqDiff, Nat.reduceAdd, Nat.reduceMul, Nat.reduceLT, Nat.reduceLeDiff, List.mapM_cons, List.mapM_nil, Option.pure_def, Option.bind_eq_bind, Option.bind_some, implies_true, forall_const, beq_self_eq_true, decide_true, decide_false, eq_self, Int.reduceEq, Int.reduceLE, Int.reduceLT, if_true, if_false, grpK, Int.reduceAdd, Int.reduceSub, Int.reduceMul, Int.reduceNeg, Int.reducePow, Nat.reducePow, Int.reduceToNat, Nat.reduceSub, List.replicate, Nat.reduceBEq, wAs, wA, wC, zipW, noDupN, grpE, beq_true, beq_false, g_impl_areSizes, ↓b_pick, ePk_true, ePk_false])
        | (refine eA_wk ((wk_nil (t := 6) (i := none) (l := 9006) (es := 1) ?_).trans (wk_norm (ks := [1, 6, 7, 21, 22, 23]) (ls := [9006]) ?_)) (eA_cast ?_ (sl13_1 y0 y1 _ _ _ _ _ _ (getD_some (d := default) (x := (l_impl_BytesOfWords_1 y0 y1 (Int.toNat (((List.length y0 : Nat) : Int) - 0) + 2) [] 0 0)) ?_) ?_ ?_)); (iterate 3 (simp only [nilS, nilV, normOk, optIn, blkIn, nameIn, normS, List.map_append, List.length_append, List.map_set, List.length_set, List.map_replicate, List.length_replicate, List.map_nil, List.map_cons,
          hp, grpA, vsliceS, grpS, grpD, grpF, grpL, eop, vop, bop, uop, fltop, convop, endOk, newE, new1, freshL, Md.isNew, outV, pureV, pureX, pure1, AV.cells, AV.one, storable, laid, refless, refless1, vload, loadC, storeC, vnil, vfaddr, vextract, flatT, flatE, flatC, vconv, vmm, vidxA, viaddrA, vfield, vlen, elemsOf, dF32, dF64, dI64, dU8, dBool, dStr, esOk, elemsS, vsliceX, bnd, ownV, ownC, own1, ownT, isSl, nSl, endL, Md.isOwn, purge, purgeH, purgeB, purgeE, hasName, name1, List.any_cons, List.any_nil, Md.isWr, pureV.pureP, Option.map, reduceIte, Nat.reduceEqDiff, Nat.reduceAdd, Nat.reduceMul, Nat.reduceLT, Nat.reduceLeDiff, List.mapM_cons, List.mapM_nil, Option.pure_def, Option.bind_eq_bind, Option.bind_some, implies_true, forall_const, beq_self_eq_true, decide_true, decide_false, eq_self, Int.reduceEq, Int.reduceLE, Int.reduceLT, if_true, if_false, grpK, Int.reduceAdd, Int.reduceSub, Int.reduceMul, Int.reduceNeg, Int.reducePow, Nat.reducePow, Int.reduceToNat, Nat.reduceSub, List.replicate, Nat.reduceBEq, wAs, wA, wC, zipW, noDupN, grpE, beq_true, beq_false, g_impl_areSizes, ↓b_pick, ePk_true, ePk_false] <;> first | rfl | (simp only [Nat.add_comm]; done))); (simp only [hp]); (
        intro st2 ht hw; simp only [Kq_ret, Kb_ret, Kl_ret, ret_ok]; first | exact h0 _ hw | exact h0 _ rfl hw | exact h1 _ rfl hw | exact h0 _ ht hw | exact h1 _ ht hw | (simp only [ht, need_iff, reduceCtorEq, grpN, Int.reduceEq, Int.reduceLT, Int.reduceLE, if_true, if_false, reduceIte] at h; (repeat (replace h := And.right h)); cases h; first | exact h0 _ hw | exact h0 _ rfl hw | exact h1 _ rfl hw) | refine ⟨_, hw, ?_⟩); rotate_left; (
        intro st2 ht hw; (try simp only [ht, reduceCtorEq, grpN, Int.reduceEq, Int.reduceLT, Int.reduceLE, if_true, if_false, reduceIte] at hp); (try replace hp := And.intro ht hp); simp only [
Kq_exit, Kq_normal, Kq_ret, Kb_exit, Kb_normal, Kb_ret, Kl_exit, Kl_normal, Kl_ret, reduceIte, Nat.reduceEqDiff, if_true, if_false, eq_self]; refine KW_of hw ?_; simp only [ht, 
          hp, grpA, vsliceS, grpS, grpD, grpF, grpL, eop, vop, bop, uop, fltop, convop, endOk, newE, new1, freshL, Md.isNew, outV, pureV, pureX, pure1, AV.cells, AV.one, storable, laid, refless, refless1, vload, loadC, storeC, vnil, vfaddr, vextract, flatT, flatE, flatC, vconv, vmm, vidxA, viaddrA, vfield, vlen, elemsOf, dF32, dF64, dI64, dU8, dBool, dStr, esOk, elemsS, vsliceX, bnd, ownV, ownC, own1, ownT, isSl, nSl, endL, Md.isOwn, purge, purgeH, purgeB, purgeE, hasName, name1, List.any_cons, List.any_nil, Md.isWr, pureV.pureP, Option.map, reduceIte, Nat.reduceEqDiff, Nat.reduceAdd, Nat.reduceMul, Nat.reduceLT, Nat.reduceLeDiff, List.mapM_cons, List.mapM_nil, Option.pure_def, Option.bind_eq_bind, Option.bind_some, implies_true, forall_const, beq_self_eq_true, decide_true, decide_false, eq_self, Int.reduceEq, Int.reduceLE, Int.reduceLT, if_true, if_false, grpK, Int.reduceAdd, Int.reduceSub, Int.reduceMul, Int.reduceNeg, Int.reducePow, Nat.reducePow, Int.reduceToNat, Nat.reduceSub, List.replicate, Nat.reduceBEq, wAs, wA, wC, zipW, noDupN, grpE, beq_true, beq_false, g_impl_areSizes, ↓b_pick, ePk_true, ePk_false])))
      all_goals (try simp only [*, m_impl_BytesOfWords, v_impl_BytesOfWords_19, Bool.and_true, Bool.true_and, Bool.and_false, Bool.false_and, Bool.or_true, Bool.true_or, Bool.or_false, Bool.false_or, Bool.not_true, Bool.not_false, Bool.false_eq_true, if_true, if_false, reduceIte, decide_true, decide_false])
      all_goals (try (simp_all; done))
    · cases h
  · cases h
def l_laws_eqInt64S_0 (x0 : (List Int)) (x1 : (List Int)) : Nat → Int → Option (Bool × Bool × Unit)
  | 0, _ => none
  | n + 1, z0_0 => (if (decide (z0_0 < ((List.length x0 : Nat) : Int))) = true then (need (inB z0_0 (List.length x0)) (need (inB z0_0 (List.length x1)) (if (decide ((atI x0 z0_0) = (atI x1 z0_0))) = true then (l_laws_eqInt64S_0 x0 x1 n (IntKind.wrap .i64 (z0_0 + 1))) else (some (true, false, default))))) else (some (false, default, ())))
def m_laws_eqInt64S (x0 : (List Int)) (x1 : (List Int)) : Bool := (if (decide (((List.length x0 : Nat) : Int) = ((List.length x1 : Nat) : Int))) = true then (if (Option.getD (l_laws_eqInt64S_0 x0 x1 (Int.toNat (((List.length x0 : Nat) : Int) - 0) + 2) 0) default).1 = true then (Option.getD (l_laws_eqInt64S_0 x0 x1 (Int.toNat (((List.length x0 : Nat) : Int) - 0) + 2) 0) default).2.1 else true) else false)
def p_laws_eqInt64S (x0 : (List Int)) (x1 : (List Int)) : Bool := (!(decide (((List.length x0 : Nat) : Int) = ((List.length x1 : Nat) : Int))) || (Option.isSome (l_laws_eqInt64S_0 x0 x1 (Int.toNat (((List.length x0 : Nat) : Int) - 0) + 2) 0)))
def g_laws_eqInt64S : List AV → Option AV
  | [.sl w0, .sl w1] => (match decL dI64 w0 with | some y0 => ((match decL dI64 w1 with | some y1 => (if p_laws_eqInt64S y0 y1 = true then some (.bool (m_laws_eqInt64S y0 y1)) else none) | none => none)) | none => none)
  | _ => none
def lb17_0 : ICode := (.seq (.seq (.reg [⟨(some 11), none, (.mov (.t 5))⟩, ⟨(some 12), none, (.mov (.t 0))⟩, ⟨(some 13), none, (.len false (.t 12))⟩, ⟨(some 14), none, (.bin .lss false (.t 11) (.t 13))⟩] [0, 1, 5, 14]) (.cond (.t 14) .skip (.exit 0))) (.seq (.block 1 (.seq (.reg [⟨(some 17), none, (.mov (.t 0))⟩, ⟨(some 18), none, (.mov (.t 5))⟩, ⟨(some 19), none, (.iaddrS 1 (.t 17) (.t 18))⟩, ⟨(some 20), none, (.load none (.t 19))⟩, ⟨(some 21), none, (.mov (.t 1))⟩, ⟨(some 22), none, (.mov (.t 5))⟩, ⟨(some 23), none, (.iaddrS 1 (.t 21) (.t 22))⟩, ⟨(some 24), none, (.load none (.t 23))⟩, ⟨(some 25), none, (.bin .neq false (.t 20) (.t 24))⟩] [0, 1, 5, 25]) (.cond (.t 25) (.seq (.reg [⟨(some 4), none, (.mov (.c (.bool false)))⟩] [4]) .ret) .skip))) (.reg [⟨(some 15), none, (.mov (.t 5))⟩, ⟨(some 16), none, (.bin .add false (.t 15) (.c (.int .i64 1)))⟩, ⟨(some 5), none, (.mov (.t 16))⟩] [0, 1, 5])))
def ic17 : ICode := (.seq (.reg [⟨(some 4), none, (.mov (.c (.bool false)))⟩] [0, 1]) (.seq (.seq (.reg [⟨(some 6), none, (.mov (.t 0))⟩, ⟨(some 7), none, (.len false (.t 6))⟩, ⟨(some 8), none, (.mov (.t 1))⟩, ⟨(some 9), none, (.len false (.t 8))⟩, ⟨(some 10), none, (.bin .neq false (.t 7) (.t 9))⟩] [0, 1, 10]) (.cond (.t 10) (.seq (.reg [⟨(some 4), none, (.mov (.c (.bool false)))⟩] [4]) .ret) .skip)) (.seq (.seq (.reg [⟨(some 5), none, (.mov (.c (.int .i64 0)))⟩] [0, 1, 5]) (.block 0 (.loop lb17_0))) (.seq (.reg [⟨(some 4), none, (.mov (.c (.bool true)))⟩] [4]) .ret))))
def cp17 : CP := CP.mk [] [] [[0, 1], [0, 1, 10], [4], [0, 1, 5], [0, 1, 5, 14], [0, 1, 5], [0, 1, 5, 25], [4], [4]] 26 [] []
theorem sl17_0 (x0 : (List Int)) (x1 : (List Int)) : ∀ (n : Nat) (z0_0 : Int) (o : (Bool × Bool × Unit)) (K : IExit → St → Prop), l_laws_eqInt64S_0 x0 x1 n z0_0 = some o → (∀ st, o.1 = true → outM .any st [(.t 4)] = some (.bool o.2.1) → K .ret st) → (∀ st, o.1 = false → Wk st (⟨[], []⟩ : St) → K (.exit 0) st) → eA (tabOf []) (.loop lb17_0) (⟨[(0, (.sl (List.map (AV.int .i64) x0))), (1, (.sl (List.map (AV.int .i64) x1))), (5, (.int .i64 z0_0))], []⟩ : St) K := by
  intro n
  induction n with
  | zero =>
    intro z0_0 o K h h0 h1
    simp only [l_laws_eqInt64S_0, reduceCtorEq] at h
  | succ n ih =>
    intro z0_0 o K h h0 h1
    refine eA_loop ?_
    unfold lb17_0
    unfold l_laws_eqInt64S_0 at h
    (try simp only [need_iff] at h)
    simp only [
      need_iff, h, grpA, vsliceS, grpS, grpD, grpF, grpL, eop, vop, bop, uop, fltop, convop, endOk, newE, new1, freshL, Md.isNew, outV, pureV, pureX, pure1, AV.cells, AV.one, storable, laid, refless, refless1, vload, loadC, storeC, vnil, vfaddr, vextract, flatT, flatE, flatC, vconv, vmm, vidxA, viaddrA, vfield, vlen, elemsOf, dF32, dF64, dI64, dU8, dBool, dStr, esOk, elemsS, vsliceX, bnd, ownV, ownC, own1, ownT, isSl, nSl, endL, Md.isOwn, purge, purgeH, purgeB, purgeE, hasName, name1, List.any_cons, List.any_nil, Md.isWr, pureV.pureP, Option.map, reduceIte, Nat.reduceEqDiff, Nat.reduceAdd, Nat.reduceMul, Nat.reduceLT, Nat.reduceLeDiff, List.mapM_cons, List.mapM_nil, Option.pure_def, Option.bind_eq_bind, Option.bind_some, implies_true, forall_const, beq_self_eq_true, decide_true, decide_false, eq_self, Int.reduceEq, Int.reduceLE, Int.reduceLT, if_true, if_false, grpK, Int.reduceAdd, Int.reduceSub, Int.reduceMul, Int.reduceNeg, Int.reducePow, Nat.reducePow, Int.reduceToNat, Nat.reduceSub, List.replicate, Nat.reduceBEq, wAs, wA, wC, zipW, noDupN, grpE, beq_true, beq_false]
    repeat' (first
      | ((first | (refine eGI_of (fun hc => ?_) (fun hc => ?_)) | (refine eCc_of (fun hc => ?_) (fun hc => ?_)) | (have hc := True.intro; refine KW_refl ?_)) <;> (try simp only [Bool.not_eq_true', Bool.not_eq_false'] at hc) <;> (try simp only [hc, need_iff, reduceCtorEq, grpN, Int.reduceEq, Int.reduceLT, Int.reduceLE, if_true, if_false, reduceIte] at h) <;> (first | (have hc2 := hc; simp only [decide_eq_true_eq, decide_eq_false_iff_not] at hc2; (first | (replace hc2 := eq_false hc2) | (replace hc2 := eq_true hc2)); (try simp only [hc2, need_iff, reduceCtorEq, grpN, Int.reduceEq, Int.reduceLT, Int.reduceLE, if_true, if_false, reduceIte] at h); replace h := And.intro hc2 h) | (replace h := And.intro hc h) | skip) <;> simp only [hc,
      need_iff, h, grpA, vsliceS, grpS, grpD, grpF, grpL, eop, vop, bop, uop, fltop, convop, endOk, newE, new1, freshL, Md.isNew, outV, pureV, pureX, pure1, AV.cells, AV.one, storable, laid, refless, refless1, vload, loadC, storeC, vnil, vfaddr, vextract, flatT, flatE, flatC, vconv, vmm, vidxA, viaddrA, vfield, vlen, elemsOf, dF32, dF64, dI64, dU8, dBool, dStr, esOk, elemsS, vsliceX, bnd, ownV, ownC, own1, ownT, isSl, nSl, endL, Md.isOwn, purge, purgeH, purgeB, purgeE, hasName, name1, List.any_cons, List.any_nil, Md.isWr, pureV.pureP, Option.map, reduceIte, Nat.reduceEqDiff, Nat.reduceAdd, Nat.reduceMul, Nat.reduceLT, Nat.reduceLeDiff, List.mapM_cons, List.mapM_nil, Option.pure_def, Option.bind_eq_bind, Option.bind_some, implies_true, forall_const, beq_self_eq_true, decide_true, decide_false, eq_self, Int.reduceEq, Int.reduceLE, Int.reduceLT, if_true, if_false, grpK, Int.reduceAdd, Int.reduceSub, Int.reduceMul, Int.reduceNeg, Int.reducePow, Nat.reducePow, Int.reduceToNat, Nat.reduceSub, List.replicate, Nat.reduceBEq, wAs, wA, wC, zipW, noDupN, grpE, beq_true, beq_false]))
    all_goals (have hf := h)
    all_goals (repeat (replace h := And.right h))
    all_goals ((first | (refine eA_wk (wk_norm (ks := [0, 1, 5]) (ls := []) ?_) (eA_cast ?_ (ih _ _ _ h h0 h1))) | (cases h; have h := True.intro; refine h0 _ rfl ?_) | (cases h; have h := True.intro; refine h1 _ rfl (Wk.cast (wk_norm (ks := []) (ls := []) ?_) ?_))) <;> simp only [normOk, optIn, blkIn, nameIn, normS, List.map_append, List.length_append, List.map_set, List.length_set, List.map_replicate, List.length_replicate, List.map_nil, List.map_cons,
      need_iff, h, hf, grpA, vsliceS, grpS, grpD, grpF, grpL, eop, vop, bop, uop, fltop, convop, endOk, newE, new1, freshL, Md.isNew, outV, pureV, pureX, pure1, AV.cells, AV.one, storable, laid, refless, refless1, vload, loadC, storeC, vnil, vfaddr, vextract, flatT, flatE, flatC, vconv, vmm, vidxA, viaddrA, vfield, vlen, elemsOf, dF32, dF64, dI64, dU8, dBool, dStr, esOk, elemsS, vsliceX, bnd, ownV, ownC, own1, ownT, isSl, nSl, endL, Md.isOwn, purge, purgeH, purgeB, purgeE, hasName, name1, List.any_cons, List.any_nil, Md.isWr, pureV.pureP, Option.map, reduceIte, Nat.reduceEqDiff, Nat.reduceAdd, Nat.reduceMul, Nat.reduceLT, Nat.reduceLeDiff, List.mapM_cons, List.mapM_nil, Option.pure_def, Option.bind_eq_bind, Option.bind_some, implies_true, forall_const, beq_self_eq_true, decide_true, decide_false, eq_self, Int.reduceEq, Int.reduceLE, Int.reduceLT, if_true, if_false, grpK, Int.reduceAdd, Int.reduceSub, Int.reduceMul, Int.reduceNeg, Int.reducePow, Nat.reducePow, Int.reduceToNat, Nat.reduceSub, List.replicate, Nat.reduceBEq, wAs, wA, wC, zipW, noDupN, grpE, beq_true, beq_false] <;> first | rfl | (simp only [Nat.add_comm]; done))
theorem s17 : ∀ vs r, g_laws_eqInt64S vs = some r → SaysM Try.prog .any 17 vs r := by
  intro vs r h
  unfold g_laws_eqInt64S at h
  split at h
  · rename_i w0 w1
    cases hd_y0 : decL dI64 w0 with
    | none => rw [hd_y0] at h; cases h
    | some y0 =>
    rw [hd_y0] at h
    obtain rfl := decL_inv dI64_inv hd_y0
    clear hd_y0
    dsimp only at h
    cases hd_y1 : decL dI64 w1 with
    | none => rw [hd_y1] at h; cases h
    | some y1 =>
    rw [hd_y1] at h
    obtain rfl := decL_inv dI64_inv hd_y1
    clear hd_y1
    dsimp only at h
    split at h
    · rename_i hp
      cases h
      refine spec_of (m := .any) (tab := tabOf []) (cp := cp17) (ic := ic17) (rvl := [(.t 4)]) hm tabOk_nil Try.func17 rfl rfl rfl (by kernel_rfl) rfl (Nat.le_of_ble_eq_true rfl) (Nat.le_of_ble_eq_true rfl) ?_
      show eA _ _ _ _
      unfold ic17
      simp only [p_laws_eqInt64S, Bool.and_eq_true, Bool.or_eq_true, decide_eq_true_eq, Bool.not_eq_true', decide_eq_false_iff_not] at hp
      refine eS_to ?_
      repeat' (first
        | ((first | (have h := True.intro; refine eS_of ?_) | (refine eGI_of (fun h => ?_) (fun h => ?_)) | (refine eCc_of (fun h => ?_) (fun h => ?_)) | (have h := True.intro; refine KW_refl ?_)) <;> (try simp only [Bool.not_eq_true', Bool.not_eq_false'] at h) <;> (try first | exact absurd (Eq.trans (Eq.symm h) (by assumption)) Bool.false_ne_true | exact absurd (Eq.trans (Eq.symm h) (by assumption)) (Ne.symm Bool.false_ne_true)) <;> (try simp only [h, reduceCtorEq, grpN, Int.reduceEq, Int.reduceLT, Int.reduceLE, if_true, if_false, reduceIte] at hp) <;> (first | (have h2 := h; simp only [decide_eq_true_eq, decide_eq_false_iff_not] at h2; (first | (replace h2 := eq_false h2) | (replace h2 := eq_true h2)); (try simp only [h2, reduceCtorEq, grpN, Int.reduceEq, Int.reduceLT, Int.reduceLE, if_true, if_false, reduceIte] at hp); replace hp := And.intro h2 hp) | (replace hp := And.intro h hp) | skip) <;> simp only [h,
          hp, grpA, vsliceS, grpS, grpD, grpF, grpL, eop, vop, bop, uop, fltop, convop, endOk, newE, new1, freshL, Md.isNew, outV, pureV, pureX, pure1, AV.cells, AV.one, storable, laid, refless, refless1, vload, loadC, storeC, vnil, vfaddr, vextract, flatT, flatE, flatC, vconv, vmm, vidxA, viaddrA, vfield, vlen, elemsOf, dF32, dF64, dI64, dU8, dBool, dStr, esOk, elemsS, vsliceX, bnd, ownV, ownC, own1, ownT, isSl, nSl, endL, Md.isOwn, purge, purgeH, purgeB, purgeE, hasName, name1, List.any_cons, List.any_nil, Md.isWr, pureV.pureP, Option.map, reduceIte, Nat.reduceEqDiff, Nat.reduceAdd, Nat.reduceMul, Nat.reduceLT, Nat.reduceLeDiff, List.mapM_cons, List.mapM_nil, Option.pure_def, Option.bind_eq_bind, Option.bind_some, implies_true, forall_const, beq_self_eq_true, decide_true, decide_false, eq_self, Int.reduceEq, Int.reduceLE, Int.reduceLT, if_true, if_false, grpK, Int.reduceAdd, Int.reduceSub, Int.reduceMul, Int.reduceNeg, Int.reducePow, Nat.reducePow, Int.reduceToNat, Nat.reduceSub, List.replicate, Nat.reduceBEq, wAs, wA, wC, zipW, noDupN, grpE, beq_true, beq_false])
        | (refine eA_wk (wk_norm (ks := [0, 1, 5]) (ls := []) ?_) (eA_cast ?_ (sl17_0 y0 y1 _ _ _ _ (getD_some (d := default) (x := (l_laws_eqInt64S_0 y0 y1 (Int.toNat (((List.length y0 : Nat) : Int) - 0) + 2) 0)) ?_) ?_ ?_)); (iterate 2 (simp only [nilS, nilV, normOk, optIn, blkIn, nameIn, normS, List.map_append, List.length_append, List.map_set, List.length_set, List.map_replicate, List.length_replicate, List.map_nil, List.map_cons,
          hp, grpA, vsliceS, grpS, grpD, grpF, grpL, eop, vop, bop, uop, fltop, convop, endOk, newE, new1, freshL, Md.isNew, outV, pureV, pureX, pure1, AV.cells, AV.one, storable, laid, refless, refless1, vload, loadC, storeC, vnil, vfaddr, vextract, flatT, flatE, flatC, vconv, vmm, vidxA, viaddrA, vfield, vlen, elemsOf, dF32, dF64, dI64, dU8, dBool, dStr, esOk, elemsS, vsliceX, bnd, ownV, ownC, own1, ownT, isSl, nSl, endL, Md.isOwn, purge, purgeH, purgeB, purgeE, hasName, name1, List.any_cons, List.any_nil, Md.isWr, pureV.pureP, Option.map, reduceIte, Nat.reduceEqDiff, Nat.reduceAdd, Nat.reduceMul, Nat.reduceLT, Nat.reduceLeDiff, List.mapM_cons, List.mapM_nil, Option.pure_def, Option.bind_eq_bind, Option.bind_some, implies_true, forall_const, beq_self_eq_true, decide_true, decide_false, eq_self, Int.reduceEq, Int.reduceLE, Int.reduceLT, if_true, if_false, grpK, Int.reduceAdd, Int.reduceSub, Int.reduceMul, Int.reduceNeg, Int.reducePow, Nat.reducePow, Int.reduceToNat, Nat.reduceSub, List.replicate, Nat.reduceBEq, wAs, wA, wC, zipW, noDupN, grpE, beq_true, beq_false] <;> first | rfl | (simp only [Nat.add_comm]; done))); (simp only [hp]); (
        intro st2 ht hw; simp only [Kq_ret, Kb_ret, Kl_ret, ret_ok]; first | exact h0 _ hw | exact h0 _ rfl hw | exact h1 _ rfl hw | exact h0 _ ht hw | exact h1 _ ht hw | (simp only [ht, need_iff, reduceCtorEq, grpN, Int.reduceEq, Int.reduceLT, Int.reduceLE, if_true, if_false, reduceIte] at h; (repeat (replace h := And.right h)); cases h; first | exact h0 _ hw | exact h0 _ rfl hw | exact h1 _ rfl hw) | refine ⟨_, hw, ?_⟩); rotate_left; (
        intro st2 ht hw; (try simp only [ht, reduceCtorEq, grpN, Int.reduceEq, Int.reduceLT, Int.reduceLE, if_true, if_false, reduceIte] at hp); (try replace hp := And.intro ht hp); simp only [
Kq_exit, Kq_normal, Kq_ret, Kb_exit, Kb_normal, Kb_ret, Kl_exit, Kl_normal, Kl_ret, reduceIte, Nat.reduceEqDiff, if_true, if_false, eq_self]; refine KW_of hw ?_; simp only [ht, 
          hp, grpA, vsliceS, grpS, grpD, grpF, grpL, eop, vop, bop, uop, fltop, convop, endOk, newE, new1, freshL, Md.isNew, outV, pureV, pureX, pure1, AV.cells, AV.one, storable, laid, refless, refless1, vload, loadC, storeC, vnil, vfaddr, vextract, flatT, flatE, flatC, vconv, vmm, vidxA, viaddrA, vfield, vlen, elemsOf, dF32, dF64, dI64, dU8, dBool, dStr, esOk, elemsS, vsliceX, bnd, ownV, ownC, own1, ownT, isSl, nSl, endL, Md.isOwn, purge, purgeH, purgeB, purgeE, hasName, name1, List.any_cons, List.any_nil, Md.isWr, pureV.pureP, Option.map, reduceIte, Nat.reduceEqDiff, Nat.reduceAdd, Nat.reduceMul, Nat.reduceLT, Nat.reduceLeDiff, List.mapM_cons, List.mapM_nil, Option.pure_def, Option.bind_eq_bind, Option.bind_some, implies_true, forall_const, beq_self_eq_true, decide_true, decide_false, eq_self, Int.reduceEq, Int.reduceLE, Int.reduceLT, if_true, if_false, grpK, Int.reduceAdd, Int.reduceSub, Int.reduceMul, Int.reduceNeg, Int.reducePow, Nat.reducePow, Int.reduceToNat, Nat.reduceSub, List.replicate, Nat.reduceBEq, wAs, wA, wC, zipW, noDupN, grpE, beq_true, beq_false])))
      all_goals (try simp only [*, m_laws_eqInt64S, Bool.and_true, Bool.true_and, Bool.and_false, Bool.false_and, Bool.or_true, Bool.true_or, Bool.or_false, Bool.false_or, Bool.not_true, Bool.not_false, Bool.false_eq_true, if_true, if_false, reduceIte, decide_true, decide_false])
      all_goals (try (simp_all; done))
    · cases h
  · cases h
def m_laws_FnExactBytesOfWords (x0 : (List Int)) (x1 : (List Int)) : Bool := (if (decide (1048576 < ((List.length x0 : Nat) : Int))) = true then true else (if (decide (1048576 < ((List.length x1 : Nat) : Int))) = true then true else (if (decide ((m_impl_BytesOfWords (m_laws_toInt64S x0) (m_laws_toInt64S x1)).1 = (m_spec_BytesOfWords (m_laws_toInt64S x0) (m_laws_toInt64S x1)).1)) = true then (if ((m_impl_BytesOfWords (m_laws_toInt64S x0) (m_laws_toInt64S x1)).2 == (m_spec_BytesOfWords (m_laws_toInt64S x0) (m_laws_toInt64S x1)).2) = true then (if (m_laws_eqInt64S (m_laws_toInt64S x0) (m_laws_toInt64S x0)) = true then (if (m_laws_eqInt64S (m_laws_toInt64S x1) (m_laws_toInt64S x1)) = true then true else false) else false) else false) else false)))
def p_laws_FnExactBytesOfWords (x0 : (List Int)) (x1 : (List Int)) : Bool := ((decide (1048576 < ((List.length x0 : Nat) : Int))) || ((decide (1048576 < ((List.length x1 : Nat) : Int))) || ((p_laws_toInt64S x0) && ((p_laws_toInt64S x1) && ((p_spec_BytesOfWords (m_laws_toInt64S x0) (m_laws_toInt64S x1)) && ((p_impl_BytesOfWords (m_laws_toInt64S x0) (m_laws_toInt64S x1)) && (!(decide ((m_impl_BytesOfWords (m_laws_toInt64S x0) (m_laws_toInt64S x1)).1 = (m_spec_BytesOfWords (m_laws_toInt64S x0) (m_laws_toInt64S x1)).1)) || (!((m_impl_BytesOfWords (m_laws_toInt64S x0) (m_laws_toInt64S x1)).2 == (m_spec_BytesOfWords (m_laws_toInt64S x0) (m_laws_toInt64S x1)).2) || ((p_laws_eqInt64S (m_laws_toInt64S x0) (m_laws_toInt64S x0)) && (!(m_laws_eqInt64S (m_laws_toInt64S x0) (m_laws_toInt64S x0)) || (p_laws_eqInt64S (m_laws_toInt64S x1) (m_laws_toInt64S x1))))))))))))
def g_laws_FnExactBytesOfWords : List AV → Option AV
  | [.sl w0, .sl w1] => (match decL dI64 w0 with | some y0 => ((match decL dI64 w1 with | some y1 => (if p_laws_FnExactBytesOfWords y0 y1 = true then some (.bool (m_laws_FnExactBytesOfWords y0 y1)) else none) | none => none)) | none => none)
  | _ => none
def ic4 : ICode := (.seq (.reg [⟨(some 4), none, (.mov (.c (.bool false)))⟩] [0, 1]) (.seq (.seq (.reg [⟨(some 11), none, (.mov (.t 0))⟩, ⟨(some 12), none, (.len false (.t 11))⟩, ⟨(some 13), none, (.bin .gtr false (.t 12) (.c (.int .i64 1048576)))⟩] [0, 1, 13]) (.cond (.t 13) (.seq (.reg [⟨(some 4), none, (.mov (.c (.bool true)))⟩] [4]) .ret) .skip)) (.seq (.seq (.reg [⟨(some 14), none, (.mov (.t 1))⟩, ⟨(some 15), none, (.len false (.t 14))⟩, ⟨(some 16), none, (.bin .gtr false (.t 15) (.c (.int .i64 1048576)))⟩] [0, 1, 16]) (.cond (.t 16) (.seq (.reg [⟨(some 4), none, (.mov (.c (.bool true)))⟩] [4]) .ret) .skip)) (.seq (.reg [⟨(some 18), none, (.mov (.t 0))⟩, ⟨(some 19), none, (.call (.fn 16) [(.t 18)] [])⟩, ⟨(some 20), none, (.mov (.t 1))⟩, ⟨(some 21), none, (.call (.fn 16) [(.t 20)] [])⟩, ⟨(some 22), none, (.call (.fn 15) [(.t 19), (.t 21)] [])⟩, ⟨(some 17), none, (.mov (.t 22))⟩, ⟨(some 23), none, (.extract (.t 17) 0)⟩, ⟨(some 24), none, (.extract (.t 17) 1)⟩, ⟨(some 5), none, (.mov (.t 23))⟩, ⟨(some 6), none, (.mov (.t 24))⟩] [0, 1, 5, 6]) (.seq (.reg [⟨(some 25), none, (.mov (.t 0))⟩, ⟨(some 26), none, (.call (.fn 16) [(.t 25)] [])⟩, ⟨(some 7), none, (.mov (.t 26))⟩] [0, 1, 5, 6, 7]) (.seq (.reg [⟨(some 27), none, (.mov (.t 1))⟩, ⟨(some 28), none, (.call (.fn 16) [(.t 27)] [])⟩, ⟨(some 8), none, (.mov (.t 28))⟩] [0, 1, 5, 6, 7, 8]) (.seq (.reg [⟨(some 30), none, (.mov (.t 7))⟩, ⟨(some 31), none, (.mov (.t 8))⟩, ⟨(some 32), none, (.call (.fn 13) [(.t 30), (.t 31)] [])⟩, ⟨(some 29), none, (.mov (.t 32))⟩, ⟨(some 33), none, (.extract (.t 29) 0)⟩, ⟨(some 34), none, (.extract (.t 29) 1)⟩, ⟨(some 9), none, (.mov (.t 33))⟩, ⟨(some 10), none, (.mov (.t 34))⟩] [0, 1, 5, 6, 7, 8, 9, 10]) (.seq (.seq (.reg [⟨(some 35), none, (.mov (.t 9))⟩, ⟨(some 36), none, (.mov (.t 5))⟩, ⟨(some 37), none, (.bin .neq false (.t 35) (.t 36))⟩, ⟨(some 38), none, (.mov (.t 37))⟩, ⟨(some 39), (some (38, false)), (.mov (.t 10))⟩, ⟨(some 40), (some (38, false)), (.mov (.t 6))⟩, ⟨(some 41), (some (38, false)), (.bin .neq true (.t 39) (.t 40))⟩, ⟨(some 42), none, (.pick (.t 38) (.c (.bool true)) (.t 41))⟩] [0, 1, 7, 8, 42]) (.cond (.t 42) (.seq (.reg [⟨(some 4), none, (.mov (.c (.bool false)))⟩] [4]) .ret) .skip)) (.seq (.seq (.reg [⟨(some 43), none, (.mov (.t 7))⟩, ⟨(some 44), none, (.mov (.t 0))⟩, ⟨(some 45), none, (.call (.fn 16) [(.t 44)] [])⟩, ⟨(some 46), none, (.call (.fn 17) [(.t 43), (.t 45)] [])⟩, ⟨(some 47), none, (.un .not (.t 46))⟩] [1, 8, 47]) (.cond (.t 47) (.seq (.reg
      [⟨(some 4), none, (.mov (.c (.bool false)))⟩] [4]) .ret) .skip)) (.seq (.seq (.reg [⟨(some 48), none, (.mov (.t 8))⟩, ⟨(some 49), none, (.mov (.t 1))⟩, ⟨(some 50), none, (.call (.fn 16) [(.t 49)] [])⟩, ⟨(some 51), none, (.call (.fn 17) [(.t 48), (.t 50)] [])⟩, ⟨(some 52), none, (.un .not (.t 51))⟩] [52]) (.cond (.t 52) (.seq (.reg [⟨(some 4), none, (.mov (.c (.bool false)))⟩] [4]) .ret) .skip)) (.seq (.reg [⟨(some 4), none, (.mov (.c (.bool true)))⟩] [4]) .ret)))))))))))
def cp4 : CP := CP.mk [] [] [[0, 1], [0, 1, 13], [4], [0, 1, 16], [4], [0, 1, 5, 6], [0, 1, 5, 6, 7], [0, 1, 5, 6, 7, 8], [0, 1, 5, 6, 7, 8, 9, 10], [0, 1, 7, 8, 42], [4], [1, 8, 47], [4], [52], [4], [4]] 53 [] []
theorem s4 : ∀ vs r, g_laws_FnExactBytesOfWords vs = some r → SaysM Try.prog .any 4 vs r := by
  intro vs r h
  unfold g_laws_FnExactBytesOfWords at h
  split at h
  · rename_i w0 w1
    cases hd_y0 : decL dI64 w0 with
    | none => rw [hd_y0] at h; cases h
    | some y0 =>
    rw [hd_y0] at h
    obtain rfl := decL_inv dI64_inv hd_y0
    clear hd_y0
    dsimp only at h
    cases hd_y1 : decL dI64 w1 with
    | none => rw [hd_y1] at h; cases h
    | some y1 =>
    rw [hd_y1] at h
    obtain rfl := decL_inv dI64_inv hd_y1
    clear hd_y1
    dsimp only at h
    split at h
    · rename_i hp
      cases h
      refine spec_of (m := .any) (tab := tabOf [(13, wM .any g_impl_BytesOfWords), (15, wM .any g_spec_BytesOfWords), (16, wM (.own [1]) g_laws_toInt64S), (17, wM .any g_laws_eqInt64S)]) (cp := cp4) (ic := ic4) (rvl := [(.t 4)]) hm (tabOk_cons (m := .any) s13 (tabOk_cons (m := .any) s15 (tabOk_cons (m := (.own [1])) s16 (tabOk_cons (m := .any) s17 tabOk_nil)))) Try.func4 rfl rfl rfl (by kernel_rfl) rfl (Nat.le_of_ble_eq_true rfl) (Nat.le_of_ble_eq_true rfl) ?_
      show eA _ _ _ _
      unfold ic4
      simp only [p_laws_FnExactBytesOfWords, Bool.and_eq_true, Bool.or_eq_true, decide_eq_true_eq, Bool.not_eq_true', decide_eq_false_iff_not] at hp
      refine eS_to ?_
      repeat' (first
        | ((first | (have h := True.intro; refine eS_of ?_) | (refine eGI_of (fun h => ?_) (fun h => ?_)) | (refine eCc_of (fun h => ?_) (fun h => ?_)) | (refine ePk_of (fun h => ?_) (fun h => ?_))) <;> (try simp only [Bool.not_eq_true', Bool.not_eq_false'] at h) <;> (try first | exact absurd (Eq.trans (Eq.symm h) (by assumption)) Bool.false_ne_true | exact absurd (Eq.trans (Eq.symm h) (by assumption)) (Ne.symm Bool.false_ne_true)) <;> (try simp only [h, reduceCtorEq, grpN, Int.reduceEq, Int.reduceLT, Int.reduceLE, if_true, if_false, reduceIte] at hp) <;> (first | (have h2 := h; simp only [decide_eq_true_eq, decide_eq_false_iff_not] at h2; (first | (replace h2 := eq_false h2) | (replace h2 := eq_true h2)); (try simp only [h2, reduceCtorEq, grpN, Int.reduceEq, Int.reduceLT, Int.reduceLE, if_true, if_false, reduceIte] at hp); replace hp := And.intro h2 hp) | (replace hp := And.intro h hp) | skip) <;> simp only [h,
          hp, grpA, vsliceS, grpS, grpD, grpF, grpL, eop, vop, bop, uop, fltop, convop, endOk, newE, new1, freshL, Md.isNew, outV, pureV, pureX, pure1, AV.cells, AV.one, storable, laid, refless, refless1, vload, loadC, storeC, vnil, vfaddr, vextract, flatT, flatE, flatC, vconv, vmm, vidxA, viaddrA, vfield, vlen, elemsOf, dF32, dF64, dI64, dU8, dBool, dStr, esOk, elemsS, vsliceX, bnd, ownV, ownC, own1, ownT, isSl, nSl, endL, Md.isOwn, purge, purgeH, purgeB, purgeE, hasName, name1, List.any_cons, List.any_nil, Md.isWr, pureV.pureP, Option.map, reduceIte, Nat.reduceEqDiff, Nat.reduceAdd, Nat.reduceMul, Nat.reduceLT, Nat.reduceLeDiff, List.mapM_cons, List.mapM_nil, Option.pure_def, Option.bind_eq_bind, Option.bind_some, implies_true, forall_const, beq_self_eq_true, decide_true, decide_false, eq_self, Int.reduceEq, Int.reduceLE, Int.reduceLT, if_true, if_false, grpK, Int.reduceAdd, Int.reduceSub, Int.reduceMul, Int.reduceNeg, Int.reducePow, Nat.reducePow, Int.reduceToNat, Nat.reduceSub, List.replicate, Nat.reduceBEq, wAs, wA, wC, zipW, noDupN, grpE, beq_true, beq_false, g_impl_BytesOfWords, g_spec_BytesOfWords, g_laws_toInt64S, g_laws_eqInt64S, ↓b_pick, ePk_true, ePk_false]))
      all_goals (try simp only [*, m_laws_FnExactBytesOfWords, Bool.and_true, Bool.true_and, Bool.and_false, Bool.false_and, Bool.or_true, Bool.true_or, Bool.or_false, Bool.false_or, Bool.not_true, Bool.not_false, Bool.false_eq_true, if_true, if_false, reduceIte, decide_true, decide_false])
      all_goals (try (simp_all; done))
    · cases h
  · cases h
end Go.Proofs
namespace Go.Proofs
open Go.Ab
theorem to_Int64S (x : List Int) (h : x.length ≤ 1048576) : m_laws_toInt64S x = x ∧ p_laws_toInt64S x = true := by
  unfold m_laws_toInt64S p_laws_toInt64S
  rw [show l_laws_toInt64S_0 x (Int.toNat (((List.length x : Nat) : Int) - 0) + 2) (List.replicate (Int.toNat ((List.length x : Nat) : Int)) 0) 0 = some x by
    rw [copy_all (l_laws_toInt64S_0 x) x id _ (by omega) fun _ _ _ => rfl]
    congr 1
    exact List.map_id x]
  refine ⟨rfl, ?_⟩
  simp; omega
end Go.Proofs
namespace Go.Proofs
open Go.Ab
theorem eq_Int64S (x : List Int) (h : x.length ≤ 1048576) : m_laws_eqInt64S x x = true ∧ p_laws_eqInt64S x x = true := by
  unfold m_laws_eqInt64S p_laws_eqInt64S
  rw [show l_laws_eqInt64S_0 x x (Int.toNat (((List.length x : Nat) : Int) - 0) + 2) 0 = some (false, default, ()) from eq_loop _ x (fun a b => decide (a = b)) (fun _ => by simp) (by omega) fun _ _ => rfl]; simp
end Go.Proofs
namespace Go.Proofs
open Go.Ab
/-- sizes of codes: at most 512, each 1 .. 62 -/
def Szs (y : List Int) : Prop := y.length ≤ 512 ∧ ∀ j : Nat, j < y.length → 1 ≤ y.getD j default ∧ y.getD j default ≤ 62
theorem sizes_eq (y : List Int) (hy : y.length ≤ 1048576) : m_spec_l06Sizes y = m_impl_areSizes y ∧ p_spec_l06Sizes y = true ∧ p_impl_areSizes y = true ∧ (m_impl_areSizes y = true → Szs y) := by
  have key : ∀ (n k : Nat), k ≤ y.length → y.length - k < n → ∃ o, l_impl_areSizes_0 y n (k : Int) = some o ∧ (o.1 = true → o.2.1 = false) ∧ (o.1 = false → ∀ j, k ≤ j → j < y.length → 1 ≤ y.getD j default ∧ y.getD j default ≤ 62) ∧
      ∃ q, l_spec_l06Sizes_0 y n (k : Int) = some q ∧ (y.length ≤ 512 → q = o) ∧ (¬ y.length ≤ 512 → q.1 = true → q.2.1 = false) := by
    intro n
    induction n with
    | zero => intro k _ h; omega
    | succ n ih =>
      intro k hk hn
      rw [l_impl_areSizes_0, l_spec_l06Sizes_0]
      by_cases hlt : k < y.length
      · have e1 : (decide ((k : Int) < ((List.length y : Nat) : Int))) = true := decide_eq_true (by omega)
        have e2 : inB (k : Int) y.length = true := by unfold inB; simp; omega
        rw [e1, e2, if_pos rfl, if_pos rfl]
        have e3 : atI y (k : Int) = y.getD k default := rfl
        have e5 : ∀ {α : Type} (z : Option α), need true z = z := fun _ => rfl
        rw [e3, e5, e5]
        obtain ⟨o, o1, o2, o3, q, q1, q2, q3⟩ := ih (k + 1) (by omega) (by omega)
        rw [wrapS (by omega), o1, q1]
        unfold m_spec_l00In
        have hd3 : ∀ {α : Type} (a b : α), (if (decide (((List.length y : Nat) : Int) ≤ 512)) = true then a else b) = if y.length ≤ 512 then a else b := by
          intro α a b
          by_cases c3 : y.length ≤ 512
          · rw [if_pos c3, if_pos (decide_eq_true (show ((List.length y : Nat) : Int) ≤ 512 by omega))]
          · rw [if_neg c3, if_neg]
            rw [decide_eq_false (show ¬ ((List.length y : Nat) : Int) ≤ 512 by omega)]; decide
        rw [hd3]
        by_cases c1 : y.getD k default < 1
        · have hin : (if (decide (1 ≤ y.getD k default)) = true then (decide (y.getD k default ≤ 62)) else false) = false := by
            rw [decide_eq_false (show ¬ 1 ≤ y.getD k default by omega)]; rfl
          rw [if_pos (decide_eq_true c1), hin]
          refine ⟨_, rfl, fun _ => rfl, fun h => by (cases h), ?_⟩
          by_cases c3 : y.length ≤ 512
          · rw [if_pos c3]; exact ⟨_, rfl, fun _ => rfl, fun h => absurd c3 h⟩
          · rw [if_neg c3]; exact ⟨_, rfl, fun h => absurd h c3, fun _ h => by (cases h)⟩
        · rw [if_neg (show ¬ (decide (y.getD k default < 1)) = true by rw [decide_eq_false c1]; decide)]
          by_cases c2 : 62 < y.getD k default
          · have hin : (if (decide (1 ≤ y.getD k default)) = true then (decide (y.getD k default ≤ 62)) else false) = false := by
              rw [decide_eq_true (show 1 ≤ y.getD k default by omega), decide_eq_false (show ¬ y.getD k default ≤ 62 by omega)]; rfl
            rw [if_pos (decide_eq_true c2), hin]
            refine ⟨_, rfl, fun _ => rfl, fun h => by (cases h), ?_⟩
            by_cases c3 : y.length ≤ 512
            · rw [if_pos c3]; exact ⟨_, rfl, fun _ => rfl, fun h => absurd c3 h⟩
            · rw [if_neg c3]; exact ⟨_, rfl, fun h => absurd h c3, fun _ h => by (cases h)⟩
          · have hin : (if (decide (1 ≤ y.getD k default)) = true then (decide (y.getD k default ≤ 62)) else false) = true := by
              rw [decide_eq_true (show 1 ≤ y.getD k default by omega), decide_eq_true (show y.getD k default ≤ 62 by omega)]; rfl
            rw [if_neg (show ¬ (decide (62 < y.getD k default)) = true by rw [decide_eq_false c2]; decide), hin, if_pos rfl]
            refine ⟨o, rfl, o2, fun h j h1 h2 => ?_, ?_⟩
            · rcases Nat.eq_or_lt_of_le h1 with hj | hj
              · rw [← hj]; exact ⟨by omega, by omega⟩
              · exact o3 h j hj h2
            by_cases c3 : y.length ≤ 512
            · rw [if_pos c3]; exact ⟨q, rfl, q2, q3⟩
            · rw [if_neg c3]; exact ⟨_, rfl, fun h => absurd h c3, fun _ h => by (cases h)⟩
      · have e1 : (decide ((k : Int) < ((List.length y : Nat) : Int))) = false := decide_eq_false (by omega)
        rw [e1, if_neg (by decide), if_neg (by decide)]
        exact ⟨_, rfl, fun h => by (cases h), fun _ j h1 h2 => by omega, _, rfl, fun _ => rfl, fun _ h => by (cases h)⟩
  obtain ⟨o, o1, o2, o3, q, q1, q2, q3⟩ := key (Int.toNat (((List.length y : Nat) : Int) - 0) + 2) 0 (by omega) (by omega)
  have hd : (decide (((List.length y : Nat) : Int) ≤ 512)) = decide (y.length ≤ 512) := decide_eq_decide.2 (by omega)
  replace o1 : l_impl_areSizes_0 y (Int.toNat (((List.length y : Nat) : Int) - 0) + 2) 0 = some o := o1
  replace q1 : l_spec_l06Sizes_0 y (Int.toNat (((List.length y : Nat) : Int) - 0) + 2) 0 = some q := q1
  unfold m_spec_l06Sizes m_impl_areSizes p_spec_l06Sizes p_impl_areSizes
  rw [o1, q1, hd]
  refine ⟨?_, rfl, rfl, fun h => ?_⟩
  · show (if q.1 = true then q.2.1 else _) = (if o.1 = true then o.2.1 else _)
    by_cases c3 : y.length ≤ 512
    · rw [q2 c3]
    · have h1 : (if q.1 = true then q.2.1 else decide (y.length ≤ 512)) = false := by
        split
        · exact q3 c3 (by assumption)
        · exact decide_eq_false c3
      have h2 : (if o.1 = true then o.2.1 else decide (y.length ≤ 512)) = false := by
        split
        · exact o2 (by assumption)
        · exact decide_eq_false c3
      rw [h1, h2]
  · replace h : (if o.1 = true then o.2.1 else decide (y.length ≤ 512)) = true := h
    by_cases ho : o.1 = true
    · rw [if_pos ho, o2 ho] at h; cases h
    · rw [if_neg ho] at h
      exact ⟨of_decide_eq_true h, fun j hj => o3 (by simpa using ho) j (Nat.zero_le _) hj⟩
/-- one bit more -/
def bwPut (w : Nat) (out : List Int) (used bit : Nat) : List Int :=
  let o := if used % 8 = 0 then out ++ [0] else out
  if w / 2 ^ bit % 2 = 1 then o.set (used / 8) (bitop .or .u8 (o.getD (used / 8) default) ((128 / 2 ^ (used % 8) : Nat) : Int)) else o
/-- so many bits in the bytes -/
def Bw (out : List Int) (used : Nat) : Prop := out.length = (used + 7) / 8 ∧ used ≤ 40000 ∧ ∀ e ∈ out, 0 ≤ e ∧ e < 256
theorem or_range (x y : Int) : 0 ≤ bitop .or .u8 x y ∧ bitop .or .u8 x y < 256 := by
  unfold bitop
  show 0 ≤ IntKind.wrap .u8 _ ∧ IntKind.wrap .u8 _ < 256
  generalize (((BitVec.ofInt (IntKind.bits .u8) x ||| BitVec.ofInt (IntKind.bits .u8) y).toNat : Nat) : Int) = v
  have h : IntKind.wrap .u8 v = v % 256 := by
    unfold IntKind.wrap
    simp only [IntKind.bits, IntKind.signed]
    simp
  rw [h]; omega
theorem or_zero {x : Int} (h0 : 0 ≤ x) (h : x < 256) : bitop .or .u8 x 0 = x := by
  unfold bitop
  show IntKind.wrap .u8 (((BitVec.ofInt 8 x ||| BitVec.ofInt 8 0).toNat : Nat) : Int) = x
  have e : BitVec.ofInt 8 x ||| BitVec.ofInt 8 0 = BitVec.ofInt 8 x := by
    rw [show BitVec.ofInt 8 0 = 0#8 by decide, BitVec.or_zero]
  rw [e, BitVec.toNat_ofInt]
  have h : ∀ v : Int, IntKind.wrap .u8 v = v % 256 := by
    intro v
    unfold IntKind.wrap
    simp only [IntKind.bits, IntKind.signed]
    simp
  rw [h]
  omega
theorem bwPut_ok {w : Nat} {out : List Int} {used bit : Nat} (h : Bw out used) (hu : used < 40000) : Bw (bwPut w out used bit) (used + 1) := by
  obtain ⟨h1, h2, h3⟩ := h
  unfold bwPut
  have ho : (if used % 8 = 0 then out ++ [0] else out).length = (used + 1 + 7) / 8 ∧ ∀ e ∈ (if used % 8 = 0 then out ++ [0] else out), 0 ≤ e ∧ e < 256 := by
    by_cases hr : used % 8 = 0
    · rw [if_pos hr, List.length_append, h1]
      refine ⟨by simp; omega, fun e he => ?_⟩
      rcases List.mem_append.1 he with h | h
      · exact h3 e h
      · rw [List.mem_singleton.1 h]; omega
    · rw [if_neg hr, h1]
      exact ⟨by omega, h3⟩
  generalize (if used % 8 = 0 then out ++ [0] else out) = o at *
  dsimp only
  split
  · refine ⟨by rw [List.length_set]; exact ho.1, by omega, fun e he => ?_⟩
    rcases List.mem_or_eq_of_mem_set he with h | h
    · exact ho.2 e h
    · rw [h]; exact or_range _ _
  · exact ⟨ho.1, by omega, ho.2⟩
theorem fdiv_nat' (a n : Nat) : Int.fdiv (a : Int) (2 ^ n) = ((a / 2 ^ n : Nat) : Int) := by
  rw [Int.fdiv_eq_ediv_of_nonneg _ (by exact_mod_cast Nat.zero_le (2 ^ n))]
  exact_mod_cast rfl
theorem tmod8 (a : Nat) : Int.tmod (a : Int) 8 = ((a % 8 : Nat) : Int) := by
  rw [Int.tmod_eq_emod_of_nonneg (by omega)]
  exact_mod_cast rfl
theorem tdiv8 (a : Nat) : Int.tdiv (a : Int) 8 = ((a / 8 : Nat) : Int) := by
  rw [Int.tdiv_eq_ediv_of_nonneg (by omega)]
  exact_mod_cast rfl
theorem bit_one {w bit : Nat} (hw : w < 2 ^ 62) (hb : bit ≤ 61) : bitop .and .i64 (Int.fdiv (w : Int) (2 ^ (min bit 64))) 1 = ((w / 2 ^ bit % 2 : Nat) : Int) := by
  rw [Nat.min_eq_left (by omega), fdiv_nat']
  have := bit_and_mask (n := w / 2 ^ bit) (k := 1) (Nat.lt_of_le_of_lt (Nat.div_le_self _ _) (by omega)) (by omega)
  exact this
theorem place_ok (r : Nat) (h : r < 8) : Int.fdiv 128 (2 ^ (min ((IntKind.wrap .u64 (r : Int)) : Int).toNat 8)) = ((128 / 2 ^ r : Nat) : Int) ∧ 0 ≤ IntKind.wrap .u64 (r : Int) ∧ 0 ≤ IntKind.wrap .i64 (7 - (r : Int)) ∧
    IntKind.wrap .u8 ((IntKind.wrap .u8 ((1 : Nat) : Int)) * 2 ^ (min ((IntKind.wrap .i64 (7 - (r : Int))) : Int).toNat 8)) = ((128 / 2 ^ r : Nat) : Int) ∧ IntKind.wrap .u8 ((IntKind.wrap .u8 ((0 : Nat) : Int)) * 2 ^ (min ((IntKind.wrap .i64 (7 - (r : Int))) : Int).toNat 8)) = 0 := by
  have : r = 0 ∨ r = 1 ∨ r = 2 ∨ r = 3 ∨ r = 4 ∨ r = 5 ∨ r = 6 ∨ r = 7 := by omega
  rcases this with rfl | rfl | rfl | rfl | rfl | rfl | rfl | rfl
  all_goals exact ⟨by decide, by decide, by decide, by decide, by decide⟩
theorem u64N {n : Nat} (h : n < 2 ^ 64) : IntKind.wrap .u64 (n : Int) = n := by
  unfold IntKind.wrap
  simp only [IntKind.bits, IntKind.signed]
  simp
  omega
theorem dec_no {p : Prop} [Decidable p] (h : ¬ p) : ¬ (decide p = true) := by simpa using h
theorem set_get_self {l : List Int} {j : Nat} (h : j < l.length) : l.set j (l.getD j default) = l := by
  apply List.ext_getElem
  · simp
  · intro n h1 h2
    rw [List.getElem_set]
    split
    · subst_vars; simp [List.getD, h]
    · rfl
section
variable {x y : List Int} {j w : Nat} (hj : j < x.length) (hw : x.getD j default = (w : Int)) (hw2 : w < 2 ^ 62)
include hj hw hw2
theorem spec_bit {n : Nat} {out : List Int} {used bit : Nat} (h : Bw out used) (hb : bit ≤ 61) (hu : used < 40000) : l_spec_l06Bytes_0 x y (j : Int) (n + 1) out (used : Int) (bit : Int) = l_spec_l06Bytes_0 x y (j : Int) n (bwPut w out used bit) ((used + 1 : Nat) : Int) (IntKind.wrap .i64 ((bit : Int) - 1)) := by
  obtain ⟨h1, h2, h3⟩ := h
  rw [l_spec_l06Bytes_0]
  have e5 : ∀ {α : Type} (z : Option α), need true z = z := fun _ => rfl
  have e6 : atI x (j : Int) = (w : Int) := hw
  have e7 : inB (j : Int) x.length = true := by unfold inB; simp; omega
  obtain ⟨p1, p2, p3, p4, p5⟩ := place_ok (used % 8) (by omega)
  rw [decide_eq_true (show (0 : Int) ≤ (bit : Int) by omega), if_pos rfl, tmod8, e7, e6, u64N (show bit < 2 ^ 64 by omega), Int.toNat_natCast, bit_one hw2 hb, wrapS (k := used) (by omega),
    decide_eq_true (show (0 : Int) ≤ (bit : Int) by omega)]
  unfold bwPut
  by_cases hr : used % 8 = 0
  · have ho : out.length = used / 8 := by omega
    rw [if_pos hr, decide_eq_true (show ((used % 8 : Nat) : Int) = 0 by omega), if_pos rfl, decide_eq_true (show (out.length + 1) * 1 ≤ 17592186044416 by omega), decide_eq_true (show out.length + 1 ≤ 17592186044416 by omega)]
    simp only [e5]
    by_cases hbit : w / 2 ^ bit % 2 = 1
    · rw [if_pos (decide_eq_true (show ((w / 2 ^ bit % 2 : Nat) : Int) = 1 by omega)), if_pos hbit]
      have e8 : IntKind.wrap .i64 (((out.length + 1 : Nat) : Int) - 1) = ((used / 8 : Nat) : Int) := by
        rw [show ((out.length + 1 : Nat) : Int) - 1 = ((out.length : Nat) : Int) by omega, wrapN (by omega), ho]
      unfold v_spec_l06Bytes_12
      rw [e8, decide_eq_true p2, show inB ((used / 8 : Nat) : Int) (out.length + 1) = true by unfold inB; simp; omega]
      simp only [e5, tmod8, p1, Int.toNat_natCast]
      rfl
    · rw [if_neg (dec_no (show ¬ ((w / 2 ^ bit % 2 : Nat) : Int) = 1 by omega)), if_neg hbit]
  · have ho : out.length = used / 8 + 1 := by omega
    rw [if_neg hr, decide_eq_false (show ¬ ((used % 8 : Nat) : Int) = 0 by omega), if_neg (by decide)]
    simp only [e5]
    by_cases hbit : w / 2 ^ bit % 2 = 1
    · rw [if_pos (decide_eq_true (show ((w / 2 ^ bit % 2 : Nat) : Int) = 1 by omega)), if_pos hbit]
      have e8 : IntKind.wrap .i64 (((out.length : Nat) : Int) - 1) = ((used / 8 : Nat) : Int) := by
        rw [show ((out.length : Nat) : Int) - 1 = ((used / 8 : Nat) : Int) by omega, wrapN (by omega)]
      unfold v_spec_l06Bytes_13
      rw [e8, decide_eq_true p2, show inB ((used / 8 : Nat) : Int) out.length = true by unfold inB; simp; omega]
      simp only [e5, tmod8, p1, Int.toNat_natCast]
      rfl
    · rw [if_neg (dec_no (show ¬ ((w / 2 ^ bit % 2 : Nat) : Int) = 1 by omega)), if_neg hbit]
theorem impl_bit {n : Nat} {out : List Int} {used bit : Nat} (h : Bw out used) (hb : bit ≤ 61) (hu : used < 40000) : l_impl_BytesOfWords_0 x y (j : Int) (n + 1) out (used : Int) (bit : Int) = l_impl_BytesOfWords_0 x y (j : Int) n (bwPut w out used bit) ((used + 1 : Nat) : Int) (IntKind.wrap .i64 ((bit : Int) - 1)) := by
  obtain ⟨h1, h2, h3⟩ := h
  rw [l_impl_BytesOfWords_0]
  have e5 : ∀ {α : Type} (z : Option α), need true z = z := fun _ => rfl
  have e6 : atI x (j : Int) = (w : Int) := hw
  obtain ⟨p1, p2, p3, p4, p5⟩ := place_ok (used % 8) (by omega)
  unfold v_impl_BytesOfWords_19
  rw [decide_eq_true (show (0 : Int) ≤ (bit : Int) by omega), if_pos rfl, tmod8, tdiv8, e6, Int.toNat_natCast, bit_one hw2 hb, wrapS (k := used) (by omega), wrapN (n := used / 8) (by omega), decide_eq_true p3]
  have hv : IntKind.wrap .u8 ((IntKind.wrap .u8 ((w / 2 ^ bit % 2 : Nat) : Int)) * 2 ^ (min ((IntKind.wrap .i64 (7 - ((used % 8 : Nat) : Int))) : Int).toNat 8)) = if w / 2 ^ bit % 2 = 1 then ((128 / 2 ^ (used % 8) : Nat) : Int) else 0 := by
    by_cases hbit : w / 2 ^ bit % 2 = 1
    · rw [if_pos hbit, hbit]; exact p4
    · rw [if_neg hbit, show w / 2 ^ bit % 2 = 0 by omega]; exact p5
  rw [hv]
  unfold bwPut
  have hfin : ∀ o : List Int, used / 8 < o.length → (∀ e ∈ o, 0 ≤ e ∧ e < 256) →
      o.set (used / 8) (bitop .or .u8 (o.getD (used / 8) default) (if w / 2 ^ bit % 2 = 1 then ((128 / 2 ^ (used % 8) : Nat) : Int) else 0)) = if w / 2 ^ bit % 2 = 1 then o.set (used / 8) (bitop .or .u8 (o.getD (used / 8) default) ((128 / 2 ^ (used % 8) : Nat) : Int)) else o := by
    intro o hl he
    by_cases hbit : w / 2 ^ bit % 2 = 1
    · rw [if_pos hbit, if_pos hbit]
    · rw [if_neg hbit, if_neg hbit]
      have hm : o.getD (used / 8) default ∈ o := by
        simp [List.getD, hl]
      obtain ⟨g1, g2⟩ := he _ hm
      rw [or_zero g1 g2, set_get_self hl]
  by_cases hr : used % 8 = 0
  · have ho : out.length = used / 8 := by omega
    rw [if_pos hr, decide_eq_true (show ((used % 8 : Nat) : Int) = 0 by omega), if_pos rfl, decide_eq_true (show (out.length + 1) * 1 ≤ 17592186044416 by omega), decide_eq_true (show out.length + 1 ≤ 17592186044416 by omega),
      show inB ((used / 8 : Nat) : Int) (out.length + 1) = true by unfold inB; simp; omega]
    simp only [e5]
    rw [← hfin (out ++ [0]) (by rw [List.length_append]; simp; omega) (fun e he => by
      rcases List.mem_append.1 he with h | h
      · exact h3 e h
      · rw [List.mem_singleton.1 h]; omega)]
    rfl
  · have ho : out.length = used / 8 + 1 := by omega
    rw [if_neg hr, decide_eq_false (show ¬ ((used % 8 : Nat) : Int) = 0 by omega), if_neg (by decide), show inB ((used / 8 : Nat) : Int) out.length = true by unfold inB; simp; omega]
    simp only [e5]
    rw [← hfin out (by omega) h3]
    rfl
theorem word_all : ∀ (b n : Nat) (out : List Int) (used : Nat), b ≤ 62 → b < n → Bw out used → used + b ≤ 40000 →
    ∃ r, Bw r (used + b) ∧ l_spec_l06Bytes_0 x y (j : Int) n out (used : Int) ((b : Int) - 1) = some (((used + b : Nat) : Int), r) ∧ l_impl_BytesOfWords_0 x y (j : Int) n out (used : Int) ((b : Int) - 1) = some (((used + b : Nat) : Int), r) := by
  intro b
  induction b with
  | zero =>
    intro n out used _ hn h _
    cases n with
    | zero => omega
    | succ n =>
      refine ⟨out, h, ?_, ?_⟩
      · rw [l_spec_l06Bytes_0]; rfl
      · rw [l_impl_BytesOfWords_0]; rfl
  | succ b ih =>
    intro n out used hb hn h hu
    cases n with
    | zero => omega
    | succ n =>
      obtain ⟨r, r1, r2, r3⟩ := ih n (bwPut w out used b) (used + 1) (by omega) (by omega) (bwPut_ok h (by omega)) (by omega)
      have e1 : ((b + 1 : Nat) : Int) - 1 = (b : Int) := by omega
      have e2 : IntKind.wrap .i64 ((b : Int) - 1) = (b : Int) - 1 := wrapI (by omega) (by omega)
      refine ⟨r, by rw [show used + (b + 1) = used + 1 + b by omega]; exact r1, ?_, ?_⟩
      · rw [e1, spec_bit hj hw hw2 h (by omega) (by omega), e2, r2, show used + (b + 1) = used + 1 + b by omega]
      · rw [e1, impl_bit hj hw hw2 h (by omega) (by omega), e2, r3, show used + (b + 1) = used + 1 + b by omega]
end
def okW (x y : List Int) (j : Nat) : Prop := 0 ≤ x.getD j default ∧ x.getD j default < 2 ^ (y.getD j default).toNat
instance (x y : List Int) (j : Nat) : Decidable (okW x y j) := by unfold okW; infer_instance
theorem size_pow {s : Int} (h1 : 1 ≤ s) (h2 : s ≤ 62) : ∃ b : Nat, 1 ≤ b ∧ b ≤ 62 ∧ s = (b : Int) ∧ IntKind.wrap .i64 (1 * 2 ^ (min s.toNat 64)) = ((2 ^ b : Nat) : Int) ∧ IntKind.wrap .u64 s = s ∧ (2 : Nat) ^ b ≤ 2 ^ 62 ∧ IntKind.wrap .i64 (s - 1) = s - 1 := by
  refine ⟨s.toNat, by omega, by omega, by omega, ?_, ?_, Nat.pow_le_pow_right (by omega) (by omega), wrapI (by omega) (by omega)⟩
  · rw [Nat.min_eq_left (by omega), Int.one_mul]
    have hp : 2 ^ s.toNat ≤ 2 ^ 62 := Nat.pow_le_pow_right (by omega) (by omega)
    have : (2 : Int) ^ s.toNat = ((2 ^ s.toNat : Nat) : Int) := by exact_mod_cast rfl
    rw [this, wrapN (by omega)]
  · have := u64N (n := s.toNat) (by omega)
    rw [show ((s.toNat : Nat) : Int) = s by omega] at this; exact this
section
variable {x y : List Int} (hl : x.length = y.length) (hs : Szs y)
include hl hs
theorem bytes_all : ∀ (n k : Nat) (out : List Int) (used : Nat), k ≤ x.length → x.length - k < n → Bw out used → used ≤ 62 * k → 
    ((∀ j, k ≤ j → j < x.length → okW x y j) → ∃ r u, Bw r u ∧ (k < x.length → used < u) ∧ used ≤ u ∧ u ≤ 62 * x.length ∧ l_spec_l06Bytes_1 x y n out (used : Int) (k : Int) = some r ∧ l_spec_BytesOfWords_0 x y n (k : Int) = some (false, default, ()) ∧ l_impl_BytesOfWords_1 x y n out (used : Int) (k : Int) = some (false, default, r)) ∧
    ((¬ ∀ j, k ≤ j → j < x.length → okW x y j) → l_spec_BytesOfWords_0 x y n (k : Int) = some (true, ([], false), default) ∧ l_impl_BytesOfWords_1 x y n out (used : Int) (k : Int) = some (true, ([], false), default)) := by
  intro n
  induction n with
  | zero => intro k out used _ h; omega
  | succ n ih =>
    intro k out used hk hn hB hu
    have e5 : ∀ {α : Type} (z : Option α), need true z = z := fun _ => rfl
    obtain ⟨hs1, hs2⟩ := hs
    by_cases hlt : k < x.length
    · obtain ⟨g1, g2⟩ := hs2 k (by omega)
      obtain ⟨b, b1, b2, b3, b4, b5, b6, b7⟩ := size_pow g1 g2
      have d1 : (decide ((k : Int) < ((List.length x : Nat) : Int))) = true := decide_eq_true (by omega)
      have d2 : inB (k : Int) x.length = true := by unfold inB; simp; omega
      have d3 : inB (k : Int) y.length = true := by unfold inB; simp; omega
      have e1 : atI x (k : Int) = x.getD k default := rfl
      have e2 : atI y (k : Int) = y.getD k default := rfl
      have hm : IntKind.wrap .i64 (((2 ^ b : Nat) : Int) - 1) = ((2 ^ b : Nat) : Int) - 1 := by
        have hpos : 1 ≤ 2 ^ b := Nat.one_le_two_pow
        generalize 2 ^ b = P at b6 hpos ⊢
        exact wrapI (by omega) (by omega)
      have hin : m_spec_l00In (x.getD k default) 0 (((2 ^ b : Nat) : Int) - 1) = decide (okW x y k) := by
        have hiff : okW x y k ↔ 0 ≤ x.getD k default ∧ x.getD k default < ((2 ^ b : Nat) : Int) := by
          unfold okW
          rw [b3, Int.toNat_natCast]
          have : (2 : Int) ^ b = ((2 ^ b : Nat) : Int) := by exact_mod_cast rfl
          rw [this]
        unfold m_spec_l00In
        by_cases c1 : 0 ≤ x.getD k default
        · rw [decide_eq_true c1, if_pos rfl]
          exact decide_eq_decide.2 ⟨fun h => hiff.2 ⟨c1, by omega⟩, fun h => by have := hiff.1 h; omega⟩
        · rw [decide_eq_false c1, if_neg (by decide)]
          exact (decide_eq_false fun h => c1 (hiff.1 h).1).symm
      have hspec : l_spec_BytesOfWords_0 x y (n + 1) (k : Int) = if okW x y k then l_spec_BytesOfWords_0 x y n ((k + 1 : Nat) : Int) else some (true, ([], false), default) := by
        rw [l_spec_BytesOfWords_0, d1, if_pos rfl, d2, d3, e1, e2, b5, b4, hm, hin, decide_eq_true (show 0 ≤ y.getD k default by omega), wrapS (by omega)]
        simp only [e5, decide_eq_true_eq]
      by_cases hok : okW x y k
      · obtain ⟨w, hw⟩ : ∃ w : Nat, x.getD k default = (w : Int) := ⟨(x.getD k default).toNat, by have := hok.1; omega⟩
        have hw2 : w < 2 ^ b := by
          have := hok.2
          rw [hw, b3, Int.toNat_natCast] at this
          exact_mod_cast this
        obtain ⟨r, r1, r2, r3⟩ := word_all (x := x) (y := y) (j := k) (w := w) hlt hw (by omega) b (Int.toNat (IntKind.wrap .i64 (y.getD k default - 1)) + 2) out used b2 (by rw [b7, b3]; omega) hB (by omega)
        have hspec1 : l_spec_l06Bytes_1 x y (n + 1) out (used : Int) (k : Int) = l_spec_l06Bytes_1 x y n r ((used + b : Nat) : Int) ((k + 1 : Nat) : Int) := by
          rw [l_spec_l06Bytes_1, d1, if_pos rfl, d3, e2, b7]
          rw [b7] at r2
          rw [b3] at r2 ⊢
          rw [r2, wrapS (by omega)]
          rfl
        have himpl1 : l_impl_BytesOfWords_1 x y (n + 1) out (used : Int) (k : Int) = l_impl_BytesOfWords_1 x y n r ((used + b : Nat) : Int) ((k + 1 : Nat) : Int) := by
          rw [l_impl_BytesOfWords_1, d1, if_pos rfl, d2, d3, e1, e2, b4, b7]
          rw [b7] at r3
          rw [decide_eq_false (show ¬ x.getD k default < 0 by rw [hw]; omega), if_neg (show ¬ (false = true) by decide), decide_eq_true (show 0 ≤ y.getD k default by omega), decide_eq_false (show ¬ ((2 ^ b : Nat) : Int) ≤ x.getD k default by rw [hw]; omega), if_neg (show ¬ (false = true) by decide)]
          rw [b3] at r3 ⊢
          rw [r3, wrapS (by omega)]
          rfl
        obtain ⟨i1, i2⟩ := ih (k + 1) r (used + b) (by omega) (by omega) r1 (by omega)
        rw [hspec, if_pos hok, hspec1, himpl1]
        refine ⟨fun hall => ?_, fun hnot => ?_⟩
        · obtain ⟨r', u, v1, v2, v3, v4, v5, v6, v7⟩ := i1 fun j h1 h2 => hall j (by omega) h2
          exact ⟨r', u, v1, fun _ => by omega, by omega, v4, v5, v6, v7⟩
        · refine i2 fun h => hnot fun j h1 h2 => ?_
          by_cases hj : j = k
          · subst hj; exact hok
          · exact h j (by omega) h2
      · refine ⟨fun hall => absurd (hall k (Nat.le_refl _) hlt) hok, fun _ => ?_⟩
        rw [hspec, if_neg hok]
        refine ⟨rfl, ?_⟩
        rw [l_impl_BytesOfWords_1, d1, if_pos rfl, d2, d3, e1, e2, b4]
        by_cases c1 : x.getD k default < 0
        · rw [decide_eq_true c1]; rfl
        · rw [decide_eq_false c1, if_neg (show ¬ (false = true) by decide), decide_eq_true (show 0 ≤ y.getD k default by omega)]
          have : ((2 ^ b : Nat) : Int) ≤ x.getD k default := by
            apply Int.not_lt.1
            intro h
            apply hok
            refine ⟨by omega, ?_⟩
            rw [b3, Int.toNat_natCast]
            exact_mod_cast h
          rw [decide_eq_true this]
          rfl
    · have d1 : (decide ((k : Int) < ((List.length x : Nat) : Int))) = false := decide_eq_false (by omega)
      refine ⟨fun _ => ⟨out, used, hB, fun h => absurd h hlt, Nat.le_refl _, by omega, ?_, ?_, ?_⟩, fun h => absurd (fun j h1 h2 => by omega) h⟩
      · rw [l_spec_l06Bytes_1, d1]; rfl
      · rw [l_spec_BytesOfWords_0, d1]; rfl
      · rw [l_impl_BytesOfWords_1, d1]; rfl
end
/-- sizes that hold: words that fit -/
theorem bytes_ok {x y : List Int} (hl : x.length = y.length) (hs : Szs y) (h : ∀ j, j < x.length → okW x y j) (h1 : 1 ≤ x.length) (hm : m_impl_areSizes y = true) (hp : p_impl_areSizes y = true) :
    m_impl_BytesOfWords x y = (m_spec_l06Bytes x y, true) ∧ p_impl_BytesOfWords x y = true ∧ p_spec_l06Bytes x y = true ∧ 1 ≤ (m_spec_l06Bytes x y).length ∧ (m_spec_l06Bytes x y).length ≤ 4096 := by
  obtain ⟨k1, _⟩ := bytes_all hl hs (Int.toNat (((List.length x : Nat) : Int) - 0) + 2) 0 [] 0 (by omega) (by omega) ⟨rfl, by omega, fun e he => by cases he⟩ (by omega)
  obtain ⟨r, u, v1, v2, v3, v4, v5, v6, v7⟩ := k1 fun j _ h2 => h j h2
  replace v5 : l_spec_l06Bytes_1 x y (Int.toNat (((List.length x : Nat) : Int) - 0) + 2) [] 0 0 = some r := v5
  replace v7 : l_impl_BytesOfWords_1 x y (Int.toNat (((List.length x : Nat) : Int) - 0) + 2) [] 0 0 = some (false, default, r) := v7
  have hle : (decide (((List.length x : Nat) : Int) = ((List.length y : Nat) : Int))) = true := decide_eq_true (by omega)
  unfold m_impl_BytesOfWords p_impl_BytesOfWords m_spec_l06Bytes p_spec_l06Bytes
  rw [hle, hm, hp, v5, v7]
  refine ⟨rfl, rfl, rfl, ?_, ?_⟩
  · show 1 ≤ (List.map b8 r).length
    rw [List.length_map, v1.1]
    have := v2 (by omega); omega
  · show (List.map b8 r).length ≤ 4096
    rw [List.length_map, v1.1]
    have := hs.1; omega
end Go.Proofs
namespace Go.Proofs
open Go.Ab
theorem bytesOf_eq {x y : List Int} (hx : x.length ≤ 1048576) (hy : y.length ≤ 1048576) : m_impl_BytesOfWords x y = m_spec_BytesOfWords x y ∧ p_impl_BytesOfWords x y = true ∧ p_spec_BytesOfWords x y = true := by
  obtain ⟨z1, z2, z3, z4⟩ := sizes_eq y hy
  unfold m_impl_BytesOfWords m_spec_BytesOfWords p_impl_BytesOfWords p_spec_BytesOfWords
  rw [z1, z2, z3]
  by_cases hl : x.length = y.length
  · rw [decide_eq_true (show ((List.length x : Nat) : Int) = ((List.length y : Nat) : Int) by omega)]
    by_cases hs : m_impl_areSizes y = true
    · obtain ⟨k1, k2⟩ := bytes_all hl (z4 hs) (Int.toNat (((List.length x : Nat) : Int) - 0) + 2) 0 [] 0 (by omega) (by omega) ⟨rfl, by omega, fun e he => by cases he⟩ (by omega)
      rw [hs]
      by_cases hall : ∀ j, 0 ≤ j → j < x.length → okW x y j
      · obtain ⟨r, u, v1, v2, v3, v4, v5, v6, v7⟩ := k1 hall
        replace v5 : l_spec_l06Bytes_1 x y (Int.toNat (((List.length x : Nat) : Int) - 0) + 2) [] 0 0 = some r := v5
        replace v6 : l_spec_BytesOfWords_0 x y (Int.toNat (((List.length x : Nat) : Int) - 0) + 2) 0 = some (false, default, ()) := v6
        replace v7 : l_impl_BytesOfWords_1 x y (Int.toNat (((List.length x : Nat) : Int) - 0) + 2) [] 0 0 = some (false, default, r) := v7
        unfold m_spec_l06Bytes p_spec_l06Bytes
        rw [v5, v6, v7]
        exact ⟨rfl, rfl, rfl⟩
      · obtain ⟨v6, v7⟩ := k2 hall
        replace v6 : l_spec_BytesOfWords_0 x y (Int.toNat (((List.length x : Nat) : Int) - 0) + 2) 0 = some (true, ([], false), default) := v6
        replace v7 : l_impl_BytesOfWords_1 x y (Int.toNat (((List.length x : Nat) : Int) - 0) + 2) [] 0 0 = some (true, ([], false), default) := v7
        rw [v6, v7]
        exact ⟨rfl, rfl, rfl⟩
    · have hs' : m_impl_areSizes y = false := by simpa using hs
      rw [hs']
      exact ⟨rfl, rfl, rfl⟩
  · rw [decide_eq_false (show ¬ ((List.length x : Nat) : Int) = ((List.length y : Nat) : Int) by omega)]
    cases m_impl_areSizes y <;> exact ⟨rfl, rfl, rfl⟩
theorem law_BytesOfWords (x : List Int) (_ : x.length ≤ maxLen) (_ : ∀ q ∈ x, (Lit.int .i64 q).wf = true) (y : List Int) (_ : y.length ≤ maxLen) (_ : ∀ q ∈ y, (Lit.int .i64 q).wf = true) :
    g_laws_FnExactBytesOfWords [.sl (List.map (AV.int .i64) x), .sl (List.map (AV.int .i64) y)] = some (.bool true) := by
  have key : p_laws_FnExactBytesOfWords x y = true ∧ m_laws_FnExactBytesOfWords x y = true := by
    unfold p_laws_FnExactBytesOfWords m_laws_FnExactBytesOfWords
    by_cases hx : (1048576 : Int) < ((List.length x : Nat) : Int)
    · simp [hx]
    · by_cases hy : (1048576 : Int) < ((List.length y : Nat) : Int)
      · simp [hx, hy]
      · have kx : x.length ≤ 1048576 := by omega
        have ky : y.length ≤ 1048576 := by omega
        obtain ⟨c1, c2, c3⟩ := bytesOf_eq kx ky
        simp [hx, hy, to_Int64S x kx, to_Int64S y ky, c1, c2, c3, eq_Int64S x kx, eq_Int64S y ky]
  unfold g_laws_FnExactBytesOfWords
  simp only [dI64_map, key.1, key.2, if_true]
end Go.Proofs
