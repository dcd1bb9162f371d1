/- What functions that FnExactTravelOf reaches compute, and that the program's and the reference's answers are the same. No conditions. -/
import Derived.Test.YtlpbpdjledpfbacTravelOfY0
set_option maxRecDepth 100000
set_option maxHeartbeats 4000000
set_option linter.all false
namespace Go.Proofs
open Go.Ab
def p_impl_ValidClip (x0 : (Int × Int × (List (List (Int × Nat × Nat × Nat × Nat))) × (List (Int × Nat × Nat × Nat)))) : Bool := ((decide (x0.1 < 1)) || ((decide (1000 < x0.1)) || ((decide (x0.2.1 < 0)) || ((decide (2 < x0.2.1)) || ((decide (((List.length x0.2.2.1 : Nat) : Int) < 1)) || ((decide (12 < ((List.length x0.2.2.1 : Nat) : Int))) || ((Option.isSome (l_impl_ValidClip_0 x0 (Int.toNat (((List.length x0.2.2.1 : Nat) : Int) - 0) + 2) 0)) && ((Option.getD (l_impl_ValidClip_0 x0 (Int.toNat (((List.length x0.2.2.1 : Nat) : Int) - 0) + 2) 0) default).1 || (p_impl_RootKey_valid ((), (), ()) x0.2.2.2 x0.1)))))))))
def g_impl_ValidClip : List AV → Option AV
  | [.agg [.int .i64 y0, .int .i64 y1, .sl w2, .sl w3]] => (match decL dc_en1 w2 with | some y2 => ((match decL dc_en2 w3 with | some y3 => (if p_impl_ValidClip (y0, y1, y2, y3) = true then some (.bool (m_impl_ValidClip (y0, y1, y2, y3))) else none) | none => none)) | none => none)
  | _ => none
def lb44_0 : ICode := (.seq (.reg [⟨(some 39), none, (.bin .lss false (.t 38) (.t 37))⟩] [1, 36, 37, 38, 39]) (.seq (.cond (.t 39) .skip (.exit 0)) (.seq (.block 1 (.seq (.reg [⟨(some 40), none, (.iaddrS 1 (.t 36) (.t 38))⟩, ⟨(some 41), none, (.load none (.t 40))⟩, ⟨(some 4), none, (.mov (.t 41))⟩] [1, 4, 36, 37, 38]) (.seq (.reg [⟨(some 42), none, (.call (.fn 97) [] [])⟩, ⟨(some 43), none, (.mov (.t 4))⟩, ⟨(some 44), none, (.faddr 0 (.t 1))⟩, ⟨(some 45), none, (.load none (.t 44))⟩, ⟨(some 46), none, (.call (.fn 98) [(.t 42), (.t 43), (.t 45)] [])⟩, ⟨(some 47), none, (.un .not (.t 46))⟩] [1, 36, 37, 38, 47]) (.cond (.t 47) (.seq (.reg [⟨(some 2), none, (.mov (.c (.bool false)))⟩] [2]) .ret) .skip)))) (.reg [⟨(some 48), none, (.bin .add false (.t 38) (.c (.int .i64 1)))⟩, ⟨(some 38), none, (.mov (.t 48))⟩] [1, 36, 37, 38]))))
def ic44 : ICode := (.seq (.reg [⟨(some 1), none, (.box 4 (.t 0))⟩, ⟨(some 2), none, (.mov (.c (.bool false)))⟩] [1]) (.seq (.seq (.reg [⟨(some 5), none, (.faddr 0 (.t 1))⟩, ⟨(some 6), none, (.load none (.t 5))⟩, ⟨(some 7), none, (.bin .lss false (.t 6) (.c (.int .i64 1)))⟩, ⟨(some 8), none, (.mov (.t 7))⟩, ⟨(some 9), (some (8, false)), (.faddr 0 (.t 1))⟩, ⟨(some 10), (some (8, false)), (.load none (.t 9))⟩, ⟨(some 11), (some (8, false)), (.bin .gtr false (.t 10) (.c (.int .i64 1000)))⟩, ⟨(some 12), none, (.pick (.t 8) (.c (.bool true)) (.t 11))⟩, ⟨(some 13), none, (.mov (.t 12))⟩, ⟨(some 14), (some (13, false)), (.faddr 1 (.t 1))⟩, ⟨(some 15), (some (13, false)), (.load none (.t 14))⟩, ⟨(some 16), (some (13, false)), (.bin .lss false (.t 15) (.c (.int .i64 0)))⟩, ⟨(some 17), none, (.pick (.t 13) (.c (.bool true)) (.t 16))⟩, ⟨(some 18), none, (.mov (.t 17))⟩, ⟨(some 19), (some (18, false)), (.faddr 1 (.t 1))⟩, ⟨(some 20), (some (18, false)), (.load none (.t 19))⟩, ⟨(some 21), (some (18, false)), (.bin .gtr false (.t 20) (.c (.int .i64 2)))⟩, ⟨(some 22), none, (.pick (.t 18) (.c (.bool true)) (.t 21))⟩, ⟨(some 23), none, (.mov (.t 22))⟩, ⟨(some 24), (some (23, false)), (.faddr 2 (.t 1))⟩, ⟨(some 25), (some (23, false)), (.load none (.t 24))⟩, ⟨(some 26), (some (23, false)), (.len false (.t 25))⟩, ⟨(some 27), (some (23, false)), (.bin .lss false (.t 26) (.c (.int .i64 1)))⟩, ⟨(some 28), none, (.pick (.t 23) (.c (.bool true)) (.t 27))⟩, ⟨(some 29), none, (.mov (.t 28))⟩, ⟨(some 30), (some (29, false)), (.faddr 2 (.t 1))⟩, ⟨(some 31), (some (29, false)), (.load none (.t 30))⟩, ⟨(some 32), (some (29, false)), (.len false (.t 31))⟩, ⟨(some 33), (some (29, false)), (.bin .gtr false (.t 32) (.c (.int .i64 12)))⟩, ⟨(some 34), none, (.pick (.t 29) (.c (.bool true)) (.t 33))⟩] [1, 34]) (.cond (.t 34) (.seq (.reg [⟨(some 2), none, (.mov (.c (.bool false)))⟩] [2]) .ret) .skip)) (.seq (.seq (.reg [⟨(some 35), none, (.faddr 2 (.t 1))⟩, ⟨(some 36), none, (.load none (.t 35))⟩, ⟨(some 37), none, (.len false (.t 36))⟩, ⟨(some 38), none, (.mov (.c (.int .i64 0)))⟩] [1, 36, 37, 38]) (.block 0 (.loop lb44_0))) (.seq (.reg [⟨(some 49), none, (.call (.fn 99) [] [])⟩, ⟨(some 50), none, (.faddr 3 (.t 1))⟩, ⟨(some 51), none, (.load none (.t 50))⟩, ⟨(some 52), none, (.faddr 0 (.t 1))⟩, ⟨(some 53), none, (.load none (.t 52))⟩, ⟨(some 54), none, (.call (.fn 100) [(.t 49), (.t 51), (.t 53)] [])⟩, ⟨(some 2), none, (.mov (.t 54))⟩] [2]) .ret))))
def cp44 : CP := CP.mk [] [] [[1], [1, 34], [2], [1, 36, 37, 38], [1, 36, 37, 38, 39], [1, 4, 36, 37, 38], [1, 36, 37, 38, 47], [2], [1, 36, 37, 38], [2]] 55 [] []
theorem sl44_0 (x0 : (Int × Int × (List (List (Int × Nat × Nat × Nat × Nat))) × (List (Int × Nat × Nat × Nat)))) : ∀ (n : Nat) (z0_0 : Int) (o : (Bool × Bool × Unit)) (K : IExit → St → Prop), l_impl_ValidClip_0 x0 n z0_0 = some o → (∀ st, o.1 = true → outM .any st [(.t 2)] = some (.bool o.2.1) → K .ret st) → (∀ st, o.1 = false → Wk st (⟨[(1, (.lptr 1 0 0))], [(1, (some ⟨4, false, [(AV.agg [(.int .i64 x0.1), (.int .i64 x0.2.1), (.sl (List.map en1 x0.2.2.1)), (.sl (List.map en2 x0.2.2.2))])]⟩))]⟩ : St) → K (.exit 0) st) → eA (tabOf [(97, wM .any g_impl_turnTrack), (98, wM .any g_impl_Key_valid), (99, wM .any g_impl_rootTrack), (100, wM .any g_impl_RootKey_valid)]) (.loop lb44_0) (⟨[(1, (.lptr 1 0 0)), (36, (.sl (List.map en1 x0.2.2.1))), (37, (.int .i64 ((List.length x0.2.2.1 : Nat) : Int))), (38, (.int .i64 z0_0))], [(1, (some ⟨4, false, [(AV.agg [(.int .i64 x0.1), (.int .i64 x0.2.1), (.sl (List.map en1 x0.2.2.1)), (.sl (List.map en2 x0.2.2.2))])]⟩))]⟩ : St) K := by
  intro n
  induction n with
  | zero =>
    intro z0_0 o K h h0 h1
    simp only [l_impl_ValidClip_0, reduceCtorEq] at h
  | succ n ih =>
    intro z0_0 o K h h0 h1
    refine eA_loop ?_
    unfold lb44_0
    unfold l_impl_ValidClip_0 at h
    (try simp only [need_iff] at h)
    simp only [
      need_iff, h, grpA, vsliceS, grpS, grpD, grpF, grpL, eop, vop, bop, uop, fltop, convop, endOk, newE, new1, freshL, Md.isNew, outV, pureV, pureX, pure1, AV.cells, AV.one, storable, laid, refless, refless1, vload, loadC, storeC, vnil, vfaddr, vextract, flatT, flatE, flatC, vconv, vmm, vidxA, viaddrA, vfield, vlen, elemsOf, dF32, dF64, dI64, dU8, dBool, dStr, esOk, elemsS, vsliceX, bnd, ownV, ownC, own1, ownT, isSl, nSl, endL, Md.isOwn, purge, purgeH, purgeB, purgeE, hasName, name1, List.any_cons, List.any_nil, Md.isWr, pureV.pureP, Option.map, reduceIte, Nat.reduceEqDiff, Nat.reduceAdd, Nat.reduceMul, Nat.reduceLT, Nat.reduceLeDiff, List.mapM_cons, List.mapM_nil, Option.pure_def, Option.bind_eq_bind, Option.bind_some, implies_true, forall_const, beq_self_eq_true, decide_true, decide_false, eq_self, Int.reduceEq, Int.reduceLE, Int.reduceLT, if_true, if_false, grpK, Int.reduceAdd, Int.reduceSub, Int.reduceMul, Int.reduceNeg, Int.reducePow, Nat.reducePow, Int.reduceToNat, Nat.reduceSub, List.replicate, Nat.reduceBEq, wAs, wA, wC, zipW, noDupN, grpE, beq_true, beq_false, g_impl_turnTrack, g_impl_Key_valid, g_impl_rootTrack, g_impl_RootKey_valid, grpC, en0, dc_en0, en1, dc_en1, en2, dc_en2, ↓b_pick, ePk_true, ePk_false]
    repeat' (first
      | ((first | (refine eGI_of (fun hc => ?_) (fun hc => ?_)) | (refine eCc_of (fun hc => ?_) (fun hc => ?_)) | (refine ePk_of (fun hc => ?_) (fun hc => ?_)) | (have hc := True.intro; refine KW_refl ?_)) <;> (try simp only [Bool.not_eq_true', Bool.not_eq_false'] at hc) <;> (try simp only [hc, need_iff, reduceCtorEq, grpN, Int.reduceEq, Int.reduceLT, Int.reduceLE, if_true, if_false, reduceIte] at h) <;> (first | (have hc2 := hc; simp only [decide_eq_true_eq, decide_eq_false_iff_not] at hc2; (first | (replace hc2 := eq_false hc2) | (replace hc2 := eq_true hc2)); (try simp only [hc2, need_iff, reduceCtorEq, grpN, Int.reduceEq, Int.reduceLT, Int.reduceLE, if_true, if_false, reduceIte] at h); replace h := And.intro hc2 h) | (replace h := And.intro hc h) | skip) <;> simp only [hc,
      need_iff, h, grpA, vsliceS, grpS, grpD, grpF, grpL, eop, vop, bop, uop, fltop, convop, endOk, newE, new1, freshL, Md.isNew, outV, pureV, pureX, pure1, AV.cells, AV.one, storable, laid, refless, refless1, vload, loadC, storeC, vnil, vfaddr, vextract, flatT, flatE, flatC, vconv, vmm, vidxA, viaddrA, vfield, vlen, elemsOf, dF32, dF64, dI64, dU8, dBool, dStr, esOk, elemsS, vsliceX, bnd, ownV, ownC, own1, ownT, isSl, nSl, endL, Md.isOwn, purge, purgeH, purgeB, purgeE, hasName, name1, List.any_cons, List.any_nil, Md.isWr, pureV.pureP, Option.map, reduceIte, Nat.reduceEqDiff, Nat.reduceAdd, Nat.reduceMul, Nat.reduceLT, Nat.reduceLeDiff, List.mapM_cons, List.mapM_nil, Option.pure_def, Option.bind_eq_bind, Option.bind_some, implies_true, forall_const, beq_self_eq_true, decide_true, decide_false, eq_self, Int.reduceEq, Int.reduceLE, Int.reduceLT, if_true, if_false, grpK, Int.reduceAdd, Int.reduceSub, Int.reduceMul, Int.reduceNeg, Int.reducePow, Nat.reducePow, Int.reduceToNat, Nat.reduceSub, List.replicate, Nat.reduceBEq, wAs, wA, wC, zipW, noDupN, grpE, beq_true, beq_false, g_impl_turnTrack, g_impl_Key_valid, g_impl_rootTrack, g_impl_RootKey_valid, grpC, en0, dc_en0, en1, dc_en1, en2, dc_en2, ↓b_pick, ePk_true, ePk_false]))
    all_goals (have hf := h)
    all_goals (repeat (replace h := And.right h))
    all_goals ((first | (refine eA_wk (wk_norm (ks := [1, 36, 37, 38]) (ls := [1]) ?_) (eA_cast ?_ (ih _ _ _ h h0 h1))) | (cases h; have h := True.intro; refine h0 _ rfl ?_) | (cases h; have h := True.intro; refine h1 _ rfl (Wk.cast (wk_norm (ks := [1]) (ls := [1]) ?_) ?_))) <;> simp only [normOk, optIn, blkIn, nameIn, normS, List.map_append, List.length_append, List.map_set, List.length_set, List.map_replicate, List.length_replicate, List.map_nil, List.map_cons,
      need_iff, h, hf, grpA, vsliceS, grpS, grpD, grpF, grpL, eop, vop, bop, uop, fltop, convop, endOk, newE, new1, freshL, Md.isNew, outV, pureV, pureX, pure1, AV.cells, AV.one, storable, laid, refless, refless1, vload, loadC, storeC, vnil, vfaddr, vextract, flatT, flatE, flatC, vconv, vmm, vidxA, viaddrA, vfield, vlen, elemsOf, dF32, dF64, dI64, dU8, dBool, dStr, esOk, elemsS, vsliceX, bnd, ownV, ownC, own1, ownT, isSl, nSl, endL, Md.isOwn, purge, purgeH, purgeB, purgeE, hasName, name1, List.any_cons, List.any_nil, Md.isWr, pureV.pureP, Option.map, reduceIte, Nat.reduceEqDiff, Nat.reduceAdd, Nat.reduceMul, Nat.reduceLT, Nat.reduceLeDiff, List.mapM_cons, List.mapM_nil, Option.pure_def, Option.bind_eq_bind, Option.bind_some, implies_true, forall_const, beq_self_eq_true, decide_true, decide_false, eq_self, Int.reduceEq, Int.reduceLE, Int.reduceLT, if_true, if_false, grpK, Int.reduceAdd, Int.reduceSub, Int.reduceMul, Int.reduceNeg, Int.reducePow, Nat.reducePow, Int.reduceToNat, Nat.reduceSub, List.replicate, Nat.reduceBEq, wAs, wA, wC, zipW, noDupN, grpE, beq_true, beq_false, g_impl_turnTrack, g_impl_Key_valid, g_impl_rootTrack, g_impl_RootKey_valid, grpC, en0, dc_en0, en1, dc_en1, en2, dc_en2, ↓b_pick, ePk_true, ePk_false] <;> first | rfl | (simp only [Nat.add_comm]; done))
theorem s44 : ∀ vs r, g_impl_ValidClip vs = some r → SaysM Try.prog .any 44 vs r := by
  intro vs r h
  unfold g_impl_ValidClip at h
  split at h
  · rename_i y0 y1 w2 w3
    cases hd_y2 : decL dc_en1 w2 with
    | none => rw [hd_y2] at h; cases h
    | some y2 =>
    rw [hd_y2] at h
    obtain rfl := decL_inv dc_en1_inv hd_y2
    clear hd_y2
    dsimp only at h
    cases hd_y3 : decL dc_en2 w3 with
    | none => rw [hd_y3] at h; cases h
    | some y3 =>
    rw [hd_y3] at h
    obtain rfl := decL_inv dc_en2_inv hd_y3
    clear hd_y3
    dsimp only at h
    split at h
    · rename_i hp
      cases h
      refine spec_of (m := .any) (tab := tabOf [(97, wM .any g_impl_turnTrack), (98, wM .any g_impl_Key_valid), (99, wM .any g_impl_rootTrack), (100, wM .any g_impl_RootKey_valid)]) (cp := cp44) (ic := ic44) (rvl := [(.t 2)]) hm (tabOk_cons (m := .any) s97 (tabOk_cons (m := .any) s98 (tabOk_cons (m := .any) s99 (tabOk_cons (m := .any) s100 tabOk_nil)))) Try.func44 rfl rfl rfl (by kernel_rfl) rfl (Nat.le_of_ble_eq_true rfl) (Nat.le_of_ble_eq_true rfl) ?_
      show eA _ _ _ _
      unfold ic44
      simp only [p_impl_ValidClip, Bool.and_eq_true, Bool.or_eq_true, decide_eq_true_eq, Bool.not_eq_true', decide_eq_false_iff_not] at hp
      refine eS_to ?_
      repeat' (first
        | ((first | (have h := True.intro; refine eS_of ?_) | (refine eGI_of (fun h => ?_) (fun h => ?_)) | (refine eCc_of (fun h => ?_) (fun h => ?_)) | (refine ePk_of (fun h => ?_) (fun h => ?_)) | (have h := True.intro; refine KW_refl ?_)) <;> (try simp only [Bool.not_eq_true', Bool.not_eq_false'] at h) <;> (try first | exact absurd (Eq.trans (Eq.symm h) (by assumption)) Bool.false_ne_true | exact absurd (Eq.trans (Eq.symm h) (by assumption)) (Ne.symm Bool.false_ne_true)) <;> (try simp only [h, reduceCtorEq, grpN, Int.reduceEq, Int.reduceLT, Int.reduceLE, if_true, if_false, reduceIte] at hp) <;> (first | (have h2 := h; simp only [decide_eq_true_eq, decide_eq_false_iff_not] at h2; (first | (replace h2 := eq_false h2) | (replace h2 := eq_true h2)); (try simp only [h2, reduceCtorEq, grpN, Int.reduceEq, Int.reduceLT, Int.reduceLE, if_true, if_false, reduceIte] at hp); replace hp := And.intro h2 hp) | (replace hp := And.intro h hp) | skip) <;> simp only [h,
          hp, grpA, vsliceS, grpS, grpD, grpF, grpL, eop, vop, bop, uop, fltop, convop, endOk, newE, new1, freshL, Md.isNew, outV, pureV, pureX, pure1, AV.cells, AV.one, storable, laid, refless, refless1, vload, loadC, storeC, vnil, vfaddr, vextract, flatT, flatE, flatC, vconv, vmm, vidxA, viaddrA, vfield, vlen, elemsOf, dF32, dF64, dI64, dU8, dBool, dStr, esOk, elemsS, vsliceX, bnd, ownV, ownC, own1, ownT, isSl, nSl, endL, Md.isOwn, purge, purgeH, purgeB, purgeE, hasName, name1, List.any_cons, List.any_nil, Md.isWr, pureV.pureP, Option.map, reduceIte, Nat.reduceEqDiff, Nat.reduceAdd, Nat.reduceMul, Nat.reduceLT, Nat.reduceLeDiff, List.mapM_cons, List.mapM_nil, Option.pure_def, Option.bind_eq_bind, Option.bind_some, implies_true, forall_const, beq_self_eq_true, decide_true, decide_false, eq_self, Int.reduceEq, Int.reduceLE, Int.reduceLT, if_true, if_false, grpK, Int.reduceAdd, Int.reduceSub, Int.reduceMul, Int.reduceNeg, Int.reducePow, Nat.reducePow, Int.reduceToNat, Nat.reduceSub, List.replicate, Nat.reduceBEq, wAs, wA, wC, zipW, noDupN, grpE, beq_true, beq_false, g_impl_turnTrack, g_impl_Key_valid, g_impl_rootTrack, g_impl_RootKey_valid, grpC, en0, dc_en0, en1, dc_en1, en2, dc_en2, ↓b_pick, ePk_true, ePk_false])
        | (refine eA_wk (wk_norm (ks := [1, 36, 37, 38]) (ls := [1]) ?_) (eA_cast ?_ (sl44_0 (y0, y1, y2, y3) _ _ _ _ (getD_some (d := default) (x := (l_impl_ValidClip_0 (y0, y1, y2, y3) (Int.toNat (((List.length (y0, y1, y2, y3).2.2.1 : Nat) : Int) - 0) + 2) 0)) ?_) ?_ ?_)); (iterate 2 (simp only [nilS, nilV, normOk, optIn, blkIn, nameIn, normS, List.map_append, List.length_append, List.map_set, List.length_set, List.map_replicate, List.length_replicate, List.map_nil, List.map_cons,
          hp, grpA, vsliceS, grpS, grpD, grpF, grpL, eop, vop, bop, uop, fltop, convop, endOk, newE, new1, freshL, Md.isNew, outV, pureV, pureX, pure1, AV.cells, AV.one, storable, laid, refless, refless1, vload, loadC, storeC, vnil, vfaddr, vextract, flatT, flatE, flatC, vconv, vmm, vidxA, viaddrA, vfield, vlen, elemsOf, dF32, dF64, dI64, dU8, dBool, dStr, esOk, elemsS, vsliceX, bnd, ownV, ownC, own1, ownT, isSl, nSl, endL, Md.isOwn, purge, purgeH, purgeB, purgeE, hasName, name1, List.any_cons, List.any_nil, Md.isWr, pureV.pureP, Option.map, reduceIte, Nat.reduceEqDiff, Nat.reduceAdd, Nat.reduceMul, Nat.reduceLT, Nat.reduceLeDiff, List.mapM_cons, List.mapM_nil, Option.pure_def, Option.bind_eq_bind, Option.bind_some, implies_true, forall_const, beq_self_eq_true, decide_true, decide_false, eq_self, Int.reduceEq, Int.reduceLE, Int.reduceLT, if_true, if_false, grpK, Int.reduceAdd, Int.reduceSub, Int.reduceMul, Int.reduceNeg, Int.reducePow, Nat.reducePow, Int.reduceToNat, Nat.reduceSub, List.replicate, Nat.reduceBEq, wAs, wA, wC, zipW, noDupN, grpE, beq_true, beq_false, g_impl_turnTrack, g_impl_Key_valid, g_impl_rootTrack, g_impl_RootKey_valid, grpC, en0, dc_en0, en1, dc_en1, en2, dc_en2, ↓b_pick, ePk_true, ePk_false] <;> first | rfl | (simp only [Nat.add_comm]; done))); (simp only [hp]); (
        intro st2 ht hw; simp only [Kq_ret, Kb_ret, Kl_ret, ret_ok]; first | exact h0 _ hw | exact h0 _ rfl hw | exact h1 _ rfl hw | exact h0 _ ht hw | exact h1 _ ht hw | (simp only [ht, need_iff, reduceCtorEq, grpN, Int.reduceEq, Int.reduceLT, Int.reduceLE, if_true, if_false, reduceIte] at h; (repeat (replace h := And.right h)); cases h; first | exact h0 _ hw | exact h0 _ rfl hw | exact h1 _ rfl hw) | refine ⟨_, hw, ?_⟩); rotate_left; (
        intro st2 ht hw; (try simp only [ht, reduceCtorEq, grpN, Int.reduceEq, Int.reduceLT, Int.reduceLE, if_true, if_false, reduceIte] at hp); (try replace hp := And.intro ht hp); simp only [
Kq_exit, Kq_normal, Kq_ret, Kb_exit, Kb_normal, Kb_ret, Kl_exit, Kl_normal, Kl_ret, reduceIte, Nat.reduceEqDiff, if_true, if_false, eq_self]; refine KW_of hw ?_; simp only [ht, 
          hp, grpA, vsliceS, grpS, grpD, grpF, grpL, eop, vop, bop, uop, fltop, convop, endOk, newE, new1, freshL, Md.isNew, outV, pureV, pureX, pure1, AV.cells, AV.one, storable, laid, refless, refless1, vload, loadC, storeC, vnil, vfaddr, vextract, flatT, flatE, flatC, vconv, vmm, vidxA, viaddrA, vfield, vlen, elemsOf, dF32, dF64, dI64, dU8, dBool, dStr, esOk, elemsS, vsliceX, bnd, ownV, ownC, own1, ownT, isSl, nSl, endL, Md.isOwn, purge, purgeH, purgeB, purgeE, hasName, name1, List.any_cons, List.any_nil, Md.isWr, pureV.pureP, Option.map, reduceIte, Nat.reduceEqDiff, Nat.reduceAdd, Nat.reduceMul, Nat.reduceLT, Nat.reduceLeDiff, List.mapM_cons, List.mapM_nil, Option.pure_def, Option.bind_eq_bind, Option.bind_some, implies_true, forall_const, beq_self_eq_true, decide_true, decide_false, eq_self, Int.reduceEq, Int.reduceLE, Int.reduceLT, if_true, if_false, grpK, Int.reduceAdd, Int.reduceSub, Int.reduceMul, Int.reduceNeg, Int.reducePow, Nat.reducePow, Int.reduceToNat, Nat.reduceSub, List.replicate, Nat.reduceBEq, wAs, wA, wC, zipW, noDupN, grpE, beq_true, beq_false, g_impl_turnTrack, g_impl_Key_valid, g_impl_rootTrack, g_impl_RootKey_valid, grpC, en0, dc_en0, en1, dc_en1, en2, dc_en2, ↓b_pick, ePk_true, ePk_false])))
      all_goals (try simp only [*, m_impl_ValidClip, Bool.and_true, Bool.true_and, Bool.and_false, Bool.false_and, Bool.or_true, Bool.true_or, Bool.or_false, Bool.false_or, Bool.not_true, Bool.not_false, Bool.false_eq_true, if_true, if_false, reduceIte, decide_true, decide_false])
      all_goals (try (simp_all; done))
    · cases h
  · cases h
def m_impl_hasTime (x0 : (Int × Int × (List (List (Int × Nat × Nat × Nat × Nat))) × (List (Int × Nat × Nat × Nat)))) (x1 : Int) : Bool := (if (m_impl_ValidClip x0) = true then (if (decide (0 ≤ x1)) = true then (decide (x1 ≤ x0.1)) else false) else false)
def p_impl_hasTime (x0 : (Int × Int × (List (List (Int × Nat × Nat × Nat × Nat))) × (List (Int × Nat × Nat × Nat)))) (x1 : Int) : Bool := (p_impl_ValidClip x0)
def g_impl_hasTime : List AV → Option AV
  | [.agg [.int .i64 y0, .int .i64 y1, .sl w2, .sl w3], .int .i64 y4] => (match decL dc_en1 w2 with | some y2 => ((match decL dc_en2 w3 with | some y3 => (if p_impl_hasTime (y0, y1, y2, y3) y4 = true then some (.bool (m_impl_hasTime (y0, y1, y2, y3) y4)) else none) | none => none)) | none => none)
  | _ => none
def ic103 : ICode := (.seq (.reg [⟨(some 2), none, (.box 4 (.t 0))⟩, ⟨(some 4), none, (.mov (.c (.bool false)))⟩] [1, 2]) (.seq (.reg [⟨(some 5), none, (.load (some 4) (.t 2))⟩, ⟨(some 6), none, (.call (.fn 44) [(.t 5)] [])⟩, ⟨(some 7), none, (.mov (.t 6))⟩, ⟨(some 8), (some (7, true)), (.mov (.t 1))⟩, ⟨(some 9), (some (7, true)), (.bin .geq false (.t 8) (.c (.int .i64 0)))⟩, ⟨(some 10), none, (.pick (.t 7) (.t 9) (.c (.bool false)))⟩, ⟨(some 11), none, (.mov (.t 10))⟩, ⟨(some 12), (some (11, true)), (.mov (.t 1))⟩, ⟨(some 13), (some (11, true)), (.faddr 0 (.t 2))⟩, ⟨(some 14), (some (11, true)), (.load none (.t 13))⟩, ⟨(some 15), (some (11, true)), (.bin .leq false (.t 12) (.t 14))⟩, ⟨(some 16), none, (.pick (.t 11) (.t 15) (.c (.bool false)))⟩, ⟨(some 4), none, (.mov (.t 16))⟩] [4]) .ret))
def cp103 : CP := CP.mk [] [] [[1, 2], [4]] 17 [] []
theorem s103 : ∀ vs r, g_impl_hasTime vs = some r → SaysM Try.prog .any 103 vs r := by
  intro vs r h
  unfold g_impl_hasTime at h
  split at h
  · rename_i y0 y1 w2 w3 y4
    cases hd_y2 : decL dc_en1 w2 with
    | none => rw [hd_y2] at h; cases h
    | some y2 =>
    rw [hd_y2] at h
    obtain rfl := decL_inv dc_en1_inv hd_y2
    clear hd_y2
    dsimp only at h
    cases hd_y3 : decL dc_en2 w3 with
    | none => rw [hd_y3] at h; cases h
    | some y3 =>
    rw [hd_y3] at h
    obtain rfl := decL_inv dc_en2_inv hd_y3
    clear hd_y3
    dsimp only at h
    split at h
    · rename_i hp
      cases h
      refine spec_of (m := .any) (tab := tabOf [(44, wM .any g_impl_ValidClip)]) (cp := cp103) (ic := ic103) (rvl := [(.t 4)]) hm (tabOk_cons (m := .any) s44 tabOk_nil) Try.func103 rfl rfl rfl (by kernel_rfl) rfl (Nat.le_of_ble_eq_true rfl) (Nat.le_of_ble_eq_true rfl) ?_
      show eA _ _ _ _
      unfold ic103
      simp only [p_impl_hasTime, Bool.and_eq_true, Bool.or_eq_true, decide_eq_true_eq, Bool.not_eq_true', decide_eq_false_iff_not] at hp
      refine eS_to ?_
      repeat' (first
        | ((first | (have h := True.intro; refine eS_of ?_) | (refine eGI_of (fun h => ?_) (fun h => ?_)) | (refine eCc_of (fun h => ?_) (fun h => ?_)) | (refine ePk_of (fun h => ?_) (fun h => ?_))) <;> (try simp only [Bool.not_eq_true', Bool.not_eq_false'] at h) <;> (try first | exact absurd (Eq.trans (Eq.symm h) (by assumption)) Bool.false_ne_true | exact absurd (Eq.trans (Eq.symm h) (by assumption)) (Ne.symm Bool.false_ne_true)) <;> (try simp only [h, reduceCtorEq, grpN, Int.reduceEq, Int.reduceLT, Int.reduceLE, if_true, if_false, reduceIte] at hp) <;> (first | (have h2 := h; simp only [decide_eq_true_eq, decide_eq_false_iff_not] at h2; (first | (replace h2 := eq_false h2) | (replace h2 := eq_true h2)); (try simp only [h2, reduceCtorEq, grpN, Int.reduceEq, Int.reduceLT, Int.reduceLE, if_true, if_false, reduceIte] at hp); replace hp := And.intro h2 hp) | (replace hp := And.intro h hp) | skip) <;> simp only [h,
          hp, grpA, vsliceS, grpS, grpD, grpF, grpL, eop, vop, bop, uop, fltop, convop, endOk, newE, new1, freshL, Md.isNew, outV, pureV, pureX, pure1, AV.cells, AV.one, storable, laid, refless, refless1, vload, loadC, storeC, vnil, vfaddr, vextract, flatT, flatE, flatC, vconv, vmm, vidxA, viaddrA, vfield, vlen, elemsOf, dF32, dF64, dI64, dU8, dBool, dStr, esOk, elemsS, vsliceX, bnd, ownV, ownC, own1, ownT, isSl, nSl, endL, Md.isOwn, purge, purgeH, purgeB, purgeE, hasName, name1, List.any_cons, List.any_nil, Md.isWr, pureV.pureP, Option.map, reduceIte, Nat.reduceEqDiff, Nat.reduceAdd, Nat.reduceMul, Nat.reduceLT, Nat.reduceLeDiff, List.mapM_cons, List.mapM_nil, Option.pure_def, Option.bind_eq_bind, Option.bind_some, implies_true, forall_const, beq_self_eq_true, decide_true, decide_false, eq_self, Int.reduceEq, Int.reduceLE, Int.reduceLT, if_true, if_false, grpK, Int.reduceAdd, Int.reduceSub, Int.reduceMul, Int.reduceNeg, Int.reducePow, Nat.reducePow, Int.reduceToNat, Nat.reduceSub, List.replicate, Nat.reduceBEq, wAs, wA, wC, zipW, noDupN, grpE, beq_true, beq_false, g_impl_ValidClip, grpC, en0, dc_en0, en1, dc_en1, en2, dc_en2, ↓b_pick, ePk_true, ePk_false]))
      all_goals (try simp only [*, m_impl_hasTime, Bool.and_true, Bool.true_and, Bool.and_false, Bool.false_and, Bool.or_true, Bool.true_or, Bool.or_false, Bool.false_or, Bool.not_true, Bool.not_false, Bool.false_eq_true, if_true, if_false, reduceIte, decide_true, decide_false])
      all_goals (try (simp_all; done))
    · cases h
  · cases h
def m_impl_rootTrack_2 (x0 : (Int × Nat × Nat × Nat)) (x1 : Int) : (Int × Nat × Nat × Nat) := (x1, x0.2.1, x0.2.2.1, x0.2.2.2)
def g_impl_rootTrack_2 : List AV → Option AV
  | [.agg [.int .i64 y0, .flt .f32 y1, .flt .f32 y2, .flt .f32 y3], .int .i64 y4] => some (AV.agg [(.int .i64 (m_impl_rootTrack_2 (y0, y1, y2, y3) y4).1), (.flt .f32 (m_impl_rootTrack_2 (y0, y1, y2, y3) y4).2.1), (.flt .f32 (m_impl_rootTrack_2 (y0, y1, y2, y3) y4).2.2.1), (.flt .f32 (m_impl_rootTrack_2 (y0, y1, y2, y3) y4).2.2.2)])
  | _ => none
def ic149 : ICode := (.seq (.reg [⟨(some 2), none, (.box 4 (.t 0))⟩, ⟨(some 4), none, (.alloc (.agg [(.int .i64 0), (.flt .f32 0), (.flt .f32 0), (.flt .f32 0)]))⟩] [1, 2, 4]) (.seq (.reg [⟨(some 5), none, (.mov (.t 1))⟩, ⟨(some 6), none, (.faddr 0 (.t 2))⟩, ⟨none, none, (.store 1 (.t 6) (.t 5))⟩] [2, 4]) (.seq (.reg [⟨(some 7), none, (.load (some 4) (.t 2))⟩, ⟨none, none, (.store 4 (.t 4) (.t 7))⟩] [4]) .ret)))
def cp149 : CP := CP.mk [] [] [[1, 2, 4], [2, 4], [4]] 8 [] []
theorem s149 : ∀ vs r, g_impl_rootTrack_2 vs = some r → SaysM Try.prog .any 149 vs r := by
  intro vs r h
  unfold g_impl_rootTrack_2 at h
  split at h
  · rename_i y0 y1 y2 y3 y4
    cases h
    refine spec_of (m := .any) (tab := tabOf []) (cp := cp149) (ic := ic149) (rvl := [(.c 4 (some 4))]) hm tabOk_nil Try.func149 rfl rfl rfl (by kernel_rfl) rfl (Nat.le_of_ble_eq_true rfl) (Nat.le_of_ble_eq_true rfl) ?_
    show eA _ _ _ _
    unfold ic149
    simp only [
        grpA, vsliceS, grpS, grpD, grpF, grpL, eop, vop, bop, uop, fltop, convop, endOk, newE, new1, freshL, Md.isNew, outV, pureV, pureX, pure1, AV.cells, AV.one, storable, laid, refless, refless1, vload, loadC, storeC, vnil, vfaddr, vextract, flatT, flatE, flatC, vconv, vmm, vidxA, viaddrA, vfield, vlen, elemsOf, dF32, dF64, dI64, dU8, dBool, dStr, esOk, elemsS, vsliceX, bnd, ownV, ownC, own1, ownT, isSl, nSl, endL, Md.isOwn, purge, purgeH, purgeB, purgeE, hasName, name1, List.any_cons, List.any_nil, Md.isWr, pureV.pureP, Option.map, reduceIte, Nat.reduceEqDiff, Nat.reduceAdd, Nat.reduceMul, Nat.reduceLT, Nat.reduceLeDiff, List.mapM_cons, List.mapM_nil, Option.pure_def, Option.bind_eq_bind, Option.bind_some, implies_true, forall_const, beq_self_eq_true, decide_true, decide_false, eq_self, Int.reduceEq, Int.reduceLE, Int.reduceLT, if_true, if_false, grpK, Int.reduceAdd, Int.reduceSub, Int.reduceMul, Int.reduceNeg, Int.reducePow, Nat.reducePow, Int.reduceToNat, Nat.reduceSub, List.replicate, Nat.reduceBEq, wAs, wA, wC, zipW, noDupN, grpE, beq_true, beq_false, grpC, en0, dc_en0, en1, dc_en1, en2, dc_en2]
    all_goals (try simp only [*, m_impl_rootTrack_2, Bool.and_true, Bool.true_and, Bool.and_false, Bool.false_and, Bool.or_true, Bool.true_or, Bool.or_false, Bool.false_or, Bool.not_true, Bool.not_false, Bool.false_eq_true, if_true, if_false, reduceIte, decide_true, decide_false])
    all_goals (try (simp_all; done))
  · cases h
def m_impl_share (x0 : Int) (x1 : Int) (x2 : Int) : Nat := (fdiv .f32 (ofInt .f32 (IntKind.wrap .i64 (x1 - x0))) (ofInt .f32 (IntKind.wrap .i64 (x2 - x0))))
def g_impl_share : List AV → Option AV
  | [.int .i64 y0, .int .i64 y1, .int .i64 y2] => some (.flt .f32 (m_impl_share y0 y1 y2))
  | _ => none
def ic188 : ICode := (.seq (.reg [⟨(some 6), none, (.mov (.c (.flt .f32 0)))⟩] [0, 1, 2]) (.seq (.reg [⟨(some 7), none, (.mov (.t 1))⟩, ⟨(some 8), none, (.mov (.t 0))⟩, ⟨(some 9), none, (.bin .sub false (.t 7) (.t 8))⟩, ⟨(some 10), none, (.conv (.flt .f32) (.t 9))⟩, ⟨(some 11), none, (.mov (.t 2))⟩, ⟨(some 12), none, (.mov (.t 0))⟩, ⟨(some 13), none, (.bin .sub false (.t 11) (.t 12))⟩, ⟨(some 14), none, (.conv (.flt .f32) (.t 13))⟩, ⟨(some 15), none, (.bin .quo false (.t 10) (.t 14))⟩, ⟨(some 6), none, (.mov (.t 15))⟩] [6]) .ret))
def cp188 : CP := CP.mk [] [] [[0, 1, 2], [6]] 16 [] []
theorem s188 : ∀ vs r, g_impl_share vs = some r → SaysM Try.prog .any 188 vs r := by
  intro vs r h
  unfold g_impl_share at h
  split at h
  · rename_i y0 y1 y2
    cases h
    refine spec_of (m := .any) (tab := tabOf []) (cp := cp188) (ic := ic188) (rvl := [(.t 6)]) hm tabOk_nil Try.func188 rfl rfl rfl (by kernel_rfl) rfl (Nat.le_of_ble_eq_true rfl) (Nat.le_of_ble_eq_true rfl) ?_
    show eA _ _ _ _
    unfold ic188
    simp only [
        grpA, vsliceS, grpS, grpD, grpF, grpL, eop, vop, bop, uop, fltop, convop, endOk, newE, new1, freshL, Md.isNew, outV, pureV, pureX, pure1, AV.cells, AV.one, storable, laid, refless, refless1, vload, loadC, storeC, vnil, vfaddr, vextract, flatT, flatE, flatC, vconv, vmm, vidxA, viaddrA, vfield, vlen, elemsOf, dF32, dF64, dI64, dU8, dBool, dStr, esOk, elemsS, vsliceX, bnd, ownV, ownC, own1, ownT, isSl, nSl, endL, Md.isOwn, purge, purgeH, purgeB, purgeE, hasName, name1, List.any_cons, List.any_nil, Md.isWr, pureV.pureP, Option.map, reduceIte, Nat.reduceEqDiff, Nat.reduceAdd, Nat.reduceMul, Nat.reduceLT, Nat.reduceLeDiff, List.mapM_cons, List.mapM_nil, Option.pure_def, Option.bind_eq_bind, Option.bind_some, implies_true, forall_const, beq_self_eq_true, decide_true, decide_false, eq_self, Int.reduceEq, Int.reduceLE, Int.reduceLT, if_true, if_false, grpK, Int.reduceAdd, Int.reduceSub, Int.reduceMul, Int.reduceNeg, Int.reducePow, Nat.reducePow, Int.reduceToNat, Nat.reduceSub, List.replicate, Nat.reduceBEq, wAs, wA, wC, zipW, noDupN, grpE, beq_true, beq_false, grpC, en0, dc_en0, en1, dc_en1, en2, dc_en2]
    all_goals (try simp only [*, m_impl_share, Bool.and_true, Bool.true_and, Bool.and_false, Bool.false_and, Bool.or_true, Bool.true_or, Bool.or_false, Bool.false_or, Bool.not_true, Bool.not_false, Bool.false_eq_true, if_true, if_false, reduceIte, decide_true, decide_false])
    all_goals (try (simp_all; done))
  · cases h
def m_impl_LessVectors (x0 : (Nat × Nat × Nat)) (x1 : (Nat × Nat × Nat)) : (Nat × Nat × Nat) := ((fsub .f32 x0.1 x1.1), (fsub .f32 x0.2.1 x1.2.1), (fsub .f32 x0.2.2 x1.2.2))
def g_impl_LessVectors : List AV → Option AV
  | [.agg [.flt .f32 y0, .flt .f32 y1, .flt .f32 y2], .agg [.flt .f32 y3, .flt .f32 y4, .flt .f32 y5]] => some (AV.agg [(.flt .f32 (m_impl_LessVectors (y0, y1, y2) (y3, y4, y5)).1), (.flt .f32 (m_impl_LessVectors (y0, y1, y2) (y3, y4, y5)).2.1), (.flt .f32 (m_impl_LessVectors (y0, y1, y2) (y3, y4, y5)).2.2)])
  | _ => none
def ic104 : ICode := (.seq (.reg [⟨(some 2), none, (.box 3 (.t 0))⟩, ⟨(some 3), none, (.box 3 (.t 1))⟩, ⟨(some 4), none, (.alloc (.agg [(.flt .f32 0), (.flt .f32 0), (.flt .f32 0)]))⟩] [2, 3, 4]) (.seq (.reg [⟨(some 5), none, (.faddr 0 (.t 2))⟩, ⟨(some 6), none, (.load none (.t 5))⟩, ⟨(some 7), none, (.faddr 0 (.t 3))⟩, ⟨(some 8), none, (.load none (.t 7))⟩, ⟨(some 9), none, (.bin .sub false (.t 6) (.t 8))⟩, ⟨(some 10), none, (.faddr 1 (.t 2))⟩, ⟨(some 11), none, (.load none (.t 10))⟩, ⟨(some 12), none, (.faddr 1 (.t 3))⟩, ⟨(some 13), none, (.load none (.t 12))⟩, ⟨(some 14), none, (.bin .sub false (.t 11) (.t 13))⟩, ⟨(some 15), none, (.faddr 2 (.t 2))⟩, ⟨(some 16), none, (.load none (.t 15))⟩, ⟨(some 17), none, (.faddr 2 (.t 3))⟩, ⟨(some 18), none, (.load none (.t 17))⟩, ⟨(some 19), none, (.bin .sub false (.t 16) (.t 18))⟩, ⟨(some 20), none, (.build [(.flt .f32 0), (.flt .f32 0), (.flt .f32 0)] [(0, 1, (.t 9)), (1, 1, (.t 14)), (2, 1, (.t 19))])⟩, ⟨none, none, (.store 3 (.t 4) (.t 20))⟩] [4]) .ret))
def cp104 : CP := CP.mk [] [] [[2, 3, 4], [4]] 21 [] []
theorem s104 : ∀ vs r, g_impl_LessVectors vs = some r → SaysM Try.prog .any 104 vs r := by
  intro vs r h
  unfold g_impl_LessVectors at h
  split at h
  · rename_i y0 y1 y2 y3 y4 y5
    cases h
    refine spec_of (m := .any) (tab := tabOf []) (cp := cp104) (ic := ic104) (rvl := [(.c 4 (some 3))]) hm tabOk_nil Try.func104 rfl rfl rfl (by kernel_rfl) rfl (Nat.le_of_ble_eq_true rfl) (Nat.le_of_ble_eq_true rfl) ?_
    show eA _ _ _ _
    unfold ic104
    simp only [
        grpA, vsliceS, grpS, grpD, grpF, grpL, eop, vop, bop, uop, fltop, convop, endOk, newE, new1, freshL, Md.isNew, outV, pureV, pureX, pure1, AV.cells, AV.one, storable, laid, refless, refless1, vload, loadC, storeC, vnil, vfaddr, vextract, flatT, flatE, flatC, vconv, vmm, vidxA, viaddrA, vfield, vlen, elemsOf, dF32, dF64, dI64, dU8, dBool, dStr, esOk, elemsS, vsliceX, bnd, ownV, ownC, own1, ownT, isSl, nSl, endL, Md.isOwn, purge, purgeH, purgeB, purgeE, hasName, name1, List.any_cons, List.any_nil, Md.isWr, pureV.pureP, Option.map, reduceIte, Nat.reduceEqDiff, Nat.reduceAdd, Nat.reduceMul, Nat.reduceLT, Nat.reduceLeDiff, List.mapM_cons, List.mapM_nil, Option.pure_def, Option.bind_eq_bind, Option.bind_some, implies_true, forall_const, beq_self_eq_true, decide_true, decide_false, eq_self, Int.reduceEq, Int.reduceLE, Int.reduceLT, if_true, if_false, grpK, Int.reduceAdd, Int.reduceSub, Int.reduceMul, Int.reduceNeg, Int.reducePow, Nat.reducePow, Int.reduceToNat, Nat.reduceSub, List.replicate, Nat.reduceBEq, wAs, wA, wC, zipW, noDupN, grpE, beq_true, beq_false, grpC, en0, dc_en0, en1, dc_en1, en2, dc_en2]
    all_goals (try simp only [*, m_impl_LessVectors, Bool.and_true, Bool.true_and, Bool.and_false, Bool.false_and, Bool.or_true, Bool.true_or, Bool.or_false, Bool.false_or, Bool.not_true, Bool.not_false, Bool.false_eq_true, if_true, if_false, reduceIte, decide_true, decide_false])
    all_goals (try (simp_all; done))
  · cases h
def m_impl_ScaleVector (x0 : (Nat × Nat × Nat)) (x1 : Nat) : (Nat × Nat × Nat) := ((fmul .f32 x0.1 x1), (fmul .f32 x0.2.1 x1), (fmul .f32 x0.2.2 x1))
def g_impl_ScaleVector : List AV → Option AV
  | [.agg [.flt .f32 y0, .flt .f32 y1, .flt .f32 y2], .flt .f32 y3] => some (AV.agg [(.flt .f32 (m_impl_ScaleVector (y0, y1, y2) y3).1), (.flt .f32 (m_impl_ScaleVector (y0, y1, y2) y3).2.1), (.flt .f32 (m_impl_ScaleVector (y0, y1, y2) y3).2.2)])
  | _ => none
def ic59 : ICode := (.seq (.reg [⟨(some 2), none, (.box 3 (.t 0))⟩, ⟨(some 4), none, (.alloc (.agg [(.flt .f32 0), (.flt .f32 0), (.flt .f32 0)]))⟩] [1, 2, 4]) (.seq (.reg [⟨(some 5), none, (.faddr 0 (.t 2))⟩, ⟨(some 6), none, (.load none (.t 5))⟩, ⟨(some 7), none, (.mov (.t 1))⟩, ⟨(some 8), none, (.bin .mul false (.t 6) (.t 7))⟩, ⟨(some 9), none, (.faddr 1 (.t 2))⟩, ⟨(some 10), none, (.load none (.t 9))⟩, ⟨(some 11), none, (.mov (.t 1))⟩, ⟨(some 12), none, (.bin .mul false (.t 10) (.t 11))⟩, ⟨(some 13), none, (.faddr 2 (.t 2))⟩, ⟨(some 14), none, (.load none (.t 13))⟩, ⟨(some 15), none, (.mov (.t 1))⟩, ⟨(some 16), none, (.bin .mul false (.t 14) (.t 15))⟩, ⟨(some 17), none, (.build [(.flt .f32 0), (.flt .f32 0), (.flt .f32 0)] [(0, 1, (.t 8)), (1, 1, (.t 12)), (2, 1, (.t 16))])⟩, ⟨none, none, (.store 3 (.t 4) (.t 17))⟩] [4]) .ret))
def cp59 : CP := CP.mk [] [] [[1, 2, 4], [4]] 18 [] []
theorem s59 : ∀ vs r, g_impl_ScaleVector vs = some r → SaysM Try.prog .any 59 vs r := by
  intro vs r h
  unfold g_impl_ScaleVector at h
  split at h
  · rename_i y0 y1 y2 y3
    cases h
    refine spec_of (m := .any) (tab := tabOf []) (cp := cp59) (ic := ic59) (rvl := [(.c 4 (some 3))]) hm tabOk_nil Try.func59 rfl rfl rfl (by kernel_rfl) rfl (Nat.le_of_ble_eq_true rfl) (Nat.le_of_ble_eq_true rfl) ?_
    show eA _ _ _ _
    unfold ic59
    simp only [
        grpA, vsliceS, grpS, grpD, grpF, grpL, eop, vop, bop, uop, fltop, convop, endOk, newE, new1, freshL, Md.isNew, outV, pureV, pureX, pure1, AV.cells, AV.one, storable, laid, refless, refless1, vload, loadC, storeC, vnil, vfaddr, vextract, flatT, flatE, flatC, vconv, vmm, vidxA, viaddrA, vfield, vlen, elemsOf, dF32, dF64, dI64, dU8, dBool, dStr, esOk, elemsS, vsliceX, bnd, ownV, ownC, own1, ownT, isSl, nSl, endL, Md.isOwn, purge, purgeH, purgeB, purgeE, hasName, name1, List.any_cons, List.any_nil, Md.isWr, pureV.pureP, Option.map, reduceIte, Nat.reduceEqDiff, Nat.reduceAdd, Nat.reduceMul, Nat.reduceLT, Nat.reduceLeDiff, List.mapM_cons, List.mapM_nil, Option.pure_def, Option.bind_eq_bind, Option.bind_some, implies_true, forall_const, beq_self_eq_true, decide_true, decide_false, eq_self, Int.reduceEq, Int.reduceLE, Int.reduceLT, if_true, if_false, grpK, Int.reduceAdd, Int.reduceSub, Int.reduceMul, Int.reduceNeg, Int.reducePow, Nat.reducePow, Int.reduceToNat, Nat.reduceSub, List.replicate, Nat.reduceBEq, wAs, wA, wC, zipW, noDupN, grpE, beq_true, beq_false, grpC, en0, dc_en0, en1, dc_en1, en2, dc_en2]
    all_goals (try simp only [*, m_impl_ScaleVector, Bool.and_true, Bool.true_and, Bool.and_false, Bool.false_and, Bool.or_true, Bool.true_or, Bool.or_false, Bool.false_or, Bool.not_true, Bool.not_false, Bool.false_eq_true, if_true, if_false, reduceIte, decide_true, decide_false])
    all_goals (try (simp_all; done))
  · cases h
def m_impl_AddVectors (x0 : (Nat × Nat × Nat)) (x1 : (Nat × Nat × Nat)) : (Nat × Nat × Nat) := ((fadd .f32 x0.1 x1.1), (fadd .f32 x0.2.1 x1.2.1), (fadd .f32 x0.2.2 x1.2.2))
def g_impl_AddVectors : List AV → Option AV
  | [.agg [.flt .f32 y0, .flt .f32 y1, .flt .f32 y2], .agg [.flt .f32 y3, .flt .f32 y4, .flt .f32 y5]] => some (AV.agg [(.flt .f32 (m_impl_AddVectors (y0, y1, y2) (y3, y4, y5)).1), (.flt .f32 (m_impl_AddVectors (y0, y1, y2) (y3, y4, y5)).2.1), (.flt .f32 (m_impl_AddVectors (y0, y1, y2) (y3, y4, y5)).2.2)])
  | _ => none
def ic186 : ICode := (.seq (.reg [⟨(some 2), none, (.box 3 (.t 0))⟩, ⟨(some 3), none, (.box 3 (.t 1))⟩, ⟨(some 4), none, (.alloc (.agg [(.flt .f32 0), (.flt .f32 0), (.flt .f32 0)]))⟩] [2, 3, 4]) (.seq (.reg [⟨(some 5), none, (.faddr 0 (.t 2))⟩, ⟨(some 6), none, (.load none (.t 5))⟩, ⟨(some 7), none, (.faddr 0 (.t 3))⟩, ⟨(some 8), none, (.load none (.t 7))⟩, ⟨(some 9), none, (.bin .add false (.t 6) (.t 8))⟩, ⟨(some 10), none, (.faddr 1 (.t 2))⟩, ⟨(some 11), none, (.load none (.t 10))⟩, ⟨(some 12), none, (.faddr 1 (.t 3))⟩, ⟨(some 13), none, (.load none (.t 12))⟩, ⟨(some 14), none, (.bin .add false (.t 11) (.t 13))⟩, ⟨(some 15), none, (.faddr 2 (.t 2))⟩, ⟨(some 16), none, (.load none (.t 15))⟩, ⟨(some 17), none, (.faddr 2 (.t 3))⟩, ⟨(some 18), none, (.load none (.t 17))⟩, ⟨(some 19), none, (.bin .add false (.t 16) (.t 18))⟩, ⟨(some 20), none, (.build [(.flt .f32 0), (.flt .f32 0), (.flt .f32 0)] [(0, 1, (.t 9)), (1, 1, (.t 14)), (2, 1, (.t 19))])⟩, ⟨none, none, (.store 3 (.t 4) (.t 20))⟩] [4]) .ret))
def cp186 : CP := CP.mk [] [] [[2, 3, 4], [4]] 21 [] []
theorem s186 : ∀ vs r, g_impl_AddVectors vs = some r → SaysM Try.prog .any 186 vs r := by
  intro vs r h
  unfold g_impl_AddVectors at h
  split at h
  · rename_i y0 y1 y2 y3 y4 y5
    cases h
    refine spec_of (m := .any) (tab := tabOf []) (cp := cp186) (ic := ic186) (rvl := [(.c 4 (some 3))]) hm tabOk_nil Try.func186 rfl rfl rfl (by kernel_rfl) rfl (Nat.le_of_ble_eq_true rfl) (Nat.le_of_ble_eq_true rfl) ?_
    show eA _ _ _ _
    unfold ic186
    simp only [
        grpA, vsliceS, grpS, grpD, grpF, grpL, eop, vop, bop, uop, fltop, convop, endOk, newE, new1, freshL, Md.isNew, outV, pureV, pureX, pure1, AV.cells, AV.one, storable, laid, refless, refless1, vload, loadC, storeC, vnil, vfaddr, vextract, flatT, flatE, flatC, vconv, vmm, vidxA, viaddrA, vfield, vlen, elemsOf, dF32, dF64, dI64, dU8, dBool, dStr, esOk, elemsS, vsliceX, bnd, ownV, ownC, own1, ownT, isSl, nSl, endL, Md.isOwn, purge, purgeH, purgeB, purgeE, hasName, name1, List.any_cons, List.any_nil, Md.isWr, pureV.pureP, Option.map, reduceIte, Nat.reduceEqDiff, Nat.reduceAdd, Nat.reduceMul, Nat.reduceLT, Nat.reduceLeDiff, List.mapM_cons, List.mapM_nil, Option.pure_def, Option.bind_eq_bind, Option.bind_some, implies_true, forall_const, beq_self_eq_true, decide_true, decide_false, eq_self, Int.reduceEq, Int.reduceLE, Int.reduceLT, if_true, if_false, grpK, Int.reduceAdd, Int.reduceSub, Int.reduceMul, Int.reduceNeg, Int.reducePow, Nat.reducePow, Int.reduceToNat, Nat.reduceSub, List.replicate, Nat.reduceBEq, wAs, wA, wC, zipW, noDupN, grpE, beq_true, beq_false, grpC, en0, dc_en0, en1, dc_en1, en2, dc_en2]
    all_goals (try simp only [*, m_impl_AddVectors, Bool.and_true, Bool.true_and, Bool.and_false, Bool.false_and, Bool.or_true, Bool.true_or, Bool.or_false, Bool.false_or, Bool.not_true, Bool.not_false, Bool.false_eq_true, if_true, if_false, reduceIte, decide_true, decide_false])
    all_goals (try (simp_all; done))
  · cases h
def m_impl_BetweenVectors (x0 : (Nat × Nat × Nat)) (x1 : (Nat × Nat × Nat)) (x2 : Nat) : (Nat × Nat × Nat) := (m_impl_AddVectors x0 (m_impl_ScaleVector (m_impl_LessVectors x1 x0) x2))
def g_impl_BetweenVectors : List AV → Option AV
  | [.agg [.flt .f32 y0, .flt .f32 y1, .flt .f32 y2], .agg [.flt .f32 y3, .flt .f32 y4, .flt .f32 y5], .flt .f32 y6] => some (AV.agg [(.flt .f32 (m_impl_BetweenVectors (y0, y1, y2) (y3, y4, y5) y6).1), (.flt .f32 (m_impl_BetweenVectors (y0, y1, y2) (y3, y4, y5) y6).2.1), (.flt .f32 (m_impl_BetweenVectors (y0, y1, y2) (y3, y4, y5) y6).2.2)])
  | _ => none
def ic151 : ICode := (.seq (.reg [⟨(some 3), none, (.box 3 (.t 0))⟩, ⟨(some 4), none, (.box 3 (.t 1))⟩, ⟨(some 6), none, (.alloc (.agg [(.flt .f32 0), (.flt .f32 0), (.flt .f32 0)]))⟩] [2, 3, 4, 6]) (.seq (.reg [⟨(some 7), none, (.load (some 3) (.t 3))⟩, ⟨(some 8), none, (.load (some 3) (.t 4))⟩, ⟨(some 9), none, (.load (some 3) (.t 3))⟩, ⟨(some 10), none, (.call (.fn 104) [(.t 8), (.t 9)] [])⟩, ⟨(some 11), none, (.mov (.t 2))⟩, ⟨(some 12), none, (.call (.fn 59) [(.t 10), (.t 11)] [])⟩, ⟨(some 13), none, (.call (.fn 186) [(.t 7), (.t 12)] [])⟩, ⟨none, none, (.store 3 (.t 6) (.t 13))⟩] [6]) .ret))
def cp151 : CP := CP.mk [] [] [[2, 3, 4, 6], [6]] 14 [] []
theorem s151 : ∀ vs r, g_impl_BetweenVectors vs = some r → SaysM Try.prog .any 151 vs r := by
  intro vs r h
  unfold g_impl_BetweenVectors at h
  split at h
  · rename_i y0 y1 y2 y3 y4 y5 y6
    cases h
    refine spec_of (m := .any) (tab := tabOf [(59, wM .any g_impl_ScaleVector), (104, wM .any g_impl_LessVectors), (186, wM .any g_impl_AddVectors)]) (cp := cp151) (ic := ic151) (rvl := [(.c 6 (some 3))]) hm (tabOk_cons (m := .any) s59 (tabOk_cons (m := .any) s104 (tabOk_cons (m := .any) s186 tabOk_nil))) Try.func151 rfl rfl rfl (by kernel_rfl) rfl (Nat.le_of_ble_eq_true rfl) (Nat.le_of_ble_eq_true rfl) ?_
    show eA _ _ _ _
    unfold ic151
    simp only [
        grpA, vsliceS, grpS, grpD, grpF, grpL, eop, vop, bop, uop, fltop, convop, endOk, newE, new1, freshL, Md.isNew, outV, pureV, pureX, pure1, AV.cells, AV.one, storable, laid, refless, refless1, vload, loadC, storeC, vnil, vfaddr, vextract, flatT, flatE, flatC, vconv, vmm, vidxA, viaddrA, vfield, vlen, elemsOf, dF32, dF64, dI64, dU8, dBool, dStr, esOk, elemsS, vsliceX, bnd, ownV, ownC, own1, ownT, isSl, nSl, endL, Md.isOwn, purge, purgeH, purgeB, purgeE, hasName, name1, List.any_cons, List.any_nil, Md.isWr, pureV.pureP, Option.map, reduceIte, Nat.reduceEqDiff, Nat.reduceAdd, Nat.reduceMul, Nat.reduceLT, Nat.reduceLeDiff, List.mapM_cons, List.mapM_nil, Option.pure_def, Option.bind_eq_bind, Option.bind_some, implies_true, forall_const, beq_self_eq_true, decide_true, decide_false, eq_self, Int.reduceEq, Int.reduceLE, Int.reduceLT, if_true, if_false, grpK, Int.reduceAdd, Int.reduceSub, Int.reduceMul, Int.reduceNeg, Int.reducePow, Nat.reducePow, Int.reduceToNat, Nat.reduceSub, List.replicate, Nat.reduceBEq, wAs, wA, wC, zipW, noDupN, grpE, beq_true, beq_false, g_impl_ScaleVector, g_impl_LessVectors, g_impl_AddVectors, grpC, en0, dc_en0, en1, dc_en1, en2, dc_en2]
    all_goals (try simp only [*, m_impl_BetweenVectors, Bool.and_true, Bool.true_and, Bool.and_false, Bool.false_and, Bool.or_true, Bool.true_or, Bool.or_false, Bool.false_or, Bool.not_true, Bool.not_false, Bool.false_eq_true, if_true, if_false, reduceIte, decide_true, decide_false])
    all_goals (try (simp_all; done))
  · cases h
def m_impl_rootTrack_3 (x0 : (Int × Nat × Nat × Nat)) (x1 : (Int × Nat × Nat × Nat)) (x2 : Nat) : (Int × Nat × Nat × Nat) := (x0.1, (m_impl_BetweenVectors x0.2 x1.2 x2).1, (m_impl_BetweenVectors x0.2 x1.2 x2).2.1, (m_impl_BetweenVectors x0.2 x1.2 x2).2.2)
def g_impl_rootTrack_3 : List AV → Option AV
  | [.agg [.int .i64 y0, .flt .f32 y1, .flt .f32 y2, .flt .f32 y3], .agg [.int .i64 y4, .flt .f32 y5, .flt .f32 y6, .flt .f32 y7], .flt .f32 y8] => some (AV.agg [(.int .i64 (m_impl_rootTrack_3 (y0, y1, y2, y3) (y4, y5, y6, y7) y8).1), (.flt .f32 (m_impl_rootTrack_3 (y0, y1, y2, y3) (y4, y5, y6, y7) y8).2.1), (.flt .f32 (m_impl_rootTrack_3 (y0, y1, y2, y3) (y4, y5, y6, y7) y8).2.2.1), (.flt .f32 (m_impl_rootTrack_3 (y0, y1, y2, y3) (y4, y5, y6, y7) y8).2.2.2)])
  | _ => none
def ic150 : ICode := (.seq (.reg [⟨(some 3), none, (.box 4 (.t 0))⟩, ⟨(some 4), none, (.box 4 (.t 1))⟩, ⟨(some 6), none, (.alloc (.agg [(.int .i64 0), (.flt .f32 0), (.flt .f32 0), (.flt .f32 0)]))⟩] [2, 3, 4, 6]) (.seq (.reg [⟨(some 7), none, (.faddr 1 (.t 3))⟩, ⟨(some 8), none, (.load (some 3) (.t 7))⟩, ⟨(some 9), none, (.faddr 1 (.t 4))⟩, ⟨(some 10), none, (.load (some 3) (.t 9))⟩, ⟨(some 11), none, (.mov (.t 2))⟩, ⟨(some 12), none, (.call (.fn 151) [(.t 8), (.t 10), (.t 11)] [])⟩, ⟨(some 13), none, (.faddr 1 (.t 3))⟩, ⟨none, none, (.store 3 (.t 13) (.t 12))⟩] [3, 6]) (.seq (.reg [⟨(some 14), none, (.load (some 4) (.t 3))⟩, ⟨none, none, (.store 4 (.t 6) (.t 14))⟩] [6]) .ret)))
def cp150 : CP := CP.mk [] [] [[2, 3, 4, 6], [3, 6], [6]] 15 [] []
theorem s150 : ∀ vs r, g_impl_rootTrack_3 vs = some r → SaysM Try.prog .any 150 vs r := by
  intro vs r h
  unfold g_impl_rootTrack_3 at h
  split at h
  · rename_i y0 y1 y2 y3 y4 y5 y6 y7 y8
    cases h
    refine spec_of (m := .any) (tab := tabOf [(151, wM .any g_impl_BetweenVectors)]) (cp := cp150) (ic := ic150) (rvl := [(.c 6 (some 4))]) hm (tabOk_cons (m := .any) s151 tabOk_nil) Try.func150 rfl rfl rfl (by kernel_rfl) rfl (Nat.le_of_ble_eq_true rfl) (Nat.le_of_ble_eq_true rfl) ?_
    show eA _ _ _ _
    unfold ic150
    simp only [
        grpA, vsliceS, grpS, grpD, grpF, grpL, eop, vop, bop, uop, fltop, convop, endOk, newE, new1, freshL, Md.isNew, outV, pureV, pureX, pure1, AV.cells, AV.one, storable, laid, refless, refless1, vload, loadC, storeC, vnil, vfaddr, vextract, flatT, flatE, flatC, vconv, vmm, vidxA, viaddrA, vfield, vlen, elemsOf, dF32, dF64, dI64, dU8, dBool, dStr, esOk, elemsS, vsliceX, bnd, ownV, ownC, own1, ownT, isSl, nSl, endL, Md.isOwn, purge, purgeH, purgeB, purgeE, hasName, name1, List.any_cons, List.any_nil, Md.isWr, pureV.pureP, Option.map, reduceIte, Nat.reduceEqDiff, Nat.reduceAdd, Nat.reduceMul, Nat.reduceLT, Nat.reduceLeDiff, List.mapM_cons, List.mapM_nil, Option.pure_def, Option.bind_eq_bind, Option.bind_some, implies_true, forall_const, beq_self_eq_true, decide_true, decide_false, eq_self, Int.reduceEq, Int.reduceLE, Int.reduceLT, if_true, if_false, grpK, Int.reduceAdd, Int.reduceSub, Int.reduceMul, Int.reduceNeg, Int.reducePow, Nat.reducePow, Int.reduceToNat, Nat.reduceSub, List.replicate, Nat.reduceBEq, wAs, wA, wC, zipW, noDupN, grpE, beq_true, beq_false, g_impl_BetweenVectors, grpC, en0, dc_en0, en1, dc_en1, en2, dc_en2]
    all_goals (try simp only [*, m_impl_rootTrack_3, Bool.and_true, Bool.true_and, Bool.and_false, Bool.false_and, Bool.or_true, Bool.true_or, Bool.or_false, Bool.false_or, Bool.not_true, Bool.not_false, Bool.false_eq_true, if_true, if_false, reduceIte, decide_true, decide_false])
    all_goals (try (simp_all; done))
  · cases h
def l_impl_RootKey_sample_0 (x1 : (List (Int × Nat × Nat × Nat))) (x2 : Int) (x3 : Int) : Nat → Int → Option Int
  | 0, _ => none
  | n + 1, z0_0 => (if (decide (z0_0 < ((List.length x1 : Nat) : Int))) = true then (need (inB z0_0 (List.length x1)) (if (decide ((m_impl_rootTrack_1 (atI x1 z0_0)) ≤ x3)) = true then (l_impl_RootKey_sample_0 x1 x2 x3 n (IntKind.wrap .i64 (z0_0 + 1))) else (some z0_0))) else (some z0_0))
def v_impl_RootKey_sample_0 (x1 : (List (Int × Nat × Nat × Nat))) (x2 : Int) (x3 : Int) : Int := (m_impl_rootTrack_1 (atI x1 (IntKind.wrap .i64 ((Option.getD (l_impl_RootKey_sample_0 x1 x2 x3 (Int.toNat (((List.length x1 : Nat) : Int) - 0) + 2) 0) default) - 1))))
def v_impl_RootKey_sample_1 (x1 : (List (Int × Nat × Nat × Nat))) (x2 : Int) (x3 : Int) : Nat := (m_impl_share (v_impl_RootKey_sample_0 x1 x2 x3) x3 (m_impl_rootTrack_1 (atI x1 (Option.getD (l_impl_RootKey_sample_0 x1 x2 x3 (Int.toNat (((List.length x1 : Nat) : Int) - 0) + 2) 0) default))))
def v_impl_RootKey_sample_2 (x1 : (List (Int × Nat × Nat × Nat))) (x2 : Int) (x3 : Int) : Nat := (fmul .f32 (fmul .f32 (v_impl_RootKey_sample_1 x1 x2 x3) (v_impl_RootKey_sample_1 x1 x2 x3)) (fsub .f32 1077936128 (fmul .f32 1073741824 (v_impl_RootKey_sample_1 x1 x2 x3))))
def m_impl_RootKey_sample (x0 : (Unit × Unit × Unit)) (x1 : (List (Int × Nat × Nat × Nat))) (x2 : Int) (x3 : Int) : (Int × Nat × Nat × Nat) := (if (decide ((Option.getD (l_impl_RootKey_sample_0 x1 x2 x3 (Int.toNat (((List.length x1 : Nat) : Int) - 0) + 2) 0) default) = 0)) = true then (m_impl_rootTrack_2 (atI x1 0) x3) else (if (decide ((Option.getD (l_impl_RootKey_sample_0 x1 x2 x3 (Int.toNat (((List.length x1 : Nat) : Int) - 0) + 2) 0) default) = ((List.length x1 : Nat) : Int))) = true then (m_impl_rootTrack_2 (atI x1 (IntKind.wrap .i64 ((Option.getD (l_impl_RootKey_sample_0 x1 x2 x3 (Int.toNat (((List.length x1 : Nat) : Int) - 0) + 2) 0) default) - 1))) x3) else (if (decide ((v_impl_RootKey_sample_0 x1 x2 x3) = x3)) = true then (m_impl_rootTrack_2 (atI x1 (IntKind.wrap .i64 ((Option.getD (l_impl_RootKey_sample_0 x1 x2 x3 (Int.toNat (((List.length x1 : Nat) : Int) - 0) + 2) 0) default) - 1))) x3) else (if (decide (x2 = 0)) = true then (m_impl_rootTrack_2 (atI x1 (IntKind.wrap .i64 ((Option.getD (l_impl_RootKey_sample_0 x1 x2 x3 (Int.toNat (((List.length x1 : Nat) : Int) - 0) + 2) 0) default) - 1))) x3) else (m_impl_rootTrack_2 (m_impl_rootTrack_3 (atI x1 (IntKind.wrap .i64 ((Option.getD (l_impl_RootKey_sample_0 x1 x2 x3 (Int.toNat (((List.length x1 : Nat) : Int) - 0) + 2) 0) default) - 1))) (atI x1 (Option.getD (l_impl_RootKey_sample_0 x1 x2 x3 (Int.toNat (((List.length x1 : Nat) : Int) - 0) + 2) 0) default)) (if (decide (x2 = 2)) = true then (v_impl_RootKey_sample_2 x1 x2 x3) else (v_impl_RootKey_sample_1 x1 x2 x3))) x3)))))
def p_impl_RootKey_sample (x0 : (Unit × Unit × Unit)) (x1 : (List (Int × Nat × Nat × Nat))) (x2 : Int) (x3 : Int) : Bool := ((Option.isSome (l_impl_RootKey_sample_0 x1 x2 x3 (Int.toNat (((List.length x1 : Nat) : Int) - 0) + 2) 0)) && (if (decide ((Option.getD (l_impl_RootKey_sample_0 x1 x2 x3 (Int.toNat (((List.length x1 : Nat) : Int) - 0) + 2) 0) default) = 0)) = true then (inB 0 (List.length x1)) else (if (decide ((Option.getD (l_impl_RootKey_sample_0 x1 x2 x3 (Int.toNat (((List.length x1 : Nat) : Int) - 0) + 2) 0) default) = ((List.length x1 : Nat) : Int))) = true then (inB (IntKind.wrap .i64 ((Option.getD (l_impl_RootKey_sample_0 x1 x2 x3 (Int.toNat (((List.length x1 : Nat) : Int) - 0) + 2) 0) default) - 1)) (List.length x1)) else ((inB (IntKind.wrap .i64 ((Option.getD (l_impl_RootKey_sample_0 x1 x2 x3 (Int.toNat (((List.length x1 : Nat) : Int) - 0) + 2) 0) default) - 1)) (List.length x1)) && ((decide ((v_impl_RootKey_sample_0 x1 x2 x3) = x3)) || ((decide (x2 = 0)) || (inB (Option.getD (l_impl_RootKey_sample_0 x1 x2 x3 (Int.toNat (((List.length x1 : Nat) : Int) - 0) + 2) 0) default) (List.length x1))))))))
def g_impl_RootKey_sample : List AV → Option AV
  | [.agg [.fn (.func 148) [] [], .fn (.func 149) [] [], .fn (.func 150) [] []], .sl w0, .int .i64 y1, .int .i64 y2] => (match decL dc_en2 w0 with | some y0 => (if p_impl_RootKey_sample ((), (), ()) y0 y1 y2 = true then some (AV.agg [(.int .i64 (m_impl_RootKey_sample ((), (), ()) y0 y1 y2).1), (.flt .f32 (m_impl_RootKey_sample ((), (), ()) y0 y1 y2).2.1), (.flt .f32 (m_impl_RootKey_sample ((), (), ()) y0 y1 y2).2.2.1), (.flt .f32 (m_impl_RootKey_sample ((), (), ()) y0 y1 y2).2.2.2)]) else none) | none => none)
  | _ => none
def lb155_0 : ICode := (.seq (.seq (.reg [⟨(some 13), none, (.mov (.t 9))⟩, ⟨(some 14), none, (.mov (.t 1))⟩, ⟨(some 15), none, (.len false (.t 14))⟩, ⟨(some 16), none, (.bin .lss false (.t 13) (.t 15))⟩, ⟨(some 17), none, (.mov (.t 16))⟩, ⟨(some 18), (some (17, true)), (.faddr 0 (.t 4))⟩, ⟨(some 19), (some (17, true)), (.load none (.o 18 4))⟩, ⟨(some 20), (some (17, true)), (.mov (.t 1))⟩, ⟨(some 21), (some (17, true)), (.mov (.t 9))⟩, ⟨(some 22), (some (17, true)), (.iaddrS 4 (.p 20) (.t 21))⟩, ⟨(some 23), (some (17, true)), (.load (some 4) (.p 22))⟩, ⟨(some 24), (some (17, true)), (.call (.dyn (.t 19)) [(.t 23)] [])⟩, ⟨(some 25), (some (17, true)), (.mov (.t 3))⟩, ⟨(some 26), (some (17, true)), (.bin .leq false (.t 24) (.t 25))⟩, ⟨(some 27), none, (.pick (.t 17) (.t 26) (.c (.bool false)))⟩] [1, 2, 3, 4, 8, 9, 27]) (.cond (.t 27) .skip (.exit 0))) (.block 1 (.reg [⟨(some 28), none, (.mov (.t 9))⟩, ⟨(some 29), none, (.bin .add false (.t 28) (.c (.int .i64 1)))⟩, ⟨(some 9), none, (.mov (.t 29))⟩] [1, 2, 3, 4, 8, 9])))
def ic155 : ICode := (.seq (.reg [⟨(some 4), none, (.box 3 (.t 0))⟩, ⟨(some 8), none, (.alloc (.agg [(.int .i64 0), (.flt .f32 0), (.flt .f32 0), (.flt .f32 0)]))⟩] [1, 2, 3, 4, 8]) (.seq (.reg [⟨(some 9), none, (.mov (.c (.int .i64 0)))⟩] [1, 2, 3, 4, 8, 9]) (.seq (.block 0 (.loop lb155_0)) (.seq (.block 2 (.seq (.reg [⟨(some 31), none, (.mov (.t 9))⟩, ⟨(some 32), none, (.bin .eql false (.t 31) (.c (.int .i64 0)))⟩, ⟨(some 30), none, (.mov (.t 32))⟩] [1, 2, 3, 4, 8, 9, 30]) (.cond (.t 30) (.seq (.reg [⟨(some 33), none, (.faddr 1 (.t 4))⟩, ⟨(some 34), none, (.load none (.o 33 4))⟩, ⟨(some 35), none, (.mov (.t 1))⟩, ⟨(some 36), none, (.iaddrS 4 (.p 35) (.c (.int .i64 0)))⟩, ⟨(some 37), none, (.load (some 4) (.t 36))⟩, ⟨(some 38), none, (.mov (.t 3))⟩, ⟨(some 39), none, (.call (.dyn (.t 34)) [(.t 37), (.t 38)] [])⟩, ⟨none, none, (.store 4 (.o 8 8) (.t 39))⟩] [8]) .ret) (.seq (.reg [⟨(some 41), none, (.mov (.t 9))⟩, ⟨(some 42), none, (.mov (.t 1))⟩, ⟨(some 43), none, (.len false (.t 42))⟩, ⟨(some 44), none, (.bin .eql false (.t 41) (.t 43))⟩, ⟨(some 45), none, (.mov (.t 44))⟩, ⟨(some 46), (some (45, false)), (.faddr 0 (.t 4))⟩, ⟨(some 47), (some (45, false)), (.load none (.o 46 4))⟩, ⟨(some 48), (some (45, false)), (.mov (.t 1))⟩, ⟨(some 49), (some (45, false)), (.mov (.t 9))⟩, ⟨(some 50), (some (45, false)), (.bin .sub false (.t 49) (.c (.int .i64 1)))⟩, ⟨(some 51), (some (45, false)), (.iaddrS 4 (.p 48) (.t 50))⟩, ⟨(some 52), (some (45, false)), (.load (some 4) (.p 51))⟩, ⟨(some 53), (some (45, false)), (.call (.dyn (.t 47)) [(.t 52)] [])⟩, ⟨(some 54), (some (45, false)), (.mov (.t 3))⟩, ⟨(some 55), (some (45, false)), (.bin .eql false (.t 53) (.t 54))⟩, ⟨(some 56), none, (.pick (.t 45) (.c (.bool true)) (.t 55))⟩, ⟨(some 57), none, (.mov (.t 56))⟩, ⟨(some 58), (some (57, false)), (.mov (.t 2))⟩, ⟨(some 59), (some (57, false)), (.bin .eql false (.t 58) (.c (.int .i64 0)))⟩, ⟨(some 60), none, (.pick (.t 57) (.c (.bool true)) (.t 59))⟩, ⟨(some 40), none, (.mov (.t 60))⟩] [1, 2, 3, 4, 8, 9, 40]) (.cond (.t 40) (.seq (.reg [⟨(some 61), none, (.faddr 1 (.t 4))⟩, ⟨(some 62), none, (.load none (.o 61 4))⟩, ⟨(some 63), none, (.mov (.t 1))⟩, ⟨(some 64), none, (.mov (.t 9))⟩, ⟨(some 65), none, (.bin .sub false (.t 64) (.c (.int .i64 1)))⟩, ⟨(some 66), none, (.iaddrS 4 (.p 63) (.t 65))⟩, ⟨(some 67), none, (.load (some 4) (.p 66))⟩, ⟨(some 68), none, (.mov (.t 3))⟩, ⟨(some 69), none, (.call (.dyn (.t 62)) [(.t 67), (.t 68)] [])⟩, ⟨none, none, (.store 4 (.o 8 8) (.t
      69))⟩] [8]) .ret) .skip))))) (.seq (.reg [⟨(some 70), none, (.mov (.t 1))⟩, ⟨(some 71), none, (.mov (.t 9))⟩, ⟨(some 72), none, (.bin .sub false (.t 71) (.c (.int .i64 1)))⟩, ⟨(some 73), none, (.iaddrS 4 (.p 70) (.t 72))⟩, ⟨(some 74), none, (.load (some 4) (.p 73))⟩, ⟨(some 75), none, (.mov (.t 1))⟩, ⟨(some 76), none, (.mov (.t 9))⟩, ⟨(some 77), none, (.iaddrS 4 (.p 75) (.t 76))⟩, ⟨(some 78), none, (.load (some 4) (.p 77))⟩, ⟨(some 10), none, (.alloc (.agg [(.int .i64 0), (.flt .f32 0), (.flt .f32 0), (.flt .f32 0)]))⟩, ⟨(some 11), none, (.alloc (.agg [(.int .i64 0), (.flt .f32 0), (.flt .f32 0), (.flt .f32 0)]))⟩, ⟨none, none, (.store 4 (.o 10 10) (.t 74))⟩, ⟨none, none, (.store 4 (.o 11 11) (.t 78))⟩] [2, 3, 4, 8, 10, 11]) (.seq (.reg [⟨(some 79), none, (.faddr 0 (.t 4))⟩, ⟨(some 80), none, (.load none (.o 79 4))⟩, ⟨(some 81), none, (.load (some 4) (.o 10 10))⟩, ⟨(some 82), none, (.call (.dyn (.t 80)) [(.t 81)] [])⟩, ⟨(some 83), none, (.mov (.t 3))⟩, ⟨(some 84), none, (.faddr 0 (.t 4))⟩, ⟨(some 85), none, (.load none (.o 84 4))⟩, ⟨(some 86), none, (.load (some 4) (.o 11 11))⟩, ⟨(some 87), none, (.call (.dyn (.t 85)) [(.t 86)] [])⟩, ⟨(some 88), none, (.call (.fn 188) [(.t 82), (.t 83), (.t 87)] [])⟩, ⟨(some 12), none, (.mov (.t 88))⟩] [2, 3, 4, 8, 10, 11, 12]) (.seq (.seq (.reg [⟨(some 89), none, (.mov (.t 2))⟩, ⟨(some 90), none, (.bin .eql false (.t 89) (.c (.int .i64 2)))⟩] [3, 4, 8, 10, 11, 12, 90]) (.cond (.t 90) (.reg [⟨(some 91), none, (.mov (.t 12))⟩, ⟨(some 92), none, (.mov (.t 12))⟩, ⟨(some 93), none, (.bin .mul false (.t 91) (.t 92))⟩, ⟨(some 94), none, (.mov (.t 12))⟩, ⟨(some 95), none, (.bin .mul false (.c (.flt .f32 1073741824)) (.t 94))⟩, ⟨(some 96), none, (.bin .sub false (.c (.flt .f32 1077936128)) (.t 95))⟩, ⟨(some 97), none, (.bin .mul false (.t 93) (.t 96))⟩, ⟨(some 12), none, (.mov (.t 97))⟩] [3, 4, 8, 10, 11, 12]) .skip)) (.seq (.reg [⟨(some 98), none, (.faddr 1 (.t 4))⟩, ⟨(some 99), none, (.load none (.o 98 4))⟩, ⟨(some 100), none, (.faddr 2 (.t 4))⟩, ⟨(some 101), none, (.load none (.o 100 4))⟩, ⟨(some 102), none, (.load (some 4) (.o 10 10))⟩, ⟨(some 103), none, (.load (some 4) (.o 11 11))⟩, ⟨(some 104), none, (.mov (.t 12))⟩, ⟨(some 105), none, (.call (.dyn (.t 101)) [(.t 102), (.t 103), (.t 104)] [])⟩, ⟨(some 106), none, (.mov (.t 3))⟩, ⟨(some 107), none, (.call (.dyn (.t 99)) [(.t 105), (.t 106)] [])⟩, ⟨none, none, (.store 4 (.o 8 8) (.t 107))⟩] [8]) .ret))))))))
def cp155 : CP := CP.mk [] [] [[1, 2, 3, 4, 8], [1, 2, 3, 4, 8, 9], [1, 2, 3, 4, 8, 9, 27], [1, 2, 3, 4, 8, 9], [1, 2, 3, 4, 8, 9, 30], [8], [1, 2, 3, 4, 8, 9, 40], [8], [2, 3, 4, 8, 10, 11], [2, 3, 4, 8, 10, 11, 12], [3, 4, 8, 10, 11, 12, 90], [3, 4, 8, 10, 11, 12], [8]] 108 [(8, 8), (10, 10), (11, 11), (18, 4), (33, 4), (46, 4), (61, 4), (79, 4), (84, 4), (98, 4), (100, 4)] [20, 22, 35, 48, 51, 63, 66, 70, 73, 75, 77]
theorem sl155_0 (x1 : (List (Int × Nat × Nat × Nat))) (x2 : Int) (x3 : Int) : ∀ (n : Nat) (z0_0 : Int) (o : Int) (K : IExit → St → Prop), l_impl_RootKey_sample_0 x1 x2 x3 n z0_0 = some o → (∀ st, Wk st (⟨[(1, (.sl (List.map en2 x1))), (2, (.int .i64 x2)), (3, (.int .i64 x3)), (4, (.lptr 4 0 0)), (8, (.lptr 8 0 0)), (9, (.int .i64 o))], [(4, (some ⟨3, false, [(AV.agg [(.fn (.func 148) [] []), (.fn (.func 149) [] []), (.fn (.func 150) [] [])])]⟩)), (8, (some ⟨4, false, [(AV.agg [(.int .i64 0), (.flt .f32 0), (.flt .f32 0), (.flt .f32 0)])]⟩))]⟩ : St) → K (.exit 0) st) → eA (tabOf [(148, wM .any g_impl_rootTrack_1), (149, wM .any g_impl_rootTrack_2), (150, wM .any g_impl_rootTrack_3), (188, wM .any g_impl_share)]) (.loop lb155_0) (⟨[(1, (.sl (List.map en2 x1))), (2, (.int .i64 x2)), (3, (.int .i64 x3)), (4, (.lptr 4 0 0)), (8, (.lptr 8 0 0)), (9, (.int .i64 z0_0))], [(4, (some ⟨3, false, [(AV.agg [(.fn (.func 148) [] []), (.fn (.func 149) [] []), (.fn (.func 150) [] [])])]⟩)), (8, (some ⟨4, false, [(AV.agg [(.int .i64 0), (.flt .f32 0), (.flt .f32 0), (.flt .f32 0)])]⟩))]⟩ : St) K := by
  intro n
  induction n with
  | zero =>
    intro z0_0 o K h h0
    simp only [l_impl_RootKey_sample_0, reduceCtorEq] at h
  | succ n ih =>
    intro z0_0 o K h h0
    refine eA_loop ?_
    unfold lb155_0
    unfold l_impl_RootKey_sample_0 at h
    (try simp only [need_iff, v_impl_RootKey_sample_0, v_impl_RootKey_sample_1, v_impl_RootKey_sample_2] at h)
    simp only [
      need_iff, h, grpA, vsliceS, grpS, grpD, grpF, grpL, eop, vop, bop, uop, fltop, convop, endOk, newE, new1, freshL, Md.isNew, outV, pureV, pureX, pure1, AV.cells, AV.one, storable, laid, refless, refless1, vload, loadC, storeC, vnil, vfaddr, vextract, flatT, flatE, flatC, vconv, vmm, vidxA, viaddrA, vfield, vlen, elemsOf, dF32, dF64, dI64, dU8, dBool, dStr, esOk, elemsS, vsliceX, bnd, ownV, ownC, own1, ownT, isSl, nSl, endL, Md.isOwn, purge, purgeH, purgeB, purgeE, hasName, name1, List.any_cons, List.any_nil, Md.isWr, pureV.pureP, Option.map, reduceIte, Nat.reduceEqDiff, Nat.reduceAdd, Nat.reduceMul, Nat.reduceLT, Nat.reduceLeDiff, List.mapM_cons, List.mapM_nil, Option.pure_def, Option.bind_eq_bind, Option.bind_some, implies_true, forall_const, beq_self_eq_true, decide_true, decide_false, eq_self, Int.reduceEq, Int.reduceLE, Int.reduceLT, if_true, if_false, grpK, Int.reduceAdd, Int.reduceSub, Int.reduceMul, Int.reduceNeg, Int.reducePow, Nat.reducePow, Int.reduceToNat, Nat.reduceSub, List.replicate, Nat.reduceBEq, wAs, wA, wC, zipW, noDupN, grpE, beq_true, beq_false, g_impl_rootTrack_1, g_impl_rootTrack_2, g_impl_rootTrack_3, g_impl_share, grpC, en0, dc_en0, en1, dc_en1, en2, dc_en2, ↓b_pick, ePk_true, ePk_false]
    repeat' (first
      | ((first | (refine eGI_of (fun hc => ?_) (fun hc => ?_)) | (refine eCc_of (fun hc => ?_) (fun hc => ?_)) | (refine ePk_of (fun hc => ?_) (fun hc => ?_)) | (have hc := True.intro; refine KW_refl ?_)) <;> (try simp only [Bool.not_eq_true', Bool.not_eq_false'] at hc) <;> (try simp only [hc, need_iff, reduceCtorEq, grpN, Int.reduceEq, Int.reduceLT, Int.reduceLE, if_true, if_false, reduceIte] at h) <;> (first | (have hc2 := hc; simp only [decide_eq_true_eq, decide_eq_false_iff_not] at hc2; (first | (replace hc2 := eq_false hc2) | (replace hc2 := eq_true hc2)); (try simp only [hc2, need_iff, reduceCtorEq, grpN, Int.reduceEq, Int.reduceLT, Int.reduceLE, if_true, if_false, reduceIte] at h); replace h := And.intro hc2 h) | (replace h := And.intro hc h) | skip) <;> simp only [hc,
      need_iff, h, grpA, vsliceS, grpS, grpD, grpF, grpL, eop, vop, bop, uop, fltop, convop, endOk, newE, new1, freshL, Md.isNew, outV, pureV, pureX, pure1, AV.cells, AV.one, storable, laid, refless, refless1, vload, loadC, storeC, vnil, vfaddr, vextract, flatT, flatE, flatC, vconv, vmm, vidxA, viaddrA, vfield, vlen, elemsOf, dF32, dF64, dI64, dU8, dBool, dStr, esOk, elemsS, vsliceX, bnd, ownV, ownC, own1, ownT, isSl, nSl, endL, Md.isOwn, purge, purgeH, purgeB, purgeE, hasName, name1, List.any_cons, List.any_nil, Md.isWr, pureV.pureP, Option.map, reduceIte, Nat.reduceEqDiff, Nat.reduceAdd, Nat.reduceMul, Nat.reduceLT, Nat.reduceLeDiff, List.mapM_cons, List.mapM_nil, Option.pure_def, Option.bind_eq_bind, Option.bind_some, implies_true, forall_const, beq_self_eq_true, decide_true, decide_false, eq_self, Int.reduceEq, Int.reduceLE, Int.reduceLT, if_true, if_false, grpK, Int.reduceAdd, Int.reduceSub, Int.reduceMul, Int.reduceNeg, Int.reducePow, Nat.reducePow, Int.reduceToNat, Nat.reduceSub, List.replicate, Nat.reduceBEq, wAs, wA, wC, zipW, noDupN, grpE, beq_true, beq_false, g_impl_rootTrack_1, g_impl_rootTrack_2, g_impl_rootTrack_3, g_impl_share, grpC, en0, dc_en0, en1, dc_en1, en2, dc_en2, ↓b_pick, ePk_true, ePk_false]))
    all_goals (have hf := h)
    all_goals (repeat (replace h := And.right h))
    all_goals ((first | (refine eA_wk (wk_norm (ks := [1, 2, 3, 4, 8, 9]) (ls := [4, 8]) ?_) (eA_cast ?_ (ih _ _ _ h h0))) | (cases h; have h := True.intro; refine h0 _ (Wk.cast (wk_norm (ks := [1, 2, 3, 4, 8, 9]) (ls := [4, 8]) ?_) ?_))) <;> simp only [normOk, optIn, blkIn, nameIn, normS, List.map_append, List.length_append, List.map_set, List.length_set, List.map_replicate, List.length_replicate, List.map_nil, List.map_cons,
      need_iff, h, hf, grpA, vsliceS, grpS, grpD, grpF, grpL, eop, vop, bop, uop, fltop, convop, endOk, newE, new1, freshL, Md.isNew, outV, pureV, pureX, pure1, AV.cells, AV.one, storable, laid, refless, refless1, vload, loadC, storeC, vnil, vfaddr, vextract, flatT, flatE, flatC, vconv, vmm, vidxA, viaddrA, vfield, vlen, elemsOf, dF32, dF64, dI64, dU8, dBool, dStr, esOk, elemsS, vsliceX, bnd, ownV, ownC, own1, ownT, isSl, nSl, endL, Md.isOwn, purge, purgeH, purgeB, purgeE, hasName, name1, List.any_cons, List.any_nil, Md.isWr, pureV.pureP, Option.map, reduceIte, Nat.reduceEqDiff, Nat.reduceAdd, Nat.reduceMul, Nat.reduceLT, Nat.reduceLeDiff, List.mapM_cons, List.mapM_nil, Option.pure_def, Option.bind_eq_bind, Option.bind_some, implies_true, forall_const, beq_self_eq_true, decide_true, decide_false, eq_self, Int.reduceEq, Int.reduceLE, Int.reduceLT, if_true, if_false, grpK, Int.reduceAdd, Int.reduceSub, Int.reduceMul, Int.reduceNeg, Int.reducePow, Nat.reducePow, Int.reduceToNat, Nat.reduceSub, List.replicate, Nat.reduceBEq, wAs, wA, wC, zipW, noDupN, grpE, beq_true, beq_false, g_impl_rootTrack_1, g_impl_rootTrack_2, g_impl_rootTrack_3, g_impl_share, grpC, en0, dc_en0, en1, dc_en1, en2, dc_en2, ↓b_pick, ePk_true, ePk_false] <;> first | rfl | (simp only [Nat.add_comm]; done))
theorem s155 : ∀ vs r, g_impl_RootKey_sample vs = some r → SaysM Try.prog .any 155 vs r := by
  intro vs r h
  unfold g_impl_RootKey_sample at h
  split at h
  · rename_i w0 y1 y2
    cases hd_y0 : decL dc_en2 w0 with
    | none => rw [hd_y0] at h; cases h
    | some y0 =>
    rw [hd_y0] at h
    obtain rfl := decL_inv dc_en2_inv hd_y0
    clear hd_y0
    dsimp only at h
    split at h
    · rename_i hp
      cases h
      refine spec_of (m := .any) (tab := tabOf [(148, wM .any g_impl_rootTrack_1), (149, wM .any g_impl_rootTrack_2), (150, wM .any g_impl_rootTrack_3), (188, wM .any g_impl_share)]) (cp := cp155) (ic := ic155) (rvl := [(.c 8 (some 4))]) hm (tabOk_cons (m := .any) s148 (tabOk_cons (m := .any) s149 (tabOk_cons (m := .any) s150 (tabOk_cons (m := .any) s188 tabOk_nil)))) Try.func155 rfl rfl rfl (by kernel_rfl) rfl (Nat.le_of_ble_eq_true rfl) (Nat.le_of_ble_eq_true rfl) ?_
      show eA _ _ _ _
      unfold ic155
      simp only [p_impl_RootKey_sample, v_impl_RootKey_sample_0, v_impl_RootKey_sample_1, v_impl_RootKey_sample_2, Bool.and_eq_true, Bool.or_eq_true, decide_eq_true_eq, Bool.not_eq_true', decide_eq_false_iff_not] at hp
      refine eS_to ?_
      repeat' (first
        | ((first | (have h := True.intro; refine eS_of ?_) | (refine eGI_of (fun h => ?_) (fun h => ?_)) | (refine eCc_of (fun h => ?_) (fun h => ?_)) | (refine ePk_of (fun h => ?_) (fun h => ?_)) | (have h := True.intro; refine KW_refl ?_)) <;> (try simp only [Bool.not_eq_true', Bool.not_eq_false'] at h) <;> (try first | exact absurd (Eq.trans (Eq.symm h) (by assumption)) Bool.false_ne_true | exact absurd (Eq.trans (Eq.symm h) (by assumption)) (Ne.symm Bool.false_ne_true)) <;> (try simp only [h, reduceCtorEq, grpN, Int.reduceEq, Int.reduceLT, Int.reduceLE, if_true, if_false, reduceIte] at hp) <;> (first | (have h2 := h; simp only [decide_eq_true_eq, decide_eq_false_iff_not] at h2; (first | (replace h2 := eq_false h2) | (replace h2 := eq_true h2)); (try simp only [h2, reduceCtorEq, grpN, Int.reduceEq, Int.reduceLT, Int.reduceLE, if_true, if_false, reduceIte] at hp); replace hp := And.intro h2 hp) | (replace hp := And.intro h hp) | skip) <;> simp only [h,
          hp, grpA, vsliceS, grpS, grpD, grpF, grpL, eop, vop, bop, uop, fltop, convop, endOk, newE, new1, freshL, Md.isNew, outV, pureV, pureX, pure1, AV.cells, AV.one, storable, laid, refless, refless1, vload, loadC, storeC, vnil, vfaddr, vextract, flatT, flatE, flatC, vconv, vmm, vidxA, viaddrA, vfield, vlen, elemsOf, dF32, dF64, dI64, dU8, dBool, dStr, esOk, elemsS, vsliceX, bnd, ownV, ownC, own1, ownT, isSl, nSl, endL, Md.isOwn, purge, purgeH, purgeB, purgeE, hasName, name1, List.any_cons, List.any_nil, Md.isWr, pureV.pureP, Option.map, reduceIte, Nat.reduceEqDiff, Nat.reduceAdd, Nat.reduceMul, Nat.reduceLT, Nat.reduceLeDiff, List.mapM_cons, List.mapM_nil, Option.pure_def, Option.bind_eq_bind, Option.bind_some, implies_true, forall_const, beq_self_eq_true, decide_true, decide_false, eq_self, Int.reduceEq, Int.reduceLE, Int.reduceLT, if_true, if_false, grpK, Int.reduceAdd, Int.reduceSub, Int.reduceMul, Int.reduceNeg, Int.reducePow, Nat.reducePow, Int.reduceToNat, Nat.reduceSub, List.replicate, Nat.reduceBEq, wAs, wA, wC, zipW, noDupN, grpE, beq_true, beq_false, g_impl_rootTrack_1, g_impl_rootTrack_2, g_impl_rootTrack_3, g_impl_share, grpC, en0, dc_en0, en1, dc_en1, en2, dc_en2, ↓b_pick, ePk_true, ePk_false])
        | (refine eA_wk (wk_norm (ks := [1, 2, 3, 4, 8, 9]) (ls := [4, 8]) ?_) (eA_cast ?_ (sl155_0 y0 y1 y2 _ _ _ _ (getD_some (d := default) (x := (l_impl_RootKey_sample_0 y0 y1 y2 (Int.toNat (((List.length y0 : Nat) : Int) - 0) + 2) 0)) ?_) ?_)); (iterate 2 (simp only [nilS, nilV, normOk, optIn, blkIn, nameIn, normS, List.map_append, List.length_append, List.map_set, List.length_set, List.map_replicate, List.length_replicate, List.map_nil, List.map_cons,
          hp, grpA, vsliceS, grpS, grpD, grpF, grpL, eop, vop, bop, uop, fltop, convop, endOk, newE, new1, freshL, Md.isNew, outV, pureV, pureX, pure1, AV.cells, AV.one, storable, laid, refless, refless1, vload, loadC, storeC, vnil, vfaddr, vextract, flatT, flatE, flatC, vconv, vmm, vidxA, viaddrA, vfield, vlen, elemsOf, dF32, dF64, dI64, dU8, dBool, dStr, esOk, elemsS, vsliceX, bnd, ownV, ownC, own1, ownT, isSl, nSl, endL, Md.isOwn, purge, purgeH, purgeB, purgeE, hasName, name1, List.any_cons, List.any_nil, Md.isWr, pureV.pureP, Option.map, reduceIte, Nat.reduceEqDiff, Nat.reduceAdd, Nat.reduceMul, Nat.reduceLT, Nat.reduceLeDiff, List.mapM_cons, List.mapM_nil, Option.pure_def, Option.bind_eq_bind, Option.bind_some, implies_true, forall_const, beq_self_eq_true, decide_true, decide_false, eq_self, Int.reduceEq, Int.reduceLE, Int.reduceLT, if_true, if_false, grpK, Int.reduceAdd, Int.reduceSub, Int.reduceMul, Int.reduceNeg, Int.reducePow, Nat.reducePow, Int.reduceToNat, Nat.reduceSub, List.replicate, Nat.reduceBEq, wAs, wA, wC, zipW, noDupN, grpE, beq_true, beq_false, g_impl_rootTrack_1, g_impl_rootTrack_2, g_impl_rootTrack_3, g_impl_share, grpC, en0, dc_en0, en1, dc_en1, en2, dc_en2, ↓b_pick, ePk_true, ePk_false] <;> first | rfl | (simp only [Nat.add_comm]; done))); (simp only [hp]); (
        intro st2 hw; (try simp only [reduceCtorEq, grpN, Int.reduceEq, Int.reduceLT, Int.reduceLE, if_true, if_false, reduceIte] at hp); (try replace hp := And.intro ht hp); simp only [
Kq_exit, Kq_normal, Kq_ret, Kb_exit, Kb_normal, Kb_ret, Kl_exit, Kl_normal, Kl_ret, reduceIte, Nat.reduceEqDiff, if_true, if_false, eq_self]; refine KW_of hw ?_; simp only [
          hp, grpA, vsliceS, grpS, grpD, grpF, grpL, eop, vop, bop, uop, fltop, convop, endOk, newE, new1, freshL, Md.isNew, outV, pureV, pureX, pure1, AV.cells, AV.one, storable, laid, refless, refless1, vload, loadC, storeC, vnil, vfaddr, vextract, flatT, flatE, flatC, vconv, vmm, vidxA, viaddrA, vfield, vlen, elemsOf, dF32, dF64, dI64, dU8, dBool, dStr, esOk, elemsS, vsliceX, bnd, ownV, ownC, own1, ownT, isSl, nSl, endL, Md.isOwn, purge, purgeH, purgeB, purgeE, hasName, name1, List.any_cons, List.any_nil, Md.isWr, pureV.pureP, Option.map, reduceIte, Nat.reduceEqDiff, Nat.reduceAdd, Nat.reduceMul, Nat.reduceLT, Nat.reduceLeDiff, List.mapM_cons, List.mapM_nil, Option.pure_def, Option.bind_eq_bind, Option.bind_some, implies_true, forall_const, beq_self_eq_true, decide_true, decide_false, eq_self, Int.reduceEq, Int.reduceLE, Int.reduceLT, if_true, if_false, grpK, Int.reduceAdd, Int.reduceSub, Int.reduceMul, Int.reduceNeg, Int.reducePow, Nat.reducePow, Int.reduceToNat, Nat.reduceSub, List.replicate, Nat.reduceBEq, wAs, wA, wC, zipW, noDupN, grpE, beq_true, beq_false, g_impl_rootTrack_1, g_impl_rootTrack_2, g_impl_rootTrack_3, g_impl_share, grpC, en0, dc_en0, en1, dc_en1, en2, dc_en2, ↓b_pick, ePk_true, ePk_false])))
      all_goals (try simp only [*, m_impl_RootKey_sample, v_impl_RootKey_sample_0, v_impl_RootKey_sample_1, v_impl_RootKey_sample_2, Bool.and_true, Bool.true_and, Bool.and_false, Bool.false_and, Bool.or_true, Bool.true_or, Bool.or_false, Bool.false_or, Bool.not_true, Bool.not_false, Bool.false_eq_true, if_true, if_false, reduceIte, decide_true, decide_false])
      all_goals (try (simp_all; done))
    · cases h
  · cases h
def m_impl_Clip_root (x0 : (Int × Int × (List (List (Int × Nat × Nat × Nat × Nat))) × (List (Int × Nat × Nat × Nat)))) (x1 : Int) : (Nat × Nat × Nat) := (m_impl_RootKey_sample ((), (), ()) x0.2.2.2 x0.2.1 x1).2
def p_impl_Clip_root (x0 : (Int × Int × (List (List (Int × Nat × Nat × Nat × Nat))) × (List (Int × Nat × Nat × Nat)))) (x1 : Int) : Bool := (p_impl_RootKey_sample ((), (), ()) x0.2.2.2 x0.2.1 x1)
def g_impl_Clip_root : List AV → Option AV
  | [.ptr (.agg [.int .i64 y0, .int .i64 y1, .sl w2, .sl w3]) 0, .int .i64 y4] => (match decL dc_en1 w2 with | some y2 => ((match decL dc_en2 w3 with | some y3 => (if p_impl_Clip_root (y0, y1, y2, y3) y4 = true then some (AV.agg [(.flt .f32 (m_impl_Clip_root (y0, y1, y2, y3) y4).1), (.flt .f32 (m_impl_Clip_root (y0, y1, y2, y3) y4).2.1), (.flt .f32 (m_impl_Clip_root (y0, y1, y2, y3) y4).2.2)]) else none) | none => none)) | none => none)
  | _ => none
def ic105 : ICode := (.seq (.reg [⟨(some 4), none, (.alloc (.agg [(.flt .f32 0), (.flt .f32 0), (.flt .f32 0)]))⟩] [0, 1, 4]) (.seq (.reg [⟨(some 5), none, (.call (.fn 99) [] [])⟩, ⟨(some 6), none, (.mov (.t 0))⟩, ⟨(some 7), none, (.nilchk (.t 6))⟩, ⟨(some 8), none, (.faddr 3 (.t 7))⟩, ⟨(some 9), none, (.load none (.t 8))⟩, ⟨(some 10), none, (.mov (.t 0))⟩, ⟨(some 11), none, (.nilchk (.t 10))⟩, ⟨(some 12), none, (.faddr 1 (.t 11))⟩, ⟨(some 13), none, (.load none (.t 12))⟩, ⟨(some 14), none, (.mov (.t 1))⟩, ⟨(some 15), none, (.call (.fn 155) [(.t 5), (.t 9), (.t 13), (.t 14)] [])⟩, ⟨(some 16), none, (.field 1 (some 3) (.t 15))⟩, ⟨none, none, (.store 3 (.t 4) (.t 16))⟩] [4]) .ret))
def cp105 : CP := CP.mk [] [] [[0, 1, 4], [4]] 17 [] []
theorem s105 : ∀ vs r, g_impl_Clip_root vs = some r → SaysM Try.prog .any 105 vs r := by
  intro vs r h
  unfold g_impl_Clip_root at h
  split at h
  · rename_i y0 y1 w2 w3 y4
    cases hd_y2 : decL dc_en1 w2 with
    | none => rw [hd_y2] at h; cases h
    | some y2 =>
    rw [hd_y2] at h
    obtain rfl := decL_inv dc_en1_inv hd_y2
    clear hd_y2
    dsimp only at h
    cases hd_y3 : decL dc_en2 w3 with
    | none => rw [hd_y3] at h; cases h
    | some y3 =>
    rw [hd_y3] at h
    obtain rfl := decL_inv dc_en2_inv hd_y3
    clear hd_y3
    dsimp only at h
    split at h
    · rename_i hp
      cases h
      refine spec_of (m := .any) (tab := tabOf [(99, wM .any g_impl_rootTrack), (155, wM .any g_impl_RootKey_sample)]) (cp := cp105) (ic := ic105) (rvl := [(.c 4 (some 3))]) hm (tabOk_cons (m := .any) s99 (tabOk_cons (m := .any) s155 tabOk_nil)) Try.func105 rfl rfl rfl (by kernel_rfl) rfl (Nat.le_of_ble_eq_true rfl) (Nat.le_of_ble_eq_true rfl) ?_
      show eA _ _ _ _
      unfold ic105
      simp only [p_impl_Clip_root, Bool.and_eq_true, Bool.or_eq_true, decide_eq_true_eq, Bool.not_eq_true', decide_eq_false_iff_not] at hp
      simp only [
          hp, grpA, vsliceS, grpS, grpD, grpF, grpL, eop, vop, bop, uop, fltop, convop, endOk, newE, new1, freshL, Md.isNew, outV, pureV, pureX, pure1, AV.cells, AV.one, storable, laid, refless, refless1, vload, loadC, storeC, vnil, vfaddr, vextract, flatT, flatE, flatC, vconv, vmm, vidxA, viaddrA, vfield, vlen, elemsOf, dF32, dF64, dI64, dU8, dBool, dStr, esOk, elemsS, vsliceX, bnd, ownV, ownC, own1, ownT, isSl, nSl, endL, Md.isOwn, purge, purgeH, purgeB, purgeE, hasName, name1, List.any_cons, List.any_nil, Md.isWr, pureV.pureP, Option.map, reduceIte, Nat.reduceEqDiff, Nat.reduceAdd, Nat.reduceMul, Nat.reduceLT, Nat.reduceLeDiff, List.mapM_cons, List.mapM_nil, Option.pure_def, Option.bind_eq_bind, Option.bind_some, implies_true, forall_const, beq_self_eq_true, decide_true, decide_false, eq_self, Int.reduceEq, Int.reduceLE, Int.reduceLT, if_true, if_false, grpK, Int.reduceAdd, Int.reduceSub, Int.reduceMul, Int.reduceNeg, Int.reducePow, Nat.reducePow, Int.reduceToNat, Nat.reduceSub, List.replicate, Nat.reduceBEq, wAs, wA, wC, zipW, noDupN, grpE, beq_true, beq_false, g_impl_rootTrack, g_impl_RootKey_sample, grpC, en0, dc_en0, en1, dc_en1, en2, dc_en2]
      all_goals (try simp only [*, m_impl_Clip_root, Bool.and_true, Bool.true_and, Bool.and_false, Bool.false_and, Bool.or_true, Bool.true_or, Bool.or_false, Bool.false_or, Bool.not_true, Bool.not_false, Bool.false_eq_true, if_true, if_false, reduceIte, decide_true, decide_false])
      all_goals (try (simp_all; done))
    · cases h
  · cases h
def m_impl_TravelOf (x0 : (Int × Int × (List (List (Int × Nat × Nat × Nat × Nat))) × (List (Int × Nat × Nat × Nat)))) (x1 : Int) (x2 : Int) : ((Nat × Nat × Nat) × Bool) := (if (m_impl_hasTime x0 x1) = true then (if (m_impl_hasTime x0 x2) = true then ((m_impl_LessVectors (m_impl_Clip_root x0 x2) (m_impl_Clip_root x0 x1)), true) else ((0, 0, 0), false)) else ((0, 0, 0), false))
def p_impl_TravelOf (x0 : (Int × Int × (List (List (Int × Nat × Nat × Nat × Nat))) × (List (Int × Nat × Nat × Nat)))) (x1 : Int) (x2 : Int) : Bool := ((p_impl_hasTime x0 x1) && (!(m_impl_hasTime x0 x1) || ((p_impl_hasTime x0 x2) && (!(m_impl_hasTime x0 x2) || ((p_impl_Clip_root x0 x2) && (p_impl_Clip_root x0 x1))))))
def g_impl_TravelOf : List AV → Option AV
  | [.agg [.int .i64 y0, .int .i64 y1, .sl w2, .sl w3], .int .i64 y4, .int .i64 y5] => (match decL dc_en1 w2 with | some y2 => ((match decL dc_en2 w3 with | some y3 => (if p_impl_TravelOf (y0, y1, y2, y3) y4 y5 = true then some (AV.tup [(AV.agg [(.flt .f32 (m_impl_TravelOf (y0, y1, y2, y3) y4 y5).1.1), (.flt .f32 (m_impl_TravelOf (y0, y1, y2, y3) y4 y5).1.2.1), (.flt .f32 (m_impl_TravelOf (y0, y1, y2, y3) y4 y5).1.2.2)]), (.bool (m_impl_TravelOf (y0, y1, y2, y3) y4 y5).2)]) else none) | none => none)) | none => none)
  | _ => none
def ic46 : ICode := (.seq (.reg [⟨(some 3), none, (.box 4 (.t 0))⟩, ⟨(some 6), none, (.alloc (.agg [(.flt .f32 0), (.flt .f32 0), (.flt .f32 0)]))⟩, ⟨(some 7), none, (.mov (.c (.bool false)))⟩] [1, 2, 3, 6]) (.seq (.seq (.reg [⟨(some 8), none, (.load (some 4) (.t 3))⟩, ⟨(some 9), none, (.mov (.t 1))⟩, ⟨(some 10), none, (.call (.fn 103) [(.t 8), (.t 9)] [])⟩, ⟨(some 11), none, (.un .not (.t 10))⟩, ⟨(some 12), none, (.mov (.t 11))⟩, ⟨(some 13), (some (12, false)), (.load (some 4) (.t 3))⟩, ⟨(some 14), (some (12, false)), (.mov (.t 2))⟩, ⟨(some 15), (some (12, false)), (.call (.fn 103) [(.t 13), (.t 14)] [])⟩, ⟨(some 16), (some (12, false)), (.un .not (.t 15))⟩, ⟨(some 17), none, (.pick (.t 12) (.c (.bool true)) (.t 16))⟩] [1, 2, 3, 6, 17]) (.cond (.t 17) (.seq (.reg [⟨(some 18), none, (.build [(.flt .f32 0), (.flt .f32 0), (.flt .f32 0)] [])⟩, ⟨none, none, (.store 3 (.t 6) (.t 18))⟩, ⟨(some 7), none, (.mov (.c (.bool false)))⟩] [6, 7]) .ret) .skip)) (.seq (.reg [⟨(some 19), none, (.mov (.t 2))⟩, ⟨(some 20), none, (.call (.fn 105) [(.t 3), (.t 19)] [])⟩, ⟨(some 21), none, (.mov (.t 1))⟩, ⟨(some 22), none, (.call (.fn 105) [(.t 3), (.t 21)] [])⟩, ⟨(some 23), none, (.call (.fn 104) [(.t 20), (.t 22)] [])⟩, ⟨none, none, (.store 3 (.t 6) (.t 23))⟩, ⟨(some 7), none, (.mov (.c (.bool true)))⟩] [6, 7]) .ret)))
def cp46 : CP := CP.mk [] [] [[1, 2, 3, 6], [1, 2, 3, 6, 17], [6, 7], [6, 7]] 24 [] []
theorem s46 : ∀ vs r, g_impl_TravelOf vs = some r → SaysM Try.prog .any 46 vs r := by
  intro vs r h
  unfold g_impl_TravelOf at h
  split at h
  · rename_i y0 y1 w2 w3 y4 y5
    cases hd_y2 : decL dc_en1 w2 with
    | none => rw [hd_y2] at h; cases h
    | some y2 =>
    rw [hd_y2] at h
    obtain rfl := decL_inv dc_en1_inv hd_y2
    clear hd_y2
    dsimp only at h
    cases hd_y3 : decL dc_en2 w3 with
    | none => rw [hd_y3] at h; cases h
    | some y3 =>
    rw [hd_y3] at h
    obtain rfl := decL_inv dc_en2_inv hd_y3
    clear hd_y3
    dsimp only at h
    split at h
    · rename_i hp
      cases h
      refine spec_of (m := .any) (tab := tabOf [(103, wM .any g_impl_hasTime), (104, wM .any g_impl_LessVectors), (105, wM .any g_impl_Clip_root)]) (cp := cp46) (ic := ic46) (rvl := [(.c 6 (some 3)), (.t 7)]) hm (tabOk_cons (m := .any) s103 (tabOk_cons (m := .any) s104 (tabOk_cons (m := .any) s105 tabOk_nil))) Try.func46 rfl rfl rfl (by kernel_rfl) rfl (Nat.le_of_ble_eq_true rfl) (Nat.le_of_ble_eq_true rfl) ?_
      show eA _ _ _ _
      unfold ic46
      simp only [p_impl_TravelOf, Bool.and_eq_true, Bool.or_eq_true, decide_eq_true_eq, Bool.not_eq_true', decide_eq_false_iff_not] at hp
      refine eS_to ?_
      repeat' (first
        | ((first | (have h := True.intro; refine eS_of ?_) | (refine eGI_of (fun h => ?_) (fun h => ?_)) | (refine eCc_of (fun h => ?_) (fun h => ?_)) | (refine ePk_of (fun h => ?_) (fun h => ?_))) <;> (try simp only [Bool.not_eq_true', Bool.not_eq_false'] at h) <;> (try first | exact absurd (Eq.trans (Eq.symm h) (by assumption)) Bool.false_ne_true | exact absurd (Eq.trans (Eq.symm h) (by assumption)) (Ne.symm Bool.false_ne_true)) <;> (try simp only [h, reduceCtorEq, grpN, Int.reduceEq, Int.reduceLT, Int.reduceLE, if_true, if_false, reduceIte] at hp) <;> (first | (have h2 := h; simp only [decide_eq_true_eq, decide_eq_false_iff_not] at h2; (first | (replace h2 := eq_false h2) | (replace h2 := eq_true h2)); (try simp only [h2, reduceCtorEq, grpN, Int.reduceEq, Int.reduceLT, Int.reduceLE, if_true, if_false, reduceIte] at hp); replace hp := And.intro h2 hp) | (replace hp := And.intro h hp) | skip) <;> simp only [h,
          hp, grpA, vsliceS, grpS, grpD, grpF, grpL, eop, vop, bop, uop, fltop, convop, endOk, newE, new1, freshL, Md.isNew, outV, pureV, pureX, pure1, AV.cells, AV.one, storable, laid, refless, refless1, vload, loadC, storeC, vnil, vfaddr, vextract, flatT, flatE, flatC, vconv, vmm, vidxA, viaddrA, vfield, vlen, elemsOf, dF32, dF64, dI64, dU8, dBool, dStr, esOk, elemsS, vsliceX, bnd, ownV, ownC, own1, ownT, isSl, nSl, endL, Md.isOwn, purge, purgeH, purgeB, purgeE, hasName, name1, List.any_cons, List.any_nil, Md.isWr, pureV.pureP, Option.map, reduceIte, Nat.reduceEqDiff, Nat.reduceAdd, Nat.reduceMul, Nat.reduceLT, Nat.reduceLeDiff, List.mapM_cons, List.mapM_nil, Option.pure_def, Option.bind_eq_bind, Option.bind_some, implies_true, forall_const, beq_self_eq_true, decide_true, decide_false, eq_self, Int.reduceEq, Int.reduceLE, Int.reduceLT, if_true, if_false, grpK, Int.reduceAdd, Int.reduceSub, Int.reduceMul, Int.reduceNeg, Int.reducePow, Nat.reducePow, Int.reduceToNat, Nat.reduceSub, List.replicate, Nat.reduceBEq, wAs, wA, wC, zipW, noDupN, grpE, beq_true, beq_false, g_impl_hasTime, g_impl_LessVectors, g_impl_Clip_root, grpC, en0, dc_en0, en1, dc_en1, en2, dc_en2, ↓b_pick, ePk_true, ePk_false]))
      all_goals (try simp only [*, m_impl_TravelOf, Bool.and_true, Bool.true_and, Bool.and_false, Bool.false_and, Bool.or_true, Bool.true_or, Bool.or_false, Bool.false_or, Bool.not_true, Bool.not_false, Bool.false_eq_true, if_true, if_false, reduceIte, decide_true, decide_false])
      all_goals (try (simp_all; done))
    · cases h
  · cases h
def m_laws_sameFloat (x0 : Nat) (x1 : Nat) : Bool := (if (feq .f64 x0 x0) = true then (if (feq .f64 x1 x1) = true then (if (feq .f64 x0 0) = true then (if (feq .f64 x1 0) = true then ((flt .f64 0 (fdiv .f64 4607182418800017408 x0)) == (flt .f64 0 (fdiv .f64 4607182418800017408 x1))) else (feq .f64 x0 x1)) else (feq .f64 x0 x1)) else false) else (!(feq .f64 x1 x1)))
def g_laws_sameFloat : List AV → Option AV
  | [.flt .f64 y0, .flt .f64 y1] => some (.bool (m_laws_sameFloat y0 y1))
  | _ => none
def ic80 : ICode := (.seq (.reg [⟨(some 4), none, (.mov (.c (.bool false)))⟩] [0, 1]) (.seq (.seq (.reg [⟨(some 5), none, (.mov (.t 0))⟩, ⟨(some 6), none, (.mov (.t 0))⟩, ⟨(some 7), none, (.bin .neq false (.t 5) (.t 6))⟩, ⟨(some 8), none, (.mov (.t 7))⟩, ⟨(some 9), (some (8, false)), (.mov (.t 1))⟩, ⟨(some 10), (some (8, false)), (.mov (.t 1))⟩, ⟨(some 11), (some (8, false)), (.bin .neq false (.t 9) (.t 10))⟩, ⟨(some 12), none, (.pick (.t 8) (.c (.bool true)) (.t 11))⟩] [0, 1, 12]) (.cond (.t 12) (.seq (.reg [⟨(some 13), none, (.mov (.t 0))⟩, ⟨(some 14), none, (.mov (.t 0))⟩, ⟨(some 15), none, (.bin .neq false (.t 13) (.t 14))⟩, ⟨(some 16), none, (.mov (.t 15))⟩, ⟨(some 17), (some (16, true)), (.mov (.t 1))⟩, ⟨(some 18), (some (16, true)), (.mov (.t 1))⟩, ⟨(some 19), (some (16, true)), (.bin .neq false (.t 17) (.t 18))⟩, ⟨(some 20), none, (.pick (.t 16) (.t 19) (.c (.bool false)))⟩, ⟨(some 4), none, (.mov (.t 20))⟩] [4]) .ret) .skip)) (.seq (.seq (.reg [⟨(some 21), none, (.mov (.t 0))⟩, ⟨(some 22), none, (.bin .eql false (.t 21) (.c (.flt .f64 0)))⟩, ⟨(some 23), none, (.mov (.t 22))⟩, ⟨(some 24), (some (23, true)), (.mov (.t 1))⟩, ⟨(some 25), (some (23, true)), (.bin .eql false (.t 24) (.c (.flt .f64 0)))⟩, ⟨(some 26), none, (.pick (.t 23) (.t 25) (.c (.bool false)))⟩] [0, 1, 26]) (.cond (.t 26) (.seq (.reg [⟨(some 27), none, (.mov (.t 0))⟩, ⟨(some 28), none, (.bin .quo false (.c (.flt .f64 4607182418800017408)) (.t 27))⟩, ⟨(some 29), none, (.bin .gtr false (.t 28) (.c (.flt .f64 0)))⟩, ⟨(some 30), none, (.mov (.t 1))⟩, ⟨(some 31), none, (.bin .quo false (.c (.flt .f64 4607182418800017408)) (.t 30))⟩, ⟨(some 32), none, (.bin .gtr false (.t 31) (.c (.flt .f64 0)))⟩, ⟨(some 33), none, (.bin .eql true (.t 29) (.t 32))⟩, ⟨(some 4), none, (.mov (.t 33))⟩] [4]) .ret) .skip)) (.seq (.reg [⟨(some 34), none, (.mov (.t 0))⟩, ⟨(some 35), none, (.mov (.t 1))⟩, ⟨(some 36), none, (.bin .eql false (.t 34) (.t 35))⟩, ⟨(some 4), none, (.mov (.t 36))⟩] [4]) .ret))))
def cp80 : CP := CP.mk [] [] [[0, 1], [0, 1, 12], [4], [0, 1, 26], [4], [4]] 37 [] []
theorem s80 : ∀ vs r, g_laws_sameFloat vs = some r → SaysM Try.prog .any 80 vs r := by
  intro vs r h
  unfold g_laws_sameFloat at h
  split at h
  · rename_i y0 y1
    cases h
    refine spec_of (m := .any) (tab := tabOf []) (cp := cp80) (ic := ic80) (rvl := [(.t 4)]) hm tabOk_nil Try.func80 rfl rfl rfl (by kernel_rfl) rfl (Nat.le_of_ble_eq_true rfl) (Nat.le_of_ble_eq_true rfl) ?_
    show eA _ _ _ _
    unfold ic80
    refine eS_to ?_
    repeat' (first
      | ((first | (have h := True.intro; refine eS_of ?_) | (refine eGI_of (fun h => ?_) (fun h => ?_)) | (refine eCc_of (fun h => ?_) (fun h => ?_)) | (refine ePk_of (fun h => ?_) (fun h => ?_))) <;> (try simp only [Bool.not_eq_true', Bool.not_eq_false'] at h) <;> (try first | exact absurd (Eq.trans (Eq.symm h) (by assumption)) Bool.false_ne_true | exact absurd (Eq.trans (Eq.symm h) (by assumption)) (Ne.symm Bool.false_ne_true)) <;> simp only [h,
        grpA, vsliceS, grpS, grpD, grpF, grpL, eop, vop, bop, uop, fltop, convop, endOk, newE, new1, freshL, Md.isNew, outV, pureV, pureX, pure1, AV.cells, AV.one, storable, laid, refless, refless1, vload, loadC, storeC, vnil, vfaddr, vextract, flatT, flatE, flatC, vconv, vmm, vidxA, viaddrA, vfield, vlen, elemsOf, dF32, dF64, dI64, dU8, dBool, dStr, esOk, elemsS, vsliceX, bnd, ownV, ownC, own1, ownT, isSl, nSl, endL, Md.isOwn, purge, purgeH, purgeB, purgeE, hasName, name1, List.any_cons, List.any_nil, Md.isWr, pureV.pureP, Option.map, reduceIte, Nat.reduceEqDiff, Nat.reduceAdd, Nat.reduceMul, Nat.reduceLT, Nat.reduceLeDiff, List.mapM_cons, List.mapM_nil, Option.pure_def, Option.bind_eq_bind, Option.bind_some, implies_true, forall_const, beq_self_eq_true, decide_true, decide_false, eq_self, Int.reduceEq, Int.reduceLE, Int.reduceLT, if_true, if_false, grpK, Int.reduceAdd, Int.reduceSub, Int.reduceMul, Int.reduceNeg, Int.reducePow, Nat.reducePow, Int.reduceToNat, Nat.reduceSub, List.replicate, Nat.reduceBEq, wAs, wA, wC, zipW, noDupN, grpE, beq_true, beq_false, grpC, en0, dc_en0, en1, dc_en1, en2, dc_en2, ↓b_pick, ePk_true, ePk_false]))
    all_goals (try simp only [*, m_laws_sameFloat, Bool.and_true, Bool.true_and, Bool.and_false, Bool.false_and, Bool.or_true, Bool.true_or, Bool.or_false, Bool.false_or, Bool.not_true, Bool.not_false, Bool.false_eq_true, if_true, if_false, reduceIte, decide_true, decide_false])
    all_goals (try (simp_all; done))
  · cases h
def m_laws_eqVector (x0 : (Nat × Nat × Nat)) (x1 : (Nat × Nat × Nat)) : Bool := (if (m_laws_sameFloat (widen x0.1) (widen x1.1)) = true then (if (m_laws_sameFloat (widen x0.2.1) (widen x1.2.1)) = true then (if (m_laws_sameFloat (widen x0.2.2) (widen x1.2.2)) = true then true else false) else false) else false)
def g_laws_eqVector : List AV → Option AV
  | [.agg [.flt .f32 y0, .flt .f32 y1, .flt .f32 y2], .agg [.flt .f32 y3, .flt .f32 y4, .flt .f32 y5]] => some (.bool (m_laws_eqVector (y0, y1, y2) (y3, y4, y5)))
  | _ => none
def ic47 : ICode := (.seq (.reg [⟨(some 2), none, (.box 3 (.t 0))⟩, ⟨(some 3), none, (.box 3 (.t 1))⟩, ⟨(some 4), none, (.mov (.c (.bool false)))⟩] [2, 3]) (.seq (.seq (.reg [⟨(some 5), none, (.faddr 0 (.t 2))⟩, ⟨(some 6), none, (.load none (.t 5))⟩, ⟨(some 7), none, (.conv (.flt .f64) (.t 6))⟩, ⟨(some 8), none, (.faddr 0 (.t 3))⟩, ⟨(some 9), none, (.load none (.t 8))⟩, ⟨(some 10), none, (.conv (.flt .f64) (.t 9))⟩, ⟨(some 11), none, (.call (.fn 80) [(.t 7), (.t 10)] [])⟩, ⟨(some 12), none, (.un .not (.t 11))⟩] [2, 3, 12]) (.cond (.t 12) (.seq (.reg [⟨(some 4), none, (.mov (.c (.bool false)))⟩] [4]) .ret) .skip)) (.seq (.seq (.reg [⟨(some 13), none, (.faddr 1 (.t 2))⟩, ⟨(some 14), none, (.load none (.t 13))⟩, ⟨(some 15), none, (.conv (.flt .f64) (.t 14))⟩, ⟨(some 16), none, (.faddr 1 (.t 3))⟩, ⟨(some 17), none, (.load none (.t 16))⟩, ⟨(some 18), none, (.conv (.flt .f64) (.t 17))⟩, ⟨(some 19), none, (.call (.fn 80) [(.t 15), (.t 18)] [])⟩, ⟨(some 20), none, (.un .not (.t 19))⟩] [2, 3, 20]) (.cond (.t 20) (.seq (.reg [⟨(some 4), none, (.mov (.c (.bool false)))⟩] [4]) .ret) .skip)) (.seq (.seq (.reg [⟨(some 21), none, (.faddr 2 (.t 2))⟩, ⟨(some 22), none, (.load none (.t 21))⟩, ⟨(some 23), none, (.conv (.flt .f64) (.t 22))⟩, ⟨(some 24), none, (.faddr 2 (.t 3))⟩, ⟨(some 25), none, (.load none (.t 24))⟩, ⟨(some 26), none, (.conv (.flt .f64) (.t 25))⟩, ⟨(some 27), none, (.call (.fn 80) [(.t 23), (.t 26)] [])⟩, ⟨(some 28), none, (.un .not (.t 27))⟩] [28]) (.cond (.t 28) (.seq (.reg [⟨(some 4), none, (.mov (.c (.bool false)))⟩] [4]) .ret) .skip)) (.seq (.reg [⟨(some 4), none, (.mov (.c (.bool true)))⟩] [4]) .ret)))))
def cp47 : CP := CP.mk [] [] [[2, 3], [2, 3, 12], [4], [2, 3, 20], [4], [28], [4], [4]] 29 [] []
theorem s47 : ∀ vs r, g_laws_eqVector vs = some r → SaysM Try.prog .any 47 vs r := by
  intro vs r h
  unfold g_laws_eqVector at h
  split at h
  · rename_i y0 y1 y2 y3 y4 y5
    cases h
    refine spec_of (m := .any) (tab := tabOf [(80, wM .any g_laws_sameFloat)]) (cp := cp47) (ic := ic47) (rvl := [(.t 4)]) hm (tabOk_cons (m := .any) s80 tabOk_nil) Try.func47 rfl rfl rfl (by kernel_rfl) rfl (Nat.le_of_ble_eq_true rfl) (Nat.le_of_ble_eq_true rfl) ?_
    show eA _ _ _ _
    unfold ic47
    refine eS_to ?_
    repeat' (first
      | ((first | (have h := True.intro; refine eS_of ?_) | (refine eGI_of (fun h => ?_) (fun h => ?_)) | (refine eCc_of (fun h => ?_) (fun h => ?_))) <;> (try simp only [Bool.not_eq_true', Bool.not_eq_false'] at h) <;> (try first | exact absurd (Eq.trans (Eq.symm h) (by assumption)) Bool.false_ne_true | exact absurd (Eq.trans (Eq.symm h) (by assumption)) (Ne.symm Bool.false_ne_true)) <;> simp only [h,
        grpA, vsliceS, grpS, grpD, grpF, grpL, eop, vop, bop, uop, fltop, convop, endOk, newE, new1, freshL, Md.isNew, outV, pureV, pureX, pure1, AV.cells, AV.one, storable, laid, refless, refless1, vload, loadC, storeC, vnil, vfaddr, vextract, flatT, flatE, flatC, vconv, vmm, vidxA, viaddrA, vfield, vlen, elemsOf, dF32, dF64, dI64, dU8, dBool, dStr, esOk, elemsS, vsliceX, bnd, ownV, ownC, own1, ownT, isSl, nSl, endL, Md.isOwn, purge, purgeH, purgeB, purgeE, hasName, name1, List.any_cons, List.any_nil, Md.isWr, pureV.pureP, Option.map, reduceIte, Nat.reduceEqDiff, Nat.reduceAdd, Nat.reduceMul, Nat.reduceLT, Nat.reduceLeDiff, List.mapM_cons, List.mapM_nil, Option.pure_def, Option.bind_eq_bind, Option.bind_some, implies_true, forall_const, beq_self_eq_true, decide_true, decide_false, eq_self, Int.reduceEq, Int.reduceLE, Int.reduceLT, if_true, if_false, grpK, Int.reduceAdd, Int.reduceSub, Int.reduceMul, Int.reduceNeg, Int.reducePow, Nat.reducePow, Int.reduceToNat, Nat.reduceSub, List.replicate, Nat.reduceBEq, wAs, wA, wC, zipW, noDupN, grpE, beq_true, beq_false, g_laws_sameFloat, grpC, en0, dc_en0, en1, dc_en1, en2, dc_en2]))
    all_goals (try simp only [*, m_laws_eqVector, Bool.and_true, Bool.true_and, Bool.and_false, Bool.false_and, Bool.or_true, Bool.true_or, Bool.or_false, Bool.false_or, Bool.not_true, Bool.not_false, Bool.false_eq_true, if_true, if_false, reduceIte, decide_true, decide_false])
    all_goals (try (simp_all; done))
  · cases h
def m_laws_eqTurn (x0 : (Nat × Nat × Nat × Nat)) (x1 : (Nat × Nat × Nat × Nat)) : Bool := (if (m_laws_sameFloat (widen x0.1) (widen x1.1)) = true then (if (m_laws_sameFloat (widen x0.2.1) (widen x1.2.1)) = true then (if (m_laws_sameFloat (widen x0.2.2.1) (widen x1.2.2.1)) = true then (if (m_laws_sameFloat (widen x0.2.2.2) (widen x1.2.2.2)) = true then true else false) else false) else false) else false)
def g_laws_eqTurn : List AV → Option AV
  | [.agg [.flt .f32 y0, .flt .f32 y1, .flt .f32 y2, .flt .f32 y3], .agg [.flt .f32 y4, .flt .f32 y5, .flt .f32 y6, .flt .f32 y7]] => some (.bool (m_laws_eqTurn (y0, y1, y2, y3) (y4, y5, y6, y7)))
  | _ => none
def ic37 : ICode := (.seq (.reg [⟨(some 2), none, (.box 4 (.t 0))⟩, ⟨(some 3), none, (.box 4 (.t 1))⟩, ⟨(some 4), none, (.mov (.c (.bool false)))⟩] [2, 3]) (.seq (.seq (.reg [⟨(some 5), none, (.faddr 0 (.t 2))⟩, ⟨(some 6), none, (.load none (.t 5))⟩, ⟨(some 7), none, (.conv (.flt .f64) (.t 6))⟩, ⟨(some 8), none, (.faddr 0 (.t 3))⟩, ⟨(some 9), none, (.load none (.t 8))⟩, ⟨(some 10), none, (.conv (.flt .f64) (.t 9))⟩, ⟨(some 11), none, (.call (.fn 80) [(.t 7), (.t 10)] [])⟩, ⟨(some 12), none, (.un .not (.t 11))⟩] [2, 3, 12]) (.cond (.t 12) (.seq (.reg [⟨(some 4), none, (.mov (.c (.bool false)))⟩] [4]) .ret) .skip)) (.seq (.seq (.reg [⟨(some 13), none, (.faddr 1 (.t 2))⟩, ⟨(some 14), none, (.load none (.t 13))⟩, ⟨(some 15), none, (.conv (.flt .f64) (.t 14))⟩, ⟨(some 16), none, (.faddr 1 (.t 3))⟩, ⟨(some 17), none, (.load none (.t 16))⟩, ⟨(some 18), none, (.conv (.flt .f64) (.t 17))⟩, ⟨(some 19), none, (.call (.fn 80) [(.t 15), (.t 18)] [])⟩, ⟨(some 20), none, (.un .not (.t 19))⟩] [2, 3, 20]) (.cond (.t 20) (.seq (.reg [⟨(some 4), none, (.mov (.c (.bool false)))⟩] [4]) .ret) .skip)) (.seq (.seq (.reg [⟨(some 21), none, (.faddr 2 (.t 2))⟩, ⟨(some 22), none, (.load none (.t 21))⟩, ⟨(some 23), none, (.conv (.flt .f64) (.t 22))⟩, ⟨(some 24), none, (.faddr 2 (.t 3))⟩, ⟨(some 25), none, (.load none (.t 24))⟩, ⟨(some 26), none, (.conv (.flt .f64) (.t 25))⟩, ⟨(some 27), none, (.call (.fn 80) [(.t 23), (.t 26)] [])⟩, ⟨(some 28), none, (.un .not (.t 27))⟩] [2, 3, 28]) (.cond (.t 28) (.seq (.reg [⟨(some 4), none, (.mov (.c (.bool false)))⟩] [4]) .ret) .skip)) (.seq (.seq (.reg [⟨(some 29), none, (.faddr 3 (.t 2))⟩, ⟨(some 30), none, (.load none (.t 29))⟩, ⟨(some 31), none, (.conv (.flt .f64) (.t 30))⟩, ⟨(some 32), none, (.faddr 3 (.t 3))⟩, ⟨(some 33), none, (.load none (.t 32))⟩, ⟨(some 34), none, (.conv (.flt .f64) (.t 33))⟩, ⟨(some 35), none, (.call (.fn 80) [(.t 31), (.t 34)] [])⟩, ⟨(some 36), none, (.un .not (.t 35))⟩] [36]) (.cond (.t 36) (.seq (.reg [⟨(some 4), none, (.mov (.c (.bool false)))⟩] [4]) .ret) .skip)) (.seq (.reg [⟨(some 4), none, (.mov (.c (.bool true)))⟩] [4]) .ret))))))
def cp37 : CP := CP.mk [] [] [[2, 3], [2, 3, 12], [4], [2, 3, 20], [4], [2, 3, 28], [4], [36], [4], [4]] 37 [] []
theorem s37 : ∀ vs r, g_laws_eqTurn vs = some r → SaysM Try.prog .any 37 vs r := by
  intro vs r h
  unfold g_laws_eqTurn at h
  split at h
  · rename_i y0 y1 y2 y3 y4 y5 y6 y7
    cases h
    refine spec_of (m := .any) (tab := tabOf [(80, wM .any g_laws_sameFloat)]) (cp := cp37) (ic := ic37) (rvl := [(.t 4)]) hm (tabOk_cons (m := .any) s80 tabOk_nil) Try.func37 rfl rfl rfl (by kernel_rfl) rfl (Nat.le_of_ble_eq_true rfl) (Nat.le_of_ble_eq_true rfl) ?_
    show eA _ _ _ _
    unfold ic37
    refine eS_to ?_
    repeat' (first
      | ((first | (have h := True.intro; refine eS_of ?_) | (refine eGI_of (fun h => ?_) (fun h => ?_)) | (refine eCc_of (fun h => ?_) (fun h => ?_))) <;> (try simp only [Bool.not_eq_true', Bool.not_eq_false'] at h) <;> (try first | exact absurd (Eq.trans (Eq.symm h) (by assumption)) Bool.false_ne_true | exact absurd (Eq.trans (Eq.symm h) (by assumption)) (Ne.symm Bool.false_ne_true)) <;> simp only [h,
        grpA, vsliceS, grpS, grpD, grpF, grpL, eop, vop, bop, uop, fltop, convop, endOk, newE, new1, freshL, Md.isNew, outV, pureV, pureX, pure1, AV.cells, AV.one, storable, laid, refless, refless1, vload, loadC, storeC, vnil, vfaddr, vextract, flatT, flatE, flatC, vconv, vmm, vidxA, viaddrA, vfield, vlen, elemsOf, dF32, dF64, dI64, dU8, dBool, dStr, esOk, elemsS, vsliceX, bnd, ownV, ownC, own1, ownT, isSl, nSl, endL, Md.isOwn, purge, purgeH, purgeB, purgeE, hasName, name1, List.any_cons, List.any_nil, Md.isWr, pureV.pureP, Option.map, reduceIte, Nat.reduceEqDiff, Nat.reduceAdd, Nat.reduceMul, Nat.reduceLT, Nat.reduceLeDiff, List.mapM_cons, List.mapM_nil, Option.pure_def, Option.bind_eq_bind, Option.bind_some, implies_true, forall_const, beq_self_eq_true, decide_true, decide_false, eq_self, Int.reduceEq, Int.reduceLE, Int.reduceLT, if_true, if_false, grpK, Int.reduceAdd, Int.reduceSub, Int.reduceMul, Int.reduceNeg, Int.reducePow, Nat.reducePow, Int.reduceToNat, Nat.reduceSub, List.replicate, Nat.reduceBEq, wAs, wA, wC, zipW, noDupN, grpE, beq_true, beq_false, g_laws_sameFloat, grpC, en0, dc_en0, en1, dc_en1, en2, dc_en2]))
    all_goals (try simp only [*, m_laws_eqTurn, Bool.and_true, Bool.true_and, Bool.and_false, Bool.false_and, Bool.or_true, Bool.true_or, Bool.or_false, Bool.false_or, Bool.not_true, Bool.not_false, Bool.false_eq_true, if_true, if_false, reduceIte, decide_true, decide_false])
    all_goals (try (simp_all; done))
  · cases h
def m_laws_eqKey (x0 : (Int × Nat × Nat × Nat × Nat)) (x1 : (Int × Nat × Nat × Nat × Nat)) : Bool := (if (decide (x0.1 = x1.1)) = true then (if (m_laws_eqTurn x0.2 x1.2) = true then true else false) else false)
def g_laws_eqKey : List AV → Option AV
  | [.agg [.int .i64 y0, .flt .f32 y1, .flt .f32 y2, .flt .f32 y3, .flt .f32 y4], .agg [.int .i64 y5, .flt .f32 y6, .flt .f32 y7, .flt .f32 y8, .flt .f32 y9]] => some (.bool (m_laws_eqKey (y0, y1, y2, y3, y4) (y5, y6, y7, y8, y9)))
  | _ => none
def ic183 : ICode := (.seq (.reg [⟨(some 2), none, (.box 5 (.t 0))⟩, ⟨(some 3), none, (.box 5 (.t 1))⟩, ⟨(some 4), none, (.mov (.c (.bool false)))⟩] [2, 3]) (.seq (.seq (.reg [⟨(some 5), none, (.faddr 0 (.t 2))⟩, ⟨(some 6), none, (.load none (.t 5))⟩, ⟨(some 7), none, (.faddr 0 (.t 3))⟩, ⟨(some 8), none, (.load none (.t 7))⟩, ⟨(some 9), none, (.bin .neq false (.t 6) (.t 8))⟩] [2, 3, 9]) (.cond (.t 9) (.seq (.reg [⟨(some 4), none, (.mov (.c (.bool false)))⟩] [4]) .ret) .skip)) (.seq (.seq (.reg [⟨(some 10), none, (.faddr 1 (.t 2))⟩, ⟨(some 11), none, (.load (some 4) (.t 10))⟩, ⟨(some 12), none, (.faddr 1 (.t 3))⟩, ⟨(some 13), none, (.load (some 4) (.t 12))⟩, ⟨(some 14), none, (.call (.fn 37) [(.t 11), (.t 13)] [])⟩, ⟨(some 15), none, (.un .not (.t 14))⟩] [15]) (.cond (.t 15) (.seq (.reg [⟨(some 4), none, (.mov (.c (.bool false)))⟩] [4]) .ret) .skip)) (.seq (.reg [⟨(some 4), none, (.mov (.c (.bool true)))⟩] [4]) .ret))))
def cp183 : CP := CP.mk [] [] [[2, 3], [2, 3, 9], [4], [15], [4], [4]] 16 [] []
theorem s183 : ∀ vs r, g_laws_eqKey vs = some r → SaysM Try.prog .any 183 vs r := by
  intro vs r h
  unfold g_laws_eqKey at h
  split at h
  · rename_i y0 y1 y2 y3 y4 y5 y6 y7 y8 y9
    cases h
    refine spec_of (m := .any) (tab := tabOf [(37, wM .any g_laws_eqTurn)]) (cp := cp183) (ic := ic183) (rvl := [(.t 4)]) hm (tabOk_cons (m := .any) s37 tabOk_nil) Try.func183 rfl rfl rfl (by kernel_rfl) rfl (Nat.le_of_ble_eq_true rfl) (Nat.le_of_ble_eq_true rfl) ?_
    show eA _ _ _ _
    unfold ic183
    refine eS_to ?_
    repeat' (first
      | ((first | (have h := True.intro; refine eS_of ?_) | (refine eGI_of (fun h => ?_) (fun h => ?_)) | (refine eCc_of (fun h => ?_) (fun h => ?_))) <;> (try simp only [Bool.not_eq_true', Bool.not_eq_false'] at h) <;> (try first | exact absurd (Eq.trans (Eq.symm h) (by assumption)) Bool.false_ne_true | exact absurd (Eq.trans (Eq.symm h) (by assumption)) (Ne.symm Bool.false_ne_true)) <;> simp only [h,
        grpA, vsliceS, grpS, grpD, grpF, grpL, eop, vop, bop, uop, fltop, convop, endOk, newE, new1, freshL, Md.isNew, outV, pureV, pureX, pure1, AV.cells, AV.one, storable, laid, refless, refless1, vload, loadC, storeC, vnil, vfaddr, vextract, flatT, flatE, flatC, vconv, vmm, vidxA, viaddrA, vfield, vlen, elemsOf, dF32, dF64, dI64, dU8, dBool, dStr, esOk, elemsS, vsliceX, bnd, ownV, ownC, own1, ownT, isSl, nSl, endL, Md.isOwn, purge, purgeH, purgeB, purgeE, hasName, name1, List.any_cons, List.any_nil, Md.isWr, pureV.pureP, Option.map, reduceIte, Nat.reduceEqDiff, Nat.reduceAdd, Nat.reduceMul, Nat.reduceLT, Nat.reduceLeDiff, List.mapM_cons, List.mapM_nil, Option.pure_def, Option.bind_eq_bind, Option.bind_some, implies_true, forall_const, beq_self_eq_true, decide_true, decide_false, eq_self, Int.reduceEq, Int.reduceLE, Int.reduceLT, if_true, if_false, grpK, Int.reduceAdd, Int.reduceSub, Int.reduceMul, Int.reduceNeg, Int.reducePow, Nat.reducePow, Int.reduceToNat, Nat.reduceSub, List.replicate, Nat.reduceBEq, wAs, wA, wC, zipW, noDupN, grpE, beq_true, beq_false, g_laws_eqTurn, grpC, en0, dc_en0, en1, dc_en1, en2, dc_en2]))
    all_goals (try simp only [*, m_laws_eqKey, Bool.and_true, Bool.true_and, Bool.and_false, Bool.false_and, Bool.or_true, Bool.true_or, Bool.or_false, Bool.false_or, Bool.not_true, Bool.not_false, Bool.false_eq_true, if_true, if_false, reduceIte, decide_true, decide_false])
    all_goals (try (simp_all; done))
  · cases h
def l_laws_eqKeyS_0 (x0 : (List (Int × Nat × Nat × Nat × Nat))) (x1 : (List (Int × Nat × Nat × Nat × Nat))) : Nat → Int → Option (Bool × Bool × Unit)
  | 0, _ => none
  | n + 1, z0_0 => (if (decide (z0_0 < ((List.length x0 : Nat) : Int))) = true then (need (inB z0_0 (List.length x0)) (need (inB z0_0 (List.length x1)) (if (m_laws_eqKey (atI x0 z0_0) (atI x1 z0_0)) = true then (l_laws_eqKeyS_0 x0 x1 n (IntKind.wrap .i64 (z0_0 + 1))) else (some (true, false, default))))) else (some (false, default, ())))
def m_laws_eqKeyS (x0 : (List (Int × Nat × Nat × Nat × Nat))) (x1 : (List (Int × Nat × Nat × Nat × Nat))) : Bool := (if (decide (((List.length x0 : Nat) : Int) = ((List.length x1 : Nat) : Int))) = true then (if (Option.getD (l_laws_eqKeyS_0 x0 x1 (Int.toNat (((List.length x0 : Nat) : Int) - 0) + 2) 0) default).1 = true then (Option.getD (l_laws_eqKeyS_0 x0 x1 (Int.toNat (((List.length x0 : Nat) : Int) - 0) + 2) 0) default).2.1 else true) else false)
def p_laws_eqKeyS (x0 : (List (Int × Nat × Nat × Nat × Nat))) (x1 : (List (Int × Nat × Nat × Nat × Nat))) : Bool := (!(decide (((List.length x0 : Nat) : Int) = ((List.length x1 : Nat) : Int))) || (Option.isSome (l_laws_eqKeyS_0 x0 x1 (Int.toNat (((List.length x0 : Nat) : Int) - 0) + 2) 0)))
def g_laws_eqKeyS : List AV → Option AV
  | [.sl w0, .sl w1] => (match decL dc_en0 w0 with | some y0 => ((match decL dc_en0 w1 with | some y1 => (if p_laws_eqKeyS y0 y1 = true then some (.bool (m_laws_eqKeyS y0 y1)) else none) | none => none)) | none => none)
  | _ => none
def lb139_0 : ICode := (.seq (.seq (.reg [⟨(some 11), none, (.mov (.t 5))⟩, ⟨(some 12), none, (.mov (.t 0))⟩, ⟨(some 13), none, (.len false (.t 12))⟩, ⟨(some 14), none, (.bin .lss false (.t 11) (.t 13))⟩] [0, 1, 5, 14]) (.cond (.t 14) .skip (.exit 0))) (.seq (.block 1 (.seq (.reg [⟨(some 17), none, (.mov (.t 0))⟩, ⟨(some 18), none, (.mov (.t 5))⟩, ⟨(some 19), none, (.iaddrS 5 (.t 17) (.t 18))⟩, ⟨(some 20), none, (.load (some 5) (.t 19))⟩, ⟨(some 21), none, (.mov (.t 1))⟩, ⟨(some 22), none, (.mov (.t 5))⟩, ⟨(some 23), none, (.iaddrS 5 (.t 21) (.t 22))⟩, ⟨(some 24), none, (.load (some 5) (.t 23))⟩, ⟨(some 25), none, (.call (.fn 183) [(.t 20), (.t 24)] [])⟩, ⟨(some 26), none, (.un .not (.t 25))⟩] [0, 1, 5, 26]) (.cond (.t 26) (.seq (.reg [⟨(some 4), none, (.mov (.c (.bool false)))⟩] [4]) .ret) .skip))) (.reg [⟨(some 15), none, (.mov (.t 5))⟩, ⟨(some 16), none, (.bin .add false (.t 15) (.c (.int .i64 1)))⟩, ⟨(some 5), none, (.mov (.t 16))⟩] [0, 1, 5])))
def ic139 : ICode := (.seq (.reg [⟨(some 4), none, (.mov (.c (.bool false)))⟩] [0, 1]) (.seq (.seq (.reg [⟨(some 6), none, (.mov (.t 0))⟩, ⟨(some 7), none, (.len false (.t 6))⟩, ⟨(some 8), none, (.mov (.t 1))⟩, ⟨(some 9), none, (.len false (.t 8))⟩, ⟨(some 10), none, (.bin .neq false (.t 7) (.t 9))⟩] [0, 1, 10]) (.cond (.t 10) (.seq (.reg [⟨(some 4), none, (.mov (.c (.bool false)))⟩] [4]) .ret) .skip)) (.seq (.seq (.reg [⟨(some 5), none, (.mov (.c (.int .i64 0)))⟩] [0, 1, 5]) (.block 0 (.loop lb139_0))) (.seq (.reg [⟨(some 4), none, (.mov (.c (.bool true)))⟩] [4]) .ret))))
def cp139 : CP := CP.mk [] [] [[0, 1], [0, 1, 10], [4], [0, 1, 5], [0, 1, 5, 14], [0, 1, 5], [0, 1, 5, 26], [4], [4]] 27 [] []
theorem sl139_0 (x0 : (List (Int × Nat × Nat × Nat × Nat))) (x1 : (List (Int × Nat × Nat × Nat × Nat))) : ∀ (n : Nat) (z0_0 : Int) (o : (Bool × Bool × Unit)) (K : IExit → St → Prop), l_laws_eqKeyS_0 x0 x1 n z0_0 = some o → (∀ st, o.1 = true → outM .any st [(.t 4)] = some (.bool o.2.1) → K .ret st) → (∀ st, o.1 = false → Wk st (⟨[], []⟩ : St) → K (.exit 0) st) → eA (tabOf [(183, wM .any g_laws_eqKey)]) (.loop lb139_0) (⟨[(0, (.sl (List.map en0 x0))), (1, (.sl (List.map en0 x1))), (5, (.int .i64 z0_0))], []⟩ : St) K := by
  intro n
  induction n with
  | zero =>
    intro z0_0 o K h h0 h1
    simp only [l_laws_eqKeyS_0, reduceCtorEq] at h
  | succ n ih =>
    intro z0_0 o K h h0 h1
    refine eA_loop ?_
    unfold lb139_0
    unfold l_laws_eqKeyS_0 at h
    (try simp only [need_iff] at h)
    simp only [
      need_iff, h, grpA, vsliceS, grpS, grpD, grpF, grpL, eop, vop, bop, uop, fltop, convop, endOk, newE, new1, freshL, Md.isNew, outV, pureV, pureX, pure1, AV.cells, AV.one, storable, laid, refless, refless1, vload, loadC, storeC, vnil, vfaddr, vextract, flatT, flatE, flatC, vconv, vmm, vidxA, viaddrA, vfield, vlen, elemsOf, dF32, dF64, dI64, dU8, dBool, dStr, esOk, elemsS, vsliceX, bnd, ownV, ownC, own1, ownT, isSl, nSl, endL, Md.isOwn, purge, purgeH, purgeB, purgeE, hasName, name1, List.any_cons, List.any_nil, Md.isWr, pureV.pureP, Option.map, reduceIte, Nat.reduceEqDiff, Nat.reduceAdd, Nat.reduceMul, Nat.reduceLT, Nat.reduceLeDiff, List.mapM_cons, List.mapM_nil, Option.pure_def, Option.bind_eq_bind, Option.bind_some, implies_true, forall_const, beq_self_eq_true, decide_true, decide_false, eq_self, Int.reduceEq, Int.reduceLE, Int.reduceLT, if_true, if_false, grpK, Int.reduceAdd, Int.reduceSub, Int.reduceMul, Int.reduceNeg, Int.reducePow, Nat.reducePow, Int.reduceToNat, Nat.reduceSub, List.replicate, Nat.reduceBEq, wAs, wA, wC, zipW, noDupN, grpE, beq_true, beq_false, g_laws_eqKey, grpC, en0, dc_en0, en1, dc_en1, en2, dc_en2]
    repeat' (first
      | ((first | (refine eGI_of (fun hc => ?_) (fun hc => ?_)) | (refine eCc_of (fun hc => ?_) (fun hc => ?_)) | (have hc := True.intro; refine KW_refl ?_)) <;> (try simp only [Bool.not_eq_true', Bool.not_eq_false'] at hc) <;> (try simp only [hc, need_iff, reduceCtorEq, grpN, Int.reduceEq, Int.reduceLT, Int.reduceLE, if_true, if_false, reduceIte] at h) <;> (first | (have hc2 := hc; simp only [decide_eq_true_eq, decide_eq_false_iff_not] at hc2; (first | (replace hc2 := eq_false hc2) | (replace hc2 := eq_true hc2)); (try simp only [hc2, need_iff, reduceCtorEq, grpN, Int.reduceEq, Int.reduceLT, Int.reduceLE, if_true, if_false, reduceIte] at h); replace h := And.intro hc2 h) | (replace h := And.intro hc h) | skip) <;> simp only [hc,
      need_iff, h, grpA, vsliceS, grpS, grpD, grpF, grpL, eop, vop, bop, uop, fltop, convop, endOk, newE, new1, freshL, Md.isNew, outV, pureV, pureX, pure1, AV.cells, AV.one, storable, laid, refless, refless1, vload, loadC, storeC, vnil, vfaddr, vextract, flatT, flatE, flatC, vconv, vmm, vidxA, viaddrA, vfield, vlen, elemsOf, dF32, dF64, dI64, dU8, dBool, dStr, esOk, elemsS, vsliceX, bnd, ownV, ownC, own1, ownT, isSl, nSl, endL, Md.isOwn, purge, purgeH, purgeB, purgeE, hasName, name1, List.any_cons, List.any_nil, Md.isWr, pureV.pureP, Option.map, reduceIte, Nat.reduceEqDiff, Nat.reduceAdd, Nat.reduceMul, Nat.reduceLT, Nat.reduceLeDiff, List.mapM_cons, List.mapM_nil, Option.pure_def, Option.bind_eq_bind, Option.bind_some, implies_true, forall_const, beq_self_eq_true, decide_true, decide_false, eq_self, Int.reduceEq, Int.reduceLE, Int.reduceLT, if_true, if_false, grpK, Int.reduceAdd, Int.reduceSub, Int.reduceMul, Int.reduceNeg, Int.reducePow, Nat.reducePow, Int.reduceToNat, Nat.reduceSub, List.replicate, Nat.reduceBEq, wAs, wA, wC, zipW, noDupN, grpE, beq_true, beq_false, g_laws_eqKey, grpC, en0, dc_en0, en1, dc_en1, en2, dc_en2]))
    all_goals (have hf := h)
    all_goals (repeat (replace h := And.right h))
    all_goals ((first | (refine eA_wk (wk_norm (ks := [0, 1, 5]) (ls := []) ?_) (eA_cast ?_ (ih _ _ _ h h0 h1))) | (cases h; have h := True.intro; refine h0 _ rfl ?_) | (cases h; have h := True.intro; refine h1 _ rfl (Wk.cast (wk_norm (ks := []) (ls := []) ?_) ?_))) <;> simp only [normOk, optIn, blkIn, nameIn, normS, List.map_append, List.length_append, List.map_set, List.length_set, List.map_replicate, List.length_replicate, List.map_nil, List.map_cons,
      need_iff, h, hf, grpA, vsliceS, grpS, grpD, grpF, grpL, eop, vop, bop, uop, fltop, convop, endOk, newE, new1, freshL, Md.isNew, outV, pureV, pureX, pure1, AV.cells, AV.one, storable, laid, refless, refless1, vload, loadC, storeC, vnil, vfaddr, vextract, flatT, flatE, flatC, vconv, vmm, vidxA, viaddrA, vfield, vlen, elemsOf, dF32, dF64, dI64, dU8, dBool, dStr, esOk, elemsS, vsliceX, bnd, ownV, ownC, own1, ownT, isSl, nSl, endL, Md.isOwn, purge, purgeH, purgeB, purgeE, hasName, name1, List.any_cons, List.any_nil, Md.isWr, pureV.pureP, Option.map, reduceIte, Nat.reduceEqDiff, Nat.reduceAdd, Nat.reduceMul, Nat.reduceLT, Nat.reduceLeDiff, List.mapM_cons, List.mapM_nil, Option.pure_def, Option.bind_eq_bind, Option.bind_some, implies_true, forall_const, beq_self_eq_true, decide_true, decide_false, eq_self, Int.reduceEq, Int.reduceLE, Int.reduceLT, if_true, if_false, grpK, Int.reduceAdd, Int.reduceSub, Int.reduceMul, Int.reduceNeg, Int.reducePow, Nat.reducePow, Int.reduceToNat, Nat.reduceSub, List.replicate, Nat.reduceBEq, wAs, wA, wC, zipW, noDupN, grpE, beq_true, beq_false, g_laws_eqKey, grpC, en0, dc_en0, en1, dc_en1, en2, dc_en2] <;> first | rfl | (simp only [Nat.add_comm]; done))
theorem s139 : ∀ vs r, g_laws_eqKeyS vs = some r → SaysM Try.prog .any 139 vs r := by
  intro vs r h
  unfold g_laws_eqKeyS at h
  split at h
  · rename_i w0 w1
    cases hd_y0 : decL dc_en0 w0 with
    | none => rw [hd_y0] at h; cases h
    | some y0 =>
    rw [hd_y0] at h
    obtain rfl := decL_inv dc_en0_inv hd_y0
    clear hd_y0
    dsimp only at h
    cases hd_y1 : decL dc_en0 w1 with
    | none => rw [hd_y1] at h; cases h
    | some y1 =>
    rw [hd_y1] at h
    obtain rfl := decL_inv dc_en0_inv hd_y1
    clear hd_y1
    dsimp only at h
    split at h
    · rename_i hp
      cases h
      refine spec_of (m := .any) (tab := tabOf [(183, wM .any g_laws_eqKey)]) (cp := cp139) (ic := ic139) (rvl := [(.t 4)]) hm (tabOk_cons (m := .any) s183 tabOk_nil) Try.func139 rfl rfl rfl (by kernel_rfl) rfl (Nat.le_of_ble_eq_true rfl) (Nat.le_of_ble_eq_true rfl) ?_
      show eA _ _ _ _
      unfold ic139
      simp only [p_laws_eqKeyS, Bool.and_eq_true, Bool.or_eq_true, decide_eq_true_eq, Bool.not_eq_true', decide_eq_false_iff_not] at hp
      refine eS_to ?_
      repeat' (first
        | ((first | (have h := True.intro; refine eS_of ?_) | (refine eGI_of (fun h => ?_) (fun h => ?_)) | (refine eCc_of (fun h => ?_) (fun h => ?_)) | (have h := True.intro; refine KW_refl ?_)) <;> (try simp only [Bool.not_eq_true', Bool.not_eq_false'] at h) <;> (try first | exact absurd (Eq.trans (Eq.symm h) (by assumption)) Bool.false_ne_true | exact absurd (Eq.trans (Eq.symm h) (by assumption)) (Ne.symm Bool.false_ne_true)) <;> (try simp only [h, reduceCtorEq, grpN, Int.reduceEq, Int.reduceLT, Int.reduceLE, if_true, if_false, reduceIte] at hp) <;> (first | (have h2 := h; simp only [decide_eq_true_eq, decide_eq_false_iff_not] at h2; (first | (replace h2 := eq_false h2) | (replace h2 := eq_true h2)); (try simp only [h2, reduceCtorEq, grpN, Int.reduceEq, Int.reduceLT, Int.reduceLE, if_true, if_false, reduceIte] at hp); replace hp := And.intro h2 hp) | (replace hp := And.intro h hp) | skip) <;> simp only [h,
          hp, grpA, vsliceS, grpS, grpD, grpF, grpL, eop, vop, bop, uop, fltop, convop, endOk, newE, new1, freshL, Md.isNew, outV, pureV, pureX, pure1, AV.cells, AV.one, storable, laid, refless, refless1, vload, loadC, storeC, vnil, vfaddr, vextract, flatT, flatE, flatC, vconv, vmm, vidxA, viaddrA, vfield, vlen, elemsOf, dF32, dF64, dI64, dU8, dBool, dStr, esOk, elemsS, vsliceX, bnd, ownV, ownC, own1, ownT, isSl, nSl, endL, Md.isOwn, purge, purgeH, purgeB, purgeE, hasName, name1, List.any_cons, List.any_nil, Md.isWr, pureV.pureP, Option.map, reduceIte, Nat.reduceEqDiff, Nat.reduceAdd, Nat.reduceMul, Nat.reduceLT, Nat.reduceLeDiff, List.mapM_cons, List.mapM_nil, Option.pure_def, Option.bind_eq_bind, Option.bind_some, implies_true, forall_const, beq_self_eq_true, decide_true, decide_false, eq_self, Int.reduceEq, Int.reduceLE, Int.reduceLT, if_true, if_false, grpK, Int.reduceAdd, Int.reduceSub, Int.reduceMul, Int.reduceNeg, Int.reducePow, Nat.reducePow, Int.reduceToNat, Nat.reduceSub, List.replicate, Nat.reduceBEq, wAs, wA, wC, zipW, noDupN, grpE, beq_true, beq_false, g_laws_eqKey, grpC, en0, dc_en0, en1, dc_en1, en2, dc_en2])
        | (refine eA_wk (wk_norm (ks := [0, 1, 5]) (ls := []) ?_) (eA_cast ?_ (sl139_0 y0 y1 _ _ _ _ (getD_some (d := default) (x := (l_laws_eqKeyS_0 y0 y1 (Int.toNat (((List.length y0 : Nat) : Int) - 0) + 2) 0)) ?_) ?_ ?_)); (iterate 2 (simp only [nilS, nilV, normOk, optIn, blkIn, nameIn, normS, List.map_append, List.length_append, List.map_set, List.length_set, List.map_replicate, List.length_replicate, List.map_nil, List.map_cons,
          hp, grpA, vsliceS, grpS, grpD, grpF, grpL, eop, vop, bop, uop, fltop, convop, endOk, newE, new1, freshL, Md.isNew, outV, pureV, pureX, pure1, AV.cells, AV.one, storable, laid, refless, refless1, vload, loadC, storeC, vnil, vfaddr, vextract, flatT, flatE, flatC, vconv, vmm, vidxA, viaddrA, vfield, vlen, elemsOf, dF32, dF64, dI64, dU8, dBool, dStr, esOk, elemsS, vsliceX, bnd, ownV, ownC, own1, ownT, isSl, nSl, endL, Md.isOwn, purge, purgeH, purgeB, purgeE, hasName, name1, List.any_cons, List.any_nil, Md.isWr, pureV.pureP, Option.map, reduceIte, Nat.reduceEqDiff, Nat.reduceAdd, Nat.reduceMul, Nat.reduceLT, Nat.reduceLeDiff, List.mapM_cons, List.mapM_nil, Option.pure_def, Option.bind_eq_bind, Option.bind_some, implies_true, forall_const, beq_self_eq_true, decide_true, decide_false, eq_self, Int.reduceEq, Int.reduceLE, Int.reduceLT, if_true, if_false, grpK, Int.reduceAdd, Int.reduceSub, Int.reduceMul, Int.reduceNeg, Int.reducePow, Nat.reducePow, Int.reduceToNat, Nat.reduceSub, List.replicate, Nat.reduceBEq, wAs, wA, wC, zipW, noDupN, grpE, beq_true, beq_false, g_laws_eqKey, grpC, en0, dc_en0, en1, dc_en1, en2, dc_en2] <;> first | rfl | (simp only [Nat.add_comm]; done))); (simp only [hp]); (
        intro st2 ht hw; simp only [Kq_ret, Kb_ret, Kl_ret, ret_ok]; first | exact h0 _ hw | exact h0 _ rfl hw | exact h1 _ rfl hw | exact h0 _ ht hw | exact h1 _ ht hw | (simp only [ht, need_iff, reduceCtorEq, grpN, Int.reduceEq, Int.reduceLT, Int.reduceLE, if_true, if_false, reduceIte] at h; (repeat (replace h := And.right h)); cases h; first | exact h0 _ hw | exact h0 _ rfl hw | exact h1 _ rfl hw) | refine ⟨_, hw, ?_⟩); rotate_left; (
        intro st2 ht hw; (try simp only [ht, reduceCtorEq, grpN, Int.reduceEq, Int.reduceLT, Int.reduceLE, if_true, if_false, reduceIte] at hp); (try replace hp := And.intro ht hp); simp only [
Kq_exit, Kq_normal, Kq_ret, Kb_exit, Kb_normal, Kb_ret, Kl_exit, Kl_normal, Kl_ret, reduceIte, Nat.reduceEqDiff, if_true, if_false, eq_self]; refine KW_of hw ?_; simp only [ht, 
          hp, grpA, vsliceS, grpS, grpD, grpF, grpL, eop, vop, bop, uop, fltop, convop, endOk, newE, new1, freshL, Md.isNew, outV, pureV, pureX, pure1, AV.cells, AV.one, storable, laid, refless, refless1, vload, loadC, storeC, vnil, vfaddr, vextract, flatT, flatE, flatC, vconv, vmm, vidxA, viaddrA, vfield, vlen, elemsOf, dF32, dF64, dI64, dU8, dBool, dStr, esOk, elemsS, vsliceX, bnd, ownV, ownC, own1, ownT, isSl, nSl, endL, Md.isOwn, purge, purgeH, purgeB, purgeE, hasName, name1, List.any_cons, List.any_nil, Md.isWr, pureV.pureP, Option.map, reduceIte, Nat.reduceEqDiff, Nat.reduceAdd, Nat.reduceMul, Nat.reduceLT, Nat.reduceLeDiff, List.mapM_cons, List.mapM_nil, Option.pure_def, Option.bind_eq_bind, Option.bind_some, implies_true, forall_const, beq_self_eq_true, decide_true, decide_false, eq_self, Int.reduceEq, Int.reduceLE, Int.reduceLT, if_true, if_false, grpK, Int.reduceAdd, Int.reduceSub, Int.reduceMul, Int.reduceNeg, Int.reducePow, Nat.reducePow, Int.reduceToNat, Nat.reduceSub, List.replicate, Nat.reduceBEq, wAs, wA, wC, zipW, noDupN, grpE, beq_true, beq_false, g_laws_eqKey, grpC, en0, dc_en0, en1, dc_en1, en2, dc_en2])))
      all_goals (try simp only [*, m_laws_eqKeyS, Bool.and_true, Bool.true_and, Bool.and_false, Bool.false_and, Bool.or_true, Bool.true_or, Bool.or_false, Bool.false_or, Bool.not_true, Bool.not_false, Bool.false_eq_true, if_true, if_false, reduceIte, decide_true, decide_false])
      all_goals (try (simp_all; done))
    · cases h
  · cases h
def l_laws_eqKeySS_0 (x0 : (List (List (Int × Nat × Nat × Nat × Nat)))) (x1 : (List (List (Int × Nat × Nat × Nat × Nat)))) : Nat → Int → Option (Bool × Bool × Unit)
  | 0, _ => none
  | n + 1, z0_0 => (if (decide (z0_0 < ((List.length x0 : Nat) : Int))) = true then (need (inB z0_0 (List.length x0)) (need (inB z0_0 (List.length x1)) (need (p_laws_eqKeyS (atI x0 z0_0) (atI x1 z0_0)) (if (m_laws_eqKeyS (atI x0 z0_0) (atI x1 z0_0)) = true then (l_laws_eqKeySS_0 x0 x1 n (IntKind.wrap .i64 (z0_0 + 1))) else (some (true, false, default)))))) else (some (false, default, ())))
def m_laws_eqKeySS (x0 : (List (List (Int × Nat × Nat × Nat × Nat)))) (x1 : (List (List (Int × Nat × Nat × Nat × Nat)))) : Bool := (if (decide (((List.length x0 : Nat) : Int) = ((List.length x1 : Nat) : Int))) = true then (if (Option.getD (l_laws_eqKeySS_0 x0 x1 (Int.toNat (((List.length x0 : Nat) : Int) - 0) + 2) 0) default).1 = true then (Option.getD (l_laws_eqKeySS_0 x0 x1 (Int.toNat (((List.length x0 : Nat) : Int) - 0) + 2) 0) default).2.1 else true) else false)
def p_laws_eqKeySS (x0 : (List (List (Int × Nat × Nat × Nat × Nat)))) (x1 : (List (List (Int × Nat × Nat × Nat × Nat)))) : Bool := (!(decide (((List.length x0 : Nat) : Int) = ((List.length x1 : Nat) : Int))) || (Option.isSome (l_laws_eqKeySS_0 x0 x1 (Int.toNat (((List.length x0 : Nat) : Int) - 0) + 2) 0)))
def g_laws_eqKeySS : List AV → Option AV
  | [.sl w0, .sl w1] => (match decL dc_en1 w0 with | some y0 => ((match decL dc_en1 w1 with | some y1 => (if p_laws_eqKeySS y0 y1 = true then some (.bool (m_laws_eqKeySS y0 y1)) else none) | none => none)) | none => none)
  | _ => none
def lb94_0 : ICode := (.seq (.seq (.reg [⟨(some 11), none, (.mov (.t 5))⟩, ⟨(some 12), none, (.mov (.t 0))⟩, ⟨(some 13), none, (.len false (.t 12))⟩, ⟨(some 14), none, (.bin .lss false (.t 11) (.t 13))⟩] [0, 1, 5, 14]) (.cond (.t 14) .skip (.exit 0))) (.seq (.block 1 (.seq (.reg [⟨(some 17), none, (.mov (.t 0))⟩, ⟨(some 18), none, (.mov (.t 5))⟩, ⟨(some 19), none, (.iaddrS 1 (.t 17) (.t 18))⟩, ⟨(some 20), none, (.load none (.t 19))⟩, ⟨(some 21), none, (.mov (.t 1))⟩, ⟨(some 22), none, (.mov (.t 5))⟩, ⟨(some 23), none, (.iaddrS 1 (.t 21) (.t 22))⟩, ⟨(some 24), none, (.load none (.t 23))⟩, ⟨(some 25), none, (.call (.fn 139) [(.t 20), (.t 24)] [])⟩, ⟨(some 26), none, (.un .not (.t 25))⟩] [0, 1, 5, 26]) (.cond (.t 26) (.seq (.reg [⟨(some 4), none, (.mov (.c (.bool false)))⟩] [4]) .ret) .skip))) (.reg [⟨(some 15), none, (.mov (.t 5))⟩, ⟨(some 16), none, (.bin .add false (.t 15) (.c (.int .i64 1)))⟩, ⟨(some 5), none, (.mov (.t 16))⟩] [0, 1, 5])))
def ic94 : ICode := (.seq (.reg [⟨(some 4), none, (.mov (.c (.bool false)))⟩] [0, 1]) (.seq (.seq (.reg [⟨(some 6), none, (.mov (.t 0))⟩, ⟨(some 7), none, (.len false (.t 6))⟩, ⟨(some 8), none, (.mov (.t 1))⟩, ⟨(some 9), none, (.len false (.t 8))⟩, ⟨(some 10), none, (.bin .neq false (.t 7) (.t 9))⟩] [0, 1, 10]) (.cond (.t 10) (.seq (.reg [⟨(some 4), none, (.mov (.c (.bool false)))⟩] [4]) .ret) .skip)) (.seq (.seq (.reg [⟨(some 5), none, (.mov (.c (.int .i64 0)))⟩] [0, 1, 5]) (.block 0 (.loop lb94_0))) (.seq (.reg [⟨(some 4), none, (.mov (.c (.bool true)))⟩] [4]) .ret))))
def cp94 : CP := CP.mk [] [] [[0, 1], [0, 1, 10], [4], [0, 1, 5], [0, 1, 5, 14], [0, 1, 5], [0, 1, 5, 26], [4], [4]] 27 [] []
theorem sl94_0 (x0 : (List (List (Int × Nat × Nat × Nat × Nat)))) (x1 : (List (List (Int × Nat × Nat × Nat × Nat)))) : ∀ (n : Nat) (z0_0 : Int) (o : (Bool × Bool × Unit)) (K : IExit → St → Prop), l_laws_eqKeySS_0 x0 x1 n z0_0 = some o → (∀ st, o.1 = true → outM .any st [(.t 4)] = some (.bool o.2.1) → K .ret st) → (∀ st, o.1 = false → Wk st (⟨[], []⟩ : St) → K (.exit 0) st) → eA (tabOf [(139, wM .any g_laws_eqKeyS)]) (.loop lb94_0) (⟨[(0, (.sl (List.map en1 x0))), (1, (.sl (List.map en1 x1))), (5, (.int .i64 z0_0))], []⟩ : St) K := by
  intro n
  induction n with
  | zero =>
    intro z0_0 o K h h0 h1
    simp only [l_laws_eqKeySS_0, reduceCtorEq] at h
  | succ n ih =>
    intro z0_0 o K h h0 h1
    refine eA_loop ?_
    unfold lb94_0
    unfold l_laws_eqKeySS_0 at h
    (try simp only [need_iff] at h)
    simp only [
      need_iff, h, grpA, vsliceS, grpS, grpD, grpF, grpL, eop, vop, bop, uop, fltop, convop, endOk, newE, new1, freshL, Md.isNew, outV, pureV, pureX, pure1, AV.cells, AV.one, storable, laid, refless, refless1, vload, loadC, storeC, vnil, vfaddr, vextract, flatT, flatE, flatC, vconv, vmm, vidxA, viaddrA, vfield, vlen, elemsOf, dF32, dF64, dI64, dU8, dBool, dStr, esOk, elemsS, vsliceX, bnd, ownV, ownC, own1, ownT, isSl, nSl, endL, Md.isOwn, purge, purgeH, purgeB, purgeE, hasName, name1, List.any_cons, List.any_nil, Md.isWr, pureV.pureP, Option.map, reduceIte, Nat.reduceEqDiff, Nat.reduceAdd, Nat.reduceMul, Nat.reduceLT, Nat.reduceLeDiff, List.mapM_cons, List.mapM_nil, Option.pure_def, Option.bind_eq_bind, Option.bind_some, implies_true, forall_const, beq_self_eq_true, decide_true, decide_false, eq_self, Int.reduceEq, Int.reduceLE, Int.reduceLT, if_true, if_false, grpK, Int.reduceAdd, Int.reduceSub, Int.reduceMul, Int.reduceNeg, Int.reducePow, Nat.reducePow, Int.reduceToNat, Nat.reduceSub, List.replicate, Nat.reduceBEq, wAs, wA, wC, zipW, noDupN, grpE, beq_true, beq_false, g_laws_eqKeyS, grpC, en0, dc_en0, en1, dc_en1, en2, dc_en2]
    repeat' (first
      | ((first | (refine eGI_of (fun hc => ?_) (fun hc => ?_)) | (refine eCc_of (fun hc => ?_) (fun hc => ?_)) | (have hc := True.intro; refine KW_refl ?_)) <;> (try simp only [Bool.not_eq_true', Bool.not_eq_false'] at hc) <;> (try simp only [hc, need_iff, reduceCtorEq, grpN, Int.reduceEq, Int.reduceLT, Int.reduceLE, if_true, if_false, reduceIte] at h) <;> (first | (have hc2 := hc; simp only [decide_eq_true_eq, decide_eq_false_iff_not] at hc2; (first | (replace hc2 := eq_false hc2) | (replace hc2 := eq_true hc2)); (try simp only [hc2, need_iff, reduceCtorEq, grpN, Int.reduceEq, Int.reduceLT, Int.reduceLE, if_true, if_false, reduceIte] at h); replace h := And.intro hc2 h) | (replace h := And.intro hc h) | skip) <;> simp only [hc,
      need_iff, h, grpA, vsliceS, grpS, grpD, grpF, grpL, eop, vop, bop, uop, fltop, convop, endOk, newE, new1, freshL, Md.isNew, outV, pureV, pureX, pure1, AV.cells, AV.one, storable, laid, refless, refless1, vload, loadC, storeC, vnil, vfaddr, vextract, flatT, flatE, flatC, vconv, vmm, vidxA, viaddrA, vfield, vlen, elemsOf, dF32, dF64, dI64, dU8, dBool, dStr, esOk, elemsS, vsliceX, bnd, ownV, ownC, own1, ownT, isSl, nSl, endL, Md.isOwn, purge, purgeH, purgeB, purgeE, hasName, name1, List.any_cons, List.any_nil, Md.isWr, pureV.pureP, Option.map, reduceIte, Nat.reduceEqDiff, Nat.reduceAdd, Nat.reduceMul, Nat.reduceLT, Nat.reduceLeDiff, List.mapM_cons, List.mapM_nil, Option.pure_def, Option.bind_eq_bind, Option.bind_some, implies_true, forall_const, beq_self_eq_true, decide_true, decide_false, eq_self, Int.reduceEq, Int.reduceLE, Int.reduceLT, if_true, if_false, grpK, Int.reduceAdd, Int.reduceSub, Int.reduceMul, Int.reduceNeg, Int.reducePow, Nat.reducePow, Int.reduceToNat, Nat.reduceSub, List.replicate, Nat.reduceBEq, wAs, wA, wC, zipW, noDupN, grpE, beq_true, beq_false, g_laws_eqKeyS, grpC, en0, dc_en0, en1, dc_en1, en2, dc_en2]))
    all_goals (have hf := h)
    all_goals (repeat (replace h := And.right h))
    all_goals ((first | (refine eA_wk (wk_norm (ks := [0, 1, 5]) (ls := []) ?_) (eA_cast ?_ (ih _ _ _ h h0 h1))) | (cases h; have h := True.intro; refine h0 _ rfl ?_) | (cases h; have h := True.intro; refine h1 _ rfl (Wk.cast (wk_norm (ks := []) (ls := []) ?_) ?_))) <;> simp only [normOk, optIn, blkIn, nameIn, normS, List.map_append, List.length_append, List.map_set, List.length_set, List.map_replicate, List.length_replicate, List.map_nil, List.map_cons,
      need_iff, h, hf, grpA, vsliceS, grpS, grpD, grpF, grpL, eop, vop, bop, uop, fltop, convop, endOk, newE, new1, freshL, Md.isNew, outV, pureV, pureX, pure1, AV.cells, AV.one, storable, laid, refless, refless1, vload, loadC, storeC, vnil, vfaddr, vextract, flatT, flatE, flatC, vconv, vmm, vidxA, viaddrA, vfield, vlen, elemsOf, dF32, dF64, dI64, dU8, dBool, dStr, esOk, elemsS, vsliceX, bnd, ownV, ownC, own1, ownT, isSl, nSl, endL, Md.isOwn, purge, purgeH, purgeB, purgeE, hasName, name1, List.any_cons, List.any_nil, Md.isWr, pureV.pureP, Option.map, reduceIte, Nat.reduceEqDiff, Nat.reduceAdd, Nat.reduceMul, Nat.reduceLT, Nat.reduceLeDiff, List.mapM_cons, List.mapM_nil, Option.pure_def, Option.bind_eq_bind, Option.bind_some, implies_true, forall_const, beq_self_eq_true, decide_true, decide_false, eq_self, Int.reduceEq, Int.reduceLE, Int.reduceLT, if_true, if_false, grpK, Int.reduceAdd, Int.reduceSub, Int.reduceMul, Int.reduceNeg, Int.reducePow, Nat.reducePow, Int.reduceToNat, Nat.reduceSub, List.replicate, Nat.reduceBEq, wAs, wA, wC, zipW, noDupN, grpE, beq_true, beq_false, g_laws_eqKeyS, grpC, en0, dc_en0, en1, dc_en1, en2, dc_en2] <;> first | rfl | (simp only [Nat.add_comm]; done))
theorem s94 : ∀ vs r, g_laws_eqKeySS vs = some r → SaysM Try.prog .any 94 vs r := by
  intro vs r h
  unfold g_laws_eqKeySS at h
  split at h
  · rename_i w0 w1
    cases hd_y0 : decL dc_en1 w0 with
    | none => rw [hd_y0] at h; cases h
    | some y0 =>
    rw [hd_y0] at h
    obtain rfl := decL_inv dc_en1_inv hd_y0
    clear hd_y0
    dsimp only at h
    cases hd_y1 : decL dc_en1 w1 with
    | none => rw [hd_y1] at h; cases h
    | some y1 =>
    rw [hd_y1] at h
    obtain rfl := decL_inv dc_en1_inv hd_y1
    clear hd_y1
    dsimp only at h
    split at h
    · rename_i hp
      cases h
      refine spec_of (m := .any) (tab := tabOf [(139, wM .any g_laws_eqKeyS)]) (cp := cp94) (ic := ic94) (rvl := [(.t 4)]) hm (tabOk_cons (m := .any) s139 tabOk_nil) Try.func94 rfl rfl rfl (by kernel_rfl) rfl (Nat.le_of_ble_eq_true rfl) (Nat.le_of_ble_eq_true rfl) ?_
      show eA _ _ _ _
      unfold ic94
      simp only [p_laws_eqKeySS, Bool.and_eq_true, Bool.or_eq_true, decide_eq_true_eq, Bool.not_eq_true', decide_eq_false_iff_not] at hp
      refine eS_to ?_
      repeat' (first
        | ((first | (have h := True.intro; refine eS_of ?_) | (refine eGI_of (fun h => ?_) (fun h => ?_)) | (refine eCc_of (fun h => ?_) (fun h => ?_)) | (have h := True.intro; refine KW_refl ?_)) <;> (try simp only [Bool.not_eq_true', Bool.not_eq_false'] at h) <;> (try first | exact absurd (Eq.trans (Eq.symm h) (by assumption)) Bool.false_ne_true | exact absurd (Eq.trans (Eq.symm h) (by assumption)) (Ne.symm Bool.false_ne_true)) <;> (try simp only [h, reduceCtorEq, grpN, Int.reduceEq, Int.reduceLT, Int.reduceLE, if_true, if_false, reduceIte] at hp) <;> (first | (have h2 := h; simp only [decide_eq_true_eq, decide_eq_false_iff_not] at h2; (first | (replace h2 := eq_false h2) | (replace h2 := eq_true h2)); (try simp only [h2, reduceCtorEq, grpN, Int.reduceEq, Int.reduceLT, Int.reduceLE, if_true, if_false, reduceIte] at hp); replace hp := And.intro h2 hp) | (replace hp := And.intro h hp) | skip) <;> simp only [h,
          hp, grpA, vsliceS, grpS, grpD, grpF, grpL, eop, vop, bop, uop, fltop, convop, endOk, newE, new1, freshL, Md.isNew, outV, pureV, pureX, pure1, AV.cells, AV.one, storable, laid, refless, refless1, vload, loadC, storeC, vnil, vfaddr, vextract, flatT, flatE, flatC, vconv, vmm, vidxA, viaddrA, vfield, vlen, elemsOf, dF32, dF64, dI64, dU8, dBool, dStr, esOk, elemsS, vsliceX, bnd, ownV, ownC, own1, ownT, isSl, nSl, endL, Md.isOwn, purge, purgeH, purgeB, purgeE, hasName, name1, List.any_cons, List.any_nil, Md.isWr, pureV.pureP, Option.map, reduceIte, Nat.reduceEqDiff, Nat.reduceAdd, Nat.reduceMul, Nat.reduceLT, Nat.reduceLeDiff, List.mapM_cons, List.mapM_nil, Option.pure_def, Option.bind_eq_bind, Option.bind_some, implies_true, forall_const, beq_self_eq_true, decide_true, decide_false, eq_self, Int.reduceEq, Int.reduceLE, Int.reduceLT, if_true, if_false, grpK, Int.reduceAdd, Int.reduceSub, Int.reduceMul, Int.reduceNeg, Int.reducePow, Nat.reducePow, Int.reduceToNat, Nat.reduceSub, List.replicate, Nat.reduceBEq, wAs, wA, wC, zipW, noDupN, grpE, beq_true, beq_false, g_laws_eqKeyS, grpC, en0, dc_en0, en1, dc_en1, en2, dc_en2])
        | (refine eA_wk (wk_norm (ks := [0, 1, 5]) (ls := []) ?_) (eA_cast ?_ (sl94_0 y0 y1 _ _ _ _ (getD_some (d := default) (x := (l_laws_eqKeySS_0 y0 y1 (Int.toNat (((List.length y0 : Nat) : Int) - 0) + 2) 0)) ?_) ?_ ?_)); (iterate 2 (simp only [nilS, nilV, normOk, optIn, blkIn, nameIn, normS, List.map_append, List.length_append, List.map_set, List.length_set, List.map_replicate, List.length_replicate, List.map_nil, List.map_cons,
          hp, grpA, vsliceS, grpS, grpD, grpF, grpL, eop, vop, bop, uop, fltop, convop, endOk, newE, new1, freshL, Md.isNew, outV, pureV, pureX, pure1, AV.cells, AV.one, storable, laid, refless, refless1, vload, loadC, storeC, vnil, vfaddr, vextract, flatT, flatE, flatC, vconv, vmm, vidxA, viaddrA, vfield, vlen, elemsOf, dF32, dF64, dI64, dU8, dBool, dStr, esOk, elemsS, vsliceX, bnd, ownV, ownC, own1, ownT, isSl, nSl, endL, Md.isOwn, purge, purgeH, purgeB, purgeE, hasName, name1, List.any_cons, List.any_nil, Md.isWr, pureV.pureP, Option.map, reduceIte, Nat.reduceEqDiff, Nat.reduceAdd, Nat.reduceMul, Nat.reduceLT, Nat.reduceLeDiff, List.mapM_cons, List.mapM_nil, Option.pure_def, Option.bind_eq_bind, Option.bind_some, implies_true, forall_const, beq_self_eq_true, decide_true, decide_false, eq_self, Int.reduceEq, Int.reduceLE, Int.reduceLT, if_true, if_false, grpK, Int.reduceAdd, Int.reduceSub, Int.reduceMul, Int.reduceNeg, Int.reducePow, Nat.reducePow, Int.reduceToNat, Nat.reduceSub, List.replicate, Nat.reduceBEq, wAs, wA, wC, zipW, noDupN, grpE, beq_true, beq_false, g_laws_eqKeyS, grpC, en0, dc_en0, en1, dc_en1, en2, dc_en2] <;> first | rfl | (simp only [Nat.add_comm]; done))); (simp only [hp]); (
        intro st2 ht hw; simp only [Kq_ret, Kb_ret, Kl_ret, ret_ok]; first | exact h0 _ hw | exact h0 _ rfl hw | exact h1 _ rfl hw | exact h0 _ ht hw | exact h1 _ ht hw | (simp only [ht, need_iff, reduceCtorEq, grpN, Int.reduceEq, Int.reduceLT, Int.reduceLE, if_true, if_false, reduceIte] at h; (repeat (replace h := And.right h)); cases h; first | exact h0 _ hw | exact h0 _ rfl hw | exact h1 _ rfl hw) | refine ⟨_, hw, ?_⟩); rotate_left; (
        intro st2 ht hw; (try simp only [ht, reduceCtorEq, grpN, Int.reduceEq, Int.reduceLT, Int.reduceLE, if_true, if_false, reduceIte] at hp); (try replace hp := And.intro ht hp); simp only [
Kq_exit, Kq_normal, Kq_ret, Kb_exit, Kb_normal, Kb_ret, Kl_exit, Kl_normal, Kl_ret, reduceIte, Nat.reduceEqDiff, if_true, if_false, eq_self]; refine KW_of hw ?_; simp only [ht, 
          hp, grpA, vsliceS, grpS, grpD, grpF, grpL, eop, vop, bop, uop, fltop, convop, endOk, newE, new1, freshL, Md.isNew, outV, pureV, pureX, pure1, AV.cells, AV.one, storable, laid, refless, refless1, vload, loadC, storeC, vnil, vfaddr, vextract, flatT, flatE, flatC, vconv, vmm, vidxA, viaddrA, vfield, vlen, elemsOf, dF32, dF64, dI64, dU8, dBool, dStr, esOk, elemsS, vsliceX, bnd, ownV, ownC, own1, ownT, isSl, nSl, endL, Md.isOwn, purge, purgeH, purgeB, purgeE, hasName, name1, List.any_cons, List.any_nil, Md.isWr, pureV.pureP, Option.map, reduceIte, Nat.reduceEqDiff, Nat.reduceAdd, Nat.reduceMul, Nat.reduceLT, Nat.reduceLeDiff, List.mapM_cons, List.mapM_nil, Option.pure_def, Option.bind_eq_bind, Option.bind_some, implies_true, forall_const, beq_self_eq_true, decide_true, decide_false, eq_self, Int.reduceEq, Int.reduceLE, Int.reduceLT, if_true, if_false, grpK, Int.reduceAdd, Int.reduceSub, Int.reduceMul, Int.reduceNeg, Int.reducePow, Nat.reducePow, Int.reduceToNat, Nat.reduceSub, List.replicate, Nat.reduceBEq, wAs, wA, wC, zipW, noDupN, grpE, beq_true, beq_false, g_laws_eqKeyS, grpC, en0, dc_en0, en1, dc_en1, en2, dc_en2])))
      all_goals (try simp only [*, m_laws_eqKeySS, Bool.and_true, Bool.true_and, Bool.and_false, Bool.false_and, Bool.or_true, Bool.true_or, Bool.or_false, Bool.false_or, Bool.not_true, Bool.not_false, Bool.false_eq_true, if_true, if_false, reduceIte, decide_true, decide_false])
      all_goals (try (simp_all; done))
    · cases h
  · cases h
def m_laws_eqRootKey (x0 : (Int × Nat × Nat × Nat)) (x1 : (Int × Nat × Nat × Nat)) : Bool := (if (decide (x0.1 = x1.1)) = true then (if (m_laws_eqVector x0.2 x1.2) = true then true else false) else false)
def g_laws_eqRootKey : List AV → Option AV
  | [.agg [.int .i64 y0, .flt .f32 y1, .flt .f32 y2, .flt .f32 y3], .agg [.int .i64 y4, .flt .f32 y5, .flt .f32 y6, .flt .f32 y7]] => some (.bool (m_laws_eqRootKey (y0, y1, y2, y3) (y4, y5, y6, y7)))
  | _ => none
def ic140 : ICode := (.seq (.reg [⟨(some 2), none, (.box 4 (.t 0))⟩, ⟨(some 3), none, (.box 4 (.t 1))⟩, ⟨(some 4), none, (.mov (.c (.bool false)))⟩] [2, 3]) (.seq (.seq (.reg [⟨(some 5), none, (.faddr 0 (.t 2))⟩, ⟨(some 6), none, (.load none (.t 5))⟩, ⟨(some 7), none, (.faddr 0 (.t 3))⟩, ⟨(some 8), none, (.load none (.t 7))⟩, ⟨(some 9), none, (.bin .neq false (.t 6) (.t 8))⟩] [2, 3, 9]) (.cond (.t 9) (.seq (.reg [⟨(some 4), none, (.mov (.c (.bool false)))⟩] [4]) .ret) .skip)) (.seq (.seq (.reg [⟨(some 10), none, (.faddr 1 (.t 2))⟩, ⟨(some 11), none, (.load (some 3) (.t 10))⟩, ⟨(some 12), none, (.faddr 1 (.t 3))⟩, ⟨(some 13), none, (.load (some 3) (.t 12))⟩, ⟨(some 14), none, (.call (.fn 47) [(.t 11), (.t 13)] [])⟩, ⟨(some 15), none, (.un .not (.t 14))⟩] [15]) (.cond (.t 15) (.seq (.reg [⟨(some 4), none, (.mov (.c (.bool false)))⟩] [4]) .ret) .skip)) (.seq (.reg [⟨(some 4), none, (.mov (.c (.bool true)))⟩] [4]) .ret))))
def cp140 : CP := CP.mk [] [] [[2, 3], [2, 3, 9], [4], [15], [4], [4]] 16 [] []
theorem s140 : ∀ vs r, g_laws_eqRootKey vs = some r → SaysM Try.prog .any 140 vs r := by
  intro vs r h
  unfold g_laws_eqRootKey at h
  split at h
  · rename_i y0 y1 y2 y3 y4 y5 y6 y7
    cases h
    refine spec_of (m := .any) (tab := tabOf [(47, wM .any g_laws_eqVector)]) (cp := cp140) (ic := ic140) (rvl := [(.t 4)]) hm (tabOk_cons (m := .any) s47 tabOk_nil) Try.func140 rfl rfl rfl (by kernel_rfl) rfl (Nat.le_of_ble_eq_true rfl) (Nat.le_of_ble_eq_true rfl) ?_
    show eA _ _ _ _
    unfold ic140
    refine eS_to ?_
    repeat' (first
      | ((first | (have h := True.intro; refine eS_of ?_) | (refine eGI_of (fun h => ?_) (fun h => ?_)) | (refine eCc_of (fun h => ?_) (fun h => ?_))) <;> (try simp only [Bool.not_eq_true', Bool.not_eq_false'] at h) <;> (try first | exact absurd (Eq.trans (Eq.symm h) (by assumption)) Bool.false_ne_true | exact absurd (Eq.trans (Eq.symm h) (by assumption)) (Ne.symm Bool.false_ne_true)) <;> simp only [h,
        grpA, vsliceS, grpS, grpD, grpF, grpL, eop, vop, bop, uop, fltop, convop, endOk, newE, new1, freshL, Md.isNew, outV, pureV, pureX, pure1, AV.cells, AV.one, storable, laid, refless, refless1, vload, loadC, storeC, vnil, vfaddr, vextract, flatT, flatE, flatC, vconv, vmm, vidxA, viaddrA, vfield, vlen, elemsOf, dF32, dF64, dI64, dU8, dBool, dStr, esOk, elemsS, vsliceX, bnd, ownV, ownC, own1, ownT, isSl, nSl, endL, Md.isOwn, purge, purgeH, purgeB, purgeE, hasName, name1, List.any_cons, List.any_nil, Md.isWr, pureV.pureP, Option.map, reduceIte, Nat.reduceEqDiff, Nat.reduceAdd, Nat.reduceMul, Nat.reduceLT, Nat.reduceLeDiff, List.mapM_cons, List.mapM_nil, Option.pure_def, Option.bind_eq_bind, Option.bind_some, implies_true, forall_const, beq_self_eq_true, decide_true, decide_false, eq_self, Int.reduceEq, Int.reduceLE, Int.reduceLT, if_true, if_false, grpK, Int.reduceAdd, Int.reduceSub, Int.reduceMul, Int.reduceNeg, Int.reducePow, Nat.reducePow, Int.reduceToNat, Nat.reduceSub, List.replicate, Nat.reduceBEq, wAs, wA, wC, zipW, noDupN, grpE, beq_true, beq_false, g_laws_eqVector, grpC, en0, dc_en0, en1, dc_en1, en2, dc_en2]))
    all_goals (try simp only [*, m_laws_eqRootKey, Bool.and_true, Bool.true_and, Bool.and_false, Bool.false_and, Bool.or_true, Bool.true_or, Bool.or_false, Bool.false_or, Bool.not_true, Bool.not_false, Bool.false_eq_true, if_true, if_false, reduceIte, decide_true, decide_false])
    all_goals (try (simp_all; done))
  · cases h
def l_laws_eqRootKeyS_0 (x0 : (List (Int × Nat × Nat × Nat))) (x1 : (List (Int × Nat × Nat × Nat))) : Nat → Int → Option (Bool × Bool × Unit)
  | 0, _ => none
  | n + 1, z0_0 => (if (decide (z0_0 < ((List.length x0 : Nat) : Int))) = true then (need (inB z0_0 (List.length x0)) (need (inB z0_0 (List.length x1)) (if (m_laws_eqRootKey (atI x0 z0_0) (atI x1 z0_0)) = true then (l_laws_eqRootKeyS_0 x0 x1 n (IntKind.wrap .i64 (z0_0 + 1))) else (some (true, false, default))))) else (some (false, default, ())))
def m_laws_eqRootKeyS (x0 : (List (Int × Nat × Nat × Nat))) (x1 : (List (Int × Nat × Nat × Nat))) : Bool := (if (decide (((List.length x0 : Nat) : Int) = ((List.length x1 : Nat) : Int))) = true then (if (Option.getD (l_laws_eqRootKeyS_0 x0 x1 (Int.toNat (((List.length x0 : Nat) : Int) - 0) + 2) 0) default).1 = true then (Option.getD (l_laws_eqRootKeyS_0 x0 x1 (Int.toNat (((List.length x0 : Nat) : Int) - 0) + 2) 0) default).2.1 else true) else false)
def p_laws_eqRootKeyS (x0 : (List (Int × Nat × Nat × Nat))) (x1 : (List (Int × Nat × Nat × Nat))) : Bool := (!(decide (((List.length x0 : Nat) : Int) = ((List.length x1 : Nat) : Int))) || (Option.isSome (l_laws_eqRootKeyS_0 x0 x1 (Int.toNat (((List.length x0 : Nat) : Int) - 0) + 2) 0)))
def g_laws_eqRootKeyS : List AV → Option AV
  | [.sl w0, .sl w1] => (match decL dc_en2 w0 with | some y0 => ((match decL dc_en2 w1 with | some y1 => (if p_laws_eqRootKeyS y0 y1 = true then some (.bool (m_laws_eqRootKeyS y0 y1)) else none) | none => none)) | none => none)
  | _ => none
def lb95_0 : ICode := (.seq (.seq (.reg [⟨(some 11), none, (.mov (.t 5))⟩, ⟨(some 12), none, (.mov (.t 0))⟩, ⟨(some 13), none, (.len false (.t 12))⟩, ⟨(some 14), none, (.bin .lss false (.t 11) (.t 13))⟩] [0, 1, 5, 14]) (.cond (.t 14) .skip (.exit 0))) (.seq (.block 1 (.seq (.reg [⟨(some 17), none, (.mov (.t 0))⟩, ⟨(some 18), none, (.mov (.t 5))⟩, ⟨(some 19), none, (.iaddrS 4 (.t 17) (.t 18))⟩, ⟨(some 20), none, (.load (some 4) (.t 19))⟩, ⟨(some 21), none, (.mov (.t 1))⟩, ⟨(some 22), none, (.mov (.t 5))⟩, ⟨(some 23), none, (.iaddrS 4 (.t 21) (.t 22))⟩, ⟨(some 24), none, (.load (some 4) (.t 23))⟩, ⟨(some 25), none, (.call (.fn 140) [(.t 20), (.t 24)] [])⟩, ⟨(some 26), none, (.un .not (.t 25))⟩] [0, 1, 5, 26]) (.cond (.t 26) (.seq (.reg [⟨(some 4), none, (.mov (.c (.bool false)))⟩] [4]) .ret) .skip))) (.reg [⟨(some 15), none, (.mov (.t 5))⟩, ⟨(some 16), none, (.bin .add false (.t 15) (.c (.int .i64 1)))⟩, ⟨(some 5), none, (.mov (.t 16))⟩] [0, 1, 5])))
def ic95 : ICode := (.seq (.reg [⟨(some 4), none, (.mov (.c (.bool false)))⟩] [0, 1]) (.seq (.seq (.reg [⟨(some 6), none, (.mov (.t 0))⟩, ⟨(some 7), none, (.len false (.t 6))⟩, ⟨(some 8), none, (.mov (.t 1))⟩, ⟨(some 9), none, (.len false (.t 8))⟩, ⟨(some 10), none, (.bin .neq false (.t 7) (.t 9))⟩] [0, 1, 10]) (.cond (.t 10) (.seq (.reg [⟨(some 4), none, (.mov (.c (.bool false)))⟩] [4]) .ret) .skip)) (.seq (.seq (.reg [⟨(some 5), none, (.mov (.c (.int .i64 0)))⟩] [0, 1, 5]) (.block 0 (.loop lb95_0))) (.seq (.reg [⟨(some 4), none, (.mov (.c (.bool true)))⟩] [4]) .ret))))
def cp95 : CP := CP.mk [] [] [[0, 1], [0, 1, 10], [4], [0, 1, 5], [0, 1, 5, 14], [0, 1, 5], [0, 1, 5, 26], [4], [4]] 27 [] []
theorem sl95_0 (x0 : (List (Int × Nat × Nat × Nat))) (x1 : (List (Int × Nat × Nat × Nat))) : ∀ (n : Nat) (z0_0 : Int) (o : (Bool × Bool × Unit)) (K : IExit → St → Prop), l_laws_eqRootKeyS_0 x0 x1 n z0_0 = some o → (∀ st, o.1 = true → outM .any st [(.t 4)] = some (.bool o.2.1) → K .ret st) → (∀ st, o.1 = false → Wk st (⟨[], []⟩ : St) → K (.exit 0) st) → eA (tabOf [(140, wM .any g_laws_eqRootKey)]) (.loop lb95_0) (⟨[(0, (.sl (List.map en2 x0))), (1, (.sl (List.map en2 x1))), (5, (.int .i64 z0_0))], []⟩ : St) K := by
  intro n
  induction n with
  | zero =>
    intro z0_0 o K h h0 h1
    simp only [l_laws_eqRootKeyS_0, reduceCtorEq] at h
  | succ n ih =>
    intro z0_0 o K h h0 h1
    refine eA_loop ?_
    unfold lb95_0
    unfold l_laws_eqRootKeyS_0 at h
    (try simp only [need_iff] at h)
    simp only [
      need_iff, h, grpA, vsliceS, grpS, grpD, grpF, grpL, eop, vop, bop, uop, fltop, convop, endOk, newE, new1, freshL, Md.isNew, outV, pureV, pureX, pure1, AV.cells, AV.one, storable, laid, refless, refless1, vload, loadC, storeC, vnil, vfaddr, vextract, flatT, flatE, flatC, vconv, vmm, vidxA, viaddrA, vfield, vlen, elemsOf, dF32, dF64, dI64, dU8, dBool, dStr, esOk, elemsS, vsliceX, bnd, ownV, ownC, own1, ownT, isSl, nSl, endL, Md.isOwn, purge, purgeH, purgeB, purgeE, hasName, name1, List.any_cons, List.any_nil, Md.isWr, pureV.pureP, Option.map, reduceIte, Nat.reduceEqDiff, Nat.reduceAdd, Nat.reduceMul, Nat.reduceLT, Nat.reduceLeDiff, List.mapM_cons, List.mapM_nil, Option.pure_def, Option.bind_eq_bind, Option.bind_some, implies_true, forall_const, beq_self_eq_true, decide_true, decide_false, eq_self, Int.reduceEq, Int.reduceLE, Int.reduceLT, if_true, if_false, grpK, Int.reduceAdd, Int.reduceSub, Int.reduceMul, Int.reduceNeg, Int.reducePow, Nat.reducePow, Int.reduceToNat, Nat.reduceSub, List.replicate, Nat.reduceBEq, wAs, wA, wC, zipW, noDupN, grpE, beq_true, beq_false, g_laws_eqRootKey, grpC, en0, dc_en0, en1, dc_en1, en2, dc_en2]
    repeat' (first
      | ((first | (refine eGI_of (fun hc => ?_) (fun hc => ?_)) | (refine eCc_of (fun hc => ?_) (fun hc => ?_)) | (have hc := True.intro; refine KW_refl ?_)) <;> (try simp only [Bool.not_eq_true', Bool.not_eq_false'] at hc) <;> (try simp only [hc, need_iff, reduceCtorEq, grpN, Int.reduceEq, Int.reduceLT, Int.reduceLE, if_true, if_false, reduceIte] at h) <;> (first | (have hc2 := hc; simp only [decide_eq_true_eq, decide_eq_false_iff_not] at hc2; (first | (replace hc2 := eq_false hc2) | (replace hc2 := eq_true hc2)); (try simp only [hc2, need_iff, reduceCtorEq, grpN, Int.reduceEq, Int.reduceLT, Int.reduceLE, if_true, if_false, reduceIte] at h); replace h := And.intro hc2 h) | (replace h := And.intro hc h) | skip) <;> simp only [hc,
      need_iff, h, grpA, vsliceS, grpS, grpD, grpF, grpL, eop, vop, bop, uop, fltop, convop, endOk, newE, new1, freshL, Md.isNew, outV, pureV, pureX, pure1, AV.cells, AV.one, storable, laid, refless, refless1, vload, loadC, storeC, vnil, vfaddr, vextract, flatT, flatE, flatC, vconv, vmm, vidxA, viaddrA, vfield, vlen, elemsOf, dF32, dF64, dI64, dU8, dBool, dStr, esOk, elemsS, vsliceX, bnd, ownV, ownC, own1, ownT, isSl, nSl, endL, Md.isOwn, purge, purgeH, purgeB, purgeE, hasName, name1, List.any_cons, List.any_nil, Md.isWr, pureV.pureP, Option.map, reduceIte, Nat.reduceEqDiff, Nat.reduceAdd, Nat.reduceMul, Nat.reduceLT, Nat.reduceLeDiff, List.mapM_cons, List.mapM_nil, Option.pure_def, Option.bind_eq_bind, Option.bind_some, implies_true, forall_const, beq_self_eq_true, decide_true, decide_false, eq_self, Int.reduceEq, Int.reduceLE, Int.reduceLT, if_true, if_false, grpK, Int.reduceAdd, Int.reduceSub, Int.reduceMul, Int.reduceNeg, Int.reducePow, Nat.reducePow, Int.reduceToNat, Nat.reduceSub, List.replicate, Nat.reduceBEq, wAs, wA, wC, zipW, noDupN, grpE, beq_true, beq_false, g_laws_eqRootKey, grpC, en0, dc_en0, en1, dc_en1, en2, dc_en2]))
    all_goals (have hf := h)
    all_goals (repeat (replace h := And.right h))
    all_goals ((first | (refine eA_wk (wk_norm (ks := [0, 1, 5]) (ls := []) ?_) (eA_cast ?_ (ih _ _ _ h h0 h1))) | (cases h; have h := True.intro; refine h0 _ rfl ?_) | (cases h; have h := True.intro; refine h1 _ rfl (Wk.cast (wk_norm (ks := []) (ls := []) ?_) ?_))) <;> simp only [normOk, optIn, blkIn, nameIn, normS, List.map_append, List.length_append, List.map_set, List.length_set, List.map_replicate, List.length_replicate, List.map_nil, List.map_cons,
      need_iff, h, hf, grpA, vsliceS, grpS, grpD, grpF, grpL, eop, vop, bop, uop, fltop, convop, endOk, newE, new1, freshL, Md.isNew, outV, pureV, pureX, pure1, AV.cells, AV.one, storable, laid, refless, refless1, vload, loadC, storeC, vnil, vfaddr, vextract, flatT, flatE, flatC, vconv, vmm, vidxA, viaddrA, vfield, vlen, elemsOf, dF32, dF64, dI64, dU8, dBool, dStr, esOk, elemsS, vsliceX, bnd, ownV, ownC, own1, ownT, isSl, nSl, endL, Md.isOwn, purge, purgeH, purgeB, purgeE, hasName, name1, List.any_cons, List.any_nil, Md.isWr, pureV.pureP, Option.map, reduceIte, Nat.reduceEqDiff, Nat.reduceAdd, Nat.reduceMul, Nat.reduceLT, Nat.reduceLeDiff, List.mapM_cons, List.mapM_nil, Option.pure_def, Option.bind_eq_bind, Option.bind_some, implies_true, forall_const, beq_self_eq_true, decide_true, decide_false, eq_self, Int.reduceEq, Int.reduceLE, Int.reduceLT, if_true, if_false, grpK, Int.reduceAdd, Int.reduceSub, Int.reduceMul, Int.reduceNeg, Int.reducePow, Nat.reducePow, Int.reduceToNat, Nat.reduceSub, List.replicate, Nat.reduceBEq, wAs, wA, wC, zipW, noDupN, grpE, beq_true, beq_false, g_laws_eqRootKey, grpC, en0, dc_en0, en1, dc_en1, en2, dc_en2] <;> first | rfl | (simp only [Nat.add_comm]; done))
theorem s95 : ∀ vs r, g_laws_eqRootKeyS vs = some r → SaysM Try.prog .any 95 vs r := by
  intro vs r h
  unfold g_laws_eqRootKeyS at h
  split at h
  · rename_i w0 w1
    cases hd_y0 : decL dc_en2 w0 with
    | none => rw [hd_y0] at h; cases h
    | some y0 =>
    rw [hd_y0] at h
    obtain rfl := decL_inv dc_en2_inv hd_y0
    clear hd_y0
    dsimp only at h
    cases hd_y1 : decL dc_en2 w1 with
    | none => rw [hd_y1] at h; cases h
    | some y1 =>
    rw [hd_y1] at h
    obtain rfl := decL_inv dc_en2_inv hd_y1
    clear hd_y1
    dsimp only at h
    split at h
    · rename_i hp
      cases h
      refine spec_of (m := .any) (tab := tabOf [(140, wM .any g_laws_eqRootKey)]) (cp := cp95) (ic := ic95) (rvl := [(.t 4)]) hm (tabOk_cons (m := .any) s140 tabOk_nil) Try.func95 rfl rfl rfl (by kernel_rfl) rfl (Nat.le_of_ble_eq_true rfl) (Nat.le_of_ble_eq_true rfl) ?_
      show eA _ _ _ _
      unfold ic95
      simp only [p_laws_eqRootKeyS, Bool.and_eq_true, Bool.or_eq_true, decide_eq_true_eq, Bool.not_eq_true', decide_eq_false_iff_not] at hp
      refine eS_to ?_
      repeat' (first
        | ((first | (have h := True.intro; refine eS_of ?_) | (refine eGI_of (fun h => ?_) (fun h => ?_)) | (refine eCc_of (fun h => ?_) (fun h => ?_)) | (have h := True.intro; refine KW_refl ?_)) <;> (try simp only [Bool.not_eq_true', Bool.not_eq_false'] at h) <;> (try first | exact absurd (Eq.trans (Eq.symm h) (by assumption)) Bool.false_ne_true | exact absurd (Eq.trans (Eq.symm h) (by assumption)) (Ne.symm Bool.false_ne_true)) <;> (try simp only [h, reduceCtorEq, grpN, Int.reduceEq, Int.reduceLT, Int.reduceLE, if_true, if_false, reduceIte] at hp) <;> (first | (have h2 := h; simp only [decide_eq_true_eq, decide_eq_false_iff_not] at h2; (first | (replace h2 := eq_false h2) | (replace h2 := eq_true h2)); (try simp only [h2, reduceCtorEq, grpN, Int.reduceEq, Int.reduceLT, Int.reduceLE, if_true, if_false, reduceIte] at hp); replace hp := And.intro h2 hp) | (replace hp := And.intro h hp) | skip) <;> simp only [h,
          hp, grpA, vsliceS, grpS, grpD, grpF, grpL, eop, vop, bop, uop, fltop, convop, endOk, newE, new1, freshL, Md.isNew, outV, pureV, pureX, pure1, AV.cells, AV.one, storable, laid, refless, refless1, vload, loadC, storeC, vnil, vfaddr, vextract, flatT, flatE, flatC, vconv, vmm, vidxA, viaddrA, vfield, vlen, elemsOf, dF32, dF64, dI64, dU8, dBool, dStr, esOk, elemsS, vsliceX, bnd, ownV, ownC, own1, ownT, isSl, nSl, endL, Md.isOwn, purge, purgeH, purgeB, purgeE, hasName, name1, List.any_cons, List.any_nil, Md.isWr, pureV.pureP, Option.map, reduceIte, Nat.reduceEqDiff, Nat.reduceAdd, Nat.reduceMul, Nat.reduceLT, Nat.reduceLeDiff, List.mapM_cons, List.mapM_nil, Option.pure_def, Option.bind_eq_bind, Option.bind_some, implies_true, forall_const, beq_self_eq_true, decide_true, decide_false, eq_self, Int.reduceEq, Int.reduceLE, Int.reduceLT, if_true, if_false, grpK, Int.reduceAdd, Int.reduceSub, Int.reduceMul, Int.reduceNeg, Int.reducePow, Nat.reducePow, Int.reduceToNat, Nat.reduceSub, List.replicate, Nat.reduceBEq, wAs, wA, wC, zipW, noDupN, grpE, beq_true, beq_false, g_laws_eqRootKey, grpC, en0, dc_en0, en1, dc_en1, en2, dc_en2])
        | (refine eA_wk (wk_norm (ks := [0, 1, 5]) (ls := []) ?_) (eA_cast ?_ (sl95_0 y0 y1 _ _ _ _ (getD_some (d := default) (x := (l_laws_eqRootKeyS_0 y0 y1 (Int.toNat (((List.length y0 : Nat) : Int) - 0) + 2) 0)) ?_) ?_ ?_)); (iterate 2 (simp only [nilS, nilV, normOk, optIn, blkIn, nameIn, normS, List.map_append, List.length_append, List.map_set, List.length_set, List.map_replicate, List.length_replicate, List.map_nil, List.map_cons,
          hp, grpA, vsliceS, grpS, grpD, grpF, grpL, eop, vop, bop, uop, fltop, convop, endOk, newE, new1, freshL, Md.isNew, outV, pureV, pureX, pure1, AV.cells, AV.one, storable, laid, refless, refless1, vload, loadC, storeC, vnil, vfaddr, vextract, flatT, flatE, flatC, vconv, vmm, vidxA, viaddrA, vfield, vlen, elemsOf, dF32, dF64, dI64, dU8, dBool, dStr, esOk, elemsS, vsliceX, bnd, ownV, ownC, own1, ownT, isSl, nSl, endL, Md.isOwn, purge, purgeH, purgeB, purgeE, hasName, name1, List.any_cons, List.any_nil, Md.isWr, pureV.pureP, Option.map, reduceIte, Nat.reduceEqDiff, Nat.reduceAdd, Nat.reduceMul, Nat.reduceLT, Nat.reduceLeDiff, List.mapM_cons, List.mapM_nil, Option.pure_def, Option.bind_eq_bind, Option.bind_some, implies_true, forall_const, beq_self_eq_true, decide_true, decide_false, eq_self, Int.reduceEq, Int.reduceLE, Int.reduceLT, if_true, if_false, grpK, Int.reduceAdd, Int.reduceSub, Int.reduceMul, Int.reduceNeg, Int.reducePow, Nat.reducePow, Int.reduceToNat, Nat.reduceSub, List.replicate, Nat.reduceBEq, wAs, wA, wC, zipW, noDupN, grpE, beq_true, beq_false, g_laws_eqRootKey, grpC, en0, dc_en0, en1, dc_en1, en2, dc_en2] <;> first | rfl | (simp only [Nat.add_comm]; done))); (simp only [hp]); (
        intro st2 ht hw; simp only [Kq_ret, Kb_ret, Kl_ret, ret_ok]; first | exact h0 _ hw | exact h0 _ rfl hw | exact h1 _ rfl hw | exact h0 _ ht hw | exact h1 _ ht hw | (simp only [ht, need_iff, reduceCtorEq, grpN, Int.reduceEq, Int.reduceLT, Int.reduceLE, if_true, if_false, reduceIte] at h; (repeat (replace h := And.right h)); cases h; first | exact h0 _ hw | exact h0 _ rfl hw | exact h1 _ rfl hw) | refine ⟨_, hw, ?_⟩); rotate_left; (
        intro st2 ht hw; (try simp only [ht, reduceCtorEq, grpN, Int.reduceEq, Int.reduceLT, Int.reduceLE, if_true, if_false, reduceIte] at hp); (try replace hp := And.intro ht hp); simp only [
Kq_exit, Kq_normal, Kq_ret, Kb_exit, Kb_normal, Kb_ret, Kl_exit, Kl_normal, Kl_ret, reduceIte, Nat.reduceEqDiff, if_true, if_false, eq_self]; refine KW_of hw ?_; simp only [ht, 
          hp, grpA, vsliceS, grpS, grpD, grpF, grpL, eop, vop, bop, uop, fltop, convop, endOk, newE, new1, freshL, Md.isNew, outV, pureV, pureX, pure1, AV.cells, AV.one, storable, laid, refless, refless1, vload, loadC, storeC, vnil, vfaddr, vextract, flatT, flatE, flatC, vconv, vmm, vidxA, viaddrA, vfield, vlen, elemsOf, dF32, dF64, dI64, dU8, dBool, dStr, esOk, elemsS, vsliceX, bnd, ownV, ownC, own1, ownT, isSl, nSl, endL, Md.isOwn, purge, purgeH, purgeB, purgeE, hasName, name1, List.any_cons, List.any_nil, Md.isWr, pureV.pureP, Option.map, reduceIte, Nat.reduceEqDiff, Nat.reduceAdd, Nat.reduceMul, Nat.reduceLT, Nat.reduceLeDiff, List.mapM_cons, List.mapM_nil, Option.pure_def, Option.bind_eq_bind, Option.bind_some, implies_true, forall_const, beq_self_eq_true, decide_true, decide_false, eq_self, Int.reduceEq, Int.reduceLE, Int.reduceLT, if_true, if_false, grpK, Int.reduceAdd, Int.reduceSub, Int.reduceMul, Int.reduceNeg, Int.reducePow, Nat.reducePow, Int.reduceToNat, Nat.reduceSub, List.replicate, Nat.reduceBEq, wAs, wA, wC, zipW, noDupN, grpE, beq_true, beq_false, g_laws_eqRootKey, grpC, en0, dc_en0, en1, dc_en1, en2, dc_en2])))
      all_goals (try simp only [*, m_laws_eqRootKeyS, Bool.and_true, Bool.true_and, Bool.and_false, Bool.false_and, Bool.or_true, Bool.true_or, Bool.or_false, Bool.false_or, Bool.not_true, Bool.not_false, Bool.false_eq_true, if_true, if_false, reduceIte, decide_true, decide_false])
      all_goals (try (simp_all; done))
    · cases h
  · cases h
def m_laws_eqClip (x0 : (Int × Int × (List (List (Int × Nat × Nat × Nat × Nat))) × (List (Int × Nat × Nat × Nat)))) (x1 : (Int × Int × (List (List (Int × Nat × Nat × Nat × Nat))) × (List (Int × Nat × Nat × Nat)))) : Bool := (if (decide (x0.1 = x1.1)) = true then (if (decide (x0.2.1 = x1.2.1)) = true then (if (m_laws_eqKeySS x0.2.2.1 x1.2.2.1) = true then (if (m_laws_eqRootKeyS x0.2.2.2 x1.2.2.2) = true then true else false) else false) else false) else false)
def p_laws_eqClip (x0 : (Int × Int × (List (List (Int × Nat × Nat × Nat × Nat))) × (List (Int × Nat × Nat × Nat)))) (x1 : (Int × Int × (List (List (Int × Nat × Nat × Nat × Nat))) × (List (Int × Nat × Nat × Nat)))) : Bool := (!(decide (x0.1 = x1.1)) || (!(decide (x0.2.1 = x1.2.1)) || ((p_laws_eqKeySS x0.2.2.1 x1.2.2.1) && (!(m_laws_eqKeySS x0.2.2.1 x1.2.2.1) || (p_laws_eqRootKeyS x0.2.2.2 x1.2.2.2)))))
def g_laws_eqClip : List AV → Option AV
  | [.agg [.int .i64 y0, .int .i64 y1, .sl w2, .sl w3], .agg [.int .i64 y4, .int .i64 y5, .sl w6, .sl w7]] => (match decL dc_en1 w2 with | some y2 => ((match decL dc_en2 w3 with | some y3 => ((match decL dc_en1 w6 with | some y6 => ((match decL dc_en2 w7 with | some y7 => (if p_laws_eqClip (y0, y1, y2, y3) (y4, y5, y6, y7) = true then some (.bool (m_laws_eqClip (y0, y1, y2, y3) (y4, y5, y6, y7))) else none) | none => none)) | none => none)) | none => none)) | none => none)
  | _ => none
def ic42 : ICode := (.seq (.reg [⟨(some 2), none, (.box 4 (.t 0))⟩, ⟨(some 3), none, (.box 4 (.t 1))⟩, ⟨(some 4), none, (.mov (.c (.bool false)))⟩] [2, 3]) (.seq (.seq (.reg [⟨(some 5), none, (.faddr 0 (.t 2))⟩, ⟨(some 6), none, (.load none (.t 5))⟩, ⟨(some 7), none, (.faddr 0 (.t 3))⟩, ⟨(some 8), none, (.load none (.t 7))⟩, ⟨(some 9), none, (.bin .neq false (.t 6) (.t 8))⟩] [2, 3, 9]) (.cond (.t 9) (.seq (.reg [⟨(some 4), none, (.mov (.c (.bool false)))⟩] [4]) .ret) .skip)) (.seq (.seq (.reg [⟨(some 10), none, (.faddr 1 (.t 2))⟩, ⟨(some 11), none, (.load none (.t 10))⟩, ⟨(some 12), none, (.faddr 1 (.t 3))⟩, ⟨(some 13), none, (.load none (.t 12))⟩, ⟨(some 14), none, (.bin .neq false (.t 11) (.t 13))⟩] [2, 3, 14]) (.cond (.t 14) (.seq (.reg [⟨(some 4), none, (.mov (.c (.bool false)))⟩] [4]) .ret) .skip)) (.seq (.seq (.reg [⟨(some 15), none, (.faddr 2 (.t 2))⟩, ⟨(some 16), none, (.load none (.t 15))⟩, ⟨(some 17), none, (.faddr 2 (.t 3))⟩, ⟨(some 18), none, (.load none (.t 17))⟩, ⟨(some 19), none, (.call (.fn 94) [(.t 16), (.t 18)] [])⟩, ⟨(some 20), none, (.un .not (.t 19))⟩] [2, 3, 20]) (.cond (.t 20) (.seq (.reg [⟨(some 4), none, (.mov (.c (.bool false)))⟩] [4]) .ret) .skip)) (.seq (.seq (.reg [⟨(some 21), none, (.faddr 3 (.t 2))⟩, ⟨(some 22), none, (.load none (.t 21))⟩, ⟨(some 23), none, (.faddr 3 (.t 3))⟩, ⟨(some 24), none, (.load none (.t 23))⟩, ⟨(some 25), none, (.call (.fn 95) [(.t 22), (.t 24)] [])⟩, ⟨(some 26), none, (.un .not (.t 25))⟩] [26]) (.cond (.t 26) (.seq (.reg [⟨(some 4), none, (.mov (.c (.bool false)))⟩] [4]) .ret) .skip)) (.seq (.reg [⟨(some 4), none, (.mov (.c (.bool true)))⟩] [4]) .ret))))))
def cp42 : CP := CP.mk [] [] [[2, 3], [2, 3, 9], [4], [2, 3, 14], [4], [2, 3, 20], [4], [26], [4], [4]] 27 [] []
theorem s42 : ∀ vs r, g_laws_eqClip vs = some r → SaysM Try.prog .any 42 vs r := by
  intro vs r h
  unfold g_laws_eqClip at h
  split at h
  · rename_i y0 y1 w2 w3 y4 y5 w6 w7
    cases hd_y2 : decL dc_en1 w2 with
    | none => rw [hd_y2] at h; cases h
    | some y2 =>
    rw [hd_y2] at h
    obtain rfl := decL_inv dc_en1_inv hd_y2
    clear hd_y2
    dsimp only at h
    cases hd_y3 : decL dc_en2 w3 with
    | none => rw [hd_y3] at h; cases h
    | some y3 =>
    rw [hd_y3] at h
    obtain rfl := decL_inv dc_en2_inv hd_y3
    clear hd_y3
    dsimp only at h
    cases hd_y6 : decL dc_en1 w6 with
    | none => rw [hd_y6] at h; cases h
    | some y6 =>
    rw [hd_y6] at h
    obtain rfl := decL_inv dc_en1_inv hd_y6
    clear hd_y6
    dsimp only at h
    cases hd_y7 : decL dc_en2 w7 with
    | none => rw [hd_y7] at h; cases h
    | some y7 =>
    rw [hd_y7] at h
    obtain rfl := decL_inv dc_en2_inv hd_y7
    clear hd_y7
    dsimp only at h
    split at h
    · rename_i hp
      cases h
      refine spec_of (m := .any) (tab := tabOf [(94, wM .any g_laws_eqKeySS), (95, wM .any g_laws_eqRootKeyS)]) (cp := cp42) (ic := ic42) (rvl := [(.t 4)]) hm (tabOk_cons (m := .any) s94 (tabOk_cons (m := .any) s95 tabOk_nil)) Try.func42 rfl rfl rfl (by kernel_rfl) rfl (Nat.le_of_ble_eq_true rfl) (Nat.le_of_ble_eq_true rfl) ?_
      show eA _ _ _ _
      unfold ic42
      simp only [p_laws_eqClip, Bool.and_eq_true, Bool.or_eq_true, decide_eq_true_eq, Bool.not_eq_true', decide_eq_false_iff_not] at hp
      refine eS_to ?_
      repeat' (first
        | ((first | (have h := True.intro; refine eS_of ?_) | (refine eGI_of (fun h => ?_) (fun h => ?_)) | (refine eCc_of (fun h => ?_) (fun h => ?_))) <;> (try simp only [Bool.not_eq_true', Bool.not_eq_false'] at h) <;> (try first | exact absurd (Eq.trans (Eq.symm h) (by assumption)) Bool.false_ne_true | exact absurd (Eq.trans (Eq.symm h) (by assumption)) (Ne.symm Bool.false_ne_true)) <;> (try simp only [h, reduceCtorEq, grpN, Int.reduceEq, Int.reduceLT, Int.reduceLE, if_true, if_false, reduceIte] at hp) <;> (first | (have h2 := h; simp only [decide_eq_true_eq, decide_eq_false_iff_not] at h2; (first | (replace h2 := eq_false h2) | (replace h2 := eq_true h2)); (try simp only [h2, reduceCtorEq, grpN, Int.reduceEq, Int.reduceLT, Int.reduceLE, if_true, if_false, reduceIte] at hp); replace hp := And.intro h2 hp) | (replace hp := And.intro h hp) | skip) <;> simp only [h,
          hp, grpA, vsliceS, grpS, grpD, grpF, grpL, eop, vop, bop, uop, fltop, convop, endOk, newE, new1, freshL, Md.isNew, outV, pureV, pureX, pure1, AV.cells, AV.one, storable, laid, refless, refless1, vload, loadC, storeC, vnil, vfaddr, vextract, flatT, flatE, flatC, vconv, vmm, vidxA, viaddrA, vfield, vlen, elemsOf, dF32, dF64, dI64, dU8, dBool, dStr, esOk, elemsS, vsliceX, bnd, ownV, ownC, own1, ownT, isSl, nSl, endL, Md.isOwn, purge, purgeH, purgeB, purgeE, hasName, name1, List.any_cons, List.any_nil, Md.isWr, pureV.pureP, Option.map, reduceIte, Nat.reduceEqDiff, Nat.reduceAdd, Nat.reduceMul, Nat.reduceLT, Nat.reduceLeDiff, List.mapM_cons, List.mapM_nil, Option.pure_def, Option.bind_eq_bind, Option.bind_some, implies_true, forall_const, beq_self_eq_true, decide_true, decide_false, eq_self, Int.reduceEq, Int.reduceLE, Int.reduceLT, if_true, if_false, grpK, Int.reduceAdd, Int.reduceSub, Int.reduceMul, Int.reduceNeg, Int.reducePow, Nat.reducePow, Int.reduceToNat, Nat.reduceSub, List.replicate, Nat.reduceBEq, wAs, wA, wC, zipW, noDupN, grpE, beq_true, beq_false, g_laws_eqKeySS, g_laws_eqRootKeyS, grpC, en0, dc_en0, en1, dc_en1, en2, dc_en2]))
      all_goals (try simp only [*, m_laws_eqClip, Bool.and_true, Bool.true_and, Bool.and_false, Bool.false_and, Bool.or_true, Bool.true_or, Bool.or_false, Bool.false_or, Bool.not_true, Bool.not_false, Bool.false_eq_true, if_true, if_false, reduceIte, decide_true, decide_false])
      all_goals (try (simp_all; done))
    · cases h
  · cases h
def m_laws_FnExactTravelOf (x0 : (Int × Int × (List (List (Int × Nat × Nat × Nat × Nat))) × (List (Int × Nat × Nat × Nat)))) (x1 : Int) (x2 : Int) : Bool := (if (decide ((m_laws_szClip x0 1048576) < 0)) = true then true else (if (m_laws_eqVector (m_impl_TravelOf (m_laws_toClip x0) x1 x2).1 (m_spec_TravelOf (m_laws_toClip x0) x1 x2).1) = true then (if ((m_impl_TravelOf (m_laws_toClip x0) x1 x2).2 == (m_spec_TravelOf (m_laws_toClip x0) x1 x2).2) = true then (if (m_laws_eqClip (m_laws_toClip x0) (m_laws_toClip x0)) = true then true else false) else false) else false))
def p_laws_FnExactTravelOf (x0 : (Int × Int × (List (List (Int × Nat × Nat × Nat × Nat))) × (List (Int × Nat × Nat × Nat)))) (x1 : Int) (x2 : Int) : Bool := ((p_laws_szClip x0 1048576) && ((decide ((m_laws_szClip x0 1048576) < 0)) || ((p_laws_toClip x0) && ((p_spec_TravelOf (m_laws_toClip x0) x1 x2) && ((p_impl_TravelOf (m_laws_toClip x0) x1 x2) && (!(m_laws_eqVector (m_impl_TravelOf (m_laws_toClip x0) x1 x2).1 (m_spec_TravelOf (m_laws_toClip x0) x1 x2).1) || (!((m_impl_TravelOf (m_laws_toClip x0) x1 x2).2 == (m_spec_TravelOf (m_laws_toClip x0) x1 x2).2) || (p_laws_eqClip (m_laws_toClip x0) (m_laws_toClip x0)))))))))
def g_laws_FnExactTravelOf : List AV → Option AV
  | [.agg [.int .i64 y0, .int .i64 y1, .sl w2, .sl w3], .int .i64 y4, .int .i64 y5] => (match decL dc_en1 w2 with | some y2 => ((match decL dc_en2 w3 with | some y3 => (if p_laws_FnExactTravelOf (y0, y1, y2, y3) y4 y5 = true then some (.bool (m_laws_FnExactTravelOf (y0, y1, y2, y3) y4 y5)) else none) | none => none)) | none => none)
  | _ => none
def ic9 : ICode := (.seq (.reg [⟨(some 3), none, (.box 4 (.t 0))⟩, ⟨(some 6), none, (.mov (.c (.bool false)))⟩] [1, 2, 3]) (.seq (.reg [⟨(some 7), none, (.mov (.c (.int .i64 1048576)))⟩] [1, 2, 3, 7]) (.seq (.reg [⟨(some 13), none, (.load (some 4) (.t 3))⟩, ⟨(some 14), none, (.mov (.t 7))⟩, ⟨(some 15), none, (.call (.fn 38) [(.t 13), (.t 14)] [])⟩, ⟨(some 7), none, (.mov (.t 15))⟩] [1, 2, 3, 7]) (.seq (.seq (.reg [⟨(some 16), none, (.mov (.t 7))⟩, ⟨(some 17), none, (.bin .lss false (.t 16) (.c (.int .i64 0)))⟩] [1, 2, 3, 17]) (.cond (.t 17) (.seq (.reg [⟨(some 6), none, (.mov (.c (.bool true)))⟩] [6]) .ret) .skip)) (.seq (.reg [⟨(some 19), none, (.load (some 4) (.t 3))⟩, ⟨(some 20), none, (.call (.fn 40) [(.t 19)] [])⟩, ⟨(some 21), none, (.mov (.t 1))⟩, ⟨(some 22), none, (.mov (.t 2))⟩, ⟨(some 23), none, (.call (.fn 45) [(.t 20), (.t 21), (.t 22)] [])⟩, ⟨(some 18), none, (.mov (.t 23))⟩, ⟨(some 24), none, (.extract (.t 18) 0)⟩, ⟨(some 25), none, (.extract (.t 18) 1)⟩, ⟨(some 8), none, (.alloc (.agg [(.flt .f32 0), (.flt .f32 0), (.flt .f32 0)]))⟩, ⟨none, none, (.store 3 (.t 8) (.t 24))⟩, ⟨(some 9), none, (.mov (.t 25))⟩] [1, 2, 3, 8, 9]) (.seq (.reg [⟨(some 26), none, (.load (some 4) (.t 3))⟩, ⟨(some 27), none, (.call (.fn 40) [(.t 26)] [])⟩, ⟨(some 10), none, (.alloc (.agg [(.int .i64 0), (.int .i64 0), .snil, .snil]))⟩, ⟨none, none, (.store 4 (.t 10) (.t 27))⟩] [1, 2, 3, 8, 9, 10]) (.seq (.reg [⟨(some 29), none, (.load (some 4) (.t 10))⟩, ⟨(some 30), none, (.mov (.t 1))⟩, ⟨(some 31), none, (.mov (.t 2))⟩, ⟨(some 32), none, (.call (.fn 46) [(.t 29), (.t 30), (.t 31)] [])⟩, ⟨(some 28), none, (.mov (.t 32))⟩, ⟨(some 33), none, (.extract (.t 28) 0)⟩, ⟨(some 34), none, (.extract (.t 28) 1)⟩, ⟨(some 11), none, (.alloc (.agg [(.flt .f32 0), (.flt .f32 0), (.flt .f32 0)]))⟩, ⟨none, none, (.store 3 (.t 11) (.t 33))⟩, ⟨(some 12), none, (.mov (.t 34))⟩] [3, 8, 9, 10, 11, 12]) (.seq (.seq (.reg [⟨(some 35), none, (.load (some 3) (.t 11))⟩, ⟨(some 36), none, (.load (some 3) (.t 8))⟩, ⟨(some 37), none, (.call (.fn 47) [(.t 35), (.t 36)] [])⟩, ⟨(some 38), none, (.un .not (.t 37))⟩, ⟨(some 39), none, (.mov (.t 38))⟩, ⟨(some 40), (some (39, false)), (.mov (.t 12))⟩, ⟨(some 41), (some (39, false)), (.mov (.t 9))⟩, ⟨(some 42), (some (39, false)), (.bin .neq true (.t 40) (.t 41))⟩, ⟨(some 43), none, (.pick (.t 39) (.c (.bool true)) (.t 42))⟩] [3, 10, 43]) (.cond (.t 43) (.seq (.reg [⟨(some 6), none, (.mov (.c (.bool false)))⟩] [6]) .ret) .skip)) (.seq (.seq (.reg [⟨(some
      44), none, (.load (some 4) (.t 10))⟩, ⟨(some 45), none, (.load (some 4) (.t 3))⟩, ⟨(some 46), none, (.call (.fn 40) [(.t 45)] [])⟩, ⟨(some 47), none, (.call (.fn 42) [(.t 44), (.t 46)] [])⟩, ⟨(some 48), none, (.un .not (.t 47))⟩] [48]) (.cond (.t 48) (.seq (.reg [⟨(some 6), none, (.mov (.c (.bool false)))⟩] [6]) .ret) .skip)) (.seq (.reg [⟨(some 6), none, (.mov (.c (.bool true)))⟩] [6]) .ret))))))))))
def cp9 : CP := CP.mk [] [] [[1, 2, 3], [1, 2, 3, 7], [1, 2, 3, 7], [1, 2, 3, 17], [6], [1, 2, 3, 8, 9], [1, 2, 3, 8, 9, 10], [3, 8, 9, 10, 11, 12], [3, 10, 43], [6], [48], [6], [6]] 49 [] []
theorem s9 : ∀ vs r, g_laws_FnExactTravelOf vs = some r → SaysM Try.prog .any 9 vs r := by
  intro vs r h
  unfold g_laws_FnExactTravelOf at h
  split at h
  · rename_i y0 y1 w2 w3 y4 y5
    cases hd_y2 : decL dc_en1 w2 with
    | none => rw [hd_y2] at h; cases h
    | some y2 =>
    rw [hd_y2] at h
    obtain rfl := decL_inv dc_en1_inv hd_y2
    clear hd_y2
    dsimp only at h
    cases hd_y3 : decL dc_en2 w3 with
    | none => rw [hd_y3] at h; cases h
    | some y3 =>
    rw [hd_y3] at h
    obtain rfl := decL_inv dc_en2_inv hd_y3
    clear hd_y3
    dsimp only at h
    split at h
    · rename_i hp
      cases h
      refine spec_of (m := .any) (tab := tabOf [(38, wM .any g_laws_szClip), (40, wM .any g_laws_toClip), (42, wM .any g_laws_eqClip), (45, wM .any g_spec_TravelOf), (46, wM .any g_impl_TravelOf), (47, wM .any g_laws_eqVector)]) (cp := cp9) (ic := ic9) (rvl := [(.t 6)]) hm (tabOk_cons (m := .any) s38 (tabOk_cons (m := .any) s40 (tabOk_cons (m := .any) s42 (tabOk_cons (m := .any) s45 (tabOk_cons (m := .any) s46 (tabOk_cons (m := .any) s47 tabOk_nil)))))) Try.func9 rfl rfl rfl (by kernel_rfl) rfl (Nat.le_of_ble_eq_true rfl) (Nat.le_of_ble_eq_true rfl) ?_
      show eA _ _ _ _
      unfold ic9
      simp only [p_laws_FnExactTravelOf, Bool.and_eq_true, Bool.or_eq_true, decide_eq_true_eq, Bool.not_eq_true', decide_eq_false_iff_not] at hp
      refine eS_to ?_
      repeat' (first
        | ((first | (have h := True.intro; refine eS_of ?_) | (refine eGI_of (fun h => ?_) (fun h => ?_)) | (refine eCc_of (fun h => ?_) (fun h => ?_)) | (refine ePk_of (fun h => ?_) (fun h => ?_))) <;> (try simp only [Bool.not_eq_true', Bool.not_eq_false'] at h) <;> (try first | exact absurd (Eq.trans (Eq.symm h) (by assumption)) Bool.false_ne_true | exact absurd (Eq.trans (Eq.symm h) (by assumption)) (Ne.symm Bool.false_ne_true)) <;> (try simp only [h, reduceCtorEq, grpN, Int.reduceEq, Int.reduceLT, Int.reduceLE, if_true, if_false, reduceIte] at hp) <;> (first | (have h2 := h; simp only [decide_eq_true_eq, decide_eq_false_iff_not] at h2; (first | (replace h2 := eq_false h2) | (replace h2 := eq_true h2)); (try simp only [h2, reduceCtorEq, grpN, Int.reduceEq, Int.reduceLT, Int.reduceLE, if_true, if_false, reduceIte] at hp); replace hp := And.intro h2 hp) | (replace hp := And.intro h hp) | skip) <;> simp only [h,
          hp, grpA, vsliceS, grpS, grpD, grpF, grpL, eop, vop, bop, uop, fltop, convop, endOk, newE, new1, freshL, Md.isNew, outV, pureV, pureX, pure1, AV.cells, AV.one, storable, laid, refless, refless1, vload, loadC, storeC, vnil, vfaddr, vextract, flatT, flatE, flatC, vconv, vmm, vidxA, viaddrA, vfield, vlen, elemsOf, dF32, dF64, dI64, dU8, dBool, dStr, esOk, elemsS, vsliceX, bnd, ownV, ownC, own1, ownT, isSl, nSl, endL, Md.isOwn, purge, purgeH, purgeB, purgeE, hasName, name1, List.any_cons, List.any_nil, Md.isWr, pureV.pureP, Option.map, reduceIte, Nat.reduceEqDiff, Nat.reduceAdd, Nat.reduceMul, Nat.reduceLT, Nat.reduceLeDiff, List.mapM_cons, List.mapM_nil, Option.pure_def, Option.bind_eq_bind, Option.bind_some, implies_true, forall_const, beq_self_eq_true, decide_true, decide_false, eq_self, Int.reduceEq, Int.reduceLE, Int.reduceLT, if_true, if_false, grpK, Int.reduceAdd, Int.reduceSub, Int.reduceMul, Int.reduceNeg, Int.reducePow, Nat.reducePow, Int.reduceToNat, Nat.reduceSub, List.replicate, Nat.reduceBEq, wAs, wA, wC, zipW, noDupN, grpE, beq_true, beq_false, g_laws_szClip, g_laws_toClip, g_laws_eqClip, g_spec_TravelOf, g_impl_TravelOf, g_laws_eqVector, grpC, en0, dc_en0, en1, dc_en1, en2, dc_en2, ↓b_pick, ePk_true, ePk_false]))
      all_goals (try simp only [*, m_laws_FnExactTravelOf, Bool.and_true, Bool.true_and, Bool.and_false, Bool.false_and, Bool.or_true, Bool.true_or, Bool.or_false, Bool.false_or, Bool.not_true, Bool.not_false, Bool.false_eq_true, if_true, if_false, reduceIte, decide_true, decide_false])
      all_goals (try (simp_all; done))
    · cases h
  · cases h
end Go.Proofs
namespace Go.Ab
/-- a list of known length is filled, an element a round -/
theorem fill_loop {β : Type} (l : Nat → List β → Int → Option (List β)) (len : Nat) (F : Nat → β) (hlen : len < 2 ^ 62)
    (H : ∀ (n : Nat) (z : List β) (k : Nat), k < len → z.length = len → l (n + 1) z (k : Int) = l n (z.set k (F k)) (IntKind.wrap .i64 ((k : Int) + 1)))
    (H' : ∀ (n : Nat) (z : List β) (k : Nat), ¬ k < len → l (n + 1) z (k : Int) = some z) :
    ∀ (n : Nat) (z : List β) (k : Nat), k ≤ len → z.length = len → len - k < n → l n z (k : Int) = some (z.take k ++ (List.range' k (len - k)).map F)
  | 0, z, k, _, _, h => by omega
  | n + 1, z, k, hk, hz, h => by
    by_cases hlt : k < len
    · rw [H n z k hlt hz, wrapS (by omega), fill_loop l len F hlen H H' n _ (k + 1) (by omega) (by rw [List.length_set]; exact hz) (by omega), show len - k = (len - (k + 1)) + 1 by omega, List.range'_succ, List.map_cons]
      congr 1
      rw [List.take_succ_eq_append_getElem (by rw [List.length_set]; omega), List.take_set_of_le (Nat.le_refl _), List.getElem_set_self, List.append_assoc, List.singleton_append]
    · rw [H' n z k hlt, show len - k = 0 by omega]
      have : k = z.length := by omega
      subst this
      simp
/-- elements are put at the end, one a round -/
theorem app_loop {β : Type} (l : Nat → List β → Int → Option (List β)) (len : Nat) (F : Nat → β) (hlen : len < 2 ^ 62) (P : Nat → Nat → Prop)
    (H : ∀ (n : Nat) (z : List β) (k : Nat), k < len → P k z.length → l (n + 1) z (k : Int) = l n (z ++ [F k]) (IntKind.wrap .i64 ((k : Int) + 1)))
    (H' : ∀ (n : Nat) (z : List β) (k : Nat), ¬ k < len → l (n + 1) z (k : Int) = some z) (hP : ∀ k j, k < len → P k j → P (k + 1) (j + 1)) :
    ∀ (n : Nat) (z : List β) (k : Nat), k ≤ len → P k z.length → len - k < n → l n z (k : Int) = some (z ++ (List.range' k (len - k)).map F)
  | 0, z, k, _, _, h => by omega
  | n + 1, z, k, hk, hp, h => by
    by_cases hlt : k < len
    · rw [H n z k hlt hp, wrapS (by omega), app_loop l len F hlen P H H' hP n _ (k + 1) (by omega) (by rw [List.length_append]; exact hP _ _ hlt hp) (by omega), show len - k = (len - (k + 1)) + 1 by omega, List.range'_succ, List.map_cons]
      simp
    · rw [H' n z k hlt, show len - k = 0 by omega]
      simp
theorem map_range_shift {β : Type} {F G : Nat → β} {k j m : Nat} (h : ∀ i, i < m → F (k + i) = G (j + i)) : (List.range' k m).map F = (List.range' j m).map G := by
  induction m generalizing k j with
  | zero => rfl
  | succ m ih =>
    have h0 := h 0 (by omega)
    rw [Nat.add_zero, Nat.add_zero] at h0
    rw [List.range'_succ, List.range'_succ, List.map_cons, List.map_cons, h0, ih fun i hi => by
      have := h (i + 1) (by omega)
      rw [show k + (i + 1) = k + 1 + i by omega, show j + (i + 1) = j + 1 + i by omega] at this
      exact this]
/-- marks -/
def marks {α : Type} (f : Int → α) (g : Int → Int) : Int → Nat → List α
  | _, 0 => []
  | m, n + 1 => f m :: marks f g (g m) n
def iter (g : Int → Int) : Nat → Int → Int
  | 0, m => m
  | n + 1, m => iter g n (g m)
theorem marks_len {α : Type} (f : Int → α) (g : Int → Int) : ∀ (n : Nat) (m : Int), (marks f g m n).length = n
  | 0, _ => rfl
  | n + 1, m => by rw [marks, List.length_cons, marks_len f g n]
theorem marks_get {α : Type} [Inhabited α] (f : Int → α) (g : Int → Int) : ∀ (n : Nat) (m : Int) (i : Nat), i < n → (marks f g m n).getD i default = f (iter g i m)
  | 0, _, _, h => by omega
  | n + 1, m, 0, _ => rfl
  | n + 1, m, i + 1, h => by
    rw [marks, List.getD_cons_succ, marks_get f g n (g m) i (by omega)]; rfl
theorem iter_succ (g : Int → Int) : ∀ (i : Nat) (m : Int), g (iter g i m) = iter g (i + 1) m
  | 0, _ => rfl
  | i + 1, m => by rw [iter, iter_succ g i (g m)]; rfl
theorem iter_add {g : Int → Int} {c : Nat} (hg : ∀ m : Int, 0 ≤ m → m ≤ 2 ^ 60 → g m = m + c) : ∀ (n : Nat) (m : Int), 0 ≤ m → m + ((c * n : Nat) : Int) ≤ 2 ^ 60 → iter g n m = m + ((c * n : Nat) : Int)
  | 0, m, _, _ => by simp [iter]
  | n + 1, m, h0, h => by
    rw [Nat.mul_succ] at h ⊢
    rw [iter, hg m h0 (by omega), iter_add hg n _ (by omega) (by omega)]
    omega
theorem mark_loop {α : Type} (l : Nat → List α → Int → Int → Option (Int × List α)) (f : Int → α) (g : Int → Int)
    (H : ∀ n z m k, l (n + 1) z m k = if (decide (k < ((z.length : Nat) : Int))) = true then need (inB k z.length) (l n (z.set k.toNat (f m)) (g m) (IntKind.wrap .i64 (k + 1))) else some (m, z)) :
    ∀ (n : Nat) (z : List α) (m : Int) (k : Nat), z.length < 2 ^ 62 → k ≤ z.length → z.length - k < n → l n z m (k : Int) = some (iter g (z.length - k) m, z.take k ++ marks f g m (z.length - k))
  | 0, z, m, k, _, _, h => by omega
  | n + 1, z, m, k, hz, hk, h => by
    rw [H]
    by_cases hlt : k < z.length
    · rw [if_pos (by simp; omega), inB_nat]
      unfold need
      rw [if_pos (by simpa using hlt), wrapS (by omega), Int.toNat_natCast, mark_loop l f g H n _ (g m) (k + 1) (by rw [List.length_set]; exact hz) (by rw [List.length_set]; omega) (by rw [List.length_set]; omega), List.length_set,
        show z.length - k = (z.length - (k + 1)) + 1 by omega]
      congr 2
      rw [List.take_succ_eq_append_getElem (by rw [List.length_set]; omega), List.take_set_of_le (Nat.le_refl _), List.getElem_set_self, List.append_assoc, List.singleton_append]
      rfl
    · rw [if_neg (by simp; omega), show z.length - k = 0 by omega]
      have : k = z.length := by omega
      subst this
      simp [iter, marks]
theorem mark_all {α : Type} (l : Nat → List α → Int → Int → Option (Int × List α)) (f : Int → α) (g : Int → Int) (x : List α) (m : Int) (hx : x.length < 2 ^ 62)
    (H : ∀ n z m k, l (n + 1) z m k = if (decide (k < ((z.length : Nat) : Int))) = true then need (inB k z.length) (l n (z.set k.toNat (f m)) (g m) (IntKind.wrap .i64 (k + 1))) else some (m, z)) :
    l (Int.toNat (((x.length : Nat) : Int) - 0) + 2) x m 0 = some (iter g x.length m, marks f g m x.length) := by
  have := mark_loop l f g H (Int.toNat (((x.length : Nat) : Int) - 0) + 2) x m 0 hx (Nat.zero_le _) (by omega)
  simpa using this
theorem held_all {α : Type} [Inhabited α] (l : Nat → Int → Int → Option (Bool × Int × Int)) (f : Int → α) (g : Int → Int) (e : α → Int → Bool) (x : List α) (m : Int) (len : Nat) (hx : x = marks f g m len) (hl : len < 2 ^ 62) (he : ∀ m, e (f m) m = true)
    (H : ∀ n m k, l (n + 1) m k = if (decide (k < ((x.length : Nat) : Int))) = true then need (inB k x.length) (if e (atI x k) m = true then l n (g m) (IntKind.wrap .i64 (k + 1)) else some (true, -1, default)) else some (false, default, m)) :
    l (Int.toNat (((x.length : Nat) : Int) - 0) + 2) m 0 = some (false, default, iter g len m) := by
  have hlen : x.length = len := by rw [hx, marks_len]
  have key : ∀ (n k : Nat), k ≤ len → len - k < n → l n (iter g k m) (k : Int) = some (false, default, iter g len m) := by
    intro n
    induction n with
    | zero => intro k _ h; omega
    | succ n ih =>
      intro k hk h
      rw [H, hlen]
      by_cases hlt : k < len
      · rw [if_pos (by simp; omega), inB_nat]
        unfold need
        rw [if_pos (by simpa using hlt), atI_nat, hx, marks_get f g len m k hlt, if_pos (he _), wrapS (by omega), iter_succ g, ih (k + 1) (by omega) (by omega)]
      · rw [if_neg (by simp; omega), show k = len by omega]
  have := key (Int.toNat (((x.length : Nat) : Int) - 0) + 2) 0 (Nat.zero_le _) (by omega)
  exact this
/-- a whole number made a float is itself -/
theorem feq_ofInt (n : Int) : feq .f32 (ofInt .f32 n) (ofInt .f32 n) = true := by
  rw [feq_self_iff]
  have h : isNaN .f32 (ofInt .f32 n) = false := by
    unfold isNaN ofInt
    show (FloatKind.f32.format.read (FloatKind.f32.nearest n)).isNaN = false
    rcases read_nearest .f32 (decide (n < 0)) n.natAbs 0 with ⟨m', e', h, _⟩ | h
    all_goals
      have h2 : FloatKind.f32.format.read (FloatKind.f32.nearest n) = _ := h
      rw [h2]; rfl
  rw [h]; rfl
end Go.Ab
namespace Go.Proofs
open Go.Ab
theorem sameFloat_refl (x : Nat) : m_laws_sameFloat x x = true := by
  unfold m_laws_sameFloat
  by_cases h : feq .f64 x x = true
  · simp [h]
  · simp [h]
end Go.Proofs
namespace Go.Proofs
open Go.Ab
theorem eq_Vector (a : Nat × Nat × Nat) : m_laws_eqVector a a = true := by unfold m_laws_eqVector; simp [sameFloat_refl]
end Go.Proofs
namespace Go.Proofs
open Go.Ab
abbrev K5 : Type := Int × Nat × Nat × Nat × Nat
abbrev B4 : Type := Int × Nat × Nat × Nat
abbrev ClipT : Type := Int × Int × List (List K5) × List B4
theorem eq_Turn (a : Nat × Nat × Nat × Nat) : m_laws_eqTurn a a = true := by unfold m_laws_eqTurn; simp [sameFloat_refl]
theorem eq_Key (a : K5) : m_laws_eqKey a a = true := by unfold m_laws_eqKey; simp [eq_Turn]
theorem eq_RootKey (a : B4) : m_laws_eqRootKey a a = true := by unfold m_laws_eqRootKey; simp [eq_Vector]
theorem eq_KeyS (x : List K5) (h : x.length ≤ 1048576) : m_laws_eqKeyS x x = true ∧ p_laws_eqKeyS x x = true := by
  unfold m_laws_eqKeyS p_laws_eqKeyS
  rw [show l_laws_eqKeyS_0 x x (Int.toNat (((List.length x : Nat) : Int) - 0) + 2) 0 = some (false, default, ()) from eq_loop _ x m_laws_eqKey eq_Key (by omega) fun _ _ => rfl]; simp
theorem eq_RootKeyS (x : List B4) (h : x.length ≤ 1048576) : m_laws_eqRootKeyS x x = true ∧ p_laws_eqRootKeyS x x = true := by
  unfold m_laws_eqRootKeyS p_laws_eqRootKeyS
  rw [show l_laws_eqRootKeyS_0 x x (Int.toNat (((List.length x : Nat) : Int) - 0) + 2) 0 = some (false, default, ()) from eq_loop _ x m_laws_eqRootKey eq_RootKey (by omega) fun _ _ => rfl]; simp
theorem to_KeyS (x : List K5) (h : x.length ≤ 1048576) : m_laws_toKeyS x = x ∧ p_laws_toKeyS x = true := by
  unfold m_laws_toKeyS p_laws_toKeyS
  rw [show l_laws_toKeyS_0 x (Int.toNat (((List.length x : Nat) : Int) - 0) + 2) (List.replicate (Int.toNat ((List.length x : Nat) : Int)) (0, 0, 0, 0, 0)) 0 = some x by
    rw [copy_all (l_laws_toKeyS_0 x) x m_laws_toKey _ (by omega) fun _ _ _ => rfl]
    congr 1
    exact List.map_id x]
  refine ⟨rfl, ?_⟩
  simp; omega
theorem to_RootKeyS (x : List B4) (h : x.length ≤ 1048576) : m_laws_toRootKeyS x = x ∧ p_laws_toRootKeyS x = true := by
  unfold m_laws_toRootKeyS p_laws_toRootKeyS
  rw [show l_laws_toRootKeyS_0 x (Int.toNat (((List.length x : Nat) : Int) - 0) + 2) (List.replicate (Int.toNat ((List.length x : Nat) : Int)) (0, 0, 0, 0)) 0 = some x by
    rw [copy_all (l_laws_toRootKeyS_0 x) x m_laws_toRootKey _ (by omega) fun _ _ _ => rfl]
    congr 1
    exact List.map_id x]
  refine ⟨rfl, ?_⟩
  simp; omega
/-- all lists of a list are short -/
def ShortS (x : List (List K5)) : Prop := x.length ≤ 1048576 ∧ ∀ k, k < x.length → (x.getD k default).length ≤ 1048576
theorem map_getD {α : Type} [Inhabited α] (x : List α) : (List.range' 0 x.length).map (fun k => x.getD k default) = x := by
  apply List.ext_getElem (by simp)
  intro i h1 h2
  simp [h2]
theorem to_KeySS (x : List (List K5)) (h : ShortS x) : m_laws_toKeySS x = x ∧ p_laws_toKeySS x = true := by
  obtain ⟨h1, h2⟩ := h
  unfold m_laws_toKeySS p_laws_toKeySS
  have := fill_loop (l_laws_toKeySS_0 x) x.length (fun k => x.getD k default) (by omega) (fun n z k hk hz => by
      show (if (decide ((k : Int) < ((List.length x : Nat) : Int))) = true then _ else _) = _
      rw [if_pos (by simp; omega), inB_nat, inB_nat, atI_nat, (to_KeyS _ (h2 k hk)).1, (to_KeyS _ (h2 k hk)).2, Int.toNat_natCast]
      unfold need
      rw [if_pos (by simp; omega), if_pos rfl, if_pos (by simp; omega)]) (fun n z k hk => by
      show (if (decide ((k : Int) < ((List.length x : Nat) : Int))) = true then _ else _) = _
      rw [if_neg (by simp; omega)]) (Int.toNat (((List.length x : Nat) : Int) - 0) + 2) (List.replicate (Int.toNat ((List.length x : Nat) : Int)) []) 0 (Nat.zero_le _) (by simp) (by omega)
  have this2 : l_laws_toKeySS_0 x (Int.toNat (((List.length x : Nat) : Int) - 0) + 2) (List.replicate (Int.toNat ((List.length x : Nat) : Int)) []) 0 = some x := by
    refine this.trans ?_
    simp only [List.take_zero, List.nil_append, Nat.sub_zero]
    rw [map_getD]
  rw [this2]
  refine ⟨rfl, ?_⟩
  simp; omega
theorem eq_KeySS (x : List (List K5)) (h : ShortS x) : m_laws_eqKeySS x x = true ∧ p_laws_eqKeySS x x = true := by
  obtain ⟨h1, h2⟩ := h
  unfold m_laws_eqKeySS p_laws_eqKeySS
  have := all_loop (l_laws_eqKeySS_0 x x) x.length (fun _ => true) (by omega) (fun n k hk => by
      show (if (decide ((k : Int) < ((List.length x : Nat) : Int))) = true then _ else _) = _
      rw [if_pos (by simp; omega), inB_nat, atI_nat, (eq_KeyS _ (h2 k hk)).1, (eq_KeyS _ (h2 k hk)).2]
      unfold need
      rw [if_pos (by simp; omega), if_pos (by simp; omega), if_pos rfl]) (fun n k hk => by
      show (if (decide ((k : Int) < ((List.length x : Nat) : Int))) = true then _ else _) = _
      rw [if_neg (by simp; omega)]) (Int.toNat (((List.length x : Nat) : Int) - 0) + 2) 0 (Nat.zero_le _) (by omega)
  rw [show ((0 : Nat) : Int) = 0 from rfl, all_range_true (fun _ _ _ => rfl), if_pos rfl] at this
  rw [this]; simp
theorem sz_KeyS (x : List K5) (n : Int) (hx : x.length ≤ maxLen) (h0 : 0 ≤ n) (hn : n ≤ 1048576) : (m_laws_szKeyS x n < 0) ∨ (m_laws_szKeyS x n = n - x.length ∧ (x.length : Int) ≤ n) := by
  unfold m_laws_szKeyS
  have hx' : x.length ≤ 9223372036854775807 := by unfold maxLen at hx; omega
  rw [wrapI (by omega) (by omega)]
  by_cases h : n - ((List.length x : Nat) : Int) < 0
  · left; simp [h]
  · right; rw [if_neg (by simpa using h)]; exact ⟨rfl, by omega⟩
theorem sz_RootKeyS (x : List B4) (n : Int) (hx : x.length ≤ maxLen) (h0 : 0 ≤ n) (hn : n ≤ 1048576) (hs : ¬ (m_laws_szRootKeyS x n < 0)) : x.length ≤ 1048576 ∧ 0 ≤ m_laws_szRootKeyS x n ∧ m_laws_szRootKeyS x n ≤ 1048576 := by
  unfold m_laws_szRootKeyS at hs ⊢
  have hx' : x.length ≤ 9223372036854775807 := by unfold maxLen at hx; omega
  rw [wrapI (by omega) (by omega)] at hs ⊢
  by_cases h : n - ((List.length x : Nat) : Int) < 0
  · simp [h] at hs
  · rw [if_neg (by simpa using h)]; omega
theorem sz_loop (x : List (List K5)) (hl : x.length ≤ 1048576) (hx : ∀ k, k < x.length → (x.getD k default).length ≤ maxLen) : ∀ (n : Nat) (left : Int) (k : Nat), 0 ≤ left → left ≤ 1048576 → k ≤ x.length → x.length - k < n →
    l_laws_szKeySS_0 x n left (k : Int) = some (true, -1, default) ∨ ∃ r, l_laws_szKeySS_0 x n left (k : Int) = some (false, default, r) ∧ 0 ≤ r ∧ r ≤ 1048576 ∧ ∀ i, k ≤ i → i < x.length → (x.getD i default).length ≤ 1048576
  | 0, left, k, _, _, _, h => by omega
  | n + 1, left, k, h0, h1, hk, h => by
    have e : l_laws_szKeySS_0 x (n + 1) left (k : Int) = (if (decide ((k : Int) < ((List.length x : Nat) : Int))) = true then (need (inB (k : Int) (List.length x)) (if (decide ((m_laws_szKeyS (atI x (k : Int)) left) < 0)) = true then (some (true, (-1), default)) else (l_laws_szKeySS_0 x n (m_laws_szKeyS (atI x (k : Int)) left) (IntKind.wrap .i64 ((k : Int) + 1))))) else (some (false, default, left))) := rfl
    rw [e]
    by_cases hlt : k < x.length
    · rw [if_pos (by simp; omega), inB_nat]
      unfold need
      rw [if_pos (by simp; omega), atI_nat, wrapS (by omega)]
      rcases sz_KeyS (x.getD k default) left (hx k hlt) h0 h1 with hs | ⟨hs, hs2⟩
      · left; rw [if_pos (by simpa using hs)]
      · rw [if_neg (by rw [hs]; simp only [decide_eq_true_eq]; omega), hs]
        rcases sz_loop x hl hx n (left - ((x.getD k default).length : Nat)) (k + 1) (by omega) (by omega) (by omega) (by omega) with h | ⟨r, g1, g2, g3, g4⟩
        · left; exact h
        · right
          refine ⟨r, g1, g2, g3, fun i hi1 hi2 => ?_⟩
          by_cases hik : i = k
          · subst hik; omega
          · exact g4 i (by omega) hi2
    · right
      rw [if_neg (by simp; omega)]
      exact ⟨left, rfl, h0, h1, fun i hi1 hi2 => by omega⟩
theorem sz_KeySS (x : List (List K5)) (n : Int) (hl : x.length ≤ maxLen) (hx : ∀ k, k < x.length → (x.getD k default).length ≤ maxLen) (h0 : 0 ≤ n) (hn : n ≤ 1048576) :
    p_laws_szKeySS x n = true ∧ (¬ (m_laws_szKeySS x n < 0) → ShortS x ∧ 0 ≤ m_laws_szKeySS x n ∧ m_laws_szKeySS x n ≤ 1048576) := by
  unfold p_laws_szKeySS m_laws_szKeySS
  have hx' : x.length ≤ 9223372036854775807 := by unfold maxLen at hl; omega
  rw [wrapI (by omega) (by omega)]
  by_cases h : n - ((List.length x : Nat) : Int) < 0
  · simp [h]
  · have hl' : x.length ≤ 1048576 := by omega
    rcases sz_loop x hl' hx (Int.toNat (((List.length x : Nat) : Int) - 0) + 2) (n - ((List.length x : Nat) : Int)) 0 (by omega) (by omega) (Nat.zero_le _) (by omega) with e | ⟨r, e, g2, g3, g4⟩
    · rw [show ((0 : Nat) : Int) = 0 from rfl] at e
      rw [e]; simp [h]
    · rw [show ((0 : Nat) : Int) = 0 from rfl] at e
      rw [e]
      refine ⟨by simp, fun _ => ⟨⟨hl', fun k hk => g4 k (Nat.zero_le _) hk⟩, ?_⟩⟩
      simp [h]; omega
def ShortC (c : ClipT) : Prop := ShortS c.2.2.1 ∧ c.2.2.2.length ≤ 1048576
def HasC' (c : ClipT) : Prop := c.2.2.1.length ≤ maxLen ∧ (∀ k, k < c.2.2.1.length → (c.2.2.1.getD k default).length ≤ maxLen) ∧ c.2.2.2.length ≤ maxLen
theorem sz_Clip (c : ClipT) (n : Int) (hc : HasC' c) (h0 : 0 ≤ n) (hn : n ≤ 1048576) : p_laws_szClip c n = true ∧ (¬ (m_laws_szClip c n < 0) → ShortC c ∧ 0 ≤ m_laws_szClip c n ∧ m_laws_szClip c n ≤ 1048576) := by
  obtain ⟨a1, a2⟩ := sz_KeySS c.2.2.1 n hc.1 hc.2.1 h0 hn
  unfold p_laws_szClip m_laws_szClip
  refine ⟨a1, fun h => ?_⟩
  by_cases h1 : m_laws_szKeySS c.2.2.1 n < 0
  · simp [h1] at h
  · obtain ⟨b1, b2, b3⟩ := a2 h1
    by_cases h2 : m_laws_szRootKeyS c.2.2.2 (m_laws_szKeySS c.2.2.1 n) < 0
    · simp [h1, h2] at h
    · obtain ⟨d1, d2, d3⟩ := sz_RootKeyS c.2.2.2 _ hc.2.2 b2 b3 h2
      refine ⟨⟨b1, d1⟩, ?_⟩
      simp [h1, h2]; omega
theorem to_Clip (c : ClipT) (h : ShortC c) : m_laws_toClip c = c ∧ p_laws_toClip c = true := by
  unfold m_laws_toClip p_laws_toClip
  rw [(to_KeySS _ h.1).1, (to_KeySS _ h.1).2, (to_RootKeyS _ h.2).1, (to_RootKeyS _ h.2).2]
  exact ⟨rfl, rfl⟩
theorem eq_Clip (c : ClipT) (h : ShortC c) : m_laws_eqClip c c = true ∧ p_laws_eqClip c c = true := by
  unfold m_laws_eqClip p_laws_eqClip
  rw [(eq_KeySS _ h.1).1, (eq_KeySS _ h.1).2, (eq_RootKeyS _ h.2).1, (eq_RootKeyS _ h.2).2]
  simp
theorem has_of {x : List (List K5)} (h : ∀ q ∈ x, List.length q ≤ maxLen ∧ (∀ qq ∈ q, (Lit.int .i64 qq.1).wf = true ∧ Canon .f32 qq.2.1 ∧ Canon .f32 qq.2.2.1 ∧ Canon .f32 qq.2.2.2.1 ∧ Canon .f32 qq.2.2.2.2)) : ∀ k, k < x.length → (x.getD k default).length ≤ maxLen := by
  intro k hk
  rw [← atI_nat, atI_lt x hk]
  exact (h _ (List.getElem_mem hk)).1
end Go.Proofs
namespace Go.Proofs
open Go.Ab
theorem l00In_iff (a b c : Int) : m_spec_l00In a b c = (decide (b ≤ a) && decide (a ≤ c)) := by
  unfold m_spec_l00In; cases decide (b ≤ a) <;> simp
def lastOf (t : Nat → Int) (k : Nat) : Int := if k = 0 then -1 else t (k - 1)
def cI (t : Nat → Int) (L : Int) (k : Nat) : Bool := !(decide (t k ≤ lastOf t k)) && !(decide (L < t k))
def cS (t : Nat → Int) (L : Int) (k : Nat) : Bool := (decide (0 ≤ t k) && decide (t k ≤ L)) && (decide (k = 0) || !(decide (t k ≤ t (k - 1))))
theorem all_snoc (c : Nat → Bool) (m : Nat) : (List.range' 0 (m + 1)).all c = ((List.range' 0 m).all c && c m) := by
  rw [List.range'_concat]; simp
theorem all_cIS (t : Nat → Int) (L : Int) : ∀ m, (List.range' 0 m).all (cI t L) = (List.range' 0 m).all (cS t L)
  | 0 => rfl
  | m + 1 => by
    rw [all_snoc, all_snoc, all_cIS t L m]
    cases hq : (List.range' 0 m).all (cS t L) with
    | false => rfl
    | true =>
      rw [Bool.true_and, Bool.true_and]
      unfold cI cS lastOf
      by_cases h0 : m = 0
      · subst h0
        by_cases h1 : t 0 ≤ -1
        · have : ¬ 0 ≤ t 0 := by omega
          simp [h1, this]
        · have h2 : 0 ≤ t 0 := by omega
          by_cases h3 : L < t 0
          · have : ¬ t 0 ≤ L := by omega
            simp [h1, h2, h3, this]
          · have : t 0 ≤ L := by omega
            simp [h1, h2, h3, this]
      · have hp : cS t L (m - 1) = true := List.all_eq_true.1 hq (m - 1) (by rw [List.mem_range']; exact ⟨m - 1, by omega, by omega⟩)
        unfold cS at hp
        simp only [Bool.and_eq_true, decide_eq_true_eq] at hp
        have hp0 := hp.1.1
        by_cases h1 : t m ≤ t (m - 1)
        · simp [h0, h1]
        · have h2 : 0 ≤ t m := by omega
          by_cases h3 : L < t m
          · have : ¬ t m ≤ L := by omega
            simp [h0, h1, h2, h3, this]
          · have : t m ≤ L := by omega
            simp [h0, h1, h2, h3, this]
theorem impl_valid (l : Nat → Int → Int → Option (Bool × Bool × Unit)) (t : Nat → Int) (len : Nat) (L : Int) (hlen : len < 2 ^ 62)
    (H : ∀ (n : Nat) (last : Int) (k : Nat), k < len → l (n + 1) last (k : Int) = if (decide (t k ≤ last)) = true then some (true, false, default) else if (decide (L < t k)) = true then some (true, false, default) else l n (t k) (IntKind.wrap .i64 ((k : Int) + 1)))
    (H' : ∀ (n : Nat) (last : Int) (k : Nat), ¬ k < len → l (n + 1) last (k : Int) = some (false, default, ())) :
    ∀ (n k : Nat), k ≤ len → len - k < n → l n (lastOf t k) (k : Int) = some (if (List.range' k (len - k)).all (cI t L) = true then (false, default, ()) else (true, false, default))
  | 0, k, _, h => by omega
  | n + 1, k, hk, h => by
    by_cases hlt : k < len
    · rw [H n _ k hlt, show len - k = (len - (k + 1)) + 1 by omega, List.range'_succ, List.all_cons, wrapS (by omega)]
      have ih := impl_valid l t len L hlen H H' n (k + 1) (by omega) (by omega)
      have e : lastOf t (k + 1) = t k := by unfold lastOf; simp
      rw [e] at ih
      rw [ih]
      have ec : cI t L k = (!(decide (t k ≤ lastOf t k)) && !(decide (L < t k))) := rfl
      rw [ec]
      cases decide (t k ≤ lastOf t k) <;> cases decide (L < t k) <;> first | rfl | simp
    · rw [H' n _ k hlt, show len - k = 0 by omega]
      rfl
theorem atI_times (t : Nat → Int) {len k : Nat} (h : k < len) : atI ((List.range' 0 len).map t) (k : Int) = t k := by
  rw [atI_nat, List.getD_eq_getElem?_getD]
  simp [h]
theorem spec_times (t : Nat → Int) (len : Nat) (L : Int) (hlen : len ≤ 1048576) : l_spec_l05Times_0 ((List.range' 0 len).map t) L (Int.toNat (((List.length ((List.range' 0 len).map t) : Nat) : Int) - 0) + 2) 0 = some (if (List.range' 0 len).all (cS t L) = true then (false, default, ()) else (true, false, default)) := by
  have hL : ((List.range' 0 len).map t).length = len := by simp
  have := all_loop (l_spec_l05Times_0 ((List.range' 0 len).map t) L) len (cS t L) (by omega) (fun n k hk => by
      show (if (decide ((k : Int) < ((List.length ((List.range' 0 len).map t) : Nat) : Int))) = true then _ else _) = _
      rw [if_pos (by rw [hL]; simp; omega), inB_nat, hL, atI_times t hk]
      unfold need
      rw [if_pos (by simp; omega), l00In_iff]
      have ec : cS t L k = ((decide (0 ≤ t k) && decide (t k ≤ L)) && (decide (k = 0) || !(decide (t k ≤ t (k - 1))))) := rfl
      rw [ec]
      by_cases h0 : k = 0
      · subst h0
        cases decide (0 ≤ t 0) && decide (t 0 ≤ L) <;> simp
      · have ew : IntKind.wrap .i64 ((k : Int) - 1) = ((k - 1 : Nat) : Int) := by rw [wrapI (by omega) (by omega)]; omega
        rw [ew, inB_nat, atI_times t (show k - 1 < len by omega)]
        have e1 : decide (k - 1 < len) = true := by simp; omega
        have e2 : decide ((0 : Int) < (k : Int)) = true := by simp; omega
        rw [e1, e2]
        cases decide (0 ≤ t k) && decide (t k ≤ L) <;> cases decide (t k ≤ t (k - 1)) <;> simp [h0]) (fun n k hk => by
      show (if (decide ((k : Int) < ((List.length ((List.range' 0 len).map t) : Nat) : Int))) = true then _ else _) = _
      rw [if_neg (by rw [hL]; simp; omega)]) (Int.toNat (((List.length ((List.range' 0 len).map t) : Nat) : Int) - 0) + 2) 0 (Nat.zero_le _) (by omega)
  exact this
def tK (x : List K5) (k : Nat) : Int := (x.getD k default).1
def tR (x : List B4) (k : Nat) : Int := (x.getD k default).1
theorem at_eq (x : List K5) (h : x.length ≤ 1048576) : m_spec_l05At x = (List.range' 0 x.length).map (tK x) ∧ p_spec_l05At x = true := by
  have := app_loop (l_spec_l05At_0 x) x.length (tK x) (by omega) (fun k j => k = j) (fun n z k hk hj => by
      show (if (decide ((k : Int) < ((List.length x : Nat) : Int))) = true then _ else _) = _
      rw [if_pos (by simp; omega), inB_nat, atI_nat]
      unfold need
      rw [if_pos (by simp; omega), if_pos (by simp; omega), if_pos (by simp; omega)]
      rfl) (fun n z k hk => by
      show (if (decide ((k : Int) < ((List.length x : Nat) : Int))) = true then _ else _) = _
      rw [if_neg (by simp; omega)]) (fun k j _ h => by omega) (Int.toNat (((List.length x : Nat) : Int) - 0) + 2) [] 0 (Nat.zero_le _) (by simp) (by omega)
  have e : l_spec_l05At_0 x (Int.toNat (((List.length x : Nat) : Int) - 0) + 2) [] 0 = some ((List.range' 0 x.length).map (tK x)) := this
  unfold m_spec_l05At p_spec_l05At
  rw [e]; exact ⟨rfl, rfl⟩
theorem rootAt_eq (x : List B4) (h : x.length ≤ 1048576) : m_spec_l05RootAt x = (List.range' 0 x.length).map (tR x) ∧ p_spec_l05RootAt x = true := by
  have := app_loop (l_spec_l05RootAt_0 x) x.length (tR x) (by omega) (fun k j => k = j) (fun n z k hk hj => by
      show (if (decide ((k : Int) < ((List.length x : Nat) : Int))) = true then _ else _) = _
      rw [if_pos (by simp; omega), inB_nat, atI_nat]
      unfold need
      rw [if_pos (by simp; omega), if_pos (by simp; omega), if_pos (by simp; omega)]
      rfl) (fun n z k hk => by
      show (if (decide ((k : Int) < ((List.length x : Nat) : Int))) = true then _ else _) = _
      rw [if_neg (by simp; omega)]) (fun k j _ h => by omega) (Int.toNat (((List.length x : Nat) : Int) - 0) + 2) [] 0 (Nat.zero_le _) (by simp) (by omega)
  have e : l_spec_l05RootAt_0 x (Int.toNat (((List.length x : Nat) : Int) - 0) + 2) [] 0 = some ((List.range' 0 x.length).map (tR x)) := this
  unfold m_spec_l05RootAt p_spec_l05RootAt
  rw [e]; exact ⟨rfl, rfl⟩
/-- what a track has to be -/
def okT (t : Nat → Int) (len : Nat) (L : Int) : Bool := (List.range' 0 len).all (cS t L) && (decide (1 ≤ (len : Int)) && decide ((len : Int) ≤ 12))
theorem times_ok (t : Nat → Int) (len : Nat) (L : Int) (hlen : len ≤ 1048576) : m_spec_l05Times ((List.range' 0 len).map t) L = okT t len L ∧ p_spec_l05Times ((List.range' 0 len).map t) L = true := by
  unfold m_spec_l05Times p_spec_l05Times okT
  rw [spec_times t len L hlen]
  cases (List.range' 0 len).all (cS t L) with
  | false => simp
  | true =>
    simp only [if_true, Option.getD_some, Option.isSome_some, Bool.false_eq_true, if_false, Bool.true_and, List.length_map, List.length_range', and_true]
    by_cases h : (1 : Int) ≤ (len : Int)
    · simp [h]
    · simp [h]
theorem key_ok (x : List K5) (L : Int) (h : x.length ≤ 1048576) : m_impl_Key_valid ((), (), ()) x L = okT (tK x) x.length L ∧ p_impl_Key_valid ((), (), ()) x L = true := by
  have := impl_valid (l_impl_Key_valid_0 x L) (tK x) x.length L (by omega) (fun n last k hk => by
      show (if (decide ((k : Int) < ((List.length x : Nat) : Int))) = true then _ else _) = _
      rw [if_pos (by simp; omega), inB_nat, atI_nat]
      unfold need
      rw [if_pos (by simp; omega)]
      rfl) (fun n last k hk => by
      show (if (decide ((k : Int) < ((List.length x : Nat) : Int))) = true then _ else _) = _
      rw [if_neg (by simp; omega)]) (Int.toNat (((List.length x : Nat) : Int) - 0) + 2) 0 (Nat.zero_le _) (by omega)
  have e : l_impl_Key_valid_0 x L (Int.toNat (((List.length x : Nat) : Int) - 0) + 2) (-1) 0 = some (if (List.range' 0 x.length).all (cI (tK x) L) = true then (false, default, ()) else (true, false, default)) := this
  unfold m_impl_Key_valid p_impl_Key_valid okT
  rw [e, all_cIS]
  cases (List.range' 0 x.length).all (cS (tK x) L) with
  | false => simp
  | true =>
    simp only [if_true, Option.getD_some, Option.isSome_some, Bool.false_eq_true, if_false, Bool.true_and, and_true]
    by_cases h : (1 : Int) ≤ ((List.length x : Nat) : Int)
    · simp [h]
    · simp [h]
theorem root_ok (x : List B4) (L : Int) (h : x.length ≤ 1048576) : m_impl_RootKey_valid ((), (), ()) x L = okT (tR x) x.length L ∧ p_impl_RootKey_valid ((), (), ()) x L = true := by
  have := impl_valid (l_impl_RootKey_valid_0 x L) (tR x) x.length L (by omega) (fun n last k hk => by
      show (if (decide ((k : Int) < ((List.length x : Nat) : Int))) = true then _ else _) = _
      rw [if_pos (by simp; omega), inB_nat, atI_nat]
      unfold need
      rw [if_pos (by simp; omega)]
      rfl) (fun n last k hk => by
      show (if (decide ((k : Int) < ((List.length x : Nat) : Int))) = true then _ else _) = _
      rw [if_neg (by simp; omega)]) (Int.toNat (((List.length x : Nat) : Int) - 0) + 2) 0 (Nat.zero_le _) (by omega)
  have e : l_impl_RootKey_valid_0 x L (Int.toNat (((List.length x : Nat) : Int) - 0) + 2) (-1) 0 = some (if (List.range' 0 x.length).all (cI (tR x) L) = true then (false, default, ()) else (true, false, default)) := this
  unfold m_impl_RootKey_valid p_impl_RootKey_valid okT
  rw [e, all_cIS]
  cases (List.range' 0 x.length).all (cS (tR x) L) with
  | false => simp
  | true =>
    simp only [if_true, Option.getD_some, Option.isSome_some, Bool.false_eq_true, if_false, Bool.true_and, and_true]
    by_cases h : (1 : Int) ≤ ((List.length x : Nat) : Int)
    · simp [h]
    · simp [h]
def okTracks (c : ClipT) : Bool := (List.range' 0 c.2.2.1.length).all fun k => okT (tK (c.2.2.1.getD k default)) (c.2.2.1.getD k default).length c.1
def okClip (c : ClipT) : Bool := (decide (1 ≤ c.1) && decide (c.1 ≤ 1000)) && ((decide (0 ≤ c.2.1) && decide (c.2.1 ≤ 2)) && ((decide (1 ≤ ((List.length c.2.2.1 : Nat) : Int)) && decide (((List.length c.2.2.1 : Nat) : Int) ≤ 12)) && (okTracks c && okT (tR c.2.2.2) c.2.2.2.length c.1)))
theorem spec_tracks (c : ClipT) (h : ShortC c) : l_spec_l05Is_0 c (Int.toNat (((List.length c.2.2.1 : Nat) : Int) - 0) + 2) 0 = some (if okTracks c = true then (false, default, ()) else (true, false, default)) := by
  have h1 := h.1.1
  have := all_loop (l_spec_l05Is_0 c) c.2.2.1.length (fun k => okT (tK (c.2.2.1.getD k default)) (c.2.2.1.getD k default).length c.1) (by omega) (fun n k hk => by
      show (if (decide ((k : Int) < ((List.length c.2.2.1 : Nat) : Int))) = true then _ else _) = _
      have hs := h.1.2 k hk
      rw [if_pos (by simp; omega), inB_nat, atI_nat, (at_eq _ hs).1, (at_eq _ hs).2, (times_ok _ _ _ hs).1, (times_ok _ _ _ hs).2]
      unfold need
      rw [if_pos (by simp; omega), if_pos rfl, if_pos rfl]) (fun n k hk => by
      show (if (decide ((k : Int) < ((List.length c.2.2.1 : Nat) : Int))) = true then _ else _) = _
      rw [if_neg (by simp; omega)]) (Int.toNat (((List.length c.2.2.1 : Nat) : Int) - 0) + 2) 0 (Nat.zero_le _) (by omega)
  exact this
theorem impl_tracks (c : ClipT) (h : ShortC c) : l_impl_ValidClip_0 c (Int.toNat (((List.length c.2.2.1 : Nat) : Int) - 0) + 2) 0 = some (if okTracks c = true then (false, default, ()) else (true, false, default)) := by
  have h1 := h.1.1
  have := all_loop (l_impl_ValidClip_0 c) c.2.2.1.length (fun k => okT (tK (c.2.2.1.getD k default)) (c.2.2.1.getD k default).length c.1) (by omega) (fun n k hk => by
      show (if (decide ((k : Int) < ((List.length c.2.2.1 : Nat) : Int))) = true then _ else _) = _
      have hs := h.1.2 k hk
      rw [if_pos (by simp; omega), inB_nat, atI_nat, (key_ok _ _ hs).1, (key_ok _ _ hs).2]
      unfold need
      rw [if_pos (by simp; omega), if_pos rfl]) (fun n k hk => by
      show (if (decide ((k : Int) < ((List.length c.2.2.1 : Nat) : Int))) = true then _ else _) = _
      rw [if_neg (by simp; omega)]) (Int.toNat (((List.length c.2.2.1 : Nat) : Int) - 0) + 2) 0 (Nat.zero_le _) (by omega)
  exact this
theorem core_ValidClip (c : ClipT) (h : ShortC c) : p_impl_ValidClip c = true ∧ p_spec_l05Is c = true ∧ m_impl_ValidClip c = okClip c ∧ m_spec_l05Is c = okClip c := by
  unfold p_impl_ValidClip p_spec_l05Is m_impl_ValidClip m_spec_l05Is okClip
  rw [spec_tracks c h, impl_tracks c h, l00In_iff, l00In_iff, (root_ok _ _ h.2).1, (root_ok _ _ h.2).2, (rootAt_eq _ h.2).1, (rootAt_eq _ h.2).2, (times_ok _ _ _ h.2).1, (times_ok _ _ _ h.2).2]
  have f : ∀ a b : Int, decide (a < b) = !(decide (b ≤ a)) := by
    intro a b
    by_cases hh : a < b
    · have : ¬ b ≤ a := by omega
      simp [hh, this]
    · have : b ≤ a := by omega
      simp [hh, this]
  rw [f c.1 1, f 1000 c.1, f c.2.1 0, f 2 c.2.1, f _ 1, f 12 _]
  cases decide (1 ≤ c.1) <;> cases decide (c.1 ≤ 1000) <;> cases decide (0 ≤ c.2.1) <;> cases decide (c.2.1 ≤ 2) <;> cases decide (1 ≤ ((List.length c.2.2.1 : Nat) : Int)) <;> cases decide (((List.length c.2.2.1 : Nat) : Int) ≤ 12) <;> cases okTracks c <;> simp
end Go.Proofs
namespace Go.Proofs
open Go.Ab
theorem okT_have {t : Nat → Int} {len : Nat} {L : Int} (h : okT t len L = true) : 1 ≤ len ∧ len ≤ 12 ∧ (∀ k, k < len → 0 ≤ t k ∧ t k ≤ L) ∧ ∀ k, 0 < k → k < len → t (k - 1) < t k := by
  unfold okT at h
  simp only [Bool.and_eq_true, decide_eq_true_eq, List.all_eq_true] at h
  obtain ⟨h1, h2, h3⟩ := h
  have hc : ∀ k, k < len → cS t L k = true := fun k hk => h1 k (by rw [List.mem_range']; exact ⟨k, hk, by omega⟩)
  refine ⟨by omega, by omega, fun k hk => ?_, fun k h0 hk => ?_⟩
  · have := hc k hk
    unfold cS at this
    simp only [Bool.and_eq_true, decide_eq_true_eq] at this
    exact this.1
  · have := hc k hk
    unfold cS at this
    simp only [Bool.and_eq_true, decide_eq_true_eq, Bool.or_eq_true, Bool.not_eq_true', decide_eq_false_iff_not] at this
    rcases this.2 with h | h <;> omega
/-- the first time behind 'a', from 'k' on, of so many -/
def fstT (t : Nat → Int) (a : Int) : Nat → Nat → Nat
  | 0, k => k
  | m + 1, k => if t k ≤ a then fstT t a m (k + 1) else k
theorem fstT_le (t : Nat → Int) (a : Int) : ∀ (m k : Nat), k ≤ fstT t a m k ∧ fstT t a m k ≤ k + m
  | 0, k => ⟨Nat.le_refl _, Nat.le_refl _⟩
  | m + 1, k => by
    unfold fstT
    split
    · have := fstT_le t a m (k + 1); omega
    · omega
theorem fstT_gt (t : Nat → Int) (a : Int) : ∀ (m k : Nat), fstT t a m k < k + m → a < t (fstT t a m k)
  | 0, k, h => by unfold fstT at h; omega
  | m + 1, k, h => by
    unfold fstT at h ⊢
    split
    · rename_i hc; rw [if_pos hc] at h; exact fstT_gt t a m (k + 1) (by omega)
    · omega
theorem fstT_lt (t : Nat → Int) (a : Int) : ∀ (m k i : Nat), k ≤ i → i < fstT t a m k → t i ≤ a
  | 0, k, i, h1, h2 => by unfold fstT at h2; omega
  | m + 1, k, i, h1, h2 => by
    unfold fstT at h2
    split at h2
    · rename_i hc
      by_cases e : i = k
      · subst e; exact hc
      · exact fstT_lt t a m (k + 1) i (by omega) h2
    · omega
theorem impl_fst (l : Nat → Int → Option Int) (t : Nat → Int) (a : Int) (len : Nat) (hlen : len < 2 ^ 62)
    (H : ∀ (n k : Nat), k < len → l (n + 1) (k : Int) = if (decide (t k ≤ a)) = true then l n (IntKind.wrap .i64 ((k : Int) + 1)) else some (k : Int))
    (H' : ∀ (n k : Nat), ¬ k < len → l (n + 1) (k : Int) = some (k : Int)) : ∀ (n m k : Nat), k + m = len → m < n → l n (k : Int) = some ((fstT t a m k : Nat) : Int)
  | 0, m, k, _, h => by omega
  | n + 1, 0, k, hk, h => by rw [H' n k (by omega)]; rfl
  | n + 1, m + 1, k, hk, h => by
    rw [H n k (by omega), fstT]
    by_cases hc : t k ≤ a
    · rw [if_pos (by simpa using hc), if_pos hc, wrapS (by omega)]
      exact impl_fst l t a len hlen H H' n m (k + 1) (by omega) (by omega)
    · rw [if_neg (by simpa using hc), if_neg hc]
theorem spec_fst (t : Nat → Int) (a kind : Int) (len : Nat) (hlen : len ≤ 12) : ∀ (n m k : Nat), k + 1 + m = len → m < n → l_spec_l05Find_0 ((List.range' 0 len).map t) a kind n (k : Int) = some (((fstT t a m (k + 1) - 1 : Nat)) : Int)
  | 0, m, k, _, h => by omega
  | n + 1, m, k, hk, h => by
    have hL : ((List.range' 0 len).map t).length = len := by simp
    show (if (decide ((IntKind.wrap .i64 ((k : Int) + 1)) < ((List.length ((List.range' 0 len).map t) : Nat) : Int))) = true then _ else _) = _
    rw [wrapS (by omega), hL, inB_nat]
    cases m with
    | zero =>
      rw [if_neg (by simp; omega)]
      simp [fstT]
    | succ m =>
      rw [if_pos (by simp; omega), atI_times t (show k + 1 < len by omega)]
      unfold need
      rw [if_pos (by simp; omega), fstT]
      by_cases hc : t (k + 1) ≤ a
      · rw [if_pos (by simpa using hc), if_pos hc]
        exact spec_fst t a kind len hlen n m (k + 1) (by omega) (by omega)
      · rw [if_neg (by simpa using hc), if_neg hc]
        simp
/-- the share of a time between two others -/
def shareOf (kind p a q : Int) : Nat := if kind = 2 then fmul .f32 (fmul .f32 (fdiv .f32 (ofInt .f32 (IntKind.wrap .i64 (a - p))) (ofInt .f32 (IntKind.wrap .i64 (q - p)))) (fdiv .f32 (ofInt .f32 (IntKind.wrap .i64 (a - p))) (ofInt .f32 (IntKind.wrap .i64 (q - p))))) (fsub .f32 1077936128 (fmul .f32 1073741824 (fdiv .f32 (ofInt .f32 (IntKind.wrap .i64 (a - p))) (ofInt .f32 (IntKind.wrap .i64 (q - p))))))
  else fdiv .f32 (ofInt .f32 (IntKind.wrap .i64 (a - p))) (ofInt .f32 (IntKind.wrap .i64 (q - p)))
/-- the index, and what is made there -/
def idxT (t : Nat → Int) (a : Int) (len : Nat) : Nat := fstT t a len 0
theorem find_ok (t : Nat → Int) (a kind L : Int) (len : Nat) (h : okT t len L = true) : p_spec_l05Find ((List.range' 0 len).map t) a kind = true ∧
    ∃ J : Nat, J < len ∧ (m_spec_l05Find ((List.range' 0 len).map t) a kind).1 = (J : Int) ∧ J = (if idxT t a len = 0 then 0 else idxT t a len - 1) ∧
      (J + 1 < len → t J < a → kind ≠ 0 → (m_spec_l05Find ((List.range' 0 len).map t) a kind).2 = shareOf kind (t J) a (t (J + 1))) := by
  obtain ⟨h1, h2, h3, h4⟩ := okT_have h
  have hL : ((List.range' 0 len).map t).length = len := by simp
  obtain ⟨m, rfl⟩ : ∃ m, len = m + 1 := ⟨len - 1, by omega⟩
  have sp := spec_fst t a kind (m + 1) h2 (Int.toNat (((List.length ((List.range' 0 (m + 1)).map t) : Nat) : Int) - 0) + 2) m 0 (by omega) (by rw [hL]; omega)
  have sp' : l_spec_l05Find_0 ((List.range' 0 (m + 1)).map t) a kind (Int.toNat (((List.length ((List.range' 0 (m + 1)).map t) : Nat) : Int) - 0) + 2) 0 = some (((fstT t a m 1 - 1 : Nat)) : Int) := sp
  have hb := fstT_le t a m 1
  generalize hJ : fstT t a m 1 - 1 = J at *
  have hJlt : J < m + 1 := by omega
  have hw : IntKind.wrap .i64 ((J : Int) + 1) = ((J + 1 : Nat) : Int) := wrapS (by omega)
  have eJ : J = (if idxT t a (m + 1) = 0 then 0 else idxT t a (m + 1) - 1) := by
    unfold idxT fstT
    by_cases hc : t 0 ≤ a
    · rw [if_pos hc, Nat.zero_add, hJ, if_neg (by omega)]
    · rw [if_neg hc, if_pos rfl]
      by_cases hm : m = 0
      · subst hm; simp [fstT] at hJ; omega
      · have : fstT t a m 1 = 1 := by
          obtain ⟨q, rfl⟩ : ∃ q, m = q + 1 := ⟨m - 1, by omega⟩
          have := h4 1 (by omega) (by omega)
          unfold fstT
          rw [if_neg (by simp at this; omega)]
        omega
  unfold p_spec_l05Find m_spec_l05Find v_spec_l05Find_0 v_spec_l05Find_3 v_spec_l05Find_2 v_spec_l05Find_1
  rw [sp']
  simp only [Option.getD_some, Option.isSome_some, hw, hL, inB_nat, Bool.true_and]
  have at1 := atI_times t hJlt
  simp only [at1]
  by_cases e1 : ((J + 1 : Nat) : Int) = ((m + 1 : Nat) : Int)
  · refine ⟨by simp [e1], J, hJlt, by rw [if_pos (by simpa using e1)], eJ, fun q => by omega⟩
  · have hJ1 : J + 1 < m + 1 := by omega
    have at2 := atI_times t hJ1
    simp only [at2]
    refine ⟨?_, J, hJlt, ?_, eJ, fun _ q1 q2 => ?_⟩
    · simp; omega
    · rw [if_neg (by simpa using e1)]
      split
      · rfl
      · split <;> rfl
    · rw [if_neg (by simpa using e1), if_neg (by simp; omega), if_neg (by simpa using q2)]
      unfold shareOf
      by_cases e2 : kind = 2 <;> simp [e2]
/-- the place of a root -/
def rootAt (x : List B4) (kind a : Int) : Nat × Nat × Nat :=
  if idxT (tR x) a x.length = 0 then (x.getD 0 default).2 else if idxT (tR x) a x.length = x.length ∨ tR x (idxT (tR x) a x.length - 1) = a ∨ kind = 0 then (x.getD (idxT (tR x) a x.length - 1) default).2
  else m_spec_l01Between (x.getD (idxT (tR x) a x.length - 1) default).2 (x.getD (idxT (tR x) a x.length) default).2 (shareOf kind (tR x (idxT (tR x) a x.length - 1)) a (tR x (idxT (tR x) a x.length)))
theorem root_impl (x : List B4) (kind a L : Int) (h : okT (tR x) x.length L = true) : (m_impl_RootKey_sample ((), (), ()) x kind a).2 = rootAt x kind a ∧ p_impl_RootKey_sample ((), (), ()) x kind a = true := by
  obtain ⟨h1, h2, h3, h4⟩ := okT_have h
  have fs := impl_fst (l_impl_RootKey_sample_0 x kind a) (tR x) a x.length (by omega) (fun n k hk => by
      show (if (decide ((k : Int) < ((List.length x : Nat) : Int))) = true then _ else _) = _
      rw [if_pos (by simp; omega), inB_nat, atI_nat]
      unfold need
      rw [if_pos (by simp; omega)]
      rfl) (fun n k hk => by
      show (if (decide ((k : Int) < ((List.length x : Nat) : Int))) = true then _ else _) = _
      rw [if_neg (by simp; omega)]) (Int.toNat (((List.length x : Nat) : Int) - 0) + 2) x.length 0 (by omega) (by omega)
  have fs' : l_impl_RootKey_sample_0 x kind a (Int.toNat (((List.length x : Nat) : Int) - 0) + 2) 0 = some ((idxT (tR x) a x.length : Nat) : Int) := fs
  have hb := fstT_le (tR x) a x.length 0
  have hg := fstT_gt (tR x) a x.length 0
  unfold m_impl_RootKey_sample p_impl_RootKey_sample v_impl_RootKey_sample_2 v_impl_RootKey_sample_1 v_impl_RootKey_sample_0 rootAt m_impl_share
  rw [fs']
  simp only [Option.getD_some, Option.isSome_some, Bool.true_and]
  have hI : idxT (tR x) a x.length = fstT (tR x) a x.length 0 := rfl
  rw [← hI] at hb hg
  generalize idxT (tR x) a x.length = I at *
  by_cases e0 : I = 0
  · subst e0
    have : inB 0 x.length = true := by simp [inB]; omega
    rw [if_pos rfl, if_pos (by simp), if_pos (by simp), this]
    exact ⟨by unfold m_impl_rootTrack_2; rw [show atI x 0 = x.getD 0 default by rw [← atI_nat]; rfl], rfl⟩
  · have ew : IntKind.wrap .i64 ((I : Int) - 1) = ((I - 1 : Nat) : Int) := by rw [wrapI (by omega) (by omega)]; omega
    have i1 : inB ((I - 1 : Nat) : Int) x.length = true := by rw [inB_nat]; simp; omega
    have n0 : decide ((I : Int) = 0) = false := by simp; omega
    simp only [ew, i1, n0, atI_nat, Bool.false_eq_true, if_false, Bool.true_and]
    rw [if_neg e0]
    by_cases e1 : I = x.length
    · have n1 : decide ((I : Int) = ((List.length x : Nat) : Int)) = true := by simp; omega
      simp only [n1, if_true]
      rw [if_pos (.inl e1)]
      exact ⟨rfl, trivial⟩
    · have i2 : inB (I : Int) x.length = true := by rw [inB_nat]; simp; omega
      have n1 : decide ((I : Int) = ((List.length x : Nat) : Int)) = false := by simp; omega
      simp only [n1, i2, Bool.false_eq_true, if_false]
      refine ⟨?_, by simp⟩
      have et : m_impl_rootTrack_1 (x.getD (I - 1) default) = tR x (I - 1) := rfl
      have et' : m_impl_rootTrack_1 (x.getD I default) = tR x I := rfl
      simp only [et, et']
      by_cases e2 : tR x (I - 1) = a
      · rw [if_pos (show decide (tR x (I - 1) = a) = true by simpa using e2), if_pos (.inr (.inl e2))]; rfl
      · rw [if_neg (show ¬ decide (tR x (I - 1) = a) = true by simpa using e2)]
        by_cases e3 : kind = 0
        · rw [if_pos (show decide (kind = 0) = true by simpa using e3), if_pos (.inr (.inr e3))]; rfl
        · rw [if_neg (show ¬ decide (kind = 0) = true by simpa using e3), if_neg (show ¬ (I = x.length ∨ tR x (I - 1) = a ∨ kind = 0) by rintro (h | h | h) <;> contradiction)]
          unfold m_impl_rootTrack_2 m_impl_rootTrack_3 shareOf
          have eb : m_impl_BetweenVectors = m_spec_l01Between := rfl
          rw [eb]
          by_cases e4 : kind = 2 <;> simp [e4]
theorem root_spec (x : List B4) (kind a L : Int) (h : okT (tR x) x.length L = true) : m_spec_l05Root x a kind = rootAt x kind a ∧ p_spec_l05Root x a kind = true := by
  obtain ⟨h1, h2, h3, h4⟩ := okT_have h
  obtain ⟨f1, J, hJ, f2, f3, f4⟩ := find_ok (tR x) a kind L x.length h
  have hb := fstT_le (tR x) a x.length 0
  have hg := fstT_gt (tR x) a x.length 0
  have hl := fstT_lt (tR x) a x.length 0
  have hI : idxT (tR x) a x.length = fstT (tR x) a x.length 0 := rfl
  rw [← hI] at hb hg hl
  have hL : ((List.range' 0 x.length).map (tR x)).length = x.length := by simp
  have hw : IntKind.wrap .i64 ((J : Int) + 1) = ((J + 1 : Nat) : Int) := wrapS (by omega)
  unfold m_spec_l05Root p_spec_l05Root m_spec_l05Inside p_spec_l05Inside rootAt
  rw [(rootAt_eq x (by omega)).1, (rootAt_eq x (by omega)).2, f1, f2, hw, hL, inB_nat, inB_nat, atI_times _ hJ, atI_nat, atI_nat]
  have d1 : decide (J < x.length) = true := by simp; omega
  rw [d1]
  generalize idxT (tR x) a x.length = I at *
  by_cases e0 : I = 0
  · subst e0
    have hJ0 : J = 0 := f3
    subst hJ0
    have hlt : ¬ tR x 0 < a := by have := hg (by omega); omega
    rw [if_pos rfl]
    by_cases e3 : kind = 0
    · simp [e3]
    · by_cases e4 : ((0 + 1 : Nat) : Int) < ((List.length x : Nat) : Int)
      · simp [e3, hlt]
      · simp [e3, hlt]
  · rw [if_neg e0] at f3 ⊢
    subst f3
    have hle := hl (I - 1) (Nat.zero_le _) (by omega)
    by_cases e3 : kind = 0
    · rw [if_pos (show I = x.length ∨ tR x (I - 1) = a ∨ kind = 0 from .inr (.inr e3))]; simp [e3]
    · by_cases e1 : I = x.length
      · rw [if_pos (show I = x.length ∨ tR x (I - 1) = a ∨ kind = 0 from .inl e1)]
        have : ¬ ((I - 1 + 1 : Nat) : Int) < ((List.length x : Nat) : Int) := by omega
        simp only [e3, decide_false, Bool.false_eq_true, if_false, this]
        simp
      · have hlt : ((I - 1 + 1 : Nat) : Int) < ((List.length x : Nat) : Int) := by omega
        by_cases e2 : tR x (I - 1) = a
        · rw [if_pos (show I = x.length ∨ tR x (I - 1) = a ∨ kind = 0 from .inr (.inl e2))]
          have : ¬ tR x (I - 1) < a := by omega
          simp [e3, hlt, this]
        · have hta : tR x (I - 1) < a := by omega
          rw [if_neg (show ¬ (I = x.length ∨ tR x (I - 1) = a ∨ kind = 0) by rintro (h | h | h) <;> contradiction), f4 (by omega) hta e3, show I - 1 + 1 = I by omega]
          rw [show I - 1 + 1 = I by omega] at hlt
          have : I < x.length := by omega
          simp [e3, hlt, hta, this]
end Go.Proofs
namespace Go.Proofs
open Go.Ab
theorem okClip_root {c : ClipT} (h : okClip c = true) : okT (tR c.2.2.2) c.2.2.2.length c.1 = true := by
  unfold okClip at h
  simp only [Bool.and_eq_true] at h
  exact h.2.2.2.2
theorem core_TravelOf (c : ClipT) (a b : Int) (h : ShortC c) : p_impl_TravelOf c a b = true ∧ p_spec_TravelOf c a b = true ∧ m_impl_TravelOf c a b = m_spec_TravelOf c a b := by
  obtain ⟨c1, c2, c3, c4⟩ := core_ValidClip c h
  unfold p_impl_TravelOf p_spec_TravelOf m_impl_TravelOf m_spec_TravelOf p_impl_hasTime m_impl_hasTime p_impl_Clip_root m_impl_Clip_root
  rw [c1, c2, c3, c4]
  cases hk : okClip c with
  | false => simp
  | true =>
    have hr := okClip_root hk
    have e : m_impl_LessVectors = m_spec_l01Less := rfl
    rw [(root_impl _ _ _ _ hr).1, (root_impl _ _ _ _ hr).1, (root_impl _ _ _ _ hr).2, (root_impl _ _ _ _ hr).2, (root_spec _ _ _ _ hr).1, (root_spec _ _ _ _ hr).1, (root_spec _ _ _ _ hr).2, (root_spec _ _ _ _ hr).2, l00In_iff, l00In_iff, e]
    cases decide (0 ≤ a) <;> cases decide (a ≤ c.1) <;> cases decide (0 ≤ b) <;> cases decide (b ≤ c.1) <;> simp
theorem law_TravelOf (a b : Int) (x : List (List K5)) (y : List B4) (_ : (Lit.int .i64 a).wf = true) (_ : (Lit.int .i64 b).wf = true) (hx : x.length ≤ maxLen)
    (hq : ∀ q ∈ x, List.length q ≤ maxLen ∧ (∀ qq ∈ q, (Lit.int .i64 qq.1).wf = true ∧ Canon .f32 qq.2.1 ∧ Canon .f32 qq.2.2.1 ∧ Canon .f32 qq.2.2.2.1 ∧ Canon .f32 qq.2.2.2.2)) (hy : y.length ≤ maxLen)
    (_ : ∀ q ∈ y, (Lit.int .i64 q.1).wf = true ∧ Canon .f32 q.2.1 ∧ Canon .f32 q.2.2.1 ∧ Canon .f32 q.2.2.2) (f : Int) (_ : (Lit.int .i64 f).wf = true) (t : Int) (_ : (Lit.int .i64 t).wf = true) :
    g_laws_FnExactTravelOf [.agg [.int .i64 a, .int .i64 b, .sl (List.map en1 x), .sl (List.map en2 y)], .int .i64 f, .int .i64 t] = some (.bool true) := by
  have key : p_laws_FnExactTravelOf (a, b, x, y) f t = true ∧ m_laws_FnExactTravelOf (a, b, x, y) f t = true := by
    unfold p_laws_FnExactTravelOf m_laws_FnExactTravelOf
    have hc : HasC' (a, b, x, y) := ⟨hx, has_of hq, hy⟩
    obtain ⟨s1, s2⟩ := sz_Clip (a, b, x, y) 1048576 hc (by omega) (by omega)
    by_cases hs : m_laws_szClip (a, b, x, y) 1048576 < 0
    · simp [hs, s1]
    · obtain ⟨k1, k2, k3⟩ := s2 hs
      obtain ⟨c1, c2, c3⟩ := core_TravelOf (a, b, x, y) f t k1
      simp [hs, s1, to_Clip _ k1, c1, c2, c3, eq_Vector, eq_Clip _ k1]
  unfold g_laws_FnExactTravelOf
  simp only [dc_en1_map, dc_en2_map, key.1, key.2, if_true]
end Go.Proofs
