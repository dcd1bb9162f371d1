/- What functions that FnExactMirrorPose reaches compute. No conditions. -/
import Derived.Test.YtlpbpdjledpfbabMirrorPoseY0
set_option maxRecDepth 100000
set_option maxHeartbeats 4000000
set_option linter.all false
namespace Go.Proofs
open Go.Ab
theorem sl89_0 (x0 : (List Int)) (x1 : Int) : ∀ (n : Nat) (z0_0 : Int) (o : (Bool × Int × Unit)) (K : IExit → St → Prop), l_slices_IndexFunc_int64_int64_0 x0 x1 n z0_0 = some o → (∀
      st, o.1 = true → outM .any st [(.t 4)] = some (.int .i64 o.2.1) → K .ret st) → (∀ st, o.1 = false → Wk st (⟨[], []⟩ : St) → K (.exit 0) st) → eA (tabOf [(58, wM .any
      g_impl_IsPairing_1)]) (.loop lb89_0) (⟨[(0, (.sl (List.map (AV.int .i64) x0))), (1, (.fn (.func 58) [] [(.ptr (.int .i64 x1) 0)])), (7, (.int .i64 ((List.length x0 : Nat) :
      Int))), (8, (.int .i64 z0_0))], []⟩ : St) K := by
  intro n
  induction n with
  | zero =>
    intro z0_0 o K h h0 h1
    simp only [l_slices_IndexFunc_int64_int64_0, reduceCtorEq] at h
  | succ n ih =>
    intro z0_0 o K h h0 h1
    refine eA_loop ?_
    unfold lb89_0
    unfold l_slices_IndexFunc_int64_int64_0 at h
    (try simp only [need_iff] at h)
    simp only [
      need_iff, h, grpA, vsliceS, grpS, grpD, grpF, grpL, eop, vop, bop, uop, fltop, convop, endOk, newE, new1, freshL, Md.isNew, outV, pureV, pureX, pure1, AV.cells, AV.one,
            storable, laid, refless, refless1, vload, loadC, storeC, vnil, vfaddr, vextract, flatT, flatE, flatC, vconv, vmm, vidxA, viaddrA, vfield, vlen, elemsOf, dF32, dF64,
            dI64, dU8, dBool, dStr, esOk, elemsS, vsliceX, bnd, ownV, ownC, own1, ownT, isSl, nSl, endL, Md.isOwn, purge, purgeH, purgeB, purgeE, hasName, name1, List.any_cons,
            List.any_nil, Md.isWr, pureV.pureP, Option.map, reduceIte, Nat.reduceEqDiff, Nat.reduceAdd, Nat.reduceMul, Nat.reduceLT, Nat.reduceLeDiff, List.mapM_cons, List.mapM_nil,
            Option.pure_def, Option.bind_eq_bind, Option.bind_some, implies_true, forall_const, beq_self_eq_true, decide_true, decide_false, eq_self, Int.reduceEq, Int.reduceLE,
            Int.reduceLT, if_true, if_false, fc89_0, fc89_1, fc89_2, fc89_3, fc89_4, Int.reduceAdd, Int.reduceSub, Int.reduceMul, Int.reduceNeg, Int.reducePow, Nat.reducePow,
            Int.reduceToNat, Nat.reduceSub, List.replicate, Nat.reduceBEq, wAs, wA, wC, zipW, noDupN, grpE, g_impl_IsPairing_1, grpC, en0, dc_en0, en1, dc_en1]
    repeat' (first
      | ((first | (refine eGI_of (fun hc => ?_) (fun hc => ?_)) | (refine eCc_of (fun hc => ?_) (fun hc => ?_)) | (have hc := True.intro; refine KW_refl ?_)) <;> (try simp only [Bool.not_eq_true', Bool.not_eq_false'] at hc) <;> (try simp only [hc, need_iff, reduceCtorEq, Bool.not_eq_true', decide_eq_false_iff_not, Bool.not_true, Bool.not_false, Bool.false_or, Bool.true_or, Bool.true_and, Bool.false_and, Bool.and_eq_true, Bool.or_eq_true, if_true, if_false, reduceIte, Bool.false_eq_true, and_true, true_and, false_or, or_false, decide_eq_true_eq, not_false_eq_true, not_true_eq_false] at h) <;> (try (have hc2 := hc; simp only [decide_eq_true_eq, decide_eq_false_iff_not] at hc2; (first | (replace hc2 := eq_false hc2) | (replace hc2 := eq_true hc2)); simp only [hc2, if_true, if_false, need_iff, reduceCtorEq, Bool.not_eq_true', decide_eq_false_iff_not, Bool.not_true, Bool.not_false, Bool.false_or, Bool.true_or, Bool.true_and, Bool.false_and, Bool.and_eq_true, Bool.or_eq_true, if_true, if_false, reduceIte, Bool.false_eq_true, and_true, true_and, false_or, or_false, decide_eq_true_eq, not_false_eq_true, not_true_eq_false] at h)) <;> simp only [hc,
      need_iff, h, grpA, vsliceS, grpS, grpD, grpF, grpL, eop, vop, bop, uop, fltop, convop, endOk, newE, new1, freshL, Md.isNew, outV, pureV, pureX, pure1, AV.cells, AV.one,
            storable, laid, refless, refless1, vload, loadC, storeC, vnil, vfaddr, vextract, flatT, flatE, flatC, vconv, vmm, vidxA, viaddrA, vfield, vlen, elemsOf, dF32, dF64,
            dI64, dU8, dBool, dStr, esOk, elemsS, vsliceX, bnd, ownV, ownC, own1, ownT, isSl, nSl, endL, Md.isOwn, purge, purgeH, purgeB, purgeE, hasName, name1, List.any_cons,
            List.any_nil, Md.isWr, pureV.pureP, Option.map, reduceIte, Nat.reduceEqDiff, Nat.reduceAdd, Nat.reduceMul, Nat.reduceLT, Nat.reduceLeDiff, List.mapM_cons, List.mapM_nil,
            Option.pure_def, Option.bind_eq_bind, Option.bind_some, implies_true, forall_const, beq_self_eq_true, decide_true, decide_false, eq_self, Int.reduceEq, Int.reduceLE,
            Int.reduceLT, if_true, if_false, fc89_0, fc89_1, fc89_2, fc89_3, fc89_4, Int.reduceAdd, Int.reduceSub, Int.reduceMul, Int.reduceNeg, Int.reducePow, Nat.reducePow,
            Int.reduceToNat, Nat.reduceSub, List.replicate, Nat.reduceBEq, wAs, wA, wC, zipW, noDupN, grpE, g_impl_IsPairing_1, grpC, en0, dc_en0, en1, dc_en1]))
    all_goals (repeat (replace h := And.right h))
    all_goals first
      | (refine eA_wk (wk_norm (ks := [0, 1, 7, 8]) (ls := []) ?_) (eA_cast ?_ (ih _ _ _ h h0 h1)); (simp only [normOk, optIn, blkIn, nameIn,
      need_iff, h, grpA, vsliceS, grpS, grpD, grpF, grpL, eop, vop, bop, uop, fltop, convop, endOk, newE, new1, freshL, Md.isNew, outV, pureV, pureX, pure1, AV.cells, AV.one,
            storable, laid, refless, refless1, vload, loadC, storeC, vnil, vfaddr, vextract, flatT, flatE, flatC, vconv, vmm, vidxA, viaddrA, vfield, vlen, elemsOf, dF32, dF64,
            dI64, dU8, dBool, dStr, esOk, elemsS, vsliceX, bnd, ownV, ownC, own1, ownT, isSl, nSl, endL, Md.isOwn, purge, purgeH, purgeB, purgeE, hasName, name1, List.any_cons,
            List.any_nil, Md.isWr, pureV.pureP, Option.map, reduceIte, Nat.reduceEqDiff, Nat.reduceAdd, Nat.reduceMul, Nat.reduceLT, Nat.reduceLeDiff, List.mapM_cons, List.mapM_nil,
            Option.pure_def, Option.bind_eq_bind, Option.bind_some, implies_true, forall_const, beq_self_eq_true, decide_true, decide_false, eq_self, Int.reduceEq, Int.reduceLE,
            Int.reduceLT, if_true, if_false, fc89_0, fc89_1, fc89_2, fc89_3, fc89_4, Int.reduceAdd, Int.reduceSub, Int.reduceMul, Int.reduceNeg, Int.reducePow, Nat.reducePow,
            Int.reduceToNat, Nat.reduceSub, List.replicate, Nat.reduceBEq, wAs, wA, wC, zipW, noDupN, grpE, g_impl_IsPairing_1, grpC, en0, dc_en0, en1, dc_en1] <;> rfl); (simp only [normS, List.map_append, List.length_append, List.map_set, List.length_set, List.map_replicate, List.length_replicate, List.map_nil, List.map_cons,
      need_iff, h, grpA, vsliceS, grpS, grpD, grpF, grpL, eop, vop, bop, uop, fltop, convop, endOk, newE, new1, freshL, Md.isNew, outV, pureV, pureX, pure1, AV.cells, AV.one,
            storable, laid, refless, refless1, vload, loadC, storeC, vnil, vfaddr, vextract, flatT, flatE, flatC, vconv, vmm, vidxA, viaddrA, vfield, vlen, elemsOf, dF32, dF64,
            dI64, dU8, dBool, dStr, esOk, elemsS, vsliceX, bnd, ownV, ownC, own1, ownT, isSl, nSl, endL, Md.isOwn, purge, purgeH, purgeB, purgeE, hasName, name1, List.any_cons,
            List.any_nil, Md.isWr, pureV.pureP, Option.map, reduceIte, Nat.reduceEqDiff, Nat.reduceAdd, Nat.reduceMul, Nat.reduceLT, Nat.reduceLeDiff, List.mapM_cons, List.mapM_nil,
            Option.pure_def, Option.bind_eq_bind, Option.bind_some, implies_true, forall_const, beq_self_eq_true, decide_true, decide_false, eq_self, Int.reduceEq, Int.reduceLE,
            Int.reduceLT, if_true, if_false, fc89_0, fc89_1, fc89_2, fc89_3, fc89_4, Int.reduceAdd, Int.reduceSub, Int.reduceMul, Int.reduceNeg, Int.reducePow, Nat.reducePow,
            Int.reduceToNat, Nat.reduceSub, List.replicate, Nat.reduceBEq, wAs, wA, wC, zipW, noDupN, grpE, g_impl_IsPairing_1, grpC, en0, dc_en0, en1, dc_en1] <;> first | rfl | (simp only [Nat.add_comm]; done)))
      | (cases h; refine h0 _ rfl ?_; simp only [
      grpA, vsliceS, grpS, grpD, grpF, grpL, eop, vop, bop, uop, fltop, convop, endOk, newE, new1, freshL, Md.isNew, outV, pureV, pureX, pure1, AV.cells, AV.one, storable, laid,
            refless, refless1, vload, loadC, storeC, vnil, vfaddr, vextract, flatT, flatE, flatC, vconv, vmm, vidxA, viaddrA, vfield, vlen, elemsOf, dF32, dF64, dI64, dU8, dBool,
            dStr, esOk, elemsS, vsliceX, bnd, ownV, ownC, own1, ownT, isSl, nSl, endL, Md.isOwn, purge, purgeH, purgeB, purgeE, hasName, name1, List.any_cons, List.any_nil, Md.isWr,
            pureV.pureP, Option.map, reduceIte, Nat.reduceEqDiff, Nat.reduceAdd, Nat.reduceMul, Nat.reduceLT, Nat.reduceLeDiff, List.mapM_cons, List.mapM_nil, Option.pure_def,
            Option.bind_eq_bind, Option.bind_some, implies_true, forall_const, beq_self_eq_true, decide_true, decide_false, eq_self, Int.reduceEq, Int.reduceLE, Int.reduceLT,
            if_true, if_false, fc89_0, fc89_1, fc89_2, fc89_3, fc89_4, Int.reduceAdd, Int.reduceSub, Int.reduceMul, Int.reduceNeg, Int.reducePow, Nat.reducePow, Int.reduceToNat,
            Nat.reduceSub, List.replicate, Nat.reduceBEq, wAs, wA, wC, zipW, noDupN, grpE, g_impl_IsPairing_1, grpC, en0, dc_en0, en1, dc_en1])
      | (cases h; refine h1 _ rfl (Wk.cast (wk_norm (ks := []) (ls := []) ?_) ?_); (simp only [normOk, optIn, blkIn, nameIn,
      grpA, vsliceS, grpS, grpD, grpF, grpL, eop, vop, bop, uop, fltop, convop, endOk, newE, new1, freshL, Md.isNew, outV, pureV, pureX, pure1, AV.cells, AV.one, storable, laid,
            refless, refless1, vload, loadC, storeC, vnil, vfaddr, vextract, flatT, flatE, flatC, vconv, vmm, vidxA, viaddrA, vfield, vlen, elemsOf, dF32, dF64, dI64, dU8, dBool,
            dStr, esOk, elemsS, vsliceX, bnd, ownV, ownC, own1, ownT, isSl, nSl, endL, Md.isOwn, purge, purgeH, purgeB, purgeE, hasName, name1, List.any_cons, List.any_nil, Md.isWr,
            pureV.pureP, Option.map, reduceIte, Nat.reduceEqDiff, Nat.reduceAdd, Nat.reduceMul, Nat.reduceLT, Nat.reduceLeDiff, List.mapM_cons, List.mapM_nil, Option.pure_def,
            Option.bind_eq_bind, Option.bind_some, implies_true, forall_const, beq_self_eq_true, decide_true, decide_false, eq_self, Int.reduceEq, Int.reduceLE, Int.reduceLT,
            if_true, if_false, fc89_0, fc89_1, fc89_2, fc89_3, fc89_4, Int.reduceAdd, Int.reduceSub, Int.reduceMul, Int.reduceNeg, Int.reducePow, Nat.reducePow, Int.reduceToNat,
            Nat.reduceSub, List.replicate, Nat.reduceBEq, wAs, wA, wC, zipW, noDupN, grpE, g_impl_IsPairing_1, grpC, en0, dc_en0, en1, dc_en1] <;> rfl); (simp only [normS, List.map_append, List.length_append, List.map_set, List.length_set, List.map_replicate, List.length_replicate,
      grpA, vsliceS, grpS, grpD, grpF, grpL, eop, vop, bop, uop, fltop, convop, endOk, newE, new1, freshL, Md.isNew, outV, pureV, pureX, pure1, AV.cells, AV.one, storable, laid,
            refless, refless1, vload, loadC, storeC, vnil, vfaddr, vextract, flatT, flatE, flatC, vconv, vmm, vidxA, viaddrA, vfield, vlen, elemsOf, dF32, dF64, dI64, dU8, dBool,
            dStr, esOk, elemsS, vsliceX, bnd, ownV, ownC, own1, ownT, isSl, nSl, endL, Md.isOwn, purge, purgeH, purgeB, purgeE, hasName, name1, List.any_cons, List.any_nil, Md.isWr,
            pureV.pureP, Option.map, reduceIte, Nat.reduceEqDiff, Nat.reduceAdd, Nat.reduceMul, Nat.reduceLT, Nat.reduceLeDiff, List.mapM_cons, List.mapM_nil, Option.pure_def,
            Option.bind_eq_bind, Option.bind_some, implies_true, forall_const, beq_self_eq_true, decide_true, decide_false, eq_self, Int.reduceEq, Int.reduceLE, Int.reduceLT,
            if_true, if_false, fc89_0, fc89_1, fc89_2, fc89_3, fc89_4, Int.reduceAdd, Int.reduceSub, Int.reduceMul, Int.reduceNeg, Int.reducePow, Nat.reducePow, Int.reduceToNat,
            Nat.reduceSub, List.replicate, Nat.reduceBEq, wAs, wA, wC, zipW, noDupN, grpE, g_impl_IsPairing_1, grpC, en0, dc_en0, en1, dc_en1] <;> first | rfl | (simp only [Nat.add_comm]; done)))
theorem s89 : ∀ vs r, g_slices_IndexFunc_int64_int64 vs = some r → SaysM Try.prog .any 89 vs r := by
  intro vs r h
  unfold g_slices_IndexFunc_int64_int64 at h
  split at h
  · rename_i w0 y1
    cases hd_y0 : decL dI64 w0 with
    | none => rw [hd_y0] at h; cases h
    | some y0 =>
    rw [hd_y0] at h
    obtain rfl := decL_inv dI64_inv hd_y0
    clear hd_y0
    dsimp only at h
    split at h
    · rename_i hp
      cases h
      refine spec_of (m := .any) (tab := tabOf [(58, wM .any g_impl_IsPairing_1)]) (cp := cp89) (ic := ic89) (rvl := [(.t 4)]) hm (tabOk_cons (m := .any) s58 tabOk_nil) Try.func89 rfl rfl rfl (by kernel_rfl) rfl (Nat.le_of_ble_eq_true rfl) (Nat.le_of_ble_eq_true rfl) ?_
      show eA _ _ _ _
      unfold ic89
      simp only [p_slices_IndexFunc_int64_int64, Bool.and_eq_true, Bool.or_eq_true, decide_eq_true_eq, Bool.not_eq_true', decide_eq_false_iff_not] at hp
      simp only [
          hp, grpA, vsliceS, grpS, grpD, grpF, grpL, eop, vop, bop, uop, fltop, convop, endOk, newE, new1, freshL, Md.isNew, outV, pureV, pureX, pure1, AV.cells, AV.one, storable,
                laid, refless, refless1, vload, loadC, storeC, vnil, vfaddr, vextract, flatT, flatE, flatC, vconv, vmm, vidxA, viaddrA, vfield, vlen, elemsOf, dF32, dF64, dI64, dU8,
                dBool, dStr, esOk, elemsS, vsliceX, bnd, ownV, ownC, own1, ownT, isSl, nSl, endL, Md.isOwn, purge, purgeH, purgeB, purgeE, hasName, name1, List.any_cons,
                List.any_nil, Md.isWr, pureV.pureP, Option.map, reduceIte, Nat.reduceEqDiff, Nat.reduceAdd, Nat.reduceMul, Nat.reduceLT, Nat.reduceLeDiff, List.mapM_cons,
                List.mapM_nil, Option.pure_def, Option.bind_eq_bind, Option.bind_some, implies_true, forall_const, beq_self_eq_true, decide_true, decide_false, eq_self,
                Int.reduceEq, Int.reduceLE, Int.reduceLT, if_true, if_false, fc89_0, fc89_1, fc89_2, fc89_3, fc89_4, Int.reduceAdd, Int.reduceSub, Int.reduceMul, Int.reduceNeg,
                Int.reducePow, Nat.reducePow, Int.reduceToNat, Nat.reduceSub, List.replicate, Nat.reduceBEq, wAs, wA, wC, zipW, noDupN, grpE, g_impl_IsPairing_1, grpC, en0, dc_en0,
                en1, dc_en1]
      repeat' (first
        | ((first | (refine eGI_of (fun h => ?_) (fun h => ?_)) | (refine eCc_of (fun h => ?_) (fun h => ?_)) | (have h := True.intro; refine KW_refl ?_)) <;> (try simp only [Bool.not_eq_true', Bool.not_eq_false'] at h) <;> (try simp only [h, reduceCtorEq, Bool.not_eq_true', decide_eq_false_iff_not, Bool.not_true, Bool.not_false, Bool.false_or, Bool.true_or, Bool.true_and, Bool.false_and, Bool.and_eq_true, Bool.or_eq_true, if_true, if_false, reduceIte, Bool.false_eq_true, and_true, true_and, false_or, or_false, decide_eq_true_eq, not_false_eq_true, not_true_eq_false] at hp) <;> (try (have h2 := h; simp only [decide_eq_true_eq, decide_eq_false_iff_not] at h2; (first | (replace h2 := eq_false h2) | (replace h2 := eq_true h2)); simp only [h2, if_true, if_false, false_or, true_or, or_true, or_false, and_true, true_and, not_false_eq_true, not_true_eq_false] at hp)) <;> simp only [h,
          hp, grpA, vsliceS, grpS, grpD, grpF, grpL, eop, vop, bop, uop, fltop, convop, endOk, newE, new1, freshL, Md.isNew, outV, pureV, pureX, pure1, AV.cells, AV.one, storable,
                laid, refless, refless1, vload, loadC, storeC, vnil, vfaddr, vextract, flatT, flatE, flatC, vconv, vmm, vidxA, viaddrA, vfield, vlen, elemsOf, dF32, dF64, dI64, dU8,
                dBool, dStr, esOk, elemsS, vsliceX, bnd, ownV, ownC, own1, ownT, isSl, nSl, endL, Md.isOwn, purge, purgeH, purgeB, purgeE, hasName, name1, List.any_cons,
                List.any_nil, Md.isWr, pureV.pureP, Option.map, reduceIte, Nat.reduceEqDiff, Nat.reduceAdd, Nat.reduceMul, Nat.reduceLT, Nat.reduceLeDiff, List.mapM_cons,
                List.mapM_nil, Option.pure_def, Option.bind_eq_bind, Option.bind_some, implies_true, forall_const, beq_self_eq_true, decide_true, decide_false, eq_self,
                Int.reduceEq, Int.reduceLE, Int.reduceLT, if_true, if_false, fc89_0, fc89_1, fc89_2, fc89_3, fc89_4, Int.reduceAdd, Int.reduceSub, Int.reduceMul, Int.reduceNeg,
                Int.reducePow, Nat.reducePow, Int.reduceToNat, Nat.reduceSub, List.replicate, Nat.reduceBEq, wAs, wA, wC, zipW, noDupN, grpE, g_impl_IsPairing_1, grpC, en0, dc_en0,
                en1, dc_en1])
        | (refine eA_wk (wk_norm (ks := [0, 1, 7, 8]) (ls := []) ?_) (eA_cast ?_ (sl89_0 y0 y1 _ _ _ _ (getD_some (d := default) (x := (l_slices_IndexFunc_int64_int64_0 y0 y1 (Int.toNat (((List.length y0 : Nat) : Int) - 0) + 2) 0)) ?_) ?_ ?_)); (simp only [nilS, nilV, normOk, optIn, blkIn, nameIn, 
          hp, grpA, vsliceS, grpS, grpD, grpF, grpL, eop, vop, bop, uop, fltop, convop, endOk, newE, new1, freshL, Md.isNew, outV, pureV, pureX, pure1, AV.cells, AV.one, storable,
                laid, refless, refless1, vload, loadC, storeC, vnil, vfaddr, vextract, flatT, flatE, flatC, vconv, vmm, vidxA, viaddrA, vfield, vlen, elemsOf, dF32, dF64, dI64, dU8,
                dBool, dStr, esOk, elemsS, vsliceX, bnd, ownV, ownC, own1, ownT, isSl, nSl, endL, Md.isOwn, purge, purgeH, purgeB, purgeE, hasName, name1, List.any_cons,
                List.any_nil, Md.isWr, pureV.pureP, Option.map, reduceIte, Nat.reduceEqDiff, Nat.reduceAdd, Nat.reduceMul, Nat.reduceLT, Nat.reduceLeDiff, List.mapM_cons,
                List.mapM_nil, Option.pure_def, Option.bind_eq_bind, Option.bind_some, implies_true, forall_const, beq_self_eq_true, decide_true, decide_false, eq_self,
                Int.reduceEq, Int.reduceLE, Int.reduceLT, if_true, if_false, fc89_0, fc89_1, fc89_2, fc89_3, fc89_4, Int.reduceAdd, Int.reduceSub, Int.reduceMul, Int.reduceNeg,
                Int.reducePow, Nat.reducePow, Int.reduceToNat, Nat.reduceSub, List.replicate, Nat.reduceBEq, wAs, wA, wC, zipW, noDupN, grpE, g_impl_IsPairing_1, grpC, en0, dc_en0,
                en1, dc_en1] <;> rfl); (simp only [nilS, nilV, normS,  List.map_append, List.length_append, List.map_set, List.length_set, List.map_replicate, List.length_replicate, List.map_nil, List.map_cons,
          hp, grpA, vsliceS, grpS, grpD, grpF, grpL, eop, vop, bop, uop, fltop, convop, endOk, newE, new1, freshL, Md.isNew, outV, pureV, pureX, pure1, AV.cells, AV.one, storable,
                laid, refless, refless1, vload, loadC, storeC, vnil, vfaddr, vextract, flatT, flatE, flatC, vconv, vmm, vidxA, viaddrA, vfield, vlen, elemsOf, dF32, dF64, dI64, dU8,
                dBool, dStr, esOk, elemsS, vsliceX, bnd, ownV, ownC, own1, ownT, isSl, nSl, endL, Md.isOwn, purge, purgeH, purgeB, purgeE, hasName, name1, List.any_cons,
                List.any_nil, Md.isWr, pureV.pureP, Option.map, reduceIte, Nat.reduceEqDiff, Nat.reduceAdd, Nat.reduceMul, Nat.reduceLT, Nat.reduceLeDiff, List.mapM_cons,
                List.mapM_nil, Option.pure_def, Option.bind_eq_bind, Option.bind_some, implies_true, forall_const, beq_self_eq_true, decide_true, decide_false, eq_self,
                Int.reduceEq, Int.reduceLE, Int.reduceLT, if_true, if_false, fc89_0, fc89_1, fc89_2, fc89_3, fc89_4, Int.reduceAdd, Int.reduceSub, Int.reduceMul, Int.reduceNeg,
                Int.reducePow, Nat.reducePow, Int.reduceToNat, Nat.reduceSub, List.replicate, Nat.reduceBEq, wAs, wA, wC, zipW, noDupN, grpE, g_impl_IsPairing_1, grpC, en0, dc_en0,
                en1, dc_en1] <;> first | rfl | (simp only [Nat.add_comm]; done)); (simp only [hp]); (
        intro st2 ht hw; simp only [Kq_ret, Kb_ret, Kl_ret, ret_ok]; first | exact h0 _ hw | exact h0 _ rfl hw | exact h1 _ rfl hw | exact h0 _ ht hw | exact h1 _ ht hw | refine ⟨_, hw, ?_⟩); rotate_left; (
        intro st2 ht hw; (try simp only [ht, reduceCtorEq, Bool.not_eq_true', decide_eq_false_iff_not, Bool.not_true, Bool.not_false, Bool.false_or, Bool.true_or, Bool.true_and, Bool.false_and, Bool.and_eq_true, Bool.or_eq_true, if_true, if_false, reduceIte, Bool.false_eq_true, and_true, true_and, false_or, or_false, decide_eq_true_eq, not_false_eq_true, not_true_eq_false] at hp); simp only [
          hp, grpA, vsliceS, grpS, grpD, grpF, grpL, eop, vop, bop, uop, fltop, convop, endOk, newE, new1, freshL, Md.isNew, outV, pureV, pureX, pure1, AV.cells, AV.one, storable,
                laid, refless, refless1, vload, loadC, storeC, vnil, vfaddr, vextract, flatT, flatE, flatC, vconv, vmm, vidxA, viaddrA, vfield, vlen, elemsOf, dF32, dF64, dI64, dU8,
                dBool, dStr, esOk, elemsS, vsliceX, bnd, ownV, ownC, own1, ownT, isSl, nSl, endL, Md.isOwn, purge, purgeH, purgeB, purgeE, hasName, name1, List.any_cons,
                List.any_nil, Md.isWr, pureV.pureP, Option.map, reduceIte, Nat.reduceEqDiff, Nat.reduceAdd, Nat.reduceMul, Nat.reduceLT, Nat.reduceLeDiff, List.mapM_cons,
                List.mapM_nil, Option.pure_def, Option.bind_eq_bind, Option.bind_some, implies_true, forall_const, beq_self_eq_true, decide_true, decide_false, eq_self,
                Int.reduceEq, Int.reduceLE, Int.reduceLT, if_true, if_false, fc89_0, fc89_1, fc89_2, fc89_3, fc89_4, Int.reduceAdd, Int.reduceSub, Int.reduceMul, Int.reduceNeg,
                Int.reducePow, Nat.reducePow, Int.reduceToNat, Nat.reduceSub, List.replicate, Nat.reduceBEq, wAs, wA, wC, zipW, noDupN, grpE, g_impl_IsPairing_1, grpC, en0, dc_en0,
                en1, dc_en1]; refine KW_of hw ?_; simp only [ht, 
          hp, grpA, vsliceS, grpS, grpD, grpF, grpL, eop, vop, bop, uop, fltop, convop, endOk, newE, new1, freshL, Md.isNew, outV, pureV, pureX, pure1, AV.cells, AV.one, storable,
                laid, refless, refless1, vload, loadC, storeC, vnil, vfaddr, vextract, flatT, flatE, flatC, vconv, vmm, vidxA, viaddrA, vfield, vlen, elemsOf, dF32, dF64, dI64, dU8,
                dBool, dStr, esOk, elemsS, vsliceX, bnd, ownV, ownC, own1, ownT, isSl, nSl, endL, Md.isOwn, purge, purgeH, purgeB, purgeE, hasName, name1, List.any_cons,
                List.any_nil, Md.isWr, pureV.pureP, Option.map, reduceIte, Nat.reduceEqDiff, Nat.reduceAdd, Nat.reduceMul, Nat.reduceLT, Nat.reduceLeDiff, List.mapM_cons,
                List.mapM_nil, Option.pure_def, Option.bind_eq_bind, Option.bind_some, implies_true, forall_const, beq_self_eq_true, decide_true, decide_false, eq_self,
                Int.reduceEq, Int.reduceLE, Int.reduceLT, if_true, if_false, fc89_0, fc89_1, fc89_2, fc89_3, fc89_4, Int.reduceAdd, Int.reduceSub, Int.reduceMul, Int.reduceNeg,
                Int.reducePow, Nat.reducePow, Int.reduceToNat, Nat.reduceSub, List.replicate, Nat.reduceBEq, wAs, wA, wC, zipW, noDupN, grpE, g_impl_IsPairing_1, grpC, en0, dc_en0,
                en1, dc_en1])))
      all_goals (try simp only [*, m_slices_IndexFunc_int64_int64, Bool.and_true, Bool.true_and, Bool.and_false, Bool.false_and, Bool.or_true, Bool.true_or, Bool.or_false, Bool.false_or, Bool.not_true, Bool.not_false, Bool.false_eq_true, if_true, if_false, reduceIte, decide_true, decide_false])
      all_goals (try (simp_all; done))
    · cases h
  · cases h
def m_slices_ContainsFunc_int64_int64 (x0 : (List Int)) (x1 : Int) : Bool := (decide (0 ≤ (m_slices_IndexFunc_int64_int64 x0 x1)))
def p_slices_ContainsFunc_int64_int64 (x0 : (List Int)) (x1 : Int) : Bool := (p_slices_IndexFunc_int64_int64 x0 x1)
def g_slices_ContainsFunc_int64_int64 : List AV → Option AV
  | [.sl w0, .fn (.func 58) [] [.ptr (.int .i64 y1) 0]] => (match decL dI64 w0 with | some y0 => (if p_slices_ContainsFunc_int64_int64 y0 y1 = true then some (.bool (m_slices_ContainsFunc_int64_int64 y0 y1)) else none) | none => none)
  | _ => none
def ic57 : ICode := (.seq (.reg [⟨(some 4), none, (.mov (.c (.bool false)))⟩] [0, 1]) (.seq (.reg [⟨(some 5), none, (.mov (.t 0))⟩, ⟨(some 6), none, (.mov (.t 1))⟩, ⟨(some 7), none,
      (.call (.fn 89) [(.t 5), (.t 6)] [])⟩, ⟨(some 8), none, (.bin .geq false (.t 7) (.c (.int .i64 0)))⟩, ⟨(some 4), none, (.mov (.t 8))⟩] [4]) .ret))
def cp57 : CP := CP.mk [] [] [[0, 1], [4]] 9 [] []
theorem fc57_0 : IntKind.wrap .i64 0 = 0 := by decide
theorem fc57_1 : IntKind.wrap .i64 1 = 1 := by decide
theorem fc57_2 : IntKind.wrap .i64 2 = 2 := by decide
theorem fc57_3 : IntKind.wrap .i64 3 = 3 := by decide
theorem fc57_4 : IntKind.wrap .i64 4 = 4 := by decide
theorem s57 : ∀ vs r, g_slices_ContainsFunc_int64_int64 vs = some r → SaysM Try.prog .any 57 vs r := by
  intro vs r h
  unfold g_slices_ContainsFunc_int64_int64 at h
  split at h
  · rename_i w0 y1
    cases hd_y0 : decL dI64 w0 with
    | none => rw [hd_y0] at h; cases h
    | some y0 =>
    rw [hd_y0] at h
    obtain rfl := decL_inv dI64_inv hd_y0
    clear hd_y0
    dsimp only at h
    split at h
    · rename_i hp
      cases h
      refine spec_of (m := .any) (tab := tabOf [(89, wM .any g_slices_IndexFunc_int64_int64)]) (cp := cp57) (ic := ic57) (rvl := [(.t 4)]) hm (tabOk_cons (m := .any) s89 tabOk_nil) Try.func57 rfl rfl rfl (by kernel_rfl) rfl (Nat.le_of_ble_eq_true rfl) (Nat.le_of_ble_eq_true rfl) ?_
      show eA _ _ _ _
      unfold ic57
      simp only [p_slices_ContainsFunc_int64_int64, Bool.and_eq_true, Bool.or_eq_true, decide_eq_true_eq, Bool.not_eq_true', decide_eq_false_iff_not] at hp
      simp only [
          hp, grpA, vsliceS, grpS, grpD, grpF, grpL, eop, vop, bop, uop, fltop, convop, endOk, newE, new1, freshL, Md.isNew, outV, pureV, pureX, pure1, AV.cells, AV.one, storable,
                laid, refless, refless1, vload, loadC, storeC, vnil, vfaddr, vextract, flatT, flatE, flatC, vconv, vmm, vidxA, viaddrA, vfield, vlen, elemsOf, dF32, dF64, dI64, dU8,
                dBool, dStr, esOk, elemsS, vsliceX, bnd, ownV, ownC, own1, ownT, isSl, nSl, endL, Md.isOwn, purge, purgeH, purgeB, purgeE, hasName, name1, List.any_cons,
                List.any_nil, Md.isWr, pureV.pureP, Option.map, reduceIte, Nat.reduceEqDiff, Nat.reduceAdd, Nat.reduceMul, Nat.reduceLT, Nat.reduceLeDiff, List.mapM_cons,
                List.mapM_nil, Option.pure_def, Option.bind_eq_bind, Option.bind_some, implies_true, forall_const, beq_self_eq_true, decide_true, decide_false, eq_self,
                Int.reduceEq, Int.reduceLE, Int.reduceLT, if_true, if_false, fc57_0, fc57_1, fc57_2, fc57_3, fc57_4, Int.reduceAdd, Int.reduceSub, Int.reduceMul, Int.reduceNeg,
                Int.reducePow, Nat.reducePow, Int.reduceToNat, Nat.reduceSub, List.replicate, Nat.reduceBEq, wAs, wA, wC, zipW, noDupN, grpE, g_slices_IndexFunc_int64_int64, grpC,
                en0, dc_en0, en1, dc_en1]
      repeat' (first
        | ((first | (refine eGI_of (fun h => ?_) (fun h => ?_)) | (refine eCc_of (fun h => ?_) (fun h => ?_))) <;> (try simp only [Bool.not_eq_true', Bool.not_eq_false'] at h) <;> (try simp only [h, reduceCtorEq, Bool.not_eq_true', decide_eq_false_iff_not, Bool.not_true, Bool.not_false, Bool.false_or, Bool.true_or, Bool.true_and, Bool.false_and, Bool.and_eq_true, Bool.or_eq_true, if_true, if_false, reduceIte, Bool.false_eq_true, and_true, true_and, false_or, or_false, decide_eq_true_eq, not_false_eq_true, not_true_eq_false] at hp) <;> (try (have h2 := h; simp only [decide_eq_true_eq, decide_eq_false_iff_not] at h2; (first | (replace h2 := eq_false h2) | (replace h2 := eq_true h2)); simp only [h2, if_true, if_false, false_or, true_or, or_true, or_false, and_true, true_and, not_false_eq_true, not_true_eq_false] at hp)) <;> simp only [h,
          hp, grpA, vsliceS, grpS, grpD, grpF, grpL, eop, vop, bop, uop, fltop, convop, endOk, newE, new1, freshL, Md.isNew, outV, pureV, pureX, pure1, AV.cells, AV.one, storable,
                laid, refless, refless1, vload, loadC, storeC, vnil, vfaddr, vextract, flatT, flatE, flatC, vconv, vmm, vidxA, viaddrA, vfield, vlen, elemsOf, dF32, dF64, dI64, dU8,
                dBool, dStr, esOk, elemsS, vsliceX, bnd, ownV, ownC, own1, ownT, isSl, nSl, endL, Md.isOwn, purge, purgeH, purgeB, purgeE, hasName, name1, List.any_cons,
                List.any_nil, Md.isWr, pureV.pureP, Option.map, reduceIte, Nat.reduceEqDiff, Nat.reduceAdd, Nat.reduceMul, Nat.reduceLT, Nat.reduceLeDiff, List.mapM_cons,
                List.mapM_nil, Option.pure_def, Option.bind_eq_bind, Option.bind_some, implies_true, forall_const, beq_self_eq_true, decide_true, decide_false, eq_self,
                Int.reduceEq, Int.reduceLE, Int.reduceLT, if_true, if_false, fc57_0, fc57_1, fc57_2, fc57_3, fc57_4, Int.reduceAdd, Int.reduceSub, Int.reduceMul, Int.reduceNeg,
                Int.reducePow, Nat.reducePow, Int.reduceToNat, Nat.reduceSub, List.replicate, Nat.reduceBEq, wAs, wA, wC, zipW, noDupN, grpE, g_slices_IndexFunc_int64_int64, grpC,
                en0, dc_en0, en1, dc_en1]))
      all_goals (try simp only [*, m_slices_ContainsFunc_int64_int64, Bool.and_true, Bool.true_and, Bool.and_false, Bool.false_and, Bool.or_true, Bool.true_or, Bool.or_false, Bool.false_or, Bool.not_true, Bool.not_false, Bool.false_eq_true, if_true, if_false, reduceIte, decide_true, decide_false])
      all_goals (try (simp_all; done))
    · cases h
  · cases h
def l_impl_IsPairing_0 (x0 : (List (Int × Nat × Nat × Nat))) (x1 : (List Int)) : Nat → Int → Option (Bool × Bool × Unit)
  | 0, _ => none
  | n + 1, z0_0 => (if (decide (z0_0 < ((List.length x1 : Nat) : Int))) = true then (need (inB z0_0 (List.length x1)) (need (inB (atI x1 z0_0) (List.length x1)) (if (decide ((atI x1
        (atI x1 z0_0)) = z0_0)) = true then (if (decide (0 < z0_0)) = true then (need (inB (atI x1 z0_0) (List.length x0)) (need (inB z0_0 (List.length x0)) (need (inB (atI x0
        z0_0).1 (List.length x1)) (if (decide ((atI x0 (atI x1 z0_0)).1 = (atI x1 (atI x0 z0_0).1))) = true then (l_impl_IsPairing_0 x0 x1 n (IntKind.wrap .i64 (z0_0 + 1))) else
        (some (true, false, default)))))) else (l_impl_IsPairing_0 x0 x1 n (IntKind.wrap .i64 (z0_0 + 1)))) else (some (true, false, default))))) else (some (false, default, ())))
def m_impl_IsPairing (x0 : (List (Int × Nat × Nat × Nat))) (x1 : (List Int)) : Bool := (if (m_impl_ValidSkeleton x0) = true then (if (decide (((List.length x1 : Nat) : Int) =
      ((List.length x0 : Nat) : Int))) = true then (if (m_slices_ContainsFunc_int64_int64 x1 ((List.length x0 : Nat) : Int)) = true then false else (if (Option.getD
      (l_impl_IsPairing_0 x0 x1 (Int.toNat (((List.length x1 : Nat) : Int) - 0) + 2) 0) default).1 = true then (Option.getD (l_impl_IsPairing_0 x0 x1 (Int.toNat (((List.length x1 :
      Nat) : Int) - 0) + 2) 0) default).2.1 else true)) else false) else false)
def p_impl_IsPairing (x0 : (List (Int × Nat × Nat × Nat))) (x1 : (List Int)) : Bool := ((p_impl_ValidSkeleton x0) && (!(m_impl_ValidSkeleton x0) || (!(decide (((List.length x1 :
      Nat) : Int) = ((List.length x0 : Nat) : Int))) || ((p_slices_ContainsFunc_int64_int64 x1 ((List.length x0 : Nat) : Int)) && ((m_slices_ContainsFunc_int64_int64 x1
      ((List.length x0 : Nat) : Int)) || (Option.isSome (l_impl_IsPairing_0 x0 x1 (Int.toNat (((List.length x1 : Nat) : Int) - 0) + 2) 0)))))))
def g_impl_IsPairing : List AV → Option AV
  | [.agg [.sl w0], .sl w1] => (match decL dc_en0 w0 with | some y0 => ((match decL dI64 w1 with | some y1 => (if p_impl_IsPairing y0 y1 = true then some (.bool (m_impl_IsPairing y0 y1)) else none) | none => none)) | none => none)
  | _ => none
def lb15_0 : ICode := (.seq (.reg [⟨(some 26), none, (.bin .lss false (.t 25) (.t 24))⟩] [1, 2, 23, 24, 25, 26]) (.seq (.cond (.t 26) .skip (.exit 0)) (.seq (.block 1 (.seq (.reg
      [⟨(some 27), none, (.mov (.t 25))⟩, ⟨(some 28), none, (.iaddrS 1 (.t 23) (.t 25))⟩, ⟨(some 29), none, (.load none (.t 28))⟩, ⟨(some 6), none, (.mov (.t 27))⟩, ⟨(some 7), none,
      (.mov (.t 29))⟩] [1, 2, 6, 7, 23, 24, 25]) (.seq (.reg [⟨(some 30), none, (.mov (.t 1))⟩, ⟨(some 31), none, (.mov (.t 7))⟩, ⟨(some 32), none, (.iaddrS 1 (.t 30) (.t 31))⟩,
      ⟨(some 33), none, (.load none (.t 32))⟩, ⟨(some 34), none, (.mov (.t 6))⟩, ⟨(some 35), none, (.bin .neq false (.t 33) (.t 34))⟩, ⟨(some 36), none, (.mov (.t 35))⟩, ⟨(some 37),
      (some (36, false)), (.mov (.t 6))⟩, ⟨(some 38), (some (36, false)), (.bin .gtr false (.t 37) (.c (.int .i64 0)))⟩, ⟨(some 39), (some (36, false)), (.mov (.t 38))⟩, ⟨(some 40),
      (some (39, true)), (.faddr 0 (.t 2))⟩, ⟨(some 41), (some (39, true)), (.load none (.t 40))⟩, ⟨(some 42), (some (39, true)), (.mov (.t 7))⟩, ⟨(some 43), (some (39, true)),
      (.iaddrS 4 (.t 41) (.t 42))⟩, ⟨(some 44), (some (39, true)), (.faddr 0 (.t 43))⟩, ⟨(some 45), (some (39, true)), (.load none (.t 44))⟩, ⟨(some 46), (some (39, true)), (.mov
      (.t 1))⟩, ⟨(some 47), (some (39, true)), (.faddr 0 (.t 2))⟩, ⟨(some 48), (some (39, true)), (.load none (.t 47))⟩, ⟨(some 49), (some (39, true)), (.mov (.t 6))⟩, ⟨(some 50),
      (some (39, true)), (.iaddrS 4 (.t 48) (.t 49))⟩, ⟨(some 51), (some (39, true)), (.faddr 0 (.t 50))⟩, ⟨(some 52), (some (39, true)), (.load none (.t 51))⟩, ⟨(some 53), (some
      (39, true)), (.iaddrS 1 (.t 46) (.t 52))⟩, ⟨(some 54), (some (39, true)), (.load none (.t 53))⟩, ⟨(some 55), (some (39, true)), (.bin .neq false (.t 45) (.t 54))⟩, ⟨(some 56),
      (some (36, false)), (.pick (.t 39) (.t 55) (.c (.bool false)))⟩, ⟨(some 57), none, (.pick (.t 36) (.c (.bool true)) (.t 56))⟩] [1, 2, 23, 24, 25, 57]) (.cond (.t 57) (.seq
      (.reg [⟨(some 4), none, (.mov (.c (.bool false)))⟩] [4]) .ret) .skip)))) (.reg [⟨(some 58), none, (.bin .add false (.t 25) (.c (.int .i64 1)))⟩, ⟨(some 25), none, (.mov (.t
      58))⟩] [1, 2, 23, 24, 25]))))
def ic15 : ICode := (.seq (.reg [⟨(some 2), none, (.box 1 (.t 0))⟩, ⟨(some 4), none, (.mov (.c (.bool false)))⟩] [1, 2]) (.seq (.reg [⟨(some 8), none, (.faddr 0 (.t 2))⟩, ⟨(some 9),
      none, (.load none (.t 8))⟩, ⟨(some 10), none, (.len false (.t 9))⟩, ⟨(some 5), none, (.alloc (.int .i64 0))⟩, ⟨none, none, (.store 1 (.t 5) (.t 10))⟩] [1, 2, 5]) (.seq (.seq
      (.reg [⟨(some 11), none, (.load (some 1) (.t 2))⟩, ⟨(some 12), none, (.call (.fn 56) [(.t 11)] [])⟩, ⟨(some 13), none, (.un .not (.t 12))⟩, ⟨(some 14), none, (.mov (.t 13))⟩,
      ⟨(some 15), (some (14, false)), (.mov (.t 1))⟩, ⟨(some 16), (some (14, false)), (.len false (.t 15))⟩, ⟨(some 17), (some (14, false)), (.load none (.t 5))⟩, ⟨(some 18), (some
      (14, false)), (.bin .neq false (.t 16) (.t 17))⟩, ⟨(some 19), none, (.pick (.t 14) (.c (.bool true)) (.t 18))⟩] [1, 2, 5, 19]) (.cond (.t 19) (.seq (.reg [⟨(some 4), none,
      (.mov (.c (.bool false)))⟩] [4]) .ret) .skip)) (.seq (.seq (.reg [⟨(some 20), none, (.mov (.t 1))⟩, ⟨(some 21), none, (.mkfn (.func 58) [] [(.t 5)])⟩, ⟨(some 22), none, (.call
      (.fn 57) [(.t 20), (.t 21)] [])⟩] [1, 2, 22]) (.cond (.t 22) (.seq (.reg [⟨(some 4), none, (.mov (.c (.bool false)))⟩] [4]) .ret) .skip)) (.seq (.seq (.reg [⟨(some 23), none,
      (.mov (.t 1))⟩, ⟨(some 24), none, (.len false (.t 23))⟩, ⟨(some 25), none, (.mov (.c (.int .i64 0)))⟩] [1, 2, 23, 24, 25]) (.block 0 (.loop lb15_0))) (.seq (.reg [⟨(some 4),
      none, (.mov (.c (.bool true)))⟩] [4]) .ret))))))
def cp15 : CP := CP.mk [] [] [[1, 2], [1, 2, 5], [1, 2, 5, 19], [4], [1, 2, 22], [4], [1, 2, 23, 24, 25], [1, 2, 23, 24, 25, 26], [1, 2, 6, 7, 23, 24, 25], [1, 2, 23, 24, 25, 57],
      [4], [1, 2, 23, 24, 25], [4]] 59 [] []
theorem fc15_0 : IntKind.wrap .i64 0 = 0 := by decide
theorem fc15_1 : IntKind.wrap .i64 1 = 1 := by decide
theorem fc15_2 : IntKind.wrap .i64 2 = 2 := by decide
theorem fc15_3 : IntKind.wrap .i64 3 = 3 := by decide
theorem fc15_4 : IntKind.wrap .i64 4 = 4 := by decide
theorem sl15_0 (x0 : (List (Int × Nat × Nat × Nat))) (x1 : (List Int)) : ∀ (n : Nat) (z0_0 : Int) (o : (Bool × Bool × Unit)) (K : IExit → St → Prop), l_impl_IsPairing_0 x0 x1 n z0_0
      = some o → (∀ st, o.1 = true → outM .any st [(.t 4)] = some (.bool o.2.1) → K .ret st) → (∀ st, o.1 = false → Wk st (⟨[], []⟩ : St) → K (.exit 0) st) → eA (tabOf [(56, wM .any
      g_impl_ValidSkeleton), (57, wM .any g_slices_ContainsFunc_int64_int64)]) (.loop lb15_0) (⟨[(1, (.sl (List.map (AV.int .i64) x1))), (2, (.lptr 2 0 0)), (23, (.sl (List.map
      (AV.int .i64) x1))), (24, (.int .i64 ((List.length x1 : Nat) : Int))), (25, (.int .i64 z0_0))], [(2, (some ⟨1, false, [(AV.agg [(.sl (List.map en0 x0))])]⟩))]⟩ : St) K := by
  intro n
  induction n with
  | zero =>
    intro z0_0 o K h h0 h1
    simp only [l_impl_IsPairing_0, reduceCtorEq] at h
  | succ n ih =>
    intro z0_0 o K h h0 h1
    refine eA_loop ?_
    unfold lb15_0
    unfold l_impl_IsPairing_0 at h
    (try simp only [need_iff] at h)
    simp only [
      need_iff, h, grpA, vsliceS, grpS, grpD, grpF, grpL, eop, vop, bop, uop, fltop, convop, endOk, newE, new1, freshL, Md.isNew, outV, pureV, pureX, pure1, AV.cells, AV.one,
            storable, laid, refless, refless1, vload, loadC, storeC, vnil, vfaddr, vextract, flatT, flatE, flatC, vconv, vmm, vidxA, viaddrA, vfield, vlen, elemsOf, dF32, dF64,
            dI64, dU8, dBool, dStr, esOk, elemsS, vsliceX, bnd, ownV, ownC, own1, ownT, isSl, nSl, endL, Md.isOwn, purge, purgeH, purgeB, purgeE, hasName, name1, List.any_cons,
            List.any_nil, Md.isWr, pureV.pureP, Option.map, reduceIte, Nat.reduceEqDiff, Nat.reduceAdd, Nat.reduceMul, Nat.reduceLT, Nat.reduceLeDiff, List.mapM_cons, List.mapM_nil,
            Option.pure_def, Option.bind_eq_bind, Option.bind_some, implies_true, forall_const, beq_self_eq_true, decide_true, decide_false, eq_self, Int.reduceEq, Int.reduceLE,
            Int.reduceLT, if_true, if_false, fc15_0, fc15_1, fc15_2, fc15_3, fc15_4, Int.reduceAdd, Int.reduceSub, Int.reduceMul, Int.reduceNeg, Int.reducePow, Nat.reducePow,
            Int.reduceToNat, Nat.reduceSub, List.replicate, Nat.reduceBEq, wAs, wA, wC, zipW, noDupN, grpE, g_impl_ValidSkeleton, g_slices_ContainsFunc_int64_int64, grpC, en0,
            dc_en0, en1, dc_en1, ↓b_pick, ePk_true, ePk_false]
    repeat' (first
      | ((first | (refine eGI_of (fun hc => ?_) (fun hc => ?_)) | (refine eCc_of (fun hc => ?_) (fun hc => ?_)) | (refine ePk_of (fun hc => ?_) (fun hc => ?_)) | (have hc := True.intro; refine KW_refl ?_)) <;> (try simp only [Bool.not_eq_true', Bool.not_eq_false'] at hc) <;> (try simp only [hc, need_iff, reduceCtorEq, Bool.not_eq_true', decide_eq_false_iff_not, Bool.not_true, Bool.not_false, Bool.false_or, Bool.true_or, Bool.true_and, Bool.false_and, Bool.and_eq_true, Bool.or_eq_true, if_true, if_false, reduceIte, Bool.false_eq_true, and_true, true_and, false_or, or_false, decide_eq_true_eq, not_false_eq_true, not_true_eq_false] at h) <;> (try (have hc2 := hc; simp only [decide_eq_true_eq, decide_eq_false_iff_not] at hc2; (first | (replace hc2 := eq_false hc2) | (replace hc2 := eq_true hc2)); simp only [hc2, if_true, if_false, need_iff, reduceCtorEq, Bool.not_eq_true', decide_eq_false_iff_not, Bool.not_true, Bool.not_false, Bool.false_or, Bool.true_or, Bool.true_and, Bool.false_and, Bool.and_eq_true, Bool.or_eq_true, if_true, if_false, reduceIte, Bool.false_eq_true, and_true, true_and, false_or, or_false, decide_eq_true_eq, not_false_eq_true, not_true_eq_false] at h)) <;> simp only [hc,
      need_iff, h, grpA, vsliceS, grpS, grpD, grpF, grpL, eop, vop, bop, uop, fltop, convop, endOk, newE, new1, freshL, Md.isNew, outV, pureV, pureX, pure1, AV.cells, AV.one,
            storable, laid, refless, refless1, vload, loadC, storeC, vnil, vfaddr, vextract, flatT, flatE, flatC, vconv, vmm, vidxA, viaddrA, vfield, vlen, elemsOf, dF32, dF64,
            dI64, dU8, dBool, dStr, esOk, elemsS, vsliceX, bnd, ownV, ownC, own1, ownT, isSl, nSl, endL, Md.isOwn, purge, purgeH, purgeB, purgeE, hasName, name1, List.any_cons,
            List.any_nil, Md.isWr, pureV.pureP, Option.map, reduceIte, Nat.reduceEqDiff, Nat.reduceAdd, Nat.reduceMul, Nat.reduceLT, Nat.reduceLeDiff, List.mapM_cons, List.mapM_nil,
            Option.pure_def, Option.bind_eq_bind, Option.bind_some, implies_true, forall_const, beq_self_eq_true, decide_true, decide_false, eq_self, Int.reduceEq, Int.reduceLE,
            Int.reduceLT, if_true, if_false, fc15_0, fc15_1, fc15_2, fc15_3, fc15_4, Int.reduceAdd, Int.reduceSub, Int.reduceMul, Int.reduceNeg, Int.reducePow, Nat.reducePow,
            Int.reduceToNat, Nat.reduceSub, List.replicate, Nat.reduceBEq, wAs, wA, wC, zipW, noDupN, grpE, g_impl_ValidSkeleton, g_slices_ContainsFunc_int64_int64, grpC, en0,
            dc_en0, en1, dc_en1, ↓b_pick, ePk_true, ePk_false]))
    all_goals (repeat (replace h := And.right h))
    all_goals first
      | (refine eA_wk (wk_norm (ks := [1, 2, 23, 24, 25]) (ls := [2]) ?_) (eA_cast ?_ (ih _ _ _ h h0 h1)); (simp only [normOk, optIn, blkIn, nameIn,
      need_iff, h, grpA, vsliceS, grpS, grpD, grpF, grpL, eop, vop, bop, uop, fltop, convop, endOk, newE, new1, freshL, Md.isNew, outV, pureV, pureX, pure1, AV.cells, AV.one,
            storable, laid, refless, refless1, vload, loadC, storeC, vnil, vfaddr, vextract, flatT, flatE, flatC, vconv, vmm, vidxA, viaddrA, vfield, vlen, elemsOf, dF32, dF64,
            dI64, dU8, dBool, dStr, esOk, elemsS, vsliceX, bnd, ownV, ownC, own1, ownT, isSl, nSl, endL, Md.isOwn, purge, purgeH, purgeB, purgeE, hasName, name1, List.any_cons,
            List.any_nil, Md.isWr, pureV.pureP, Option.map, reduceIte, Nat.reduceEqDiff, Nat.reduceAdd, Nat.reduceMul, Nat.reduceLT, Nat.reduceLeDiff, List.mapM_cons, List.mapM_nil,
            Option.pure_def, Option.bind_eq_bind, Option.bind_some, implies_true, forall_const, beq_self_eq_true, decide_true, decide_false, eq_self, Int.reduceEq, Int.reduceLE,
            Int.reduceLT, if_true, if_false, fc15_0, fc15_1, fc15_2, fc15_3, fc15_4, Int.reduceAdd, Int.reduceSub, Int.reduceMul, Int.reduceNeg, Int.reducePow, Nat.reducePow,
            Int.reduceToNat, Nat.reduceSub, List.replicate, Nat.reduceBEq, wAs, wA, wC, zipW, noDupN, grpE, g_impl_ValidSkeleton, g_slices_ContainsFunc_int64_int64, grpC, en0,
            dc_en0, en1, dc_en1, ↓b_pick, ePk_true, ePk_false] <;> rfl); (simp only [normS, List.map_append, List.length_append, List.map_set, List.length_set, List.map_replicate, List.length_replicate, List.map_nil, List.map_cons,
      need_iff, h, grpA, vsliceS, grpS, grpD, grpF, grpL, eop, vop, bop, uop, fltop, convop, endOk, newE, new1, freshL, Md.isNew, outV, pureV, pureX, pure1, AV.cells, AV.one,
            storable, laid, refless, refless1, vload, loadC, storeC, vnil, vfaddr, vextract, flatT, flatE, flatC, vconv, vmm, vidxA, viaddrA, vfield, vlen, elemsOf, dF32, dF64,
            dI64, dU8, dBool, dStr, esOk, elemsS, vsliceX, bnd, ownV, ownC, own1, ownT, isSl, nSl, endL, Md.isOwn, purge, purgeH, purgeB, purgeE, hasName, name1, List.any_cons,
            List.any_nil, Md.isWr, pureV.pureP, Option.map, reduceIte, Nat.reduceEqDiff, Nat.reduceAdd, Nat.reduceMul, Nat.reduceLT, Nat.reduceLeDiff, List.mapM_cons, List.mapM_nil,
            Option.pure_def, Option.bind_eq_bind, Option.bind_some, implies_true, forall_const, beq_self_eq_true, decide_true, decide_false, eq_self, Int.reduceEq, Int.reduceLE,
            Int.reduceLT, if_true, if_false, fc15_0, fc15_1, fc15_2, fc15_3, fc15_4, Int.reduceAdd, Int.reduceSub, Int.reduceMul, Int.reduceNeg, Int.reducePow, Nat.reducePow,
            Int.reduceToNat, Nat.reduceSub, List.replicate, Nat.reduceBEq, wAs, wA, wC, zipW, noDupN, grpE, g_impl_ValidSkeleton, g_slices_ContainsFunc_int64_int64, grpC, en0,
            dc_en0, en1, dc_en1, ↓b_pick, ePk_true, ePk_false] <;> first | rfl | (simp only [Nat.add_comm]; done)))
      | (cases h; refine h0 _ rfl ?_; simp only [
      grpA, vsliceS, grpS, grpD, grpF, grpL, eop, vop, bop, uop, fltop, convop, endOk, newE, new1, freshL, Md.isNew, outV, pureV, pureX, pure1, AV.cells, AV.one, storable, laid,
            refless, refless1, vload, loadC, storeC, vnil, vfaddr, vextract, flatT, flatE, flatC, vconv, vmm, vidxA, viaddrA, vfield, vlen, elemsOf, dF32, dF64, dI64, dU8, dBool,
            dStr, esOk, elemsS, vsliceX, bnd, ownV, ownC, own1, ownT, isSl, nSl, endL, Md.isOwn, purge, purgeH, purgeB, purgeE, hasName, name1, List.any_cons, List.any_nil, Md.isWr,
            pureV.pureP, Option.map, reduceIte, Nat.reduceEqDiff, Nat.reduceAdd, Nat.reduceMul, Nat.reduceLT, Nat.reduceLeDiff, List.mapM_cons, List.mapM_nil, Option.pure_def,
            Option.bind_eq_bind, Option.bind_some, implies_true, forall_const, beq_self_eq_true, decide_true, decide_false, eq_self, Int.reduceEq, Int.reduceLE, Int.reduceLT,
            if_true, if_false, fc15_0, fc15_1, fc15_2, fc15_3, fc15_4, Int.reduceAdd, Int.reduceSub, Int.reduceMul, Int.reduceNeg, Int.reducePow, Nat.reducePow, Int.reduceToNat,
            Nat.reduceSub, List.replicate, Nat.reduceBEq, wAs, wA, wC, zipW, noDupN, grpE, g_impl_ValidSkeleton, g_slices_ContainsFunc_int64_int64, grpC, en0, dc_en0, en1, dc_en1,
            ↓b_pick, ePk_true, ePk_false])
      | (cases h; refine h1 _ rfl (Wk.cast (wk_norm (ks := []) (ls := []) ?_) ?_); (simp only [normOk, optIn, blkIn, nameIn,
      grpA, vsliceS, grpS, grpD, grpF, grpL, eop, vop, bop, uop, fltop, convop, endOk, newE, new1, freshL, Md.isNew, outV, pureV, pureX, pure1, AV.cells, AV.one, storable, laid,
            refless, refless1, vload, loadC, storeC, vnil, vfaddr, vextract, flatT, flatE, flatC, vconv, vmm, vidxA, viaddrA, vfield, vlen, elemsOf, dF32, dF64, dI64, dU8, dBool,
            dStr, esOk, elemsS, vsliceX, bnd, ownV, ownC, own1, ownT, isSl, nSl, endL, Md.isOwn, purge, purgeH, purgeB, purgeE, hasName, name1, List.any_cons, List.any_nil, Md.isWr,
            pureV.pureP, Option.map, reduceIte, Nat.reduceEqDiff, Nat.reduceAdd, Nat.reduceMul, Nat.reduceLT, Nat.reduceLeDiff, List.mapM_cons, List.mapM_nil, Option.pure_def,
            Option.bind_eq_bind, Option.bind_some, implies_true, forall_const, beq_self_eq_true, decide_true, decide_false, eq_self, Int.reduceEq, Int.reduceLE, Int.reduceLT,
            if_true, if_false, fc15_0, fc15_1, fc15_2, fc15_3, fc15_4, Int.reduceAdd, Int.reduceSub, Int.reduceMul, Int.reduceNeg, Int.reducePow, Nat.reducePow, Int.reduceToNat,
            Nat.reduceSub, List.replicate, Nat.reduceBEq, wAs, wA, wC, zipW, noDupN, grpE, g_impl_ValidSkeleton, g_slices_ContainsFunc_int64_int64, grpC, en0, dc_en0, en1, dc_en1,
            ↓b_pick, ePk_true, ePk_false] <;> rfl); (simp only [normS, List.map_append, List.length_append, List.map_set, List.length_set, List.map_replicate, List.length_replicate,
      grpA, vsliceS, grpS, grpD, grpF, grpL, eop, vop, bop, uop, fltop, convop, endOk, newE, new1, freshL, Md.isNew, outV, pureV, pureX, pure1, AV.cells, AV.one, storable, laid,
            refless, refless1, vload, loadC, storeC, vnil, vfaddr, vextract, flatT, flatE, flatC, vconv, vmm, vidxA, viaddrA, vfield, vlen, elemsOf, dF32, dF64, dI64, dU8, dBool,
            dStr, esOk, elemsS, vsliceX, bnd, ownV, ownC, own1, ownT, isSl, nSl, endL, Md.isOwn, purge, purgeH, purgeB, purgeE, hasName, name1, List.any_cons, List.any_nil, Md.isWr,
            pureV.pureP, Option.map, reduceIte, Nat.reduceEqDiff, Nat.reduceAdd, Nat.reduceMul, Nat.reduceLT, Nat.reduceLeDiff, List.mapM_cons, List.mapM_nil, Option.pure_def,
            Option.bind_eq_bind, Option.bind_some, implies_true, forall_const, beq_self_eq_true, decide_true, decide_false, eq_self, Int.reduceEq, Int.reduceLE, Int.reduceLT,
            if_true, if_false, fc15_0, fc15_1, fc15_2, fc15_3, fc15_4, Int.reduceAdd, Int.reduceSub, Int.reduceMul, Int.reduceNeg, Int.reducePow, Nat.reducePow, Int.reduceToNat,
            Nat.reduceSub, List.replicate, Nat.reduceBEq, wAs, wA, wC, zipW, noDupN, grpE, g_impl_ValidSkeleton, g_slices_ContainsFunc_int64_int64, grpC, en0, dc_en0, en1, dc_en1,
            ↓b_pick, ePk_true, ePk_false] <;> first | rfl | (simp only [Nat.add_comm]; done)))
theorem s15 : ∀ vs r, g_impl_IsPairing vs = some r → SaysM Try.prog .any 15 vs r := by
  intro vs r h
  unfold g_impl_IsPairing at h
  split at h
  · rename_i w0 w1
    cases hd_y0 : decL dc_en0 w0 with
    | none => rw [hd_y0] at h; cases h
    | some y0 =>
    rw [hd_y0] at h
    obtain rfl := decL_inv dc_en0_inv hd_y0
    clear hd_y0
    dsimp only at h
    cases hd_y1 : decL dI64 w1 with
    | none => rw [hd_y1] at h; cases h
    | some y1 =>
    rw [hd_y1] at h
    obtain rfl := decL_inv dI64_inv hd_y1
    clear hd_y1
    dsimp only at h
    split at h
    · rename_i hp
      cases h
      refine spec_of (m := .any) (tab := tabOf [(56, wM .any g_impl_ValidSkeleton), (57, wM .any g_slices_ContainsFunc_int64_int64)]) (cp := cp15) (ic := ic15) (rvl := [(.t 4)]) hm (tabOk_cons (m := .any) s56 (tabOk_cons (m := .any) s57 tabOk_nil)) Try.func15 rfl rfl rfl (by kernel_rfl) rfl (Nat.le_of_ble_eq_true rfl) (Nat.le_of_ble_eq_true rfl) ?_
      show eA _ _ _ _
      unfold ic15
      simp only [p_impl_IsPairing, Bool.and_eq_true, Bool.or_eq_true, decide_eq_true_eq, Bool.not_eq_true', decide_eq_false_iff_not] at hp
      simp only [
          hp, grpA, vsliceS, grpS, grpD, grpF, grpL, eop, vop, bop, uop, fltop, convop, endOk, newE, new1, freshL, Md.isNew, outV, pureV, pureX, pure1, AV.cells, AV.one, storable,
                laid, refless, refless1, vload, loadC, storeC, vnil, vfaddr, vextract, flatT, flatE, flatC, vconv, vmm, vidxA, viaddrA, vfield, vlen, elemsOf, dF32, dF64, dI64, dU8,
                dBool, dStr, esOk, elemsS, vsliceX, bnd, ownV, ownC, own1, ownT, isSl, nSl, endL, Md.isOwn, purge, purgeH, purgeB, purgeE, hasName, name1, List.any_cons,
                List.any_nil, Md.isWr, pureV.pureP, Option.map, reduceIte, Nat.reduceEqDiff, Nat.reduceAdd, Nat.reduceMul, Nat.reduceLT, Nat.reduceLeDiff, List.mapM_cons,
                List.mapM_nil, Option.pure_def, Option.bind_eq_bind, Option.bind_some, implies_true, forall_const, beq_self_eq_true, decide_true, decide_false, eq_self,
                Int.reduceEq, Int.reduceLE, Int.reduceLT, if_true, if_false, fc15_0, fc15_1, fc15_2, fc15_3, fc15_4, Int.reduceAdd, Int.reduceSub, Int.reduceMul, Int.reduceNeg,
                Int.reducePow, Nat.reducePow, Int.reduceToNat, Nat.reduceSub, List.replicate, Nat.reduceBEq, wAs, wA, wC, zipW, noDupN, grpE, g_impl_ValidSkeleton,
                g_slices_ContainsFunc_int64_int64, grpC, en0, dc_en0, en1, dc_en1, ↓b_pick, ePk_true, ePk_false]
      repeat' (first
        | ((first | (refine eGI_of (fun h => ?_) (fun h => ?_)) | (refine eCc_of (fun h => ?_) (fun h => ?_)) | (refine ePk_of (fun h => ?_) (fun h => ?_)) | (have h := True.intro; refine KW_refl ?_)) <;> (try simp only [Bool.not_eq_true', Bool.not_eq_false'] at h) <;> (try simp only [h, reduceCtorEq, Bool.not_eq_true', decide_eq_false_iff_not, Bool.not_true, Bool.not_false, Bool.false_or, Bool.true_or, Bool.true_and, Bool.false_and, Bool.and_eq_true, Bool.or_eq_true, if_true, if_false, reduceIte, Bool.false_eq_true, and_true, true_and, false_or, or_false, decide_eq_true_eq, not_false_eq_true, not_true_eq_false] at hp) <;> (try (have h2 := h; simp only [decide_eq_true_eq, decide_eq_false_iff_not] at h2; (first | (replace h2 := eq_false h2) | (replace h2 := eq_true h2)); simp only [h2, if_true, if_false, false_or, true_or, or_true, or_false, and_true, true_and, not_false_eq_true, not_true_eq_false] at hp)) <;> simp only [h,
          hp, grpA, vsliceS, grpS, grpD, grpF, grpL, eop, vop, bop, uop, fltop, convop, endOk, newE, new1, freshL, Md.isNew, outV, pureV, pureX, pure1, AV.cells, AV.one, storable,
                laid, refless, refless1, vload, loadC, storeC, vnil, vfaddr, vextract, flatT, flatE, flatC, vconv, vmm, vidxA, viaddrA, vfield, vlen, elemsOf, dF32, dF64, dI64, dU8,
                dBool, dStr, esOk, elemsS, vsliceX, bnd, ownV, ownC, own1, ownT, isSl, nSl, endL, Md.isOwn, purge, purgeH, purgeB, purgeE, hasName, name1, List.any_cons,
                List.any_nil, Md.isWr, pureV.pureP, Option.map, reduceIte, Nat.reduceEqDiff, Nat.reduceAdd, Nat.reduceMul, Nat.reduceLT, Nat.reduceLeDiff, List.mapM_cons,
                List.mapM_nil, Option.pure_def, Option.bind_eq_bind, Option.bind_some, implies_true, forall_const, beq_self_eq_true, decide_true, decide_false, eq_self,
                Int.reduceEq, Int.reduceLE, Int.reduceLT, if_true, if_false, fc15_0, fc15_1, fc15_2, fc15_3, fc15_4, Int.reduceAdd, Int.reduceSub, Int.reduceMul, Int.reduceNeg,
                Int.reducePow, Nat.reducePow, Int.reduceToNat, Nat.reduceSub, List.replicate, Nat.reduceBEq, wAs, wA, wC, zipW, noDupN, grpE, g_impl_ValidSkeleton,
                g_slices_ContainsFunc_int64_int64, grpC, en0, dc_en0, en1, dc_en1, ↓b_pick, ePk_true, ePk_false])
        | (refine eA_wk (wk_norm (ks := [1, 2, 23, 24, 25]) (ls := [2]) ?_) (eA_cast ?_ (sl15_0 y0 y1 _ _ _ _ (getD_some (d := default) (x := (l_impl_IsPairing_0 y0 y1 (Int.toNat (((List.length y1 : Nat) : Int) - 0) + 2) 0)) ?_) ?_ ?_)); (simp only [nilS, nilV, normOk, optIn, blkIn, nameIn, 
          hp, grpA, vsliceS, grpS, grpD, grpF, grpL, eop, vop, bop, uop, fltop, convop, endOk, newE, new1, freshL, Md.isNew, outV, pureV, pureX, pure1, AV.cells, AV.one, storable,
                laid, refless, refless1, vload, loadC, storeC, vnil, vfaddr, vextract, flatT, flatE, flatC, vconv, vmm, vidxA, viaddrA, vfield, vlen, elemsOf, dF32, dF64, dI64, dU8,
                dBool, dStr, esOk, elemsS, vsliceX, bnd, ownV, ownC, own1, ownT, isSl, nSl, endL, Md.isOwn, purge, purgeH, purgeB, purgeE, hasName, name1, List.any_cons,
                List.any_nil, Md.isWr, pureV.pureP, Option.map, reduceIte, Nat.reduceEqDiff, Nat.reduceAdd, Nat.reduceMul, Nat.reduceLT, Nat.reduceLeDiff, List.mapM_cons,
                List.mapM_nil, Option.pure_def, Option.bind_eq_bind, Option.bind_some, implies_true, forall_const, beq_self_eq_true, decide_true, decide_false, eq_self,
                Int.reduceEq, Int.reduceLE, Int.reduceLT, if_true, if_false, fc15_0, fc15_1, fc15_2, fc15_3, fc15_4, Int.reduceAdd, Int.reduceSub, Int.reduceMul, Int.reduceNeg,
                Int.reducePow, Nat.reducePow, Int.reduceToNat, Nat.reduceSub, List.replicate, Nat.reduceBEq, wAs, wA, wC, zipW, noDupN, grpE, g_impl_ValidSkeleton,
                g_slices_ContainsFunc_int64_int64, grpC, en0, dc_en0, en1, dc_en1, ↓b_pick, ePk_true, ePk_false] <;> rfl); (simp only [nilS, nilV, normS,  List.map_append, List.length_append, List.map_set, List.length_set, List.map_replicate, List.length_replicate, List.map_nil, List.map_cons,
          hp, grpA, vsliceS, grpS, grpD, grpF, grpL, eop, vop, bop, uop, fltop, convop, endOk, newE, new1, freshL, Md.isNew, outV, pureV, pureX, pure1, AV.cells, AV.one, storable,
                laid, refless, refless1, vload, loadC, storeC, vnil, vfaddr, vextract, flatT, flatE, flatC, vconv, vmm, vidxA, viaddrA, vfield, vlen, elemsOf, dF32, dF64, dI64, dU8,
                dBool, dStr, esOk, elemsS, vsliceX, bnd, ownV, ownC, own1, ownT, isSl, nSl, endL, Md.isOwn, purge, purgeH, purgeB, purgeE, hasName, name1, List.any_cons,
                List.any_nil, Md.isWr, pureV.pureP, Option.map, reduceIte, Nat.reduceEqDiff, Nat.reduceAdd, Nat.reduceMul, Nat.reduceLT, Nat.reduceLeDiff, List.mapM_cons,
                List.mapM_nil, Option.pure_def, Option.bind_eq_bind, Option.bind_some, implies_true, forall_const, beq_self_eq_true, decide_true, decide_false, eq_self,
                Int.reduceEq, Int.reduceLE, Int.reduceLT, if_true, if_false, fc15_0, fc15_1, fc15_2, fc15_3, fc15_4, Int.reduceAdd, Int.reduceSub, Int.reduceMul, Int.reduceNeg,
                Int.reducePow, Nat.reducePow, Int.reduceToNat, Nat.reduceSub, List.replicate, Nat.reduceBEq, wAs, wA, wC, zipW, noDupN, grpE, g_impl_ValidSkeleton,
                g_slices_ContainsFunc_int64_int64, grpC, en0, dc_en0, en1, dc_en1, ↓b_pick, ePk_true, ePk_false] <;> first | rfl | (simp only [Nat.add_comm]; done)); (simp only [hp]); (
        intro st2 ht hw; simp only [Kq_ret, Kb_ret, Kl_ret, ret_ok]; first | exact h0 _ hw | exact h0 _ rfl hw | exact h1 _ rfl hw | exact h0 _ ht hw | exact h1 _ ht hw | refine ⟨_, hw, ?_⟩); rotate_left; (
        intro st2 ht hw; (try simp only [ht, reduceCtorEq, Bool.not_eq_true', decide_eq_false_iff_not, Bool.not_true, Bool.not_false, Bool.false_or, Bool.true_or, Bool.true_and, Bool.false_and, Bool.and_eq_true, Bool.or_eq_true, if_true, if_false, reduceIte, Bool.false_eq_true, and_true, true_and, false_or, or_false, decide_eq_true_eq, not_false_eq_true, not_true_eq_false] at hp); simp only [
          hp, grpA, vsliceS, grpS, grpD, grpF, grpL, eop, vop, bop, uop, fltop, convop, endOk, newE, new1, freshL, Md.isNew, outV, pureV, pureX, pure1, AV.cells, AV.one, storable,
                laid, refless, refless1, vload, loadC, storeC, vnil, vfaddr, vextract, flatT, flatE, flatC, vconv, vmm, vidxA, viaddrA, vfield, vlen, elemsOf, dF32, dF64, dI64, dU8,
                dBool, dStr, esOk, elemsS, vsliceX, bnd, ownV, ownC, own1, ownT, isSl, nSl, endL, Md.isOwn, purge, purgeH, purgeB, purgeE, hasName, name1, List.any_cons,
                List.any_nil, Md.isWr, pureV.pureP, Option.map, reduceIte, Nat.reduceEqDiff, Nat.reduceAdd, Nat.reduceMul, Nat.reduceLT, Nat.reduceLeDiff, List.mapM_cons,
                List.mapM_nil, Option.pure_def, Option.bind_eq_bind, Option.bind_some, implies_true, forall_const, beq_self_eq_true, decide_true, decide_false, eq_self,
                Int.reduceEq, Int.reduceLE, Int.reduceLT, if_true, if_false, fc15_0, fc15_1, fc15_2, fc15_3, fc15_4, Int.reduceAdd, Int.reduceSub, Int.reduceMul, Int.reduceNeg,
                Int.reducePow, Nat.reducePow, Int.reduceToNat, Nat.reduceSub, List.replicate, Nat.reduceBEq, wAs, wA, wC, zipW, noDupN, grpE, g_impl_ValidSkeleton,
                g_slices_ContainsFunc_int64_int64, grpC, en0, dc_en0, en1, dc_en1, ↓b_pick, ePk_true, ePk_false]; refine KW_of hw ?_; simp only [ht, 
          hp, grpA, vsliceS, grpS, grpD, grpF, grpL, eop, vop, bop, uop, fltop, convop, endOk, newE, new1, freshL, Md.isNew, outV, pureV, pureX, pure1, AV.cells, AV.one, storable,
                laid, refless, refless1, vload, loadC, storeC, vnil, vfaddr, vextract, flatT, flatE, flatC, vconv, vmm, vidxA, viaddrA, vfield, vlen, elemsOf, dF32, dF64, dI64, dU8,
                dBool, dStr, esOk, elemsS, vsliceX, bnd, ownV, ownC, own1, ownT, isSl, nSl, endL, Md.isOwn, purge, purgeH, purgeB, purgeE, hasName, name1, List.any_cons,
                List.any_nil, Md.isWr, pureV.pureP, Option.map, reduceIte, Nat.reduceEqDiff, Nat.reduceAdd, Nat.reduceMul, Nat.reduceLT, Nat.reduceLeDiff, List.mapM_cons,
                List.mapM_nil, Option.pure_def, Option.bind_eq_bind, Option.bind_some, implies_true, forall_const, beq_self_eq_true, decide_true, decide_false, eq_self,
                Int.reduceEq, Int.reduceLE, Int.reduceLT, if_true, if_false, fc15_0, fc15_1, fc15_2, fc15_3, fc15_4, Int.reduceAdd, Int.reduceSub, Int.reduceMul, Int.reduceNeg,
                Int.reducePow, Nat.reducePow, Int.reduceToNat, Nat.reduceSub, List.replicate, Nat.reduceBEq, wAs, wA, wC, zipW, noDupN, grpE, g_impl_ValidSkeleton,
                g_slices_ContainsFunc_int64_int64, grpC, en0, dc_en0, en1, dc_en1, ↓b_pick, ePk_true, ePk_false])))
      all_goals (try simp only [*, m_impl_IsPairing, Bool.and_true, Bool.true_and, Bool.and_false, Bool.false_and, Bool.or_true, Bool.true_or, Bool.or_false, Bool.false_or, Bool.not_true, Bool.not_false, Bool.false_eq_true, if_true, if_false, reduceIte, decide_true, decide_false])
      all_goals (try (simp_all; done))
    · cases h
  · cases h
def m_impl_Vector_mirrored (x0 : (Nat × Nat × Nat)) : (Nat × Nat × Nat) := ((fneg .f32 x0.1), x0.2.1, x0.2.2)
def g_impl_Vector_mirrored : List AV → Option AV
  | [.agg [.flt .f32 y0, .flt .f32 y1, .flt .f32 y2]] => some (AV.agg [(.flt .f32 (m_impl_Vector_mirrored (y0, y1, y2)).1), (.flt
      .f32 (m_impl_Vector_mirrored (y0, y1, y2)).2.1), (.flt .f32 (m_impl_Vector_mirrored (y0, y1, y2)).2.2)])
  | _ => none
def ic62 : ICode := (.seq (.reg [⟨(some 1), none, (.box 3 (.t 0))⟩, ⟨(some 2), none, (.alloc (.agg [(.flt .f32 0), (.flt .f32 0), (.flt .f32 0)]))⟩] [1, 2]) (.seq (.reg [⟨(some 3),
      none, (.faddr 0 (.t 1))⟩, ⟨(some 4), none, (.load none (.t 3))⟩, ⟨(some 5), none, (.un .neg (.t 4))⟩, ⟨(some 6), none, (.faddr 1 (.t 1))⟩, ⟨(some 7), none, (.load none (.t
      6))⟩, ⟨(some 8), none, (.faddr 2 (.t 1))⟩, ⟨(some 9), none, (.load none (.t 8))⟩, ⟨(some 10), none, (.build [(.flt .f32 0), (.flt .f32 0), (.flt .f32 0)] [(0, 1, (.t 5)), (1,
      1, (.t 7)), (2, 1, (.t 9))])⟩, ⟨none, none, (.store 3 (.t 2) (.t 10))⟩] [2]) .ret))
def cp62 : CP := CP.mk [] [] [[1, 2], [2]] 11 [] []
theorem fc62_0 : IntKind.wrap .i64 0 = 0 := by decide
theorem fc62_1 : IntKind.wrap .i64 1 = 1 := by decide
theorem fc62_2 : IntKind.wrap .i64 2 = 2 := by decide
theorem fc62_3 : IntKind.wrap .i64 3 = 3 := by decide
theorem fc62_4 : IntKind.wrap .i64 4 = 4 := by decide
theorem s62 : ∀ vs r, g_impl_Vector_mirrored vs = some r → SaysM Try.prog .any 62 vs r := by
  intro vs r h
  unfold g_impl_Vector_mirrored at h
  split at h
  · rename_i y0 y1 y2
    cases h
    refine spec_of (m := .any) (tab := tabOf []) (cp := cp62) (ic := ic62) (rvl := [(.c 2 (some 3))]) hm tabOk_nil Try.func62 rfl rfl rfl (by kernel_rfl) rfl (Nat.le_of_ble_eq_true rfl) (Nat.le_of_ble_eq_true rfl) ?_
    show eA _ _ _ _
    unfold ic62
    simp only [
        grpA, vsliceS, grpS, grpD, grpF, grpL, eop, vop, bop, uop, fltop, convop, endOk, newE, new1, freshL, Md.isNew, outV, pureV, pureX, pure1, AV.cells, AV.one, storable, laid,
              refless, refless1, vload, loadC, storeC, vnil, vfaddr, vextract, flatT, flatE, flatC, vconv, vmm, vidxA, viaddrA, vfield, vlen, elemsOf, dF32, dF64, dI64, dU8, dBool,
              dStr, esOk, elemsS, vsliceX, bnd, ownV, ownC, own1, ownT, isSl, nSl, endL, Md.isOwn, purge, purgeH, purgeB, purgeE, hasName, name1, List.any_cons, List.any_nil,
              Md.isWr, pureV.pureP, Option.map, reduceIte, Nat.reduceEqDiff, Nat.reduceAdd, Nat.reduceMul, Nat.reduceLT, Nat.reduceLeDiff, List.mapM_cons, List.mapM_nil,
              Option.pure_def, Option.bind_eq_bind, Option.bind_some, implies_true, forall_const, beq_self_eq_true, decide_true, decide_false, eq_self, Int.reduceEq, Int.reduceLE,
              Int.reduceLT, if_true, if_false, fc62_0, fc62_1, fc62_2, fc62_3, fc62_4, Int.reduceAdd, Int.reduceSub, Int.reduceMul, Int.reduceNeg, Int.reducePow, Nat.reducePow,
              Int.reduceToNat, Nat.reduceSub, List.replicate, Nat.reduceBEq, wAs, wA, wC, zipW, noDupN, grpE, grpC, en0, dc_en0, en1, dc_en1]
    repeat' (first
      | ((first | (refine eGI_of (fun h => ?_) (fun h => ?_)) | (refine eCc_of (fun h => ?_) (fun h => ?_))) <;> (try simp only [Bool.not_eq_true', Bool.not_eq_false'] at h) <;> simp only [h,
        grpA, vsliceS, grpS, grpD, grpF, grpL, eop, vop, bop, uop, fltop, convop, endOk, newE, new1, freshL, Md.isNew, outV, pureV, pureX, pure1, AV.cells, AV.one, storable, laid,
              refless, refless1, vload, loadC, storeC, vnil, vfaddr, vextract, flatT, flatE, flatC, vconv, vmm, vidxA, viaddrA, vfield, vlen, elemsOf, dF32, dF64, dI64, dU8, dBool,
              dStr, esOk, elemsS, vsliceX, bnd, ownV, ownC, own1, ownT, isSl, nSl, endL, Md.isOwn, purge, purgeH, purgeB, purgeE, hasName, name1, List.any_cons, List.any_nil,
              Md.isWr, pureV.pureP, Option.map, reduceIte, Nat.reduceEqDiff, Nat.reduceAdd, Nat.reduceMul, Nat.reduceLT, Nat.reduceLeDiff, List.mapM_cons, List.mapM_nil,
              Option.pure_def, Option.bind_eq_bind, Option.bind_some, implies_true, forall_const, beq_self_eq_true, decide_true, decide_false, eq_self, Int.reduceEq, Int.reduceLE,
              Int.reduceLT, if_true, if_false, fc62_0, fc62_1, fc62_2, fc62_3, fc62_4, Int.reduceAdd, Int.reduceSub, Int.reduceMul, Int.reduceNeg, Int.reducePow, Nat.reducePow,
              Int.reduceToNat, Nat.reduceSub, List.replicate, Nat.reduceBEq, wAs, wA, wC, zipW, noDupN, grpE, grpC, en0, dc_en0, en1, dc_en1]))
    all_goals (try simp only [*, m_impl_Vector_mirrored, Bool.and_true, Bool.true_and, Bool.and_false, Bool.false_and, Bool.or_true, Bool.true_or, Bool.or_false, Bool.false_or, Bool.not_true, Bool.not_false, Bool.false_eq_true, if_true, if_false, reduceIte, decide_true, decide_false])
    all_goals (try (simp_all; done))
  · cases h
def m_impl_Turn_mirrored (x0 : (Nat × Nat × Nat × Nat)) : (Nat × Nat × Nat × Nat) := (x0.1, x0.2.1, (fneg .f32 x0.2.2.1), (fneg .f32 x0.2.2.2))
def g_impl_Turn_mirrored : List AV → Option AV
  | [.agg [.flt .f32 y0, .flt .f32 y1, .flt .f32 y2, .flt .f32 y3]] => some (AV.agg [(.flt .f32 (m_impl_Turn_mirrored (y0, y1, y2,
      y3)).1), (.flt .f32 (m_impl_Turn_mirrored (y0, y1, y2, y3)).2.1), (.flt .f32 (m_impl_Turn_mirrored (y0, y1, y2, y3)).2.2.1), (.flt .f32 (m_impl_Turn_mirrored (y0, y1, y2,
      y3)).2.2.2)])
  | _ => none
def ic81 : ICode := (.seq (.reg [⟨(some 1), none, (.box 4 (.t 0))⟩, ⟨(some 2), none, (.alloc (.agg [(.flt .f32 0), (.flt .f32 0), (.flt .f32 0), (.flt .f32 0)]))⟩] [1, 2]) (.seq
      (.reg [⟨(some 3), none, (.faddr 0 (.t 1))⟩, ⟨(some 4), none, (.load none (.t 3))⟩, ⟨(some 5), none, (.faddr 1 (.t 1))⟩, ⟨(some 6), none, (.load none (.t 5))⟩, ⟨(some 7), none,
      (.faddr 2 (.t 1))⟩, ⟨(some 8), none, (.load none (.t 7))⟩, ⟨(some 9), none, (.un .neg (.t 8))⟩, ⟨(some 10), none, (.faddr 3 (.t 1))⟩, ⟨(some 11), none, (.load none (.t 10))⟩,
      ⟨(some 12), none, (.un .neg (.t 11))⟩, ⟨(some 13), none, (.build [(.flt .f32 0), (.flt .f32 0), (.flt .f32 0), (.flt .f32 0)] [(0, 1, (.t 4)), (1, 1, (.t 6)), (2, 1, (.t 9)),
      (3, 1, (.t 12))])⟩, ⟨none, none, (.store 4 (.t 2) (.t 13))⟩] [2]) .ret))
def cp81 : CP := CP.mk [] [] [[1, 2], [2]] 14 [] []
theorem fc81_0 : IntKind.wrap .i64 0 = 0 := by decide
theorem fc81_1 : IntKind.wrap .i64 1 = 1 := by decide
theorem fc81_2 : IntKind.wrap .i64 2 = 2 := by decide
theorem fc81_3 : IntKind.wrap .i64 3 = 3 := by decide
theorem fc81_4 : IntKind.wrap .i64 4 = 4 := by decide
theorem s81 : ∀ vs r, g_impl_Turn_mirrored vs = some r → SaysM Try.prog .any 81 vs r := by
  intro vs r h
  unfold g_impl_Turn_mirrored at h
  split at h
  · rename_i y0 y1 y2 y3
    cases h
    refine spec_of (m := .any) (tab := tabOf []) (cp := cp81) (ic := ic81) (rvl := [(.c 2 (some 4))]) hm tabOk_nil Try.func81 rfl rfl rfl (by kernel_rfl) rfl (Nat.le_of_ble_eq_true rfl) (Nat.le_of_ble_eq_true rfl) ?_
    show eA _ _ _ _
    unfold ic81
    simp only [
        grpA, vsliceS, grpS, grpD, grpF, grpL, eop, vop, bop, uop, fltop, convop, endOk, newE, new1, freshL, Md.isNew, outV, pureV, pureX, pure1, AV.cells, AV.one, storable, laid,
              refless, refless1, vload, loadC, storeC, vnil, vfaddr, vextract, flatT, flatE, flatC, vconv, vmm, vidxA, viaddrA, vfield, vlen, elemsOf, dF32, dF64, dI64, dU8, dBool,
              dStr, esOk, elemsS, vsliceX, bnd, ownV, ownC, own1, ownT, isSl, nSl, endL, Md.isOwn, purge, purgeH, purgeB, purgeE, hasName, name1, List.any_cons, List.any_nil,
              Md.isWr, pureV.pureP, Option.map, reduceIte, Nat.reduceEqDiff, Nat.reduceAdd, Nat.reduceMul, Nat.reduceLT, Nat.reduceLeDiff, List.mapM_cons, List.mapM_nil,
              Option.pure_def, Option.bind_eq_bind, Option.bind_some, implies_true, forall_const, beq_self_eq_true, decide_true, decide_false, eq_self, Int.reduceEq, Int.reduceLE,
              Int.reduceLT, if_true, if_false, fc81_0, fc81_1, fc81_2, fc81_3, fc81_4, Int.reduceAdd, Int.reduceSub, Int.reduceMul, Int.reduceNeg, Int.reducePow, Nat.reducePow,
              Int.reduceToNat, Nat.reduceSub, List.replicate, Nat.reduceBEq, wAs, wA, wC, zipW, noDupN, grpE, grpC, en0, dc_en0, en1, dc_en1]
    repeat' (first
      | ((first | (refine eGI_of (fun h => ?_) (fun h => ?_)) | (refine eCc_of (fun h => ?_) (fun h => ?_))) <;> (try simp only [Bool.not_eq_true', Bool.not_eq_false'] at h) <;> simp only [h,
        grpA, vsliceS, grpS, grpD, grpF, grpL, eop, vop, bop, uop, fltop, convop, endOk, newE, new1, freshL, Md.isNew, outV, pureV, pureX, pure1, AV.cells, AV.one, storable, laid,
              refless, refless1, vload, loadC, storeC, vnil, vfaddr, vextract, flatT, flatE, flatC, vconv, vmm, vidxA, viaddrA, vfield, vlen, elemsOf, dF32, dF64, dI64, dU8, dBool,
              dStr, esOk, elemsS, vsliceX, bnd, ownV, ownC, own1, ownT, isSl, nSl, endL, Md.isOwn, purge, purgeH, purgeB, purgeE, hasName, name1, List.any_cons, List.any_nil,
              Md.isWr, pureV.pureP, Option.map, reduceIte, Nat.reduceEqDiff, Nat.reduceAdd, Nat.reduceMul, Nat.reduceLT, Nat.reduceLeDiff, List.mapM_cons, List.mapM_nil,
              Option.pure_def, Option.bind_eq_bind, Option.bind_some, implies_true, forall_const, beq_self_eq_true, decide_true, decide_false, eq_self, Int.reduceEq, Int.reduceLE,
              Int.reduceLT, if_true, if_false, fc81_0, fc81_1, fc81_2, fc81_3, fc81_4, Int.reduceAdd, Int.reduceSub, Int.reduceMul, Int.reduceNeg, Int.reducePow, Nat.reducePow,
              Int.reduceToNat, Nat.reduceSub, List.replicate, Nat.reduceBEq, wAs, wA, wC, zipW, noDupN, grpE, grpC, en0, dc_en0, en1, dc_en1]))
    all_goals (try simp only [*, m_impl_Turn_mirrored, Bool.and_true, Bool.true_and, Bool.and_false, Bool.false_and, Bool.or_true, Bool.true_or, Bool.or_false, Bool.false_or, Bool.not_true, Bool.not_false, Bool.false_eq_true, if_true, if_false, reduceIte, decide_true, decide_false])
    all_goals (try (simp_all; done))
  · cases h
def l_impl_MirrorPose_0 (x1 : (Nat × Nat × Nat × (List (Nat × Nat × Nat × Nat)))) (x2 : (List Int)) : Nat → (List (Nat × Nat × Nat × Nat)) → Int → Option (List (Nat × Nat × Nat ×
      Nat))
  | 0, _, _ => none
  | n + 1, z0_0, z0_1 => (if (decide (z0_1 < ((List.length x2 : Nat) : Int))) = true then (need (inB z0_1 (List.length x2)) (need (inB (atI x2 z0_1) (List.length x1.2.2.2)) (need
        (inB z0_1 (List.length z0_0)) (l_impl_MirrorPose_0 x1 x2 n (List.set z0_0 (Int.toNat z0_1) (m_impl_Turn_mirrored (atI x1.2.2.2 (atI x2 z0_1)))) (IntKind.wrap .i64 (z0_1 +
        1)))))) else (some z0_0))
def m_impl_MirrorPose (x0 : (List (Int × Nat × Nat × Nat))) (x1 : (Nat × Nat × Nat × (List (Nat × Nat × Nat × Nat)))) (x2 : (List Int)) : ((Nat × Nat × Nat × (List (Nat × Nat × Nat
      × Nat))) × Bool) := (if (m_impl_IsPose x0 x1) = true then (if (m_impl_IsPairing x0 x2) = true then (((m_impl_Vector_mirrored (x1.1, x1.2.1, x1.2.2.1)).1,
      (m_impl_Vector_mirrored (x1.1, x1.2.1, x1.2.2.1)).2.1, (m_impl_Vector_mirrored (x1.1, x1.2.1, x1.2.2.1)).2.2, (Option.getD (l_impl_MirrorPose_0 x1 x2 (Int.toNat (((List.length
      x2 : Nat) : Int) - 0) + 2) (List.replicate (Int.toNat ((List.length x2 : Nat) : Int)) (0, 0, 0, 0)) 0) default)), true) else ((0, 0, 0, []), false)) else ((0, 0, 0, []),
      false))
def p_impl_MirrorPose (x0 : (List (Int × Nat × Nat × Nat))) (x1 : (Nat × Nat × Nat × (List (Nat × Nat × Nat × Nat)))) (x2 : (List Int)) : Bool := ((p_impl_IsPose x0 x1) &&
      (!(m_impl_IsPose x0 x1) || ((p_impl_IsPairing x0 x2) && (!(m_impl_IsPairing x0 x2) || ((decide (0 ≤ ((List.length x2 : Nat) : Int))) && ((decide (((List.length x2 : Nat) :
      Int) * 16 ≤ 70368744177664)) && ((decide (((List.length x2 : Nat) : Int) ≤ 70368744177664)) && (Option.isSome (l_impl_MirrorPose_0 x1 x2 (Int.toNat (((List.length x2 : Nat) :
      Int) - 0) + 2) (List.replicate (Int.toNat ((List.length x2 : Nat) : Int)) (0, 0, 0, 0)) 0)))))))))
def g_impl_MirrorPose : List AV → Option AV
  | [.agg [.sl w0], .agg [.flt .f32 y1, .flt .f32 y2, .flt .f32 y3, .sl w4], .sl w5] => (match decL dc_en0 w0 with | some y0 => ((match decL dc_en1 w4 with | some y4 => ((match decL dI64 w5 with | some y5 => (if p_impl_MirrorPose y0 (y1, y2, y3, y4) y5 = true then some (AV.tup [(AV.agg [(.flt .f32 (m_impl_MirrorPose y0 (y1, y2, y3, y4) y5).1.1), (.flt .f32 (m_impl_MirrorPose y0 (y1, y2, y3, y4) y5).1.2.1), (.flt .f32 (m_impl_MirrorPose y0 (y1, y2, y3, y4) y5).1.2.2.1), (.sl (List.map en1 (m_impl_MirrorPose y0 (y1, y2, y3, y4) y5).1.2.2.2))]), (.bool (m_impl_MirrorPose y0 (y1, y2, y3, y4) y5).2)]) else none) | none => none)) | none => none)) | none => none)
  | _ => none
def lb40_0 : ICode := (.seq (.reg [⟨(some 32), none, (.bin .lss false (.t 31) (.t 30))⟩] [4, 6, 8, 29, 30, 31, 32]) (.seq (.cond (.t 32) .skip (.exit 0)) (.seq (.block 1 (.seq (.reg
      [⟨(some 33), none, (.mov (.t 31))⟩, ⟨(some 34), none, (.iaddrS 1 (.t 29) (.t 31))⟩, ⟨(some 35), none, (.load none (.t 34))⟩, ⟨(some 9), none, (.mov (.t 33))⟩, ⟨(some 10),
      none, (.mov (.t 35))⟩] [4, 6, 8, 9, 10, 29, 30, 31]) (.reg [⟨(some 36), none, (.faddr 3 (.t 8))⟩, ⟨(some 37), none, (.load none (.t 36))⟩, ⟨(some 38), none, (.mov (.t 9))⟩,
      ⟨(some 39), none, (.faddr 3 (.t 4))⟩, ⟨(some 40), none, (.load none (.t 39))⟩, ⟨(some 41), none, (.mov (.t 10))⟩, ⟨(some 42), none, (.iaddrS 4 (.t 40) (.t 41))⟩, ⟨(some 43),
      none, (.load (some 4) (.t 42))⟩, ⟨(some 44), none, (.call (.fn 81) [(.t 43)] [])⟩, ⟨(some 45), none, (.iaddrS 4 (.t 37) (.t 38))⟩, ⟨none, none, (.store 4 (.t 45) (.t 44))⟩]
      [4, 6, 8, 29, 30, 31]))) (.reg [⟨(some 46), none, (.bin .add false (.t 31) (.c (.int .i64 1)))⟩, ⟨(some 31), none, (.mov (.t 46))⟩] [4, 6, 8, 29, 30, 31]))))
def ic40 : ICode := (.seq (.reg [⟨(some 3), none, (.box 1 (.t 0))⟩, ⟨(some 4), none, (.box 4 (.t 1))⟩, ⟨(some 6), none, (.alloc (.agg [(.flt .f32 0), (.flt .f32 0), (.flt .f32 0),
      .snil]))⟩, ⟨(some 7), none, (.mov (.c (.bool false)))⟩] [2, 3, 4, 6]) (.seq (.seq (.reg [⟨(some 11), none, (.load (some 1) (.t 3))⟩, ⟨(some 12), none, (.load (some 4) (.t
      4))⟩, ⟨(some 13), none, (.call (.fn 80) [(.t 11), (.t 12)] [])⟩, ⟨(some 14), none, (.un .not (.t 13))⟩, ⟨(some 15), none, (.mov (.t 14))⟩, ⟨(some 16), (some (15, false)),
      (.load (some 1) (.t 3))⟩, ⟨(some 17), (some (15, false)), (.mov (.t 2))⟩, ⟨(some 18), (some (15, false)), (.call (.fn 15) [(.t 16), (.t 17)] [])⟩, ⟨(some 19), (some (15,
      false)), (.un .not (.t 18))⟩, ⟨(some 20), none, (.pick (.t 15) (.c (.bool true)) (.t 19))⟩] [2, 4, 6, 20]) (.cond (.t 20) (.seq (.reg [⟨(some 21), none, (.build [(.flt .f32
      0), (.flt .f32 0), (.flt .f32 0), .snil] [])⟩, ⟨none, none, (.store 4 (.t 6) (.t 21))⟩, ⟨(some 7), none, (.mov (.c (.bool false)))⟩] [6, 7]) .ret) .skip)) (.seq (.reg [⟨(some
      22), none, (.faddr 0 (.t 4))⟩, ⟨(some 23), none, (.load (some 3) (.t 22))⟩, ⟨(some 24), none, (.call (.fn 62) [(.t 23)] [])⟩, ⟨(some 25), none, (.mov (.t 2))⟩, ⟨(some 26),
      none, (.len false (.t 25))⟩, ⟨(some 27), none, (.mkslice 4 16 (.agg [(.flt .f32 0), (.flt .f32 0), (.flt .f32 0), (.flt .f32 0)]) (.t 26) (.t 26))⟩, ⟨(some 28), none, (.build
      [(.flt .f32 0), (.flt .f32 0), (.flt .f32 0), .snil] [(0, 3, (.t 24)), (3, 1, (.t 27))])⟩, ⟨(some 8), none, (.alloc (.agg [(.flt .f32 0), (.flt .f32 0), (.flt .f32 0),
      .snil]))⟩, ⟨none, none, (.store 4 (.t 8) (.t 28))⟩] [2, 4, 6, 8]) (.seq (.seq (.reg [⟨(some 29), none, (.mov (.t 2))⟩, ⟨(some 30), none, (.len false (.t 29))⟩, ⟨(some 31),
      none, (.mov (.c (.int .i64 0)))⟩] [4, 6, 8, 29, 30, 31]) (.block 0 (.loop lb40_0))) (.seq (.reg [⟨(some 47), none, (.load (some 4) (.t 8))⟩, ⟨none, none, (.store 4 (.t 6) (.t
      47))⟩, ⟨(some 7), none, (.mov (.c (.bool true)))⟩] [6, 7]) .ret)))))
def cp40 : CP := CP.mk [] [] [[2, 3, 4, 6], [2, 4, 6, 20], [6, 7], [2, 4, 6, 8], [4, 6, 8, 29, 30, 31], [4, 6, 8, 29, 30, 31, 32], [4, 6, 8, 9, 10, 29, 30, 31], [4, 6, 8, 29, 30,
      31], [4, 6, 8, 29, 30, 31], [6, 7]] 48 [] []
theorem fc40_0 : IntKind.wrap .i64 0 = 0 := by decide
theorem fc40_1 : IntKind.wrap .i64 1 = 1 := by decide
theorem fc40_2 : IntKind.wrap .i64 2 = 2 := by decide
theorem fc40_3 : IntKind.wrap .i64 3 = 3 := by decide
theorem fc40_4 : IntKind.wrap .i64 4 = 4 := by decide
theorem sl40_0 (x1 : (Nat × Nat × Nat × (List (Nat × Nat × Nat × Nat)))) (x2 : (List Int)) : ∀ (n : Nat) (z0_0 : (List (Nat × Nat × Nat × Nat))) (z0_1 : Int) (o : (List (Nat × Nat ×
      Nat × Nat))) (K : IExit → St → Prop), l_impl_MirrorPose_0 x1 x2 n z0_0 z0_1 = some o → (∀ st, Wk st (⟨[(6, (.lptr 6 0 0)), (8, (.lptr 8 0 0))], [(6, (some ⟨4, false, [(AV.agg
      [(.flt .f32 0), (.flt .f32 0), (.flt .f32 0), .snil])]⟩)), (8, (some ⟨4, false, [(AV.agg [(.flt .f32 (m_impl_Vector_mirrored (x1.1, x1.2.1, x1.2.2.1)).1), (.flt .f32
      (m_impl_Vector_mirrored (x1.1, x1.2.1, x1.2.2.1)).2.1), (.flt .f32 (m_impl_Vector_mirrored (x1.1, x1.2.1, x1.2.2.1)).2.2), (.lsl 27 0 (List.length o))])]⟩)), (27, (some ⟨4,
      true, (List.map en1 o)⟩))]⟩ : St) → K (.exit 0) st) → eA (tabOf [(15, wM .any g_impl_IsPairing), (62, wM .any g_impl_Vector_mirrored), (80, wM .any g_impl_IsPose), (81, wM
      .any g_impl_Turn_mirrored)]) (.loop lb40_0) (⟨[(4, (.lptr 4 0 0)), (6, (.lptr 6 0 0)), (8, (.lptr 8 0 0)), (29, (.sl (List.map (AV.int .i64) x2))), (30, (.int .i64
      ((List.length x2 : Nat) : Int))), (31, (.int .i64 z0_1))], [(4, (some ⟨4, false, [(AV.agg [(.flt .f32 x1.1), (.flt .f32 x1.2.1), (.flt .f32 x1.2.2.1), (.sl (List.map en1
      x1.2.2.2))])]⟩)), (6, (some ⟨4, false, [(AV.agg [(.flt .f32 0), (.flt .f32 0), (.flt .f32 0), .snil])]⟩)), (8, (some ⟨4, false, [(AV.agg [(.flt .f32 (m_impl_Vector_mirrored
      (x1.1, x1.2.1, x1.2.2.1)).1), (.flt .f32 (m_impl_Vector_mirrored (x1.1, x1.2.1, x1.2.2.1)).2.1), (.flt .f32 (m_impl_Vector_mirrored (x1.1, x1.2.1, x1.2.2.1)).2.2), (.lsl 27 0
      (List.length z0_0))])]⟩)), (27, (some ⟨4, true, (List.map en1 z0_0)⟩))]⟩ : St) K := by
  intro n
  induction n with
  | zero =>
    intro z0_0 z0_1 o K h h0
    simp only [l_impl_MirrorPose_0, reduceCtorEq] at h
  | succ n ih =>
    intro z0_0 z0_1 o K h h0
    refine eA_loop ?_
    unfold lb40_0
    unfold l_impl_MirrorPose_0 at h
    (try simp only [need_iff] at h)
    simp only [
      need_iff, h, grpA, vsliceS, grpS, grpD, grpF, grpL, eop, vop, bop, uop, fltop, convop, endOk, newE, new1, freshL, Md.isNew, outV, pureV, pureX, pure1, AV.cells, AV.one,
            storable, laid, refless, refless1, vload, loadC, storeC, vnil, vfaddr, vextract, flatT, flatE, flatC, vconv, vmm, vidxA, viaddrA, vfield, vlen, elemsOf, dF32, dF64,
            dI64, dU8, dBool, dStr, esOk, elemsS, vsliceX, bnd, ownV, ownC, own1, ownT, isSl, nSl, endL, Md.isOwn, purge, purgeH, purgeB, purgeE, hasName, name1, List.any_cons,
            List.any_nil, Md.isWr, pureV.pureP, Option.map, reduceIte, Nat.reduceEqDiff, Nat.reduceAdd, Nat.reduceMul, Nat.reduceLT, Nat.reduceLeDiff, List.mapM_cons, List.mapM_nil,
            Option.pure_def, Option.bind_eq_bind, Option.bind_some, implies_true, forall_const, beq_self_eq_true, decide_true, decide_false, eq_self, Int.reduceEq, Int.reduceLE,
            Int.reduceLT, if_true, if_false, fc40_0, fc40_1, fc40_2, fc40_3, fc40_4, Int.reduceAdd, Int.reduceSub, Int.reduceMul, Int.reduceNeg, Int.reducePow, Nat.reducePow,
            Int.reduceToNat, Nat.reduceSub, List.replicate, Nat.reduceBEq, wAs, wA, wC, zipW, noDupN, grpE, g_impl_IsPairing, g_impl_Vector_mirrored, g_impl_IsPose,
            g_impl_Turn_mirrored, grpC, en0, dc_en0, en1, dc_en1, ↓b_pick, ePk_true, ePk_false]
    repeat' (first
      | ((first | (refine eGI_of (fun hc => ?_) (fun hc => ?_)) | (refine eCc_of (fun hc => ?_) (fun hc => ?_)) | (refine ePk_of (fun hc => ?_) (fun hc => ?_)) | (have hc := True.intro; refine KW_refl ?_)) <;> (try simp only [Bool.not_eq_true', Bool.not_eq_false'] at hc) <;> (try simp only [hc, need_iff, reduceCtorEq, Bool.not_eq_true', decide_eq_false_iff_not, Bool.not_true, Bool.not_false, Bool.false_or, Bool.true_or, Bool.true_and, Bool.false_and, Bool.and_eq_true, Bool.or_eq_true, if_true, if_false, reduceIte, Bool.false_eq_true, and_true, true_and, false_or, or_false, decide_eq_true_eq, not_false_eq_true, not_true_eq_false] at h) <;> (try (have hc2 := hc; simp only [decide_eq_true_eq, decide_eq_false_iff_not] at hc2; (first | (replace hc2 := eq_false hc2) | (replace hc2 := eq_true hc2)); simp only [hc2, if_true, if_false, need_iff, reduceCtorEq, Bool.not_eq_true', decide_eq_false_iff_not, Bool.not_true, Bool.not_false, Bool.false_or, Bool.true_or, Bool.true_and, Bool.false_and, Bool.and_eq_true, Bool.or_eq_true, if_true, if_false, reduceIte, Bool.false_eq_true, and_true, true_and, false_or, or_false, decide_eq_true_eq, not_false_eq_true, not_true_eq_false] at h)) <;> simp only [hc,
      need_iff, h, grpA, vsliceS, grpS, grpD, grpF, grpL, eop, vop, bop, uop, fltop, convop, endOk, newE, new1, freshL, Md.isNew, outV, pureV, pureX, pure1, AV.cells, AV.one,
            storable, laid, refless, refless1, vload, loadC, storeC, vnil, vfaddr, vextract, flatT, flatE, flatC, vconv, vmm, vidxA, viaddrA, vfield, vlen, elemsOf, dF32, dF64,
            dI64, dU8, dBool, dStr, esOk, elemsS, vsliceX, bnd, ownV, ownC, own1, ownT, isSl, nSl, endL, Md.isOwn, purge, purgeH, purgeB, purgeE, hasName, name1, List.any_cons,
            List.any_nil, Md.isWr, pureV.pureP, Option.map, reduceIte, Nat.reduceEqDiff, Nat.reduceAdd, Nat.reduceMul, Nat.reduceLT, Nat.reduceLeDiff, List.mapM_cons, List.mapM_nil,
            Option.pure_def, Option.bind_eq_bind, Option.bind_some, implies_true, forall_const, beq_self_eq_true, decide_true, decide_false, eq_self, Int.reduceEq, Int.reduceLE,
            Int.reduceLT, if_true, if_false, fc40_0, fc40_1, fc40_2, fc40_3, fc40_4, Int.reduceAdd, Int.reduceSub, Int.reduceMul, Int.reduceNeg, Int.reducePow, Nat.reducePow,
            Int.reduceToNat, Nat.reduceSub, List.replicate, Nat.reduceBEq, wAs, wA, wC, zipW, noDupN, grpE, g_impl_IsPairing, g_impl_Vector_mirrored, g_impl_IsPose,
            g_impl_Turn_mirrored, grpC, en0, dc_en0, en1, dc_en1, ↓b_pick, ePk_true, ePk_false]))
    all_goals (repeat (replace h := And.right h))
    all_goals first
      | (refine eA_wk (wk_norm (ks := [4, 6, 8, 29, 30, 31]) (ls := [4, 6, 8, 27]) ?_) (eA_cast ?_ (ih _ _ _ _ h h0)); (simp only [normOk, optIn, blkIn, nameIn,
      need_iff, h, grpA, vsliceS, grpS, grpD, grpF, grpL, eop, vop, bop, uop, fltop, convop, endOk, newE, new1, freshL, Md.isNew, outV, pureV, pureX, pure1, AV.cells, AV.one,
            storable, laid, refless, refless1, vload, loadC, storeC, vnil, vfaddr, vextract, flatT, flatE, flatC, vconv, vmm, vidxA, viaddrA, vfield, vlen, elemsOf, dF32, dF64,
            dI64, dU8, dBool, dStr, esOk, elemsS, vsliceX, bnd, ownV, ownC, own1, ownT, isSl, nSl, endL, Md.isOwn, purge, purgeH, purgeB, purgeE, hasName, name1, List.any_cons,
            List.any_nil, Md.isWr, pureV.pureP, Option.map, reduceIte, Nat.reduceEqDiff, Nat.reduceAdd, Nat.reduceMul, Nat.reduceLT, Nat.reduceLeDiff, List.mapM_cons, List.mapM_nil,
            Option.pure_def, Option.bind_eq_bind, Option.bind_some, implies_true, forall_const, beq_self_eq_true, decide_true, decide_false, eq_self, Int.reduceEq, Int.reduceLE,
            Int.reduceLT, if_true, if_false, fc40_0, fc40_1, fc40_2, fc40_3, fc40_4, Int.reduceAdd, Int.reduceSub, Int.reduceMul, Int.reduceNeg, Int.reducePow, Nat.reducePow,
            Int.reduceToNat, Nat.reduceSub, List.replicate, Nat.reduceBEq, wAs, wA, wC, zipW, noDupN, grpE, g_impl_IsPairing, g_impl_Vector_mirrored, g_impl_IsPose,
            g_impl_Turn_mirrored, grpC, en0, dc_en0, en1, dc_en1, ↓b_pick, ePk_true, ePk_false] <;> rfl); (simp only [normS, List.map_append, List.length_append, List.map_set, List.length_set, List.map_replicate, List.length_replicate, List.map_nil, List.map_cons,
      need_iff, h, grpA, vsliceS, grpS, grpD, grpF, grpL, eop, vop, bop, uop, fltop, convop, endOk, newE, new1, freshL, Md.isNew, outV, pureV, pureX, pure1, AV.cells, AV.one,
            storable, laid, refless, refless1, vload, loadC, storeC, vnil, vfaddr, vextract, flatT, flatE, flatC, vconv, vmm, vidxA, viaddrA, vfield, vlen, elemsOf, dF32, dF64,
            dI64, dU8, dBool, dStr, esOk, elemsS, vsliceX, bnd, ownV, ownC, own1, ownT, isSl, nSl, endL, Md.isOwn, purge, purgeH, purgeB, purgeE, hasName, name1, List.any_cons,
            List.any_nil, Md.isWr, pureV.pureP, Option.map, reduceIte, Nat.reduceEqDiff, Nat.reduceAdd, Nat.reduceMul, Nat.reduceLT, Nat.reduceLeDiff, List.mapM_cons, List.mapM_nil,
            Option.pure_def, Option.bind_eq_bind, Option.bind_some, implies_true, forall_const, beq_self_eq_true, decide_true, decide_false, eq_self, Int.reduceEq, Int.reduceLE,
            Int.reduceLT, if_true, if_false, fc40_0, fc40_1, fc40_2, fc40_3, fc40_4, Int.reduceAdd, Int.reduceSub, Int.reduceMul, Int.reduceNeg, Int.reducePow, Nat.reducePow,
            Int.reduceToNat, Nat.reduceSub, List.replicate, Nat.reduceBEq, wAs, wA, wC, zipW, noDupN, grpE, g_impl_IsPairing, g_impl_Vector_mirrored, g_impl_IsPose,
            g_impl_Turn_mirrored, grpC, en0, dc_en0, en1, dc_en1, ↓b_pick, ePk_true, ePk_false] <;> first | rfl | (simp only [Nat.add_comm]; done)))
      | (cases h; refine h0 _ (Wk.cast (wk_norm (ks := [6, 8]) (ls := [6, 8, 27]) ?_) ?_); (simp only [normOk, optIn, blkIn, nameIn,
      grpA, vsliceS, grpS, grpD, grpF, grpL, eop, vop, bop, uop, fltop, convop, endOk, newE, new1, freshL, Md.isNew, outV, pureV, pureX, pure1, AV.cells, AV.one, storable, laid,
            refless, refless1, vload, loadC, storeC, vnil, vfaddr, vextract, flatT, flatE, flatC, vconv, vmm, vidxA, viaddrA, vfield, vlen, elemsOf, dF32, dF64, dI64, dU8, dBool,
            dStr, esOk, elemsS, vsliceX, bnd, ownV, ownC, own1, ownT, isSl, nSl, endL, Md.isOwn, purge, purgeH, purgeB, purgeE, hasName, name1, List.any_cons, List.any_nil, Md.isWr,
            pureV.pureP, Option.map, reduceIte, Nat.reduceEqDiff, Nat.reduceAdd, Nat.reduceMul, Nat.reduceLT, Nat.reduceLeDiff, List.mapM_cons, List.mapM_nil, Option.pure_def,
            Option.bind_eq_bind, Option.bind_some, implies_true, forall_const, beq_self_eq_true, decide_true, decide_false, eq_self, Int.reduceEq, Int.reduceLE, Int.reduceLT,
            if_true, if_false, fc40_0, fc40_1, fc40_2, fc40_3, fc40_4, Int.reduceAdd, Int.reduceSub, Int.reduceMul, Int.reduceNeg, Int.reducePow, Nat.reducePow, Int.reduceToNat,
            Nat.reduceSub, List.replicate, Nat.reduceBEq, wAs, wA, wC, zipW, noDupN, grpE, g_impl_IsPairing, g_impl_Vector_mirrored, g_impl_IsPose, g_impl_Turn_mirrored, grpC, en0,
            dc_en0, en1, dc_en1, ↓b_pick, ePk_true, ePk_false] <;> rfl); (simp only [normS, List.map_append, List.length_append, List.map_set, List.length_set, List.map_replicate, List.length_replicate,
      grpA, vsliceS, grpS, grpD, grpF, grpL, eop, vop, bop, uop, fltop, convop, endOk, newE, new1, freshL, Md.isNew, outV, pureV, pureX, pure1, AV.cells, AV.one, storable, laid,
            refless, refless1, vload, loadC, storeC, vnil, vfaddr, vextract, flatT, flatE, flatC, vconv, vmm, vidxA, viaddrA, vfield, vlen, elemsOf, dF32, dF64, dI64, dU8, dBool,
            dStr, esOk, elemsS, vsliceX, bnd, ownV, ownC, own1, ownT, isSl, nSl, endL, Md.isOwn, purge, purgeH, purgeB, purgeE, hasName, name1, List.any_cons, List.any_nil, Md.isWr,
            pureV.pureP, Option.map, reduceIte, Nat.reduceEqDiff, Nat.reduceAdd, Nat.reduceMul, Nat.reduceLT, Nat.reduceLeDiff, List.mapM_cons, List.mapM_nil, Option.pure_def,
            Option.bind_eq_bind, Option.bind_some, implies_true, forall_const, beq_self_eq_true, decide_true, decide_false, eq_self, Int.reduceEq, Int.reduceLE, Int.reduceLT,
            if_true, if_false, fc40_0, fc40_1, fc40_2, fc40_3, fc40_4, Int.reduceAdd, Int.reduceSub, Int.reduceMul, Int.reduceNeg, Int.reducePow, Nat.reducePow, Int.reduceToNat,
            Nat.reduceSub, List.replicate, Nat.reduceBEq, wAs, wA, wC, zipW, noDupN, grpE, g_impl_IsPairing, g_impl_Vector_mirrored, g_impl_IsPose, g_impl_Turn_mirrored, grpC, en0,
            dc_en0, en1, dc_en1, ↓b_pick, ePk_true, ePk_false] <;> first | rfl | (simp only [Nat.add_comm]; done)))
theorem s40 : ∀ vs r, g_impl_MirrorPose vs = some r → SaysM Try.prog (.own [4]) 40 vs r := by
  intro vs r h
  unfold g_impl_MirrorPose at h
  split at h
  · rename_i w0 y1 y2 y3 w4 w5
    cases hd_y0 : decL dc_en0 w0 with
    | none => rw [hd_y0] at h; cases h
    | some y0 =>
    rw [hd_y0] at h
    obtain rfl := decL_inv dc_en0_inv hd_y0
    clear hd_y0
    dsimp only at h
    cases hd_y4 : decL dc_en1 w4 with
    | none => rw [hd_y4] at h; cases h
    | some y4 =>
    rw [hd_y4] at h
    obtain rfl := decL_inv dc_en1_inv hd_y4
    clear hd_y4
    dsimp only at h
    cases hd_y5 : decL dI64 w5 with
    | none => rw [hd_y5] at h; cases h
    | some y5 =>
    rw [hd_y5] at h
    obtain rfl := decL_inv dI64_inv hd_y5
    clear hd_y5
    dsimp only at h
    split at h
    · rename_i hp
      cases h
      refine spec_of (m := (.own [4])) (tab := tabOf [(15, wM .any g_impl_IsPairing), (62, wM .any g_impl_Vector_mirrored), (80, wM .any g_impl_IsPose), (81, wM .any g_impl_Turn_mirrored)]) (cp := cp40) (ic := ic40) (rvl := [(.c 6 (some 4)), (.t 7)]) hm (tabOk_cons (m := .any) s15 (tabOk_cons (m := .any) s62 (tabOk_cons (m := .any) s80 (tabOk_cons (m := .any) s81 tabOk_nil)))) Try.func40 rfl rfl rfl (by kernel_rfl) rfl (Nat.le_of_ble_eq_true rfl) (Nat.le_of_ble_eq_true rfl) ?_
      show eA _ _ _ _
      unfold ic40
      simp only [p_impl_MirrorPose, Bool.and_eq_true, Bool.or_eq_true, decide_eq_true_eq, Bool.not_eq_true', decide_eq_false_iff_not] at hp
      simp only [
          hp, grpA, vsliceS, grpS, grpD, grpF, grpL, eop, vop, bop, uop, fltop, convop, endOk, newE, new1, freshL, Md.isNew, outV, pureV, pureX, pure1, AV.cells, AV.one, storable,
                laid, refless, refless1, vload, loadC, storeC, vnil, vfaddr, vextract, flatT, flatE, flatC, vconv, vmm, vidxA, viaddrA, vfield, vlen, elemsOf, dF32, dF64, dI64, dU8,
                dBool, dStr, esOk, elemsS, vsliceX, bnd, ownV, ownC, own1, ownT, isSl, nSl, endL, Md.isOwn, purge, purgeH, purgeB, purgeE, hasName, name1, List.any_cons,
                List.any_nil, Md.isWr, pureV.pureP, Option.map, reduceIte, Nat.reduceEqDiff, Nat.reduceAdd, Nat.reduceMul, Nat.reduceLT, Nat.reduceLeDiff, List.mapM_cons,
                List.mapM_nil, Option.pure_def, Option.bind_eq_bind, Option.bind_some, implies_true, forall_const, beq_self_eq_true, decide_true, decide_false, eq_self,
                Int.reduceEq, Int.reduceLE, Int.reduceLT, if_true, if_false, fc40_0, fc40_1, fc40_2, fc40_3, fc40_4, Int.reduceAdd, Int.reduceSub, Int.reduceMul, Int.reduceNeg,
                Int.reducePow, Nat.reducePow, Int.reduceToNat, Nat.reduceSub, List.replicate, Nat.reduceBEq, wAs, wA, wC, zipW, noDupN, grpE, g_impl_IsPairing,
                g_impl_Vector_mirrored, g_impl_IsPose, g_impl_Turn_mirrored, grpC, en0, dc_en0, en1, dc_en1, ↓b_pick, ePk_true, ePk_false]
      repeat' (first
        | ((first | (refine eGI_of (fun h => ?_) (fun h => ?_)) | (refine eCc_of (fun h => ?_) (fun h => ?_)) | (refine ePk_of (fun h => ?_) (fun h => ?_)) | (have h := True.intro; refine KW_refl ?_)) <;> (try simp only [Bool.not_eq_true', Bool.not_eq_false'] at h) <;> (try simp only [h, reduceCtorEq, Bool.not_eq_true', decide_eq_false_iff_not, Bool.not_true, Bool.not_false, Bool.false_or, Bool.true_or, Bool.true_and, Bool.false_and, Bool.and_eq_true, Bool.or_eq_true, if_true, if_false, reduceIte, Bool.false_eq_true, and_true, true_and, false_or, or_false, decide_eq_true_eq, not_false_eq_true, not_true_eq_false] at hp) <;> (try (have h2 := h; simp only [decide_eq_true_eq, decide_eq_false_iff_not] at h2; (first | (replace h2 := eq_false h2) | (replace h2 := eq_true h2)); simp only [h2, if_true, if_false, false_or, true_or, or_true, or_false, and_true, true_and, not_false_eq_true, not_true_eq_false] at hp)) <;> simp only [h,
          hp, grpA, vsliceS, grpS, grpD, grpF, grpL, eop, vop, bop, uop, fltop, convop, endOk, newE, new1, freshL, Md.isNew, outV, pureV, pureX, pure1, AV.cells, AV.one, storable,
                laid, refless, refless1, vload, loadC, storeC, vnil, vfaddr, vextract, flatT, flatE, flatC, vconv, vmm, vidxA, viaddrA, vfield, vlen, elemsOf, dF32, dF64, dI64, dU8,
                dBool, dStr, esOk, elemsS, vsliceX, bnd, ownV, ownC, own1, ownT, isSl, nSl, endL, Md.isOwn, purge, purgeH, purgeB, purgeE, hasName, name1, List.any_cons,
                List.any_nil, Md.isWr, pureV.pureP, Option.map, reduceIte, Nat.reduceEqDiff, Nat.reduceAdd, Nat.reduceMul, Nat.reduceLT, Nat.reduceLeDiff, List.mapM_cons,
                List.mapM_nil, Option.pure_def, Option.bind_eq_bind, Option.bind_some, implies_true, forall_const, beq_self_eq_true, decide_true, decide_false, eq_self,
                Int.reduceEq, Int.reduceLE, Int.reduceLT, if_true, if_false, fc40_0, fc40_1, fc40_2, fc40_3, fc40_4, Int.reduceAdd, Int.reduceSub, Int.reduceMul, Int.reduceNeg,
                Int.reducePow, Nat.reducePow, Int.reduceToNat, Nat.reduceSub, List.replicate, Nat.reduceBEq, wAs, wA, wC, zipW, noDupN, grpE, g_impl_IsPairing,
                g_impl_Vector_mirrored, g_impl_IsPose, g_impl_Turn_mirrored, grpC, en0, dc_en0, en1, dc_en1, ↓b_pick, ePk_true, ePk_false])
        | (refine eA_wk (wk_norm (ks := [4, 6, 8, 29, 30, 31]) (ls := [4, 6, 8, 27]) ?_) (eA_cast ?_ (sl40_0 (y1, y2, y3, y4) y5 _ _ _ _ _ (getD_some (d := default) (x := (l_impl_MirrorPose_0 (y1, y2, y3, y4) y5 (Int.toNat (((List.length y5 : Nat) : Int) - 0) + 2) (List.replicate (Int.toNat ((List.length y5 : Nat) : Int)) (0, 0, 0, 0)) 0)) ?_) ?_)); (simp only [nilS, nilV, normOk, optIn, blkIn, nameIn, 
          hp, grpA, vsliceS, grpS, grpD, grpF, grpL, eop, vop, bop, uop, fltop, convop, endOk, newE, new1, freshL, Md.isNew, outV, pureV, pureX, pure1, AV.cells, AV.one, storable,
                laid, refless, refless1, vload, loadC, storeC, vnil, vfaddr, vextract, flatT, flatE, flatC, vconv, vmm, vidxA, viaddrA, vfield, vlen, elemsOf, dF32, dF64, dI64, dU8,
                dBool, dStr, esOk, elemsS, vsliceX, bnd, ownV, ownC, own1, ownT, isSl, nSl, endL, Md.isOwn, purge, purgeH, purgeB, purgeE, hasName, name1, List.any_cons,
                List.any_nil, Md.isWr, pureV.pureP, Option.map, reduceIte, Nat.reduceEqDiff, Nat.reduceAdd, Nat.reduceMul, Nat.reduceLT, Nat.reduceLeDiff, List.mapM_cons,
                List.mapM_nil, Option.pure_def, Option.bind_eq_bind, Option.bind_some, implies_true, forall_const, beq_self_eq_true, decide_true, decide_false, eq_self,
                Int.reduceEq, Int.reduceLE, Int.reduceLT, if_true, if_false, fc40_0, fc40_1, fc40_2, fc40_3, fc40_4, Int.reduceAdd, Int.reduceSub, Int.reduceMul, Int.reduceNeg,
                Int.reducePow, Nat.reducePow, Int.reduceToNat, Nat.reduceSub, List.replicate, Nat.reduceBEq, wAs, wA, wC, zipW, noDupN, grpE, g_impl_IsPairing,
                g_impl_Vector_mirrored, g_impl_IsPose, g_impl_Turn_mirrored, grpC, en0, dc_en0, en1, dc_en1, ↓b_pick, ePk_true, ePk_false] <;> rfl); (simp only [nilS, nilV, normS,  List.map_append, List.length_append, List.map_set, List.length_set, List.map_replicate, List.length_replicate, List.map_nil, List.map_cons,
          hp, grpA, vsliceS, grpS, grpD, grpF, grpL, eop, vop, bop, uop, fltop, convop, endOk, newE, new1, freshL, Md.isNew, outV, pureV, pureX, pure1, AV.cells, AV.one, storable,
                laid, refless, refless1, vload, loadC, storeC, vnil, vfaddr, vextract, flatT, flatE, flatC, vconv, vmm, vidxA, viaddrA, vfield, vlen, elemsOf, dF32, dF64, dI64, dU8,
                dBool, dStr, esOk, elemsS, vsliceX, bnd, ownV, ownC, own1, ownT, isSl, nSl, endL, Md.isOwn, purge, purgeH, purgeB, purgeE, hasName, name1, List.any_cons,
                List.any_nil, Md.isWr, pureV.pureP, Option.map, reduceIte, Nat.reduceEqDiff, Nat.reduceAdd, Nat.reduceMul, Nat.reduceLT, Nat.reduceLeDiff, List.mapM_cons,
                List.mapM_nil, Option.pure_def, Option.bind_eq_bind, Option.bind_some, implies_true, forall_const, beq_self_eq_true, decide_true, decide_false, eq_self,
                Int.reduceEq, Int.reduceLE, Int.reduceLT, if_true, if_false, fc40_0, fc40_1, fc40_2, fc40_3, fc40_4, Int.reduceAdd, Int.reduceSub, Int.reduceMul, Int.reduceNeg,
                Int.reducePow, Nat.reducePow, Int.reduceToNat, Nat.reduceSub, List.replicate, Nat.reduceBEq, wAs, wA, wC, zipW, noDupN, grpE, g_impl_IsPairing,
                g_impl_Vector_mirrored, g_impl_IsPose, g_impl_Turn_mirrored, grpC, en0, dc_en0, en1, dc_en1, ↓b_pick, ePk_true, ePk_false] <;> first | rfl | (simp only [Nat.add_comm]; done)); (simp only [hp]); (
        intro st2 hw; (try simp only [reduceCtorEq, Bool.not_eq_true', decide_eq_false_iff_not, Bool.not_true, Bool.not_false, Bool.false_or, Bool.true_or, Bool.true_and, Bool.false_and, Bool.and_eq_true, Bool.or_eq_true, if_true, if_false, reduceIte, Bool.false_eq_true, and_true, true_and, false_or, or_false, decide_eq_true_eq, not_false_eq_true, not_true_eq_false] at hp); simp only [
          hp, grpA, vsliceS, grpS, grpD, grpF, grpL, eop, vop, bop, uop, fltop, convop, endOk, newE, new1, freshL, Md.isNew, outV, pureV, pureX, pure1, AV.cells, AV.one, storable,
                laid, refless, refless1, vload, loadC, storeC, vnil, vfaddr, vextract, flatT, flatE, flatC, vconv, vmm, vidxA, viaddrA, vfield, vlen, elemsOf, dF32, dF64, dI64, dU8,
                dBool, dStr, esOk, elemsS, vsliceX, bnd, ownV, ownC, own1, ownT, isSl, nSl, endL, Md.isOwn, purge, purgeH, purgeB, purgeE, hasName, name1, List.any_cons,
                List.any_nil, Md.isWr, pureV.pureP, Option.map, reduceIte, Nat.reduceEqDiff, Nat.reduceAdd, Nat.reduceMul, Nat.reduceLT, Nat.reduceLeDiff, List.mapM_cons,
                List.mapM_nil, Option.pure_def, Option.bind_eq_bind, Option.bind_some, implies_true, forall_const, beq_self_eq_true, decide_true, decide_false, eq_self,
                Int.reduceEq, Int.reduceLE, Int.reduceLT, if_true, if_false, fc40_0, fc40_1, fc40_2, fc40_3, fc40_4, Int.reduceAdd, Int.reduceSub, Int.reduceMul, Int.reduceNeg,
                Int.reducePow, Nat.reducePow, Int.reduceToNat, Nat.reduceSub, List.replicate, Nat.reduceBEq, wAs, wA, wC, zipW, noDupN, grpE, g_impl_IsPairing,
                g_impl_Vector_mirrored, g_impl_IsPose, g_impl_Turn_mirrored, grpC, en0, dc_en0, en1, dc_en1, ↓b_pick, ePk_true, ePk_false]; refine KW_of hw ?_; simp only [
          hp, grpA, vsliceS, grpS, grpD, grpF, grpL, eop, vop, bop, uop, fltop, convop, endOk, newE, new1, freshL, Md.isNew, outV, pureV, pureX, pure1, AV.cells, AV.one, storable,
                laid, refless, refless1, vload, loadC, storeC, vnil, vfaddr, vextract, flatT, flatE, flatC, vconv, vmm, vidxA, viaddrA, vfield, vlen, elemsOf, dF32, dF64, dI64, dU8,
                dBool, dStr, esOk, elemsS, vsliceX, bnd, ownV, ownC, own1, ownT, isSl, nSl, endL, Md.isOwn, purge, purgeH, purgeB, purgeE, hasName, name1, List.any_cons,
                List.any_nil, Md.isWr, pureV.pureP, Option.map, reduceIte, Nat.reduceEqDiff, Nat.reduceAdd, Nat.reduceMul, Nat.reduceLT, Nat.reduceLeDiff, List.mapM_cons,
                List.mapM_nil, Option.pure_def, Option.bind_eq_bind, Option.bind_some, implies_true, forall_const, beq_self_eq_true, decide_true, decide_false, eq_self,
                Int.reduceEq, Int.reduceLE, Int.reduceLT, if_true, if_false, fc40_0, fc40_1, fc40_2, fc40_3, fc40_4, Int.reduceAdd, Int.reduceSub, Int.reduceMul, Int.reduceNeg,
                Int.reducePow, Nat.reducePow, Int.reduceToNat, Nat.reduceSub, List.replicate, Nat.reduceBEq, wAs, wA, wC, zipW, noDupN, grpE, g_impl_IsPairing,
                g_impl_Vector_mirrored, g_impl_IsPose, g_impl_Turn_mirrored, grpC, en0, dc_en0, en1, dc_en1, ↓b_pick, ePk_true, ePk_false])))
      all_goals (try simp only [*, m_impl_MirrorPose, Bool.and_true, Bool.true_and, Bool.and_false, Bool.false_and, Bool.or_true, Bool.true_or, Bool.or_false, Bool.false_or, Bool.not_true, Bool.not_false, Bool.false_eq_true, if_true, if_false, reduceIte, decide_true, decide_false])
      all_goals (try (simp_all; done))
    · cases h
  · cases h
def m_laws_sameFloat (x0 : Nat) (x1 : Nat) : Bool := (if (feq .f64 x0 x0) = true then (if (feq .f64 x1 x1) = true then (if (feq .f64 x0 0) = true then (if (feq .f64 x1 0) = true
      then ((flt .f64 0 (fdiv .f64 4607182418800017408 x0)) == (flt .f64 0 (fdiv .f64 4607182418800017408 x1))) else (feq .f64 x0 x1)) else (feq .f64 x0 x1)) else false) else (!(feq
      .f64 x1 x1)))
def g_laws_sameFloat : List AV → Option AV
  | [.flt .f64 y0, .flt .f64 y1] => some (.bool (m_laws_sameFloat y0 y1))
  | _ => none
def ic92 : ICode := (.seq (.reg [⟨(some 4), none, (.mov (.c (.bool false)))⟩] [0, 1]) (.seq (.seq (.reg [⟨(some 5), none, (.mov (.t 0))⟩, ⟨(some 6), none, (.mov (.t 0))⟩, ⟨(some 7),
      none, (.bin .neq false (.t 5) (.t 6))⟩, ⟨(some 8), none, (.mov (.t 7))⟩, ⟨(some 9), (some (8, false)), (.mov (.t 1))⟩, ⟨(some 10), (some (8, false)), (.mov (.t 1))⟩, ⟨(some
      11), (some (8, false)), (.bin .neq false (.t 9) (.t 10))⟩, ⟨(some 12), none, (.pick (.t 8) (.c (.bool true)) (.t 11))⟩] [0, 1, 12]) (.cond (.t 12) (.seq (.reg [⟨(some 13),
      none, (.mov (.t 0))⟩, ⟨(some 14), none, (.mov (.t 0))⟩, ⟨(some 15), none, (.bin .neq false (.t 13) (.t 14))⟩, ⟨(some 16), none, (.mov (.t 15))⟩, ⟨(some 17), (some (16, true)),
      (.mov (.t 1))⟩, ⟨(some 18), (some (16, true)), (.mov (.t 1))⟩, ⟨(some 19), (some (16, true)), (.bin .neq false (.t 17) (.t 18))⟩, ⟨(some 20), none, (.pick (.t 16) (.t 19) (.c
      (.bool false)))⟩, ⟨(some 4), none, (.mov (.t 20))⟩] [4]) .ret) .skip)) (.seq (.seq (.reg [⟨(some 21), none, (.mov (.t 0))⟩, ⟨(some 22), none, (.bin .eql false (.t 21) (.c
      (.flt .f64 0)))⟩, ⟨(some 23), none, (.mov (.t 22))⟩, ⟨(some 24), (some (23, true)), (.mov (.t 1))⟩, ⟨(some 25), (some (23, true)), (.bin .eql false (.t 24) (.c (.flt .f64
      0)))⟩, ⟨(some 26), none, (.pick (.t 23) (.t 25) (.c (.bool false)))⟩] [0, 1, 26]) (.cond (.t 26) (.seq (.reg [⟨(some 27), none, (.mov (.t 0))⟩, ⟨(some 28), none, (.bin .quo
      false (.c (.flt .f64 4607182418800017408)) (.t 27))⟩, ⟨(some 29), none, (.bin .gtr false (.t 28) (.c (.flt .f64 0)))⟩, ⟨(some 30), none, (.mov (.t 1))⟩, ⟨(some 31), none,
      (.bin .quo false (.c (.flt .f64 4607182418800017408)) (.t 30))⟩, ⟨(some 32), none, (.bin .gtr false (.t 31) (.c (.flt .f64 0)))⟩, ⟨(some 33), none, (.bin .eql true (.t 29) (.t
      32))⟩, ⟨(some 4), none, (.mov (.t 33))⟩] [4]) .ret) .skip)) (.seq (.reg [⟨(some 34), none, (.mov (.t 0))⟩, ⟨(some 35), none, (.mov (.t 1))⟩, ⟨(some 36), none, (.bin .eql false
      (.t 34) (.t 35))⟩, ⟨(some 4), none, (.mov (.t 36))⟩] [4]) .ret))))
def cp92 : CP := CP.mk [] [] [[0, 1], [0, 1, 12], [4], [0, 1, 26], [4], [4]] 37 [] []
theorem fc92_0 : IntKind.wrap .i64 0 = 0 := by decide
theorem fc92_1 : IntKind.wrap .i64 1 = 1 := by decide
theorem fc92_2 : IntKind.wrap .i64 2 = 2 := by decide
theorem fc92_3 : IntKind.wrap .i64 3 = 3 := by decide
theorem fc92_4 : IntKind.wrap .i64 4 = 4 := by decide
theorem s92 : ∀ vs r, g_laws_sameFloat vs = some r → SaysM Try.prog .any 92 vs r := by
  intro vs r h
  unfold g_laws_sameFloat at h
  split at h
  · rename_i y0 y1
    cases h
    refine spec_of (m := .any) (tab := tabOf []) (cp := cp92) (ic := ic92) (rvl := [(.t 4)]) hm tabOk_nil Try.func92 rfl rfl rfl (by kernel_rfl) rfl (Nat.le_of_ble_eq_true rfl) (Nat.le_of_ble_eq_true rfl) ?_
    show eA _ _ _ _
    unfold ic92
    simp only [
        grpA, vsliceS, grpS, grpD, grpF, grpL, eop, vop, bop, uop, fltop, convop, endOk, newE, new1, freshL, Md.isNew, outV, pureV, pureX, pure1, AV.cells, AV.one, storable, laid,
              refless, refless1, vload, loadC, storeC, vnil, vfaddr, vextract, flatT, flatE, flatC, vconv, vmm, vidxA, viaddrA, vfield, vlen, elemsOf, dF32, dF64, dI64, dU8, dBool,
              dStr, esOk, elemsS, vsliceX, bnd, ownV, ownC, own1, ownT, isSl, nSl, endL, Md.isOwn, purge, purgeH, purgeB, purgeE, hasName, name1, List.any_cons, List.any_nil,
              Md.isWr, pureV.pureP, Option.map, reduceIte, Nat.reduceEqDiff, Nat.reduceAdd, Nat.reduceMul, Nat.reduceLT, Nat.reduceLeDiff, List.mapM_cons, List.mapM_nil,
              Option.pure_def, Option.bind_eq_bind, Option.bind_some, implies_true, forall_const, beq_self_eq_true, decide_true, decide_false, eq_self, Int.reduceEq, Int.reduceLE,
              Int.reduceLT, if_true, if_false, fc92_0, fc92_1, fc92_2, fc92_3, fc92_4, Int.reduceAdd, Int.reduceSub, Int.reduceMul, Int.reduceNeg, Int.reducePow, Nat.reducePow,
              Int.reduceToNat, Nat.reduceSub, List.replicate, Nat.reduceBEq, wAs, wA, wC, zipW, noDupN, grpE, grpC, en0, dc_en0, en1, dc_en1, ↓b_pick, ePk_true, ePk_false]
    repeat' (first
      | ((first | (refine eGI_of (fun h => ?_) (fun h => ?_)) | (refine eCc_of (fun h => ?_) (fun h => ?_)) | (refine ePk_of (fun h => ?_) (fun h => ?_))) <;> (try simp only [Bool.not_eq_true', Bool.not_eq_false'] at h) <;> simp only [h,
        grpA, vsliceS, grpS, grpD, grpF, grpL, eop, vop, bop, uop, fltop, convop, endOk, newE, new1, freshL, Md.isNew, outV, pureV, pureX, pure1, AV.cells, AV.one, storable, laid,
              refless, refless1, vload, loadC, storeC, vnil, vfaddr, vextract, flatT, flatE, flatC, vconv, vmm, vidxA, viaddrA, vfield, vlen, elemsOf, dF32, dF64, dI64, dU8, dBool,
              dStr, esOk, elemsS, vsliceX, bnd, ownV, ownC, own1, ownT, isSl, nSl, endL, Md.isOwn, purge, purgeH, purgeB, purgeE, hasName, name1, List.any_cons, List.any_nil,
              Md.isWr, pureV.pureP, Option.map, reduceIte, Nat.reduceEqDiff, Nat.reduceAdd, Nat.reduceMul, Nat.reduceLT, Nat.reduceLeDiff, List.mapM_cons, List.mapM_nil,
              Option.pure_def, Option.bind_eq_bind, Option.bind_some, implies_true, forall_const, beq_self_eq_true, decide_true, decide_false, eq_self, Int.reduceEq, Int.reduceLE,
              Int.reduceLT, if_true, if_false, fc92_0, fc92_1, fc92_2, fc92_3, fc92_4, Int.reduceAdd, Int.reduceSub, Int.reduceMul, Int.reduceNeg, Int.reducePow, Nat.reducePow,
              Int.reduceToNat, Nat.reduceSub, List.replicate, Nat.reduceBEq, wAs, wA, wC, zipW, noDupN, grpE, grpC, en0, dc_en0, en1, dc_en1, ↓b_pick, ePk_true, ePk_false]))
    all_goals (try simp only [*, m_laws_sameFloat, Bool.and_true, Bool.true_and, Bool.and_false, Bool.false_and, Bool.or_true, Bool.true_or, Bool.or_false, Bool.false_or, Bool.not_true, Bool.not_false, Bool.false_eq_true, if_true, if_false, reduceIte, decide_true, decide_false])
    all_goals (try (simp_all; done))
  · cases h
def m_laws_eqVector (x0 : (Nat × Nat × Nat)) (x1 : (Nat × Nat × Nat)) : Bool := (if (m_laws_sameFloat (widen x0.1) (widen x1.1)) = true then (if (m_laws_sameFloat (widen x0.2.1)
      (widen x1.2.1)) = true then (if (m_laws_sameFloat (widen x0.2.2) (widen x1.2.2)) = true then true else false) else false) else false)
def g_laws_eqVector : List AV → Option AV
  | [.agg [.flt .f32 y0, .flt .f32 y1, .flt .f32 y2], .agg [.flt .f32 y3, .flt .f32 y4, .flt .f32 y5]] => some (.bool (m_laws_eqVector (y0,
      y1, y2) (y3, y4, y5)))
  | _ => none
def ic71 : ICode := (.seq (.reg [⟨(some 2), none, (.box 3 (.t 0))⟩, ⟨(some 3), none, (.box 3 (.t 1))⟩, ⟨(some 4), none, (.mov (.c (.bool false)))⟩] [2, 3]) (.seq (.seq (.reg [⟨(some
      5), none, (.faddr 0 (.t 2))⟩, ⟨(some 6), none, (.load none (.t 5))⟩, ⟨(some 7), none, (.conv (.flt .f64) (.t 6))⟩, ⟨(some 8), none, (.faddr 0 (.t 3))⟩, ⟨(some 9), none, (.load
      none (.t 8))⟩, ⟨(some 10), none, (.conv (.flt .f64) (.t 9))⟩, ⟨(some 11), none, (.call (.fn 92) [(.t 7), (.t 10)] [])⟩, ⟨(some 12), none, (.un .not (.t 11))⟩] [2, 3, 12])
      (.cond (.t 12) (.seq (.reg [⟨(some 4), none, (.mov (.c (.bool false)))⟩] [4]) .ret) .skip)) (.seq (.seq (.reg [⟨(some 13), none, (.faddr 1 (.t 2))⟩, ⟨(some 14), none, (.load
      none (.t 13))⟩, ⟨(some 15), none, (.conv (.flt .f64) (.t 14))⟩, ⟨(some 16), none, (.faddr 1 (.t 3))⟩, ⟨(some 17), none, (.load none (.t 16))⟩, ⟨(some 18), none, (.conv (.flt
      .f64) (.t 17))⟩, ⟨(some 19), none, (.call (.fn 92) [(.t 15), (.t 18)] [])⟩, ⟨(some 20), none, (.un .not (.t 19))⟩] [2, 3, 20]) (.cond (.t 20) (.seq (.reg [⟨(some 4), none,
      (.mov (.c (.bool false)))⟩] [4]) .ret) .skip)) (.seq (.seq (.reg [⟨(some 21), none, (.faddr 2 (.t 2))⟩, ⟨(some 22), none, (.load none (.t 21))⟩, ⟨(some 23), none, (.conv (.flt
      .f64) (.t 22))⟩, ⟨(some 24), none, (.faddr 2 (.t 3))⟩, ⟨(some 25), none, (.load none (.t 24))⟩, ⟨(some 26), none, (.conv (.flt .f64) (.t 25))⟩, ⟨(some 27), none, (.call (.fn
      92) [(.t 23), (.t 26)] [])⟩, ⟨(some 28), none, (.un .not (.t 27))⟩] [28]) (.cond (.t 28) (.seq (.reg [⟨(some 4), none, (.mov (.c (.bool false)))⟩] [4]) .ret) .skip)) (.seq
      (.reg [⟨(some 4), none, (.mov (.c (.bool true)))⟩] [4]) .ret)))))
def cp71 : CP := CP.mk [] [] [[2, 3], [2, 3, 12], [4], [2, 3, 20], [4], [28], [4], [4]] 29 [] []
theorem fc71_0 : IntKind.wrap .i64 0 = 0 := by decide
theorem fc71_1 : IntKind.wrap .i64 1 = 1 := by decide
theorem fc71_2 : IntKind.wrap .i64 2 = 2 := by decide
theorem fc71_3 : IntKind.wrap .i64 3 = 3 := by decide
theorem fc71_4 : IntKind.wrap .i64 4 = 4 := by decide
theorem s71 : ∀ vs r, g_laws_eqVector vs = some r → SaysM Try.prog .any 71 vs r := by
  intro vs r h
  unfold g_laws_eqVector at h
  split at h
  · rename_i y0 y1 y2 y3 y4 y5
    cases h
    refine spec_of (m := .any) (tab := tabOf [(92, wM .any g_laws_sameFloat)]) (cp := cp71) (ic := ic71) (rvl := [(.t 4)]) hm (tabOk_cons (m := .any) s92 tabOk_nil) Try.func71 rfl rfl rfl (by kernel_rfl) rfl (Nat.le_of_ble_eq_true rfl) (Nat.le_of_ble_eq_true rfl) ?_
    show eA _ _ _ _
    unfold ic71
    simp only [
        grpA, vsliceS, grpS, grpD, grpF, grpL, eop, vop, bop, uop, fltop, convop, endOk, newE, new1, freshL, Md.isNew, outV, pureV, pureX, pure1, AV.cells, AV.one, storable, laid,
              refless, refless1, vload, loadC, storeC, vnil, vfaddr, vextract, flatT, flatE, flatC, vconv, vmm, vidxA, viaddrA, vfield, vlen, elemsOf, dF32, dF64, dI64, dU8, dBool,
              dStr, esOk, elemsS, vsliceX, bnd, ownV, ownC, own1, ownT, isSl, nSl, endL, Md.isOwn, purge, purgeH, purgeB, purgeE, hasName, name1, List.any_cons, List.any_nil,
              Md.isWr, pureV.pureP, Option.map, reduceIte, Nat.reduceEqDiff, Nat.reduceAdd, Nat.reduceMul, Nat.reduceLT, Nat.reduceLeDiff, List.mapM_cons, List.mapM_nil,
              Option.pure_def, Option.bind_eq_bind, Option.bind_some, implies_true, forall_const, beq_self_eq_true, decide_true, decide_false, eq_self, Int.reduceEq, Int.reduceLE,
              Int.reduceLT, if_true, if_false, fc71_0, fc71_1, fc71_2, fc71_3, fc71_4, Int.reduceAdd, Int.reduceSub, Int.reduceMul, Int.reduceNeg, Int.reducePow, Nat.reducePow,
              Int.reduceToNat, Nat.reduceSub, List.replicate, Nat.reduceBEq, wAs, wA, wC, zipW, noDupN, grpE, g_laws_sameFloat, grpC, en0, dc_en0, en1, dc_en1]
    repeat' (first
      | ((first | (refine eGI_of (fun h => ?_) (fun h => ?_)) | (refine eCc_of (fun h => ?_) (fun h => ?_))) <;> (try simp only [Bool.not_eq_true', Bool.not_eq_false'] at h) <;> simp only [h,
        grpA, vsliceS, grpS, grpD, grpF, grpL, eop, vop, bop, uop, fltop, convop, endOk, newE, new1, freshL, Md.isNew, outV, pureV, pureX, pure1, AV.cells, AV.one, storable, laid,
              refless, refless1, vload, loadC, storeC, vnil, vfaddr, vextract, flatT, flatE, flatC, vconv, vmm, vidxA, viaddrA, vfield, vlen, elemsOf, dF32, dF64, dI64, dU8, dBool,
              dStr, esOk, elemsS, vsliceX, bnd, ownV, ownC, own1, ownT, isSl, nSl, endL, Md.isOwn, purge, purgeH, purgeB, purgeE, hasName, name1, List.any_cons, List.any_nil,
              Md.isWr, pureV.pureP, Option.map, reduceIte, Nat.reduceEqDiff, Nat.reduceAdd, Nat.reduceMul, Nat.reduceLT, Nat.reduceLeDiff, List.mapM_cons, List.mapM_nil,
              Option.pure_def, Option.bind_eq_bind, Option.bind_some, implies_true, forall_const, beq_self_eq_true, decide_true, decide_false, eq_self, Int.reduceEq, Int.reduceLE,
              Int.reduceLT, if_true, if_false, fc71_0, fc71_1, fc71_2, fc71_3, fc71_4, Int.reduceAdd, Int.reduceSub, Int.reduceMul, Int.reduceNeg, Int.reducePow, Nat.reducePow,
              Int.reduceToNat, Nat.reduceSub, List.replicate, Nat.reduceBEq, wAs, wA, wC, zipW, noDupN, grpE, g_laws_sameFloat, grpC, en0, dc_en0, en1, dc_en1]))
    all_goals (try simp only [*, m_laws_eqVector, Bool.and_true, Bool.true_and, Bool.and_false, Bool.false_and, Bool.or_true, Bool.true_or, Bool.or_false, Bool.false_or, Bool.not_true, Bool.not_false, Bool.false_eq_true, if_true, if_false, reduceIte, decide_true, decide_false])
    all_goals (try (simp_all; done))
  · cases h
def m_laws_eqTurn (x0 : (Nat × Nat × Nat × Nat)) (x1 : (Nat × Nat × Nat × Nat)) : Bool := (if (m_laws_sameFloat (widen x0.1) (widen x1.1)) = true then (if (m_laws_sameFloat (widen
      x0.2.1) (widen x1.2.1)) = true then (if (m_laws_sameFloat (widen x0.2.2.1) (widen x1.2.2.1)) = true then (if (m_laws_sameFloat (widen x0.2.2.2) (widen x1.2.2.2)) = true then
      true else false) else false) else false) else false)
def g_laws_eqTurn : List AV → Option AV
  | [.agg [.flt .f32 y0, .flt .f32 y1, .flt .f32 y2, .flt .f32 y3], .agg [.flt .f32 y4, .flt .f32 y5, .flt .f32 y6, .flt .f32 y7]] => some
      (.bool (m_laws_eqTurn (y0, y1, y2, y3) (y4, y5, y6, y7)))
  | _ => none
def ic78 : ICode := (.seq (.reg [⟨(some 2), none, (.box 4 (.t 0))⟩, ⟨(some 3), none, (.box 4 (.t 1))⟩, ⟨(some 4), none, (.mov (.c (.bool false)))⟩] [2, 3]) (.seq (.seq (.reg [⟨(some
      5), none, (.faddr 0 (.t 2))⟩, ⟨(some 6), none, (.load none (.t 5))⟩, ⟨(some 7), none, (.conv (.flt .f64) (.t 6))⟩, ⟨(some 8), none, (.faddr 0 (.t 3))⟩, ⟨(some 9), none, (.load
      none (.t 8))⟩, ⟨(some 10), none, (.conv (.flt .f64) (.t 9))⟩, ⟨(some 11), none, (.call (.fn 92) [(.t 7), (.t 10)] [])⟩, ⟨(some 12), none, (.un .not (.t 11))⟩] [2, 3, 12])
      (.cond (.t 12) (.seq (.reg [⟨(some 4), none, (.mov (.c (.bool false)))⟩] [4]) .ret) .skip)) (.seq (.seq (.reg [⟨(some 13), none, (.faddr 1 (.t 2))⟩, ⟨(some 14), none, (.load
      none (.t 13))⟩, ⟨(some 15), none, (.conv (.flt .f64) (.t 14))⟩, ⟨(some 16), none, (.faddr 1 (.t 3))⟩, ⟨(some 17), none, (.load none (.t 16))⟩, ⟨(some 18), none, (.conv (.flt
      .f64) (.t 17))⟩, ⟨(some 19), none, (.call (.fn 92) [(.t 15), (.t 18)] [])⟩, ⟨(some 20), none, (.un .not (.t 19))⟩] [2, 3, 20]) (.cond (.t 20) (.seq (.reg [⟨(some 4), none,
      (.mov (.c (.bool false)))⟩] [4]) .ret) .skip)) (.seq (.seq (.reg [⟨(some 21), none, (.faddr 2 (.t 2))⟩, ⟨(some 22), none, (.load none (.t 21))⟩, ⟨(some 23), none, (.conv (.flt
      .f64) (.t 22))⟩, ⟨(some 24), none, (.faddr 2 (.t 3))⟩, ⟨(some 25), none, (.load none (.t 24))⟩, ⟨(some 26), none, (.conv (.flt .f64) (.t 25))⟩, ⟨(some 27), none, (.call (.fn
      92) [(.t 23), (.t 26)] [])⟩, ⟨(some 28), none, (.un .not (.t 27))⟩] [2, 3, 28]) (.cond (.t 28) (.seq (.reg [⟨(some 4), none, (.mov (.c (.bool false)))⟩] [4]) .ret) .skip))
      (.seq (.seq (.reg [⟨(some 29), none, (.faddr 3 (.t 2))⟩, ⟨(some 30), none, (.load none (.t 29))⟩, ⟨(some 31), none, (.conv (.flt .f64) (.t 30))⟩, ⟨(some 32), none, (.faddr 3
      (.t 3))⟩, ⟨(some 33), none, (.load none (.t 32))⟩, ⟨(some 34), none, (.conv (.flt .f64) (.t 33))⟩, ⟨(some 35), none, (.call (.fn 92) [(.t 31), (.t 34)] [])⟩, ⟨(some 36), none,
      (.un .not (.t 35))⟩] [36]) (.cond (.t 36) (.seq (.reg [⟨(some 4), none, (.mov (.c (.bool false)))⟩] [4]) .ret) .skip)) (.seq (.reg [⟨(some 4), none, (.mov (.c (.bool true)))⟩]
      [4]) .ret))))))
def cp78 : CP := CP.mk [] [] [[2, 3], [2, 3, 12], [4], [2, 3, 20], [4], [2, 3, 28], [4], [36], [4], [4]] 37 [] []
theorem fc78_0 : IntKind.wrap .i64 0 = 0 := by decide
theorem fc78_1 : IntKind.wrap .i64 1 = 1 := by decide
theorem fc78_2 : IntKind.wrap .i64 2 = 2 := by decide
theorem fc78_3 : IntKind.wrap .i64 3 = 3 := by decide
theorem fc78_4 : IntKind.wrap .i64 4 = 4 := by decide
theorem s78 : ∀ vs r, g_laws_eqTurn vs = some r → SaysM Try.prog .any 78 vs r := by
  intro vs r h
  unfold g_laws_eqTurn at h
  split at h
  · rename_i y0 y1 y2 y3 y4 y5 y6 y7
    cases h
    refine spec_of (m := .any) (tab := tabOf [(92, wM .any g_laws_sameFloat)]) (cp := cp78) (ic := ic78) (rvl := [(.t 4)]) hm (tabOk_cons (m := .any) s92 tabOk_nil) Try.func78 rfl rfl rfl (by kernel_rfl) rfl (Nat.le_of_ble_eq_true rfl) (Nat.le_of_ble_eq_true rfl) ?_
    show eA _ _ _ _
    unfold ic78
    simp only [
        grpA, vsliceS, grpS, grpD, grpF, grpL, eop, vop, bop, uop, fltop, convop, endOk, newE, new1, freshL, Md.isNew, outV, pureV, pureX, pure1, AV.cells, AV.one, storable, laid,
              refless, refless1, vload, loadC, storeC, vnil, vfaddr, vextract, flatT, flatE, flatC, vconv, vmm, vidxA, viaddrA, vfield, vlen, elemsOf, dF32, dF64, dI64, dU8, dBool,
              dStr, esOk, elemsS, vsliceX, bnd, ownV, ownC, own1, ownT, isSl, nSl, endL, Md.isOwn, purge, purgeH, purgeB, purgeE, hasName, name1, List.any_cons, List.any_nil,
              Md.isWr, pureV.pureP, Option.map, reduceIte, Nat.reduceEqDiff, Nat.reduceAdd, Nat.reduceMul, Nat.reduceLT, Nat.reduceLeDiff, List.mapM_cons, List.mapM_nil,
              Option.pure_def, Option.bind_eq_bind, Option.bind_some, implies_true, forall_const, beq_self_eq_true, decide_true, decide_false, eq_self, Int.reduceEq, Int.reduceLE,
              Int.reduceLT, if_true, if_false, fc78_0, fc78_1, fc78_2, fc78_3, fc78_4, Int.reduceAdd, Int.reduceSub, Int.reduceMul, Int.reduceNeg, Int.reducePow, Nat.reducePow,
              Int.reduceToNat, Nat.reduceSub, List.replicate, Nat.reduceBEq, wAs, wA, wC, zipW, noDupN, grpE, g_laws_sameFloat, grpC, en0, dc_en0, en1, dc_en1]
    repeat' (first
      | ((first | (refine eGI_of (fun h => ?_) (fun h => ?_)) | (refine eCc_of (fun h => ?_) (fun h => ?_))) <;> (try simp only [Bool.not_eq_true', Bool.not_eq_false'] at h) <;> simp only [h,
        grpA, vsliceS, grpS, grpD, grpF, grpL, eop, vop, bop, uop, fltop, convop, endOk, newE, new1, freshL, Md.isNew, outV, pureV, pureX, pure1, AV.cells, AV.one, storable, laid,
              refless, refless1, vload, loadC, storeC, vnil, vfaddr, vextract, flatT, flatE, flatC, vconv, vmm, vidxA, viaddrA, vfield, vlen, elemsOf, dF32, dF64, dI64, dU8, dBool,
              dStr, esOk, elemsS, vsliceX, bnd, ownV, ownC, own1, ownT, isSl, nSl, endL, Md.isOwn, purge, purgeH, purgeB, purgeE, hasName, name1, List.any_cons, List.any_nil,
              Md.isWr, pureV.pureP, Option.map, reduceIte, Nat.reduceEqDiff, Nat.reduceAdd, Nat.reduceMul, Nat.reduceLT, Nat.reduceLeDiff, List.mapM_cons, List.mapM_nil,
              Option.pure_def, Option.bind_eq_bind, Option.bind_some, implies_true, forall_const, beq_self_eq_true, decide_true, decide_false, eq_self, Int.reduceEq, Int.reduceLE,
              Int.reduceLT, if_true, if_false, fc78_0, fc78_1, fc78_2, fc78_3, fc78_4, Int.reduceAdd, Int.reduceSub, Int.reduceMul, Int.reduceNeg, Int.reducePow, Nat.reducePow,
              Int.reduceToNat, Nat.reduceSub, List.replicate, Nat.reduceBEq, wAs, wA, wC, zipW, noDupN, grpE, g_laws_sameFloat, grpC, en0, dc_en0, en1, dc_en1]))
    all_goals (try simp only [*, m_laws_eqTurn, Bool.and_true, Bool.true_and, Bool.and_false, Bool.false_and, Bool.or_true, Bool.true_or, Bool.or_false, Bool.false_or, Bool.not_true, Bool.not_false, Bool.false_eq_true, if_true, if_false, reduceIte, decide_true, decide_false])
    all_goals (try (simp_all; done))
  · cases h
def l_laws_eqTurnS_0 (x0 : (List (Nat × Nat × Nat × Nat))) (x1 : (List (Nat × Nat × Nat × Nat))) : Nat → Int → Option (Bool × Bool × Unit)
  | 0, _ => none
  | n + 1, z0_0 => (if (decide (z0_0 < ((List.length x0 : Nat) : Int))) = true then (need (inB z0_0 (List.length x0)) (need (inB z0_0 (List.length x1)) (if (m_laws_eqTurn (atI x0
        z0_0) (atI x1 z0_0)) = true then (l_laws_eqTurnS_0 x0 x1 n (IntKind.wrap .i64 (z0_0 + 1))) else (some (true, false, default))))) else (some (false, default, ())))
def m_laws_eqTurnS (x0 : (List (Nat × Nat × Nat × Nat))) (x1 : (List (Nat × Nat × Nat × Nat))) : Bool := (if (decide (((List.length x0 : Nat) : Int) = ((List.length x1 : Nat) :
      Int))) = true then (if (Option.getD (l_laws_eqTurnS_0 x0 x1 (Int.toNat (((List.length x0 : Nat) : Int) - 0) + 2) 0) default).1 = true then (Option.getD (l_laws_eqTurnS_0 x0 x1
      (Int.toNat (((List.length x0 : Nat) : Int) - 0) + 2) 0) default).2.1 else true) else false)
def p_laws_eqTurnS (x0 : (List (Nat × Nat × Nat × Nat))) (x1 : (List (Nat × Nat × Nat × Nat))) : Bool := (!(decide (((List.length x0 : Nat) : Int) = ((List.length x1 : Nat) : Int)))
      || (Option.isSome (l_laws_eqTurnS_0 x0 x1 (Int.toNat (((List.length x0 : Nat) : Int) - 0) + 2) 0)))
def g_laws_eqTurnS : List AV → Option AV
  | [.sl w0, .sl w1] => (match decL dc_en1 w0 with | some y0 => ((match decL dc_en1 w1 with | some y1 => (if p_laws_eqTurnS y0 y1 = true then some (.bool (m_laws_eqTurnS y0 y1)) else none) | none => none)) | none => none)
  | _ => none
def lb37_0 : ICode := (.seq (.seq (.reg [⟨(some 11), none, (.mov (.t 5))⟩, ⟨(some 12), none, (.mov (.t 0))⟩, ⟨(some 13), none, (.len false (.t 12))⟩, ⟨(some 14), none, (.bin .lss
      false (.t 11) (.t 13))⟩] [0, 1, 5, 14]) (.cond (.t 14) .skip (.exit 0))) (.seq (.block 1 (.seq (.reg [⟨(some 17), none, (.mov (.t 0))⟩, ⟨(some 18), none, (.mov (.t 5))⟩,
      ⟨(some 19), none, (.iaddrS 4 (.t 17) (.t 18))⟩, ⟨(some 20), none, (.load (some 4) (.t 19))⟩, ⟨(some 21), none, (.mov (.t 1))⟩, ⟨(some 22), none, (.mov (.t 5))⟩, ⟨(some 23),
      none, (.iaddrS 4 (.t 21) (.t 22))⟩, ⟨(some 24), none, (.load (some 4) (.t 23))⟩, ⟨(some 25), none, (.call (.fn 78) [(.t 20), (.t 24)] [])⟩, ⟨(some 26), none, (.un .not (.t
      25))⟩] [0, 1, 5, 26]) (.cond (.t 26) (.seq (.reg [⟨(some 4), none, (.mov (.c (.bool false)))⟩] [4]) .ret) .skip))) (.reg [⟨(some 15), none, (.mov (.t 5))⟩, ⟨(some 16), none,
      (.bin .add false (.t 15) (.c (.int .i64 1)))⟩, ⟨(some 5), none, (.mov (.t 16))⟩] [0, 1, 5])))
def ic37 : ICode := (.seq (.reg [⟨(some 4), none, (.mov (.c (.bool false)))⟩] [0, 1]) (.seq (.seq (.reg [⟨(some 6), none, (.mov (.t 0))⟩, ⟨(some 7), none, (.len false (.t 6))⟩,
      ⟨(some 8), none, (.mov (.t 1))⟩, ⟨(some 9), none, (.len false (.t 8))⟩, ⟨(some 10), none, (.bin .neq false (.t 7) (.t 9))⟩] [0, 1, 10]) (.cond (.t 10) (.seq (.reg [⟨(some 4),
      none, (.mov (.c (.bool false)))⟩] [4]) .ret) .skip)) (.seq (.seq (.reg [⟨(some 5), none, (.mov (.c (.int .i64 0)))⟩] [0, 1, 5]) (.block 0 (.loop lb37_0))) (.seq (.reg [⟨(some
      4), none, (.mov (.c (.bool true)))⟩] [4]) .ret))))
def cp37 : CP := CP.mk [] [] [[0, 1], [0, 1, 10], [4], [0, 1, 5], [0, 1, 5, 14], [0, 1, 5], [0, 1, 5, 26], [4], [4]] 27 [] []
theorem fc37_0 : IntKind.wrap .i64 0 = 0 := by decide
theorem fc37_1 : IntKind.wrap .i64 1 = 1 := by decide
theorem fc37_2 : IntKind.wrap .i64 2 = 2 := by decide
theorem fc37_3 : IntKind.wrap .i64 3 = 3 := by decide
theorem fc37_4 : IntKind.wrap .i64 4 = 4 := by decide
theorem sl37_0 (x0 : (List (Nat × Nat × Nat × Nat))) (x1 : (List (Nat × Nat × Nat × Nat))) : ∀ (n : Nat) (z0_0 : Int) (o : (Bool × Bool × Unit)) (K : IExit → St → Prop),
      l_laws_eqTurnS_0 x0 x1 n z0_0 = some o → (∀ st, o.1 = true → outM .any st [(.t 4)] = some (.bool o.2.1) → K .ret st) → (∀ st, o.1 = false → Wk st (⟨[], []⟩ : St) → K (.exit 0)
      st) → eA (tabOf [(78, wM .any g_laws_eqTurn)]) (.loop lb37_0) (⟨[(0, (.sl (List.map en1 x0))), (1, (.sl (List.map en1 x1))), (5, (.int .i64 z0_0))], []⟩ : St) K := by
  intro n
  induction n with
  | zero =>
    intro z0_0 o K h h0 h1
    simp only [l_laws_eqTurnS_0, reduceCtorEq] at h
  | succ n ih =>
    intro z0_0 o K h h0 h1
    refine eA_loop ?_
    unfold lb37_0
    unfold l_laws_eqTurnS_0 at h
    (try simp only [need_iff] at h)
    simp only [
      need_iff, h, grpA, vsliceS, grpS, grpD, grpF, grpL, eop, vop, bop, uop, fltop, convop, endOk, newE, new1, freshL, Md.isNew, outV, pureV, pureX, pure1, AV.cells, AV.one,
            storable, laid, refless, refless1, vload, loadC, storeC, vnil, vfaddr, vextract, flatT, flatE, flatC, vconv, vmm, vidxA, viaddrA, vfield, vlen, elemsOf, dF32, dF64,
            dI64, dU8, dBool, dStr, esOk, elemsS, vsliceX, bnd, ownV, ownC, own1, ownT, isSl, nSl, endL, Md.isOwn, purge, purgeH, purgeB, purgeE, hasName, name1, List.any_cons,
            List.any_nil, Md.isWr, pureV.pureP, Option.map, reduceIte, Nat.reduceEqDiff, Nat.reduceAdd, Nat.reduceMul, Nat.reduceLT, Nat.reduceLeDiff, List.mapM_cons, List.mapM_nil,
            Option.pure_def, Option.bind_eq_bind, Option.bind_some, implies_true, forall_const, beq_self_eq_true, decide_true, decide_false, eq_self, Int.reduceEq, Int.reduceLE,
            Int.reduceLT, if_true, if_false, fc37_0, fc37_1, fc37_2, fc37_3, fc37_4, Int.reduceAdd, Int.reduceSub, Int.reduceMul, Int.reduceNeg, Int.reducePow, Nat.reducePow,
            Int.reduceToNat, Nat.reduceSub, List.replicate, Nat.reduceBEq, wAs, wA, wC, zipW, noDupN, grpE, g_laws_eqTurn, grpC, en0, dc_en0, en1, dc_en1]
    repeat' (first
      | ((first | (refine eGI_of (fun hc => ?_) (fun hc => ?_)) | (refine eCc_of (fun hc => ?_) (fun hc => ?_)) | (have hc := True.intro; refine KW_refl ?_)) <;> (try simp only [Bool.not_eq_true', Bool.not_eq_false'] at hc) <;> (try simp only [hc, need_iff, reduceCtorEq, Bool.not_eq_true', decide_eq_false_iff_not, Bool.not_true, Bool.not_false, Bool.false_or, Bool.true_or, Bool.true_and, Bool.false_and, Bool.and_eq_true, Bool.or_eq_true, if_true, if_false, reduceIte, Bool.false_eq_true, and_true, true_and, false_or, or_false, decide_eq_true_eq, not_false_eq_true, not_true_eq_false] at h) <;> (try (have hc2 := hc; simp only [decide_eq_true_eq, decide_eq_false_iff_not] at hc2; (first | (replace hc2 := eq_false hc2) | (replace hc2 := eq_true hc2)); simp only [hc2, if_true, if_false, need_iff, reduceCtorEq, Bool.not_eq_true', decide_eq_false_iff_not, Bool.not_true, Bool.not_false, Bool.false_or, Bool.true_or, Bool.true_and, Bool.false_and, Bool.and_eq_true, Bool.or_eq_true, if_true, if_false, reduceIte, Bool.false_eq_true, and_true, true_and, false_or, or_false, decide_eq_true_eq, not_false_eq_true, not_true_eq_false] at h)) <;> simp only [hc,
      need_iff, h, grpA, vsliceS, grpS, grpD, grpF, grpL, eop, vop, bop, uop, fltop, convop, endOk, newE, new1, freshL, Md.isNew, outV, pureV, pureX, pure1, AV.cells, AV.one,
            storable, laid, refless, refless1, vload, loadC, storeC, vnil, vfaddr, vextract, flatT, flatE, flatC, vconv, vmm, vidxA, viaddrA, vfield, vlen, elemsOf, dF32, dF64,
            dI64, dU8, dBool, dStr, esOk, elemsS, vsliceX, bnd, ownV, ownC, own1, ownT, isSl, nSl, endL, Md.isOwn, purge, purgeH, purgeB, purgeE, hasName, name1, List.any_cons,
            List.any_nil, Md.isWr, pureV.pureP, Option.map, reduceIte, Nat.reduceEqDiff, Nat.reduceAdd, Nat.reduceMul, Nat.reduceLT, Nat.reduceLeDiff, List.mapM_cons, List.mapM_nil,
            Option.pure_def, Option.bind_eq_bind, Option.bind_some, implies_true, forall_const, beq_self_eq_true, decide_true, decide_false, eq_self, Int.reduceEq, Int.reduceLE,
            Int.reduceLT, if_true, if_false, fc37_0, fc37_1, fc37_2, fc37_3, fc37_4, Int.reduceAdd, Int.reduceSub, Int.reduceMul, Int.reduceNeg, Int.reducePow, Nat.reducePow,
            Int.reduceToNat, Nat.reduceSub, List.replicate, Nat.reduceBEq, wAs, wA, wC, zipW, noDupN, grpE, g_laws_eqTurn, grpC, en0, dc_en0, en1, dc_en1]))
    all_goals (repeat (replace h := And.right h))
    all_goals first
      | (refine eA_wk (wk_norm (ks := [0, 1, 5]) (ls := []) ?_) (eA_cast ?_ (ih _ _ _ h h0 h1)); (simp only [normOk, optIn, blkIn, nameIn,
      need_iff, h, grpA, vsliceS, grpS, grpD, grpF, grpL, eop, vop, bop, uop, fltop, convop, endOk, newE, new1, freshL, Md.isNew, outV, pureV, pureX, pure1, AV.cells, AV.one,
            storable, laid, refless, refless1, vload, loadC, storeC, vnil, vfaddr, vextract, flatT, flatE, flatC, vconv, vmm, vidxA, viaddrA, vfield, vlen, elemsOf, dF32, dF64,
            dI64, dU8, dBool, dStr, esOk, elemsS, vsliceX, bnd, ownV, ownC, own1, ownT, isSl, nSl, endL, Md.isOwn, purge, purgeH, purgeB, purgeE, hasName, name1, List.any_cons,
            List.any_nil, Md.isWr, pureV.pureP, Option.map, reduceIte, Nat.reduceEqDiff, Nat.reduceAdd, Nat.reduceMul, Nat.reduceLT, Nat.reduceLeDiff, List.mapM_cons, List.mapM_nil,
            Option.pure_def, Option.bind_eq_bind, Option.bind_some, implies_true, forall_const, beq_self_eq_true, decide_true, decide_false, eq_self, Int.reduceEq, Int.reduceLE,
            Int.reduceLT, if_true, if_false, fc37_0, fc37_1, fc37_2, fc37_3, fc37_4, Int.reduceAdd, Int.reduceSub, Int.reduceMul, Int.reduceNeg, Int.reducePow, Nat.reducePow,
            Int.reduceToNat, Nat.reduceSub, List.replicate, Nat.reduceBEq, wAs, wA, wC, zipW, noDupN, grpE, g_laws_eqTurn, grpC, en0, dc_en0, en1, dc_en1] <;> rfl); (simp only [normS, List.map_append, List.length_append, List.map_set, List.length_set, List.map_replicate, List.length_replicate, List.map_nil, List.map_cons,
      need_iff, h, grpA, vsliceS, grpS, grpD, grpF, grpL, eop, vop, bop, uop, fltop, convop, endOk, newE, new1, freshL, Md.isNew, outV, pureV, pureX, pure1, AV.cells, AV.one,
            storable, laid, refless, refless1, vload, loadC, storeC, vnil, vfaddr, vextract, flatT, flatE, flatC, vconv, vmm, vidxA, viaddrA, vfield, vlen, elemsOf, dF32, dF64,
            dI64, dU8, dBool, dStr, esOk, elemsS, vsliceX, bnd, ownV, ownC, own1, ownT, isSl, nSl, endL, Md.isOwn, purge, purgeH, purgeB, purgeE, hasName, name1, List.any_cons,
            List.any_nil, Md.isWr, pureV.pureP, Option.map, reduceIte, Nat.reduceEqDiff, Nat.reduceAdd, Nat.reduceMul, Nat.reduceLT, Nat.reduceLeDiff, List.mapM_cons, List.mapM_nil,
            Option.pure_def, Option.bind_eq_bind, Option.bind_some, implies_true, forall_const, beq_self_eq_true, decide_true, decide_false, eq_self, Int.reduceEq, Int.reduceLE,
            Int.reduceLT, if_true, if_false, fc37_0, fc37_1, fc37_2, fc37_3, fc37_4, Int.reduceAdd, Int.reduceSub, Int.reduceMul, Int.reduceNeg, Int.reducePow, Nat.reducePow,
            Int.reduceToNat, Nat.reduceSub, List.replicate, Nat.reduceBEq, wAs, wA, wC, zipW, noDupN, grpE, g_laws_eqTurn, grpC, en0, dc_en0, en1, dc_en1] <;> first | rfl | (simp only [Nat.add_comm]; done)))
      | (cases h; refine h0 _ rfl ?_; simp only [
      grpA, vsliceS, grpS, grpD, grpF, grpL, eop, vop, bop, uop, fltop, convop, endOk, newE, new1, freshL, Md.isNew, outV, pureV, pureX, pure1, AV.cells, AV.one, storable, laid,
            refless, refless1, vload, loadC, storeC, vnil, vfaddr, vextract, flatT, flatE, flatC, vconv, vmm, vidxA, viaddrA, vfield, vlen, elemsOf, dF32, dF64, dI64, dU8, dBool,
            dStr, esOk, elemsS, vsliceX, bnd, ownV, ownC, own1, ownT, isSl, nSl, endL, Md.isOwn, purge, purgeH, purgeB, purgeE, hasName, name1, List.any_cons, List.any_nil, Md.isWr,
            pureV.pureP, Option.map, reduceIte, Nat.reduceEqDiff, Nat.reduceAdd, Nat.reduceMul, Nat.reduceLT, Nat.reduceLeDiff, List.mapM_cons, List.mapM_nil, Option.pure_def,
            Option.bind_eq_bind, Option.bind_some, implies_true, forall_const, beq_self_eq_true, decide_true, decide_false, eq_self, Int.reduceEq, Int.reduceLE, Int.reduceLT,
            if_true, if_false, fc37_0, fc37_1, fc37_2, fc37_3, fc37_4, Int.reduceAdd, Int.reduceSub, Int.reduceMul, Int.reduceNeg, Int.reducePow, Nat.reducePow, Int.reduceToNat,
            Nat.reduceSub, List.replicate, Nat.reduceBEq, wAs, wA, wC, zipW, noDupN, grpE, g_laws_eqTurn, grpC, en0, dc_en0, en1, dc_en1])
      | (cases h; refine h1 _ rfl (Wk.cast (wk_norm (ks := []) (ls := []) ?_) ?_); (simp only [normOk, optIn, blkIn, nameIn,
      grpA, vsliceS, grpS, grpD, grpF, grpL, eop, vop, bop, uop, fltop, convop, endOk, newE, new1, freshL, Md.isNew, outV, pureV, pureX, pure1, AV.cells, AV.one, storable, laid,
            refless, refless1, vload, loadC, storeC, vnil, vfaddr, vextract, flatT, flatE, flatC, vconv, vmm, vidxA, viaddrA, vfield, vlen, elemsOf, dF32, dF64, dI64, dU8, dBool,
            dStr, esOk, elemsS, vsliceX, bnd, ownV, ownC, own1, ownT, isSl, nSl, endL, Md.isOwn, purge, purgeH, purgeB, purgeE, hasName, name1, List.any_cons, List.any_nil, Md.isWr,
            pureV.pureP, Option.map, reduceIte, Nat.reduceEqDiff, Nat.reduceAdd, Nat.reduceMul, Nat.reduceLT, Nat.reduceLeDiff, List.mapM_cons, List.mapM_nil, Option.pure_def,
            Option.bind_eq_bind, Option.bind_some, implies_true, forall_const, beq_self_eq_true, decide_true, decide_false, eq_self, Int.reduceEq, Int.reduceLE, Int.reduceLT,
            if_true, if_false, fc37_0, fc37_1, fc37_2, fc37_3, fc37_4, Int.reduceAdd, Int.reduceSub, Int.reduceMul, Int.reduceNeg, Int.reducePow, Nat.reducePow, Int.reduceToNat,
            Nat.reduceSub, List.replicate, Nat.reduceBEq, wAs, wA, wC, zipW, noDupN, grpE, g_laws_eqTurn, grpC, en0, dc_en0, en1, dc_en1] <;> rfl); (simp only [normS, List.map_append, List.length_append, List.map_set, List.length_set, List.map_replicate, List.length_replicate,
      grpA, vsliceS, grpS, grpD, grpF, grpL, eop, vop, bop, uop, fltop, convop, endOk, newE, new1, freshL, Md.isNew, outV, pureV, pureX, pure1, AV.cells, AV.one, storable, laid,
            refless, refless1, vload, loadC, storeC, vnil, vfaddr, vextract, flatT, flatE, flatC, vconv, vmm, vidxA, viaddrA, vfield, vlen, elemsOf, dF32, dF64, dI64, dU8, dBool,
            dStr, esOk, elemsS, vsliceX, bnd, ownV, ownC, own1, ownT, isSl, nSl, endL, Md.isOwn, purge, purgeH, purgeB, purgeE, hasName, name1, List.any_cons, List.any_nil, Md.isWr,
            pureV.pureP, Option.map, reduceIte, Nat.reduceEqDiff, Nat.reduceAdd, Nat.reduceMul, Nat.reduceLT, Nat.reduceLeDiff, List.mapM_cons, List.mapM_nil, Option.pure_def,
            Option.bind_eq_bind, Option.bind_some, implies_true, forall_const, beq_self_eq_true, decide_true, decide_false, eq_self, Int.reduceEq, Int.reduceLE, Int.reduceLT,
            if_true, if_false, fc37_0, fc37_1, fc37_2, fc37_3, fc37_4, Int.reduceAdd, Int.reduceSub, Int.reduceMul, Int.reduceNeg, Int.reducePow, Nat.reducePow, Int.reduceToNat,
            Nat.reduceSub, List.replicate, Nat.reduceBEq, wAs, wA, wC, zipW, noDupN, grpE, g_laws_eqTurn, grpC, en0, dc_en0, en1, dc_en1] <;> first | rfl | (simp only [Nat.add_comm]; done)))
theorem s37 : ∀ vs r, g_laws_eqTurnS vs = some r → SaysM Try.prog .any 37 vs r := by
  intro vs r h
  unfold g_laws_eqTurnS at h
  split at h
  · rename_i w0 w1
    cases hd_y0 : decL dc_en1 w0 with
    | none => rw [hd_y0] at h; cases h
    | some y0 =>
    rw [hd_y0] at h
    obtain rfl := decL_inv dc_en1_inv hd_y0
    clear hd_y0
    dsimp only at h
    cases hd_y1 : decL dc_en1 w1 with
    | none => rw [hd_y1] at h; cases h
    | some y1 =>
    rw [hd_y1] at h
    obtain rfl := decL_inv dc_en1_inv hd_y1
    clear hd_y1
    dsimp only at h
    split at h
    · rename_i hp
      cases h
      refine spec_of (m := .any) (tab := tabOf [(78, wM .any g_laws_eqTurn)]) (cp := cp37) (ic := ic37) (rvl := [(.t 4)]) hm (tabOk_cons (m := .any) s78 tabOk_nil) Try.func37 rfl rfl rfl (by kernel_rfl) rfl (Nat.le_of_ble_eq_true rfl) (Nat.le_of_ble_eq_true rfl) ?_
      show eA _ _ _ _
      unfold ic37
      simp only [p_laws_eqTurnS, Bool.and_eq_true, Bool.or_eq_true, decide_eq_true_eq, Bool.not_eq_true', decide_eq_false_iff_not] at hp
      simp only [
          hp, grpA, vsliceS, grpS, grpD, grpF, grpL, eop, vop, bop, uop, fltop, convop, endOk, newE, new1, freshL, Md.isNew, outV, pureV, pureX, pure1, AV.cells, AV.one, storable,
                laid, refless, refless1, vload, loadC, storeC, vnil, vfaddr, vextract, flatT, flatE, flatC, vconv, vmm, vidxA, viaddrA, vfield, vlen, elemsOf, dF32, dF64, dI64, dU8,
                dBool, dStr, esOk, elemsS, vsliceX, bnd, ownV, ownC, own1, ownT, isSl, nSl, endL, Md.isOwn, purge, purgeH, purgeB, purgeE, hasName, name1, List.any_cons,
                List.any_nil, Md.isWr, pureV.pureP, Option.map, reduceIte, Nat.reduceEqDiff, Nat.reduceAdd, Nat.reduceMul, Nat.reduceLT, Nat.reduceLeDiff, List.mapM_cons,
                List.mapM_nil, Option.pure_def, Option.bind_eq_bind, Option.bind_some, implies_true, forall_const, beq_self_eq_true, decide_true, decide_false, eq_self,
                Int.reduceEq, Int.reduceLE, Int.reduceLT, if_true, if_false, fc37_0, fc37_1, fc37_2, fc37_3, fc37_4, Int.reduceAdd, Int.reduceSub, Int.reduceMul, Int.reduceNeg,
                Int.reducePow, Nat.reducePow, Int.reduceToNat, Nat.reduceSub, List.replicate, Nat.reduceBEq, wAs, wA, wC, zipW, noDupN, grpE, g_laws_eqTurn, grpC, en0, dc_en0, en1,
                dc_en1]
      repeat' (first
        | ((first | (refine eGI_of (fun h => ?_) (fun h => ?_)) | (refine eCc_of (fun h => ?_) (fun h => ?_)) | (have h := True.intro; refine KW_refl ?_)) <;> (try simp only [Bool.not_eq_true', Bool.not_eq_false'] at h) <;> (try simp only [h, reduceCtorEq, Bool.not_eq_true', decide_eq_false_iff_not, Bool.not_true, Bool.not_false, Bool.false_or, Bool.true_or, Bool.true_and, Bool.false_and, Bool.and_eq_true, Bool.or_eq_true, if_true, if_false, reduceIte, Bool.false_eq_true, and_true, true_and, false_or, or_false, decide_eq_true_eq, not_false_eq_true, not_true_eq_false] at hp) <;> (try (have h2 := h; simp only [decide_eq_true_eq, decide_eq_false_iff_not] at h2; (first | (replace h2 := eq_false h2) | (replace h2 := eq_true h2)); simp only [h2, if_true, if_false, false_or, true_or, or_true, or_false, and_true, true_and, not_false_eq_true, not_true_eq_false] at hp)) <;> simp only [h,
          hp, grpA, vsliceS, grpS, grpD, grpF, grpL, eop, vop, bop, uop, fltop, convop, endOk, newE, new1, freshL, Md.isNew, outV, pureV, pureX, pure1, AV.cells, AV.one, storable,
                laid, refless, refless1, vload, loadC, storeC, vnil, vfaddr, vextract, flatT, flatE, flatC, vconv, vmm, vidxA, viaddrA, vfield, vlen, elemsOf, dF32, dF64, dI64, dU8,
                dBool, dStr, esOk, elemsS, vsliceX, bnd, ownV, ownC, own1, ownT, isSl, nSl, endL, Md.isOwn, purge, purgeH, purgeB, purgeE, hasName, name1, List.any_cons,
                List.any_nil, Md.isWr, pureV.pureP, Option.map, reduceIte, Nat.reduceEqDiff, Nat.reduceAdd, Nat.reduceMul, Nat.reduceLT, Nat.reduceLeDiff, List.mapM_cons,
                List.mapM_nil, Option.pure_def, Option.bind_eq_bind, Option.bind_some, implies_true, forall_const, beq_self_eq_true, decide_true, decide_false, eq_self,
                Int.reduceEq, Int.reduceLE, Int.reduceLT, if_true, if_false, fc37_0, fc37_1, fc37_2, fc37_3, fc37_4, Int.reduceAdd, Int.reduceSub, Int.reduceMul, Int.reduceNeg,
                Int.reducePow, Nat.reducePow, Int.reduceToNat, Nat.reduceSub, List.replicate, Nat.reduceBEq, wAs, wA, wC, zipW, noDupN, grpE, g_laws_eqTurn, grpC, en0, dc_en0, en1,
                dc_en1])
        | (refine eA_wk (wk_norm (ks := [0, 1, 5]) (ls := []) ?_) (eA_cast ?_ (sl37_0 y0 y1 _ _ _ _ (getD_some (d := default) (x := (l_laws_eqTurnS_0 y0 y1 (Int.toNat (((List.length y0 : Nat) : Int) - 0) + 2) 0)) ?_) ?_ ?_)); (simp only [nilS, nilV, normOk, optIn, blkIn, nameIn, 
          hp, grpA, vsliceS, grpS, grpD, grpF, grpL, eop, vop, bop, uop, fltop, convop, endOk, newE, new1, freshL, Md.isNew, outV, pureV, pureX, pure1, AV.cells, AV.one, storable,
                laid, refless, refless1, vload, loadC, storeC, vnil, vfaddr, vextract, flatT, flatE, flatC, vconv, vmm, vidxA, viaddrA, vfield, vlen, elemsOf, dF32, dF64, dI64, dU8,
                dBool, dStr, esOk, elemsS, vsliceX, bnd, ownV, ownC, own1, ownT, isSl, nSl, endL, Md.isOwn, purge, purgeH, purgeB, purgeE, hasName, name1, List.any_cons,
                List.any_nil, Md.isWr, pureV.pureP, Option.map, reduceIte, Nat.reduceEqDiff, Nat.reduceAdd, Nat.reduceMul, Nat.reduceLT, Nat.reduceLeDiff, List.mapM_cons,
                List.mapM_nil, Option.pure_def, Option.bind_eq_bind, Option.bind_some, implies_true, forall_const, beq_self_eq_true, decide_true, decide_false, eq_self,
                Int.reduceEq, Int.reduceLE, Int.reduceLT, if_true, if_false, fc37_0, fc37_1, fc37_2, fc37_3, fc37_4, Int.reduceAdd, Int.reduceSub, Int.reduceMul, Int.reduceNeg,
                Int.reducePow, Nat.reducePow, Int.reduceToNat, Nat.reduceSub, List.replicate, Nat.reduceBEq, wAs, wA, wC, zipW, noDupN, grpE, g_laws_eqTurn, grpC, en0, dc_en0, en1,
                dc_en1] <;> rfl); (simp only [nilS, nilV, normS,  List.map_append, List.length_append, List.map_set, List.length_set, List.map_replicate, List.length_replicate, List.map_nil, List.map_cons,
          hp, grpA, vsliceS, grpS, grpD, grpF, grpL, eop, vop, bop, uop, fltop, convop, endOk, newE, new1, freshL, Md.isNew, outV, pureV, pureX, pure1, AV.cells, AV.one, storable,
                laid, refless, refless1, vload, loadC, storeC, vnil, vfaddr, vextract, flatT, flatE, flatC, vconv, vmm, vidxA, viaddrA, vfield, vlen, elemsOf, dF32, dF64, dI64, dU8,
                dBool, dStr, esOk, elemsS, vsliceX, bnd, ownV, ownC, own1, ownT, isSl, nSl, endL, Md.isOwn, purge, purgeH, purgeB, purgeE, hasName, name1, List.any_cons,
                List.any_nil, Md.isWr, pureV.pureP, Option.map, reduceIte, Nat.reduceEqDiff, Nat.reduceAdd, Nat.reduceMul, Nat.reduceLT, Nat.reduceLeDiff, List.mapM_cons,
                List.mapM_nil, Option.pure_def, Option.bind_eq_bind, Option.bind_some, implies_true, forall_const, beq_self_eq_true, decide_true, decide_false, eq_self,
                Int.reduceEq, Int.reduceLE, Int.reduceLT, if_true, if_false, fc37_0, fc37_1, fc37_2, fc37_3, fc37_4, Int.reduceAdd, Int.reduceSub, Int.reduceMul, Int.reduceNeg,
                Int.reducePow, Nat.reducePow, Int.reduceToNat, Nat.reduceSub, List.replicate, Nat.reduceBEq, wAs, wA, wC, zipW, noDupN, grpE, g_laws_eqTurn, grpC, en0, dc_en0, en1,
                dc_en1] <;> first | rfl | (simp only [Nat.add_comm]; done)); (simp only [hp]); (
        intro st2 ht hw; simp only [Kq_ret, Kb_ret, Kl_ret, ret_ok]; first | exact h0 _ hw | exact h0 _ rfl hw | exact h1 _ rfl hw | exact h0 _ ht hw | exact h1 _ ht hw | refine ⟨_, hw, ?_⟩); rotate_left; (
        intro st2 ht hw; (try simp only [ht, reduceCtorEq, Bool.not_eq_true', decide_eq_false_iff_not, Bool.not_true, Bool.not_false, Bool.false_or, Bool.true_or, Bool.true_and, Bool.false_and, Bool.and_eq_true, Bool.or_eq_true, if_true, if_false, reduceIte, Bool.false_eq_true, and_true, true_and, false_or, or_false, decide_eq_true_eq, not_false_eq_true, not_true_eq_false] at hp); simp only [
          hp, grpA, vsliceS, grpS, grpD, grpF, grpL, eop, vop, bop, uop, fltop, convop, endOk, newE, new1, freshL, Md.isNew, outV, pureV, pureX, pure1, AV.cells, AV.one, storable,
                laid, refless, refless1, vload, loadC, storeC, vnil, vfaddr, vextract, flatT, flatE, flatC, vconv, vmm, vidxA, viaddrA, vfield, vlen, elemsOf, dF32, dF64, dI64, dU8,
                dBool, dStr, esOk, elemsS, vsliceX, bnd, ownV, ownC, own1, ownT, isSl, nSl, endL, Md.isOwn, purge, purgeH, purgeB, purgeE, hasName, name1, List.any_cons,
                List.any_nil, Md.isWr, pureV.pureP, Option.map, reduceIte, Nat.reduceEqDiff, Nat.reduceAdd, Nat.reduceMul, Nat.reduceLT, Nat.reduceLeDiff, List.mapM_cons,
                List.mapM_nil, Option.pure_def, Option.bind_eq_bind, Option.bind_some, implies_true, forall_const, beq_self_eq_true, decide_true, decide_false, eq_self,
                Int.reduceEq, Int.reduceLE, Int.reduceLT, if_true, if_false, fc37_0, fc37_1, fc37_2, fc37_3, fc37_4, Int.reduceAdd, Int.reduceSub, Int.reduceMul, Int.reduceNeg,
                Int.reducePow, Nat.reducePow, Int.reduceToNat, Nat.reduceSub, List.replicate, Nat.reduceBEq, wAs, wA, wC, zipW, noDupN, grpE, g_laws_eqTurn, grpC, en0, dc_en0, en1,
                dc_en1]; refine KW_of hw ?_; simp only [ht, 
          hp, grpA, vsliceS, grpS, grpD, grpF, grpL, eop, vop, bop, uop, fltop, convop, endOk, newE, new1, freshL, Md.isNew, outV, pureV, pureX, pure1, AV.cells, AV.one, storable,
                laid, refless, refless1, vload, loadC, storeC, vnil, vfaddr, vextract, flatT, flatE, flatC, vconv, vmm, vidxA, viaddrA, vfield, vlen, elemsOf, dF32, dF64, dI64, dU8,
                dBool, dStr, esOk, elemsS, vsliceX, bnd, ownV, ownC, own1, ownT, isSl, nSl, endL, Md.isOwn, purge, purgeH, purgeB, purgeE, hasName, name1, List.any_cons,
                List.any_nil, Md.isWr, pureV.pureP, Option.map, reduceIte, Nat.reduceEqDiff, Nat.reduceAdd, Nat.reduceMul, Nat.reduceLT, Nat.reduceLeDiff, List.mapM_cons,
                List.mapM_nil, Option.pure_def, Option.bind_eq_bind, Option.bind_some, implies_true, forall_const, beq_self_eq_true, decide_true, decide_false, eq_self,
                Int.reduceEq, Int.reduceLE, Int.reduceLT, if_true, if_false, fc37_0, fc37_1, fc37_2, fc37_3, fc37_4, Int.reduceAdd, Int.reduceSub, Int.reduceMul, Int.reduceNeg,
                Int.reducePow, Nat.reducePow, Int.reduceToNat, Nat.reduceSub, List.replicate, Nat.reduceBEq, wAs, wA, wC, zipW, noDupN, grpE, g_laws_eqTurn, grpC, en0, dc_en0, en1,
                dc_en1])))
      all_goals (try simp only [*, m_laws_eqTurnS, Bool.and_true, Bool.true_and, Bool.and_false, Bool.false_and, Bool.or_true, Bool.true_or, Bool.or_false, Bool.false_or, Bool.not_true, Bool.not_false, Bool.false_eq_true, if_true, if_false, reduceIte, decide_true, decide_false])
      all_goals (try (simp_all; done))
    · cases h
  · cases h
def m_laws_eqPose (x0 : (Nat × Nat × Nat × (List (Nat × Nat × Nat × Nat)))) (x1 : (Nat × Nat × Nat × (List (Nat × Nat × Nat × Nat)))) : Bool := (if (m_laws_eqVector (x0.1, x0.2.1,
      x0.2.2.1) (x1.1, x1.2.1, x1.2.2.1)) = true then (if (m_laws_eqTurnS x0.2.2.2 x1.2.2.2) = true then true else false) else false)
def p_laws_eqPose (x0 : (Nat × Nat × Nat × (List (Nat × Nat × Nat × Nat)))) (x1 : (Nat × Nat × Nat × (List (Nat × Nat × Nat × Nat)))) : Bool := (!(m_laws_eqVector (x0.1, x0.2.1,
      x0.2.2.1) (x1.1, x1.2.1, x1.2.2.1)) || (p_laws_eqTurnS x0.2.2.2 x1.2.2.2))
def g_laws_eqPose : List AV → Option AV
  | [.agg [.flt .f32 y0, .flt .f32 y1, .flt .f32 y2, .sl w3], .agg [.flt .f32 y4, .flt .f32 y5, .flt .f32 y6, .sl w7]] => (match decL dc_en1 w3 with | some y3 => ((match decL dc_en1 w7 with | some y7 => (if p_laws_eqPose (y0, y1, y2, y3) (y4, y5, y6, y7) = true then some (.bool (m_laws_eqPose (y0, y1, y2, y3) (y4, y5, y6, y7))) else none) | none => none)) | none => none)
  | _ => none
def ic27 : ICode := (.seq (.reg [⟨(some 2), none, (.box 4 (.t 0))⟩, ⟨(some 3), none, (.box 4 (.t 1))⟩, ⟨(some 4), none, (.mov (.c (.bool false)))⟩] [2, 3]) (.seq (.seq (.reg [⟨(some
      5), none, (.faddr 0 (.t 2))⟩, ⟨(some 6), none, (.load (some 3) (.t 5))⟩, ⟨(some 7), none, (.faddr 0 (.t 3))⟩, ⟨(some 8), none, (.load (some 3) (.t 7))⟩, ⟨(some 9), none,
      (.call (.fn 71) [(.t 6), (.t 8)] [])⟩, ⟨(some 10), none, (.un .not (.t 9))⟩] [2, 3, 10]) (.cond (.t 10) (.seq (.reg [⟨(some 4), none, (.mov (.c (.bool false)))⟩] [4]) .ret)
      .skip)) (.seq (.seq (.reg [⟨(some 11), none, (.faddr 3 (.t 2))⟩, ⟨(some 12), none, (.load none (.t 11))⟩, ⟨(some 13), none, (.faddr 3 (.t 3))⟩, ⟨(some 14), none, (.load none
      (.t 13))⟩, ⟨(some 15), none, (.call (.fn 37) [(.t 12), (.t 14)] [])⟩, ⟨(some 16), none, (.un .not (.t 15))⟩] [16]) (.cond (.t 16) (.seq (.reg [⟨(some 4), none, (.mov (.c
      (.bool false)))⟩] [4]) .ret) .skip)) (.seq (.reg [⟨(some 4), none, (.mov (.c (.bool true)))⟩] [4]) .ret))))
def cp27 : CP := CP.mk [] [] [[2, 3], [2, 3, 10], [4], [16], [4], [4]] 17 [] []
theorem fc27_0 : IntKind.wrap .i64 0 = 0 := by decide
theorem fc27_1 : IntKind.wrap .i64 1 = 1 := by decide
theorem fc27_2 : IntKind.wrap .i64 2 = 2 := by decide
theorem fc27_3 : IntKind.wrap .i64 3 = 3 := by decide
theorem fc27_4 : IntKind.wrap .i64 4 = 4 := by decide
theorem s27 : ∀ vs r, g_laws_eqPose vs = some r → SaysM Try.prog .any 27 vs r := by
  intro vs r h
  unfold g_laws_eqPose at h
  split at h
  · rename_i y0 y1 y2 w3 y4 y5 y6 w7
    cases hd_y3 : decL dc_en1 w3 with
    | none => rw [hd_y3] at h; cases h
    | some y3 =>
    rw [hd_y3] at h
    obtain rfl := decL_inv dc_en1_inv hd_y3
    clear hd_y3
    dsimp only at h
    cases hd_y7 : decL dc_en1 w7 with
    | none => rw [hd_y7] at h; cases h
    | some y7 =>
    rw [hd_y7] at h
    obtain rfl := decL_inv dc_en1_inv hd_y7
    clear hd_y7
    dsimp only at h
    split at h
    · rename_i hp
      cases h
      refine spec_of (m := .any) (tab := tabOf [(37, wM .any g_laws_eqTurnS), (71, wM .any g_laws_eqVector)]) (cp := cp27) (ic := ic27) (rvl := [(.t 4)]) hm (tabOk_cons (m := .any) s37 (tabOk_cons (m := .any) s71 tabOk_nil)) Try.func27 rfl rfl rfl (by kernel_rfl) rfl (Nat.le_of_ble_eq_true rfl) (Nat.le_of_ble_eq_true rfl) ?_
      show eA _ _ _ _
      unfold ic27
      simp only [p_laws_eqPose, Bool.and_eq_true, Bool.or_eq_true, decide_eq_true_eq, Bool.not_eq_true', decide_eq_false_iff_not] at hp
      simp only [
          hp, grpA, vsliceS, grpS, grpD, grpF, grpL, eop, vop, bop, uop, fltop, convop, endOk, newE, new1, freshL, Md.isNew, outV, pureV, pureX, pure1, AV.cells, AV.one, storable,
                laid, refless, refless1, vload, loadC, storeC, vnil, vfaddr, vextract, flatT, flatE, flatC, vconv, vmm, vidxA, viaddrA, vfield, vlen, elemsOf, dF32, dF64, dI64, dU8,
                dBool, dStr, esOk, elemsS, vsliceX, bnd, ownV, ownC, own1, ownT, isSl, nSl, endL, Md.isOwn, purge, purgeH, purgeB, purgeE, hasName, name1, List.any_cons,
                List.any_nil, Md.isWr, pureV.pureP, Option.map, reduceIte, Nat.reduceEqDiff, Nat.reduceAdd, Nat.reduceMul, Nat.reduceLT, Nat.reduceLeDiff, List.mapM_cons,
                List.mapM_nil, Option.pure_def, Option.bind_eq_bind, Option.bind_some, implies_true, forall_const, beq_self_eq_true, decide_true, decide_false, eq_self,
                Int.reduceEq, Int.reduceLE, Int.reduceLT, if_true, if_false, fc27_0, fc27_1, fc27_2, fc27_3, fc27_4, Int.reduceAdd, Int.reduceSub, Int.reduceMul, Int.reduceNeg,
                Int.reducePow, Nat.reducePow, Int.reduceToNat, Nat.reduceSub, List.replicate, Nat.reduceBEq, wAs, wA, wC, zipW, noDupN, grpE, g_laws_eqTurnS, g_laws_eqVector, grpC,
                en0, dc_en0, en1, dc_en1]
      repeat' (first
        | ((first | (refine eGI_of (fun h => ?_) (fun h => ?_)) | (refine eCc_of (fun h => ?_) (fun h => ?_))) <;> (try simp only [Bool.not_eq_true', Bool.not_eq_false'] at h) <;> (try simp only [h, reduceCtorEq, Bool.not_eq_true', decide_eq_false_iff_not, Bool.not_true, Bool.not_false, Bool.false_or, Bool.true_or, Bool.true_and, Bool.false_and, Bool.and_eq_true, Bool.or_eq_true, if_true, if_false, reduceIte, Bool.false_eq_true, and_true, true_and, false_or, or_false, decide_eq_true_eq, not_false_eq_true, not_true_eq_false] at hp) <;> (try (have h2 := h; simp only [decide_eq_true_eq, decide_eq_false_iff_not] at h2; (first | (replace h2 := eq_false h2) | (replace h2 := eq_true h2)); simp only [h2, if_true, if_false, false_or, true_or, or_true, or_false, and_true, true_and, not_false_eq_true, not_true_eq_false] at hp)) <;> simp only [h,
          hp, grpA, vsliceS, grpS, grpD, grpF, grpL, eop, vop, bop, uop, fltop, convop, endOk, newE, new1, freshL, Md.isNew, outV, pureV, pureX, pure1, AV.cells, AV.one, storable,
                laid, refless, refless1, vload, loadC, storeC, vnil, vfaddr, vextract, flatT, flatE, flatC, vconv, vmm, vidxA, viaddrA, vfield, vlen, elemsOf, dF32, dF64, dI64, dU8,
                dBool, dStr, esOk, elemsS, vsliceX, bnd, ownV, ownC, own1, ownT, isSl, nSl, endL, Md.isOwn, purge, purgeH, purgeB, purgeE, hasName, name1, List.any_cons,
                List.any_nil, Md.isWr, pureV.pureP, Option.map, reduceIte, Nat.reduceEqDiff, Nat.reduceAdd, Nat.reduceMul, Nat.reduceLT, Nat.reduceLeDiff, List.mapM_cons,
                List.mapM_nil, Option.pure_def, Option.bind_eq_bind, Option.bind_some, implies_true, forall_const, beq_self_eq_true, decide_true, decide_false, eq_self,
                Int.reduceEq, Int.reduceLE, Int.reduceLT, if_true, if_false, fc27_0, fc27_1, fc27_2, fc27_3, fc27_4, Int.reduceAdd, Int.reduceSub, Int.reduceMul, Int.reduceNeg,
                Int.reducePow, Nat.reducePow, Int.reduceToNat, Nat.reduceSub, List.replicate, Nat.reduceBEq, wAs, wA, wC, zipW, noDupN, grpE, g_laws_eqTurnS, g_laws_eqVector, grpC,
                en0, dc_en0, en1, dc_en1]))
      all_goals (try simp only [*, m_laws_eqPose, Bool.and_true, Bool.true_and, Bool.and_false, Bool.false_and, Bool.or_true, Bool.true_or, Bool.or_false, Bool.false_or, Bool.not_true, Bool.not_false, Bool.false_eq_true, if_true, if_false, reduceIte, decide_true, decide_false])
      all_goals (try (simp_all; done))
    · cases h
  · cases h
def m_laws_eqBone (x0 : (Int × Nat × Nat × Nat)) (x1 : (Int × Nat × Nat × Nat)) : Bool := (if (decide (x0.1 = x1.1)) = true then (if (m_laws_eqVector x0.2 x1.2) = true then true
      else false) else false)
def g_laws_eqBone : List AV → Option AV
  | [.agg [.int .i64 y0, .flt .f32 y1, .flt .f32 y2, .flt .f32 y3], .agg [.int .i64 y4, .flt .f32 y5, .flt .f32 y6, .flt .f32 y7]] => some
      (.bool (m_laws_eqBone (y0, y1, y2, y3) (y4, y5, y6, y7)))
  | _ => none
def ic90 : ICode := (.seq (.reg [⟨(some 2), none, (.box 4 (.t 0))⟩, ⟨(some 3), none, (.box 4 (.t 1))⟩, ⟨(some 4), none, (.mov (.c (.bool false)))⟩] [2, 3]) (.seq (.seq (.reg [⟨(some
      5), none, (.faddr 0 (.t 2))⟩, ⟨(some 6), none, (.load none (.t 5))⟩, ⟨(some 7), none, (.faddr 0 (.t 3))⟩, ⟨(some 8), none, (.load none (.t 7))⟩, ⟨(some 9), none, (.bin .neq
      false (.t 6) (.t 8))⟩] [2, 3, 9]) (.cond (.t 9) (.seq (.reg [⟨(some 4), none, (.mov (.c (.bool false)))⟩] [4]) .ret) .skip)) (.seq (.seq (.reg [⟨(some 10), none, (.faddr 1 (.t
      2))⟩, ⟨(some 11), none, (.load (some 3) (.t 10))⟩, ⟨(some 12), none, (.faddr 1 (.t 3))⟩, ⟨(some 13), none, (.load (some 3) (.t 12))⟩, ⟨(some 14), none, (.call (.fn 71) [(.t
      11), (.t 13)] [])⟩, ⟨(some 15), none, (.un .not (.t 14))⟩] [15]) (.cond (.t 15) (.seq (.reg [⟨(some 4), none, (.mov (.c (.bool false)))⟩] [4]) .ret) .skip)) (.seq (.reg
      [⟨(some 4), none, (.mov (.c (.bool true)))⟩] [4]) .ret))))
def cp90 : CP := CP.mk [] [] [[2, 3], [2, 3, 9], [4], [15], [4], [4]] 16 [] []
theorem fc90_0 : IntKind.wrap .i64 0 = 0 := by decide
theorem fc90_1 : IntKind.wrap .i64 1 = 1 := by decide
theorem fc90_2 : IntKind.wrap .i64 2 = 2 := by decide
theorem fc90_3 : IntKind.wrap .i64 3 = 3 := by decide
theorem fc90_4 : IntKind.wrap .i64 4 = 4 := by decide
theorem s90 : ∀ vs r, g_laws_eqBone vs = some r → SaysM Try.prog .any 90 vs r := by
  intro vs r h
  unfold g_laws_eqBone at h
  split at h
  · rename_i y0 y1 y2 y3 y4 y5 y6 y7
    cases h
    refine spec_of (m := .any) (tab := tabOf [(71, wM .any g_laws_eqVector)]) (cp := cp90) (ic := ic90) (rvl := [(.t 4)]) hm (tabOk_cons (m := .any) s71 tabOk_nil) Try.func90 rfl rfl rfl (by kernel_rfl) rfl (Nat.le_of_ble_eq_true rfl) (Nat.le_of_ble_eq_true rfl) ?_
    show eA _ _ _ _
    unfold ic90
    simp only [
        grpA, vsliceS, grpS, grpD, grpF, grpL, eop, vop, bop, uop, fltop, convop, endOk, newE, new1, freshL, Md.isNew, outV, pureV, pureX, pure1, AV.cells, AV.one, storable, laid,
              refless, refless1, vload, loadC, storeC, vnil, vfaddr, vextract, flatT, flatE, flatC, vconv, vmm, vidxA, viaddrA, vfield, vlen, elemsOf, dF32, dF64, dI64, dU8, dBool,
              dStr, esOk, elemsS, vsliceX, bnd, ownV, ownC, own1, ownT, isSl, nSl, endL, Md.isOwn, purge, purgeH, purgeB, purgeE, hasName, name1, List.any_cons, List.any_nil,
              Md.isWr, pureV.pureP, Option.map, reduceIte, Nat.reduceEqDiff, Nat.reduceAdd, Nat.reduceMul, Nat.reduceLT, Nat.reduceLeDiff, List.mapM_cons, List.mapM_nil,
              Option.pure_def, Option.bind_eq_bind, Option.bind_some, implies_true, forall_const, beq_self_eq_true, decide_true, decide_false, eq_self, Int.reduceEq, Int.reduceLE,
              Int.reduceLT, if_true, if_false, fc90_0, fc90_1, fc90_2, fc90_3, fc90_4, Int.reduceAdd, Int.reduceSub, Int.reduceMul, Int.reduceNeg, Int.reducePow, Nat.reducePow,
              Int.reduceToNat, Nat.reduceSub, List.replicate, Nat.reduceBEq, wAs, wA, wC, zipW, noDupN, grpE, g_laws_eqVector, grpC, en0, dc_en0, en1, dc_en1]
    repeat' (first
      | ((first | (refine eGI_of (fun h => ?_) (fun h => ?_)) | (refine eCc_of (fun h => ?_) (fun h => ?_))) <;> (try simp only [Bool.not_eq_true', Bool.not_eq_false'] at h) <;> simp only [h,
        grpA, vsliceS, grpS, grpD, grpF, grpL, eop, vop, bop, uop, fltop, convop, endOk, newE, new1, freshL, Md.isNew, outV, pureV, pureX, pure1, AV.cells, AV.one, storable, laid,
              refless, refless1, vload, loadC, storeC, vnil, vfaddr, vextract, flatT, flatE, flatC, vconv, vmm, vidxA, viaddrA, vfield, vlen, elemsOf, dF32, dF64, dI64, dU8, dBool,
              dStr, esOk, elemsS, vsliceX, bnd, ownV, ownC, own1, ownT, isSl, nSl, endL, Md.isOwn, purge, purgeH, purgeB, purgeE, hasName, name1, List.any_cons, List.any_nil,
              Md.isWr, pureV.pureP, Option.map, reduceIte, Nat.reduceEqDiff, Nat.reduceAdd, Nat.reduceMul, Nat.reduceLT, Nat.reduceLeDiff, List.mapM_cons, List.mapM_nil,
              Option.pure_def, Option.bind_eq_bind, Option.bind_some, implies_true, forall_const, beq_self_eq_true, decide_true, decide_false, eq_self, Int.reduceEq, Int.reduceLE,
              Int.reduceLT, if_true, if_false, fc90_0, fc90_1, fc90_2, fc90_3, fc90_4, Int.reduceAdd, Int.reduceSub, Int.reduceMul, Int.reduceNeg, Int.reducePow, Nat.reducePow,
              Int.reduceToNat, Nat.reduceSub, List.replicate, Nat.reduceBEq, wAs, wA, wC, zipW, noDupN, grpE, g_laws_eqVector, grpC, en0, dc_en0, en1, dc_en1]))
    all_goals (try simp only [*, m_laws_eqBone, Bool.and_true, Bool.true_and, Bool.and_false, Bool.false_and, Bool.or_true, Bool.true_or, Bool.or_false, Bool.false_or, Bool.not_true, Bool.not_false, Bool.false_eq_true, if_true, if_false, reduceIte, decide_true, decide_false])
    all_goals (try (simp_all; done))
  · cases h
def l_laws_eqBoneS_0 (x0 : (List (Int × Nat × Nat × Nat))) (x1 : (List (Int × Nat × Nat × Nat))) : Nat → Int → Option (Bool × Bool × Unit)
  | 0, _ => none
  | n + 1, z0_0 => (if (decide (z0_0 < ((List.length x0 : Nat) : Int))) = true then (need (inB z0_0 (List.length x0)) (need (inB z0_0 (List.length x1)) (if (m_laws_eqBone (atI x0
        z0_0) (atI x1 z0_0)) = true then (l_laws_eqBoneS_0 x0 x1 n (IntKind.wrap .i64 (z0_0 + 1))) else (some (true, false, default))))) else (some (false, default, ())))
def m_laws_eqBoneS (x0 : (List (Int × Nat × Nat × Nat))) (x1 : (List (Int × Nat × Nat × Nat))) : Bool := (if (decide (((List.length x0 : Nat) : Int) = ((List.length x1 : Nat) :
      Int))) = true then (if (Option.getD (l_laws_eqBoneS_0 x0 x1 (Int.toNat (((List.length x0 : Nat) : Int) - 0) + 2) 0) default).1 = true then (Option.getD (l_laws_eqBoneS_0 x0 x1
      (Int.toNat (((List.length x0 : Nat) : Int) - 0) + 2) 0) default).2.1 else true) else false)
def p_laws_eqBoneS (x0 : (List (Int × Nat × Nat × Nat))) (x1 : (List (Int × Nat × Nat × Nat))) : Bool := (!(decide (((List.length x0 : Nat) : Int) = ((List.length x1 : Nat) : Int)))
      || (Option.isSome (l_laws_eqBoneS_0 x0 x1 (Int.toNat (((List.length x0 : Nat) : Int) - 0) + 2) 0)))
def g_laws_eqBoneS : List AV → Option AV
  | [.sl w0, .sl w1] => (match decL dc_en0 w0 with | some y0 => ((match decL dc_en0 w1 with | some y1 => (if p_laws_eqBoneS y0 y1 = true then some (.bool (m_laws_eqBoneS y0 y1)) else none) | none => none)) | none => none)
  | _ => none
def lb59_0 : ICode := (.seq (.seq (.reg [⟨(some 11), none, (.mov (.t 5))⟩, ⟨(some 12), none, (.mov (.t 0))⟩, ⟨(some 13), none, (.len false (.t 12))⟩, ⟨(some 14), none, (.bin .lss
      false (.t 11) (.t 13))⟩] [0, 1, 5, 14]) (.cond (.t 14) .skip (.exit 0))) (.seq (.block 1 (.seq (.reg [⟨(some 17), none, (.mov (.t 0))⟩, ⟨(some 18), none, (.mov (.t 5))⟩,
      ⟨(some 19), none, (.iaddrS 4 (.t 17) (.t 18))⟩, ⟨(some 20), none, (.load (some 4) (.t 19))⟩, ⟨(some 21), none, (.mov (.t 1))⟩, ⟨(some 22), none, (.mov (.t 5))⟩, ⟨(some 23),
      none, (.iaddrS 4 (.t 21) (.t 22))⟩, ⟨(some 24), none, (.load (some 4) (.t 23))⟩, ⟨(some 25), none, (.call (.fn 90) [(.t 20), (.t 24)] [])⟩, ⟨(some 26), none, (.un .not (.t
      25))⟩] [0, 1, 5, 26]) (.cond (.t 26) (.seq (.reg [⟨(some 4), none, (.mov (.c (.bool false)))⟩] [4]) .ret) .skip))) (.reg [⟨(some 15), none, (.mov (.t 5))⟩, ⟨(some 16), none,
      (.bin .add false (.t 15) (.c (.int .i64 1)))⟩, ⟨(some 5), none, (.mov (.t 16))⟩] [0, 1, 5])))
def ic59 : ICode := (.seq (.reg [⟨(some 4), none, (.mov (.c (.bool false)))⟩] [0, 1]) (.seq (.seq (.reg [⟨(some 6), none, (.mov (.t 0))⟩, ⟨(some 7), none, (.len false (.t 6))⟩,
      ⟨(some 8), none, (.mov (.t 1))⟩, ⟨(some 9), none, (.len false (.t 8))⟩, ⟨(some 10), none, (.bin .neq false (.t 7) (.t 9))⟩] [0, 1, 10]) (.cond (.t 10) (.seq (.reg [⟨(some 4),
      none, (.mov (.c (.bool false)))⟩] [4]) .ret) .skip)) (.seq (.seq (.reg [⟨(some 5), none, (.mov (.c (.int .i64 0)))⟩] [0, 1, 5]) (.block 0 (.loop lb59_0))) (.seq (.reg [⟨(some
      4), none, (.mov (.c (.bool true)))⟩] [4]) .ret))))
def cp59 : CP := CP.mk [] [] [[0, 1], [0, 1, 10], [4], [0, 1, 5], [0, 1, 5, 14], [0, 1, 5], [0, 1, 5, 26], [4], [4]] 27 [] []
theorem fc59_0 : IntKind.wrap .i64 0 = 0 := by decide
theorem fc59_1 : IntKind.wrap .i64 1 = 1 := by decide
theorem fc59_2 : IntKind.wrap .i64 2 = 2 := by decide
theorem fc59_3 : IntKind.wrap .i64 3 = 3 := by decide
theorem fc59_4 : IntKind.wrap .i64 4 = 4 := by decide
theorem sl59_0 (x0 : (List (Int × Nat × Nat × Nat))) (x1 : (List (Int × Nat × Nat × Nat))) : ∀ (n : Nat) (z0_0 : Int) (o : (Bool × Bool × Unit)) (K : IExit → St → Prop),
      l_laws_eqBoneS_0 x0 x1 n z0_0 = some o → (∀ st, o.1 = true → outM .any st [(.t 4)] = some (.bool o.2.1) → K .ret st) → (∀ st, o.1 = false → Wk st (⟨[], []⟩ : St) → K (.exit 0)
      st) → eA (tabOf [(90, wM .any g_laws_eqBone)]) (.loop lb59_0) (⟨[(0, (.sl (List.map en0 x0))), (1, (.sl (List.map en0 x1))), (5, (.int .i64 z0_0))], []⟩ : St) K := by
  intro n
  induction n with
  | zero =>
    intro z0_0 o K h h0 h1
    simp only [l_laws_eqBoneS_0, reduceCtorEq] at h
  | succ n ih =>
    intro z0_0 o K h h0 h1
    refine eA_loop ?_
    unfold lb59_0
    unfold l_laws_eqBoneS_0 at h
    (try simp only [need_iff] at h)
    simp only [
      need_iff, h, grpA, vsliceS, grpS, grpD, grpF, grpL, eop, vop, bop, uop, fltop, convop, endOk, newE, new1, freshL, Md.isNew, outV, pureV, pureX, pure1, AV.cells, AV.one,
            storable, laid, refless, refless1, vload, loadC, storeC, vnil, vfaddr, vextract, flatT, flatE, flatC, vconv, vmm, vidxA, viaddrA, vfield, vlen, elemsOf, dF32, dF64,
            dI64, dU8, dBool, dStr, esOk, elemsS, vsliceX, bnd, ownV, ownC, own1, ownT, isSl, nSl, endL, Md.isOwn, purge, purgeH, purgeB, purgeE, hasName, name1, List.any_cons,
            List.any_nil, Md.isWr, pureV.pureP, Option.map, reduceIte, Nat.reduceEqDiff, Nat.reduceAdd, Nat.reduceMul, Nat.reduceLT, Nat.reduceLeDiff, List.mapM_cons, List.mapM_nil,
            Option.pure_def, Option.bind_eq_bind, Option.bind_some, implies_true, forall_const, beq_self_eq_true, decide_true, decide_false, eq_self, Int.reduceEq, Int.reduceLE,
            Int.reduceLT, if_true, if_false, fc59_0, fc59_1, fc59_2, fc59_3, fc59_4, Int.reduceAdd, Int.reduceSub, Int.reduceMul, Int.reduceNeg, Int.reducePow, Nat.reducePow,
            Int.reduceToNat, Nat.reduceSub, List.replicate, Nat.reduceBEq, wAs, wA, wC, zipW, noDupN, grpE, g_laws_eqBone, grpC, en0, dc_en0, en1, dc_en1]
    repeat' (first
      | ((first | (refine eGI_of (fun hc => ?_) (fun hc => ?_)) | (refine eCc_of (fun hc => ?_) (fun hc => ?_)) | (have hc := True.intro; refine KW_refl ?_)) <;> (try simp only [Bool.not_eq_true', Bool.not_eq_false'] at hc) <;> (try simp only [hc, need_iff, reduceCtorEq, Bool.not_eq_true', decide_eq_false_iff_not, Bool.not_true, Bool.not_false, Bool.false_or, Bool.true_or, Bool.true_and, Bool.false_and, Bool.and_eq_true, Bool.or_eq_true, if_true, if_false, reduceIte, Bool.false_eq_true, and_true, true_and, false_or, or_false, decide_eq_true_eq, not_false_eq_true, not_true_eq_false] at h) <;> (try (have hc2 := hc; simp only [decide_eq_true_eq, decide_eq_false_iff_not] at hc2; (first | (replace hc2 := eq_false hc2) | (replace hc2 := eq_true hc2)); simp only [hc2, if_true, if_false, need_iff, reduceCtorEq, Bool.not_eq_true', decide_eq_false_iff_not, Bool.not_true, Bool.not_false, Bool.false_or, Bool.true_or, Bool.true_and, Bool.false_and, Bool.and_eq_true, Bool.or_eq_true, if_true, if_false, reduceIte, Bool.false_eq_true, and_true, true_and, false_or, or_false, decide_eq_true_eq, not_false_eq_true, not_true_eq_false] at h)) <;> simp only [hc,
      need_iff, h, grpA, vsliceS, grpS, grpD, grpF, grpL, eop, vop, bop, uop, fltop, convop, endOk, newE, new1, freshL, Md.isNew, outV, pureV, pureX, pure1, AV.cells, AV.one,
            storable, laid, refless, refless1, vload, loadC, storeC, vnil, vfaddr, vextract, flatT, flatE, flatC, vconv, vmm, vidxA, viaddrA, vfield, vlen, elemsOf, dF32, dF64,
            dI64, dU8, dBool, dStr, esOk, elemsS, vsliceX, bnd, ownV, ownC, own1, ownT, isSl, nSl, endL, Md.isOwn, purge, purgeH, purgeB, purgeE, hasName, name1, List.any_cons,
            List.any_nil, Md.isWr, pureV.pureP, Option.map, reduceIte, Nat.reduceEqDiff, Nat.reduceAdd, Nat.reduceMul, Nat.reduceLT, Nat.reduceLeDiff, List.mapM_cons, List.mapM_nil,
            Option.pure_def, Option.bind_eq_bind, Option.bind_some, implies_true, forall_const, beq_self_eq_true, decide_true, decide_false, eq_self, Int.reduceEq, Int.reduceLE,
            Int.reduceLT, if_true, if_false, fc59_0, fc59_1, fc59_2, fc59_3, fc59_4, Int.reduceAdd, Int.reduceSub, Int.reduceMul, Int.reduceNeg, Int.reducePow, Nat.reducePow,
            Int.reduceToNat, Nat.reduceSub, List.replicate, Nat.reduceBEq, wAs, wA, wC, zipW, noDupN, grpE, g_laws_eqBone, grpC, en0, dc_en0, en1, dc_en1]))
    all_goals (repeat (replace h := And.right h))
    all_goals first
      | (refine eA_wk (wk_norm (ks := [0, 1, 5]) (ls := []) ?_) (eA_cast ?_ (ih _ _ _ h h0 h1)); (simp only [normOk, optIn, blkIn, nameIn,
      need_iff, h, grpA, vsliceS, grpS, grpD, grpF, grpL, eop, vop, bop, uop, fltop, convop, endOk, newE, new1, freshL, Md.isNew, outV, pureV, pureX, pure1, AV.cells, AV.one,
            storable, laid, refless, refless1, vload, loadC, storeC, vnil, vfaddr, vextract, flatT, flatE, flatC, vconv, vmm, vidxA, viaddrA, vfield, vlen, elemsOf, dF32, dF64,
            dI64, dU8, dBool, dStr, esOk, elemsS, vsliceX, bnd, ownV, ownC, own1, ownT, isSl, nSl, endL, Md.isOwn, purge, purgeH, purgeB, purgeE, hasName, name1, List.any_cons,
            List.any_nil, Md.isWr, pureV.pureP, Option.map, reduceIte, Nat.reduceEqDiff, Nat.reduceAdd, Nat.reduceMul, Nat.reduceLT, Nat.reduceLeDiff, List.mapM_cons, List.mapM_nil,
            Option.pure_def, Option.bind_eq_bind, Option.bind_some, implies_true, forall_const, beq_self_eq_true, decide_true, decide_false, eq_self, Int.reduceEq, Int.reduceLE,
            Int.reduceLT, if_true, if_false, fc59_0, fc59_1, fc59_2, fc59_3, fc59_4, Int.reduceAdd, Int.reduceSub, Int.reduceMul, Int.reduceNeg, Int.reducePow, Nat.reducePow,
            Int.reduceToNat, Nat.reduceSub, List.replicate, Nat.reduceBEq, wAs, wA, wC, zipW, noDupN, grpE, g_laws_eqBone, grpC, en0, dc_en0, en1, dc_en1] <;> rfl); (simp only [normS, List.map_append, List.length_append, List.map_set, List.length_set, List.map_replicate, List.length_replicate, List.map_nil, List.map_cons,
      need_iff, h, grpA, vsliceS, grpS, grpD, grpF, grpL, eop, vop, bop, uop, fltop, convop, endOk, newE, new1, freshL, Md.isNew, outV, pureV, pureX, pure1, AV.cells, AV.one,
            storable, laid, refless, refless1, vload, loadC, storeC, vnil, vfaddr, vextract, flatT, flatE, flatC, vconv, vmm, vidxA, viaddrA, vfield, vlen, elemsOf, dF32, dF64,
            dI64, dU8, dBool, dStr, esOk, elemsS, vsliceX, bnd, ownV, ownC, own1, ownT, isSl, nSl, endL, Md.isOwn, purge, purgeH, purgeB, purgeE, hasName, name1, List.any_cons,
            List.any_nil, Md.isWr, pureV.pureP, Option.map, reduceIte, Nat.reduceEqDiff, Nat.reduceAdd, Nat.reduceMul, Nat.reduceLT, Nat.reduceLeDiff, List.mapM_cons, List.mapM_nil,
            Option.pure_def, Option.bind_eq_bind, Option.bind_some, implies_true, forall_const, beq_self_eq_true, decide_true, decide_false, eq_self, Int.reduceEq, Int.reduceLE,
            Int.reduceLT, if_true, if_false, fc59_0, fc59_1, fc59_2, fc59_3, fc59_4, Int.reduceAdd, Int.reduceSub, Int.reduceMul, Int.reduceNeg, Int.reducePow, Nat.reducePow,
            Int.reduceToNat, Nat.reduceSub, List.replicate, Nat.reduceBEq, wAs, wA, wC, zipW, noDupN, grpE, g_laws_eqBone, grpC, en0, dc_en0, en1, dc_en1] <;> first | rfl | (simp only [Nat.add_comm]; done)))
      | (cases h; refine h0 _ rfl ?_; simp only [
      grpA, vsliceS, grpS, grpD, grpF, grpL, eop, vop, bop, uop, fltop, convop, endOk, newE, new1, freshL, Md.isNew, outV, pureV, pureX, pure1, AV.cells, AV.one, storable, laid,
            refless, refless1, vload, loadC, storeC, vnil, vfaddr, vextract, flatT, flatE, flatC, vconv, vmm, vidxA, viaddrA, vfield, vlen, elemsOf, dF32, dF64, dI64, dU8, dBool,
            dStr, esOk, elemsS, vsliceX, bnd, ownV, ownC, own1, ownT, isSl, nSl, endL, Md.isOwn, purge, purgeH, purgeB, purgeE, hasName, name1, List.any_cons, List.any_nil, Md.isWr,
            pureV.pureP, Option.map, reduceIte, Nat.reduceEqDiff, Nat.reduceAdd, Nat.reduceMul, Nat.reduceLT, Nat.reduceLeDiff, List.mapM_cons, List.mapM_nil, Option.pure_def,
            Option.bind_eq_bind, Option.bind_some, implies_true, forall_const, beq_self_eq_true, decide_true, decide_false, eq_self, Int.reduceEq, Int.reduceLE, Int.reduceLT,
            if_true, if_false, fc59_0, fc59_1, fc59_2, fc59_3, fc59_4, Int.reduceAdd, Int.reduceSub, Int.reduceMul, Int.reduceNeg, Int.reducePow, Nat.reducePow, Int.reduceToNat,
            Nat.reduceSub, List.replicate, Nat.reduceBEq, wAs, wA, wC, zipW, noDupN, grpE, g_laws_eqBone, grpC, en0, dc_en0, en1, dc_en1])
      | (cases h; refine h1 _ rfl (Wk.cast (wk_norm (ks := []) (ls := []) ?_) ?_); (simp only [normOk, optIn, blkIn, nameIn,
      grpA, vsliceS, grpS, grpD, grpF, grpL, eop, vop, bop, uop, fltop, convop, endOk, newE, new1, freshL, Md.isNew, outV, pureV, pureX, pure1, AV.cells, AV.one, storable, laid,
            refless, refless1, vload, loadC, storeC, vnil, vfaddr, vextract, flatT, flatE, flatC, vconv, vmm, vidxA, viaddrA, vfield, vlen, elemsOf, dF32, dF64, dI64, dU8, dBool,
            dStr, esOk, elemsS, vsliceX, bnd, ownV, ownC, own1, ownT, isSl, nSl, endL, Md.isOwn, purge, purgeH, purgeB, purgeE, hasName, name1, List.any_cons, List.any_nil, Md.isWr,
            pureV.pureP, Option.map, reduceIte, Nat.reduceEqDiff, Nat.reduceAdd, Nat.reduceMul, Nat.reduceLT, Nat.reduceLeDiff, List.mapM_cons, List.mapM_nil, Option.pure_def,
            Option.bind_eq_bind, Option.bind_some, implies_true, forall_const, beq_self_eq_true, decide_true, decide_false, eq_self, Int.reduceEq, Int.reduceLE, Int.reduceLT,
            if_true, if_false, fc59_0, fc59_1, fc59_2, fc59_3, fc59_4, Int.reduceAdd, Int.reduceSub, Int.reduceMul, Int.reduceNeg, Int.reducePow, Nat.reducePow, Int.reduceToNat,
            Nat.reduceSub, List.replicate, Nat.reduceBEq, wAs, wA, wC, zipW, noDupN, grpE, g_laws_eqBone, grpC, en0, dc_en0, en1, dc_en1] <;> rfl); (simp only [normS, List.map_append, List.length_append, List.map_set, List.length_set, List.map_replicate, List.length_replicate,
      grpA, vsliceS, grpS, grpD, grpF, grpL, eop, vop, bop, uop, fltop, convop, endOk, newE, new1, freshL, Md.isNew, outV, pureV, pureX, pure1, AV.cells, AV.one, storable, laid,
            refless, refless1, vload, loadC, storeC, vnil, vfaddr, vextract, flatT, flatE, flatC, vconv, vmm, vidxA, viaddrA, vfield, vlen, elemsOf, dF32, dF64, dI64, dU8, dBool,
            dStr, esOk, elemsS, vsliceX, bnd, ownV, ownC, own1, ownT, isSl, nSl, endL, Md.isOwn, purge, purgeH, purgeB, purgeE, hasName, name1, List.any_cons, List.any_nil, Md.isWr,
            pureV.pureP, Option.map, reduceIte, Nat.reduceEqDiff, Nat.reduceAdd, Nat.reduceMul, Nat.reduceLT, Nat.reduceLeDiff, List.mapM_cons, List.mapM_nil, Option.pure_def,
            Option.bind_eq_bind, Option.bind_some, implies_true, forall_const, beq_self_eq_true, decide_true, decide_false, eq_self, Int.reduceEq, Int.reduceLE, Int.reduceLT,
            if_true, if_false, fc59_0, fc59_1, fc59_2, fc59_3, fc59_4, Int.reduceAdd, Int.reduceSub, Int.reduceMul, Int.reduceNeg, Int.reducePow, Nat.reducePow, Int.reduceToNat,
            Nat.reduceSub, List.replicate, Nat.reduceBEq, wAs, wA, wC, zipW, noDupN, grpE, g_laws_eqBone, grpC, en0, dc_en0, en1, dc_en1] <;> first | rfl | (simp only [Nat.add_comm]; done)))
theorem s59 : ∀ vs r, g_laws_eqBoneS vs = some r → SaysM Try.prog .any 59 vs r := by
  intro vs r h
  unfold g_laws_eqBoneS at h
  split at h
  · rename_i w0 w1
    cases hd_y0 : decL dc_en0 w0 with
    | none => rw [hd_y0] at h; cases h
    | some y0 =>
    rw [hd_y0] at h
    obtain rfl := decL_inv dc_en0_inv hd_y0
    clear hd_y0
    dsimp only at h
    cases hd_y1 : decL dc_en0 w1 with
    | none => rw [hd_y1] at h; cases h
    | some y1 =>
    rw [hd_y1] at h
    obtain rfl := decL_inv dc_en0_inv hd_y1
    clear hd_y1
    dsimp only at h
    split at h
    · rename_i hp
      cases h
      refine spec_of (m := .any) (tab := tabOf [(90, wM .any g_laws_eqBone)]) (cp := cp59) (ic := ic59) (rvl := [(.t 4)]) hm (tabOk_cons (m := .any) s90 tabOk_nil) Try.func59 rfl rfl rfl (by kernel_rfl) rfl (Nat.le_of_ble_eq_true rfl) (Nat.le_of_ble_eq_true rfl) ?_
      show eA _ _ _ _
      unfold ic59
      simp only [p_laws_eqBoneS, Bool.and_eq_true, Bool.or_eq_true, decide_eq_true_eq, Bool.not_eq_true', decide_eq_false_iff_not] at hp
      simp only [
          hp, grpA, vsliceS, grpS, grpD, grpF, grpL, eop, vop, bop, uop, fltop, convop, endOk, newE, new1, freshL, Md.isNew, outV, pureV, pureX, pure1, AV.cells, AV.one, storable,
                laid, refless, refless1, vload, loadC, storeC, vnil, vfaddr, vextract, flatT, flatE, flatC, vconv, vmm, vidxA, viaddrA, vfield, vlen, elemsOf, dF32, dF64, dI64, dU8,
                dBool, dStr, esOk, elemsS, vsliceX, bnd, ownV, ownC, own1, ownT, isSl, nSl, endL, Md.isOwn, purge, purgeH, purgeB, purgeE, hasName, name1, List.any_cons,
                List.any_nil, Md.isWr, pureV.pureP, Option.map, reduceIte, Nat.reduceEqDiff, Nat.reduceAdd, Nat.reduceMul, Nat.reduceLT, Nat.reduceLeDiff, List.mapM_cons,
                List.mapM_nil, Option.pure_def, Option.bind_eq_bind, Option.bind_some, implies_true, forall_const, beq_self_eq_true, decide_true, decide_false, eq_self,
                Int.reduceEq, Int.reduceLE, Int.reduceLT, if_true, if_false, fc59_0, fc59_1, fc59_2, fc59_3, fc59_4, Int.reduceAdd, Int.reduceSub, Int.reduceMul, Int.reduceNeg,
                Int.reducePow, Nat.reducePow, Int.reduceToNat, Nat.reduceSub, List.replicate, Nat.reduceBEq, wAs, wA, wC, zipW, noDupN, grpE, g_laws_eqBone, grpC, en0, dc_en0, en1,
                dc_en1]
      repeat' (first
        | ((first | (refine eGI_of (fun h => ?_) (fun h => ?_)) | (refine eCc_of (fun h => ?_) (fun h => ?_)) | (have h := True.intro; refine KW_refl ?_)) <;> (try simp only [Bool.not_eq_true', Bool.not_eq_false'] at h) <;> (try simp only [h, reduceCtorEq, Bool.not_eq_true', decide_eq_false_iff_not, Bool.not_true, Bool.not_false, Bool.false_or, Bool.true_or, Bool.true_and, Bool.false_and, Bool.and_eq_true, Bool.or_eq_true, if_true, if_false, reduceIte, Bool.false_eq_true, and_true, true_and, false_or, or_false, decide_eq_true_eq, not_false_eq_true, not_true_eq_false] at hp) <;> (try (have h2 := h; simp only [decide_eq_true_eq, decide_eq_false_iff_not] at h2; (first | (replace h2 := eq_false h2) | (replace h2 := eq_true h2)); simp only [h2, if_true, if_false, false_or, true_or, or_true, or_false, and_true, true_and, not_false_eq_true, not_true_eq_false] at hp)) <;> simp only [h,
          hp, grpA, vsliceS, grpS, grpD, grpF, grpL, eop, vop, bop, uop, fltop, convop, endOk, newE, new1, freshL, Md.isNew, outV, pureV, pureX, pure1, AV.cells, AV.one, storable,
                laid, refless, refless1, vload, loadC, storeC, vnil, vfaddr, vextract, flatT, flatE, flatC, vconv, vmm, vidxA, viaddrA, vfield, vlen, elemsOf, dF32, dF64, dI64, dU8,
                dBool, dStr, esOk, elemsS, vsliceX, bnd, ownV, ownC, own1, ownT, isSl, nSl, endL, Md.isOwn, purge, purgeH, purgeB, purgeE, hasName, name1, List.any_cons,
                List.any_nil, Md.isWr, pureV.pureP, Option.map, reduceIte, Nat.reduceEqDiff, Nat.reduceAdd, Nat.reduceMul, Nat.reduceLT, Nat.reduceLeDiff, List.mapM_cons,
                List.mapM_nil, Option.pure_def, Option.bind_eq_bind, Option.bind_some, implies_true, forall_const, beq_self_eq_true, decide_true, decide_false, eq_self,
                Int.reduceEq, Int.reduceLE, Int.reduceLT, if_true, if_false, fc59_0, fc59_1, fc59_2, fc59_3, fc59_4, Int.reduceAdd, Int.reduceSub, Int.reduceMul, Int.reduceNeg,
                Int.reducePow, Nat.reducePow, Int.reduceToNat, Nat.reduceSub, List.replicate, Nat.reduceBEq, wAs, wA, wC, zipW, noDupN, grpE, g_laws_eqBone, grpC, en0, dc_en0, en1,
                dc_en1])
        | (refine eA_wk (wk_norm (ks := [0, 1, 5]) (ls := []) ?_) (eA_cast ?_ (sl59_0 y0 y1 _ _ _ _ (getD_some (d := default) (x := (l_laws_eqBoneS_0 y0 y1 (Int.toNat (((List.length y0 : Nat) : Int) - 0) + 2) 0)) ?_) ?_ ?_)); (simp only [nilS, nilV, normOk, optIn, blkIn, nameIn, 
          hp, grpA, vsliceS, grpS, grpD, grpF, grpL, eop, vop, bop, uop, fltop, convop, endOk, newE, new1, freshL, Md.isNew, outV, pureV, pureX, pure1, AV.cells, AV.one, storable,
                laid, refless, refless1, vload, loadC, storeC, vnil, vfaddr, vextract, flatT, flatE, flatC, vconv, vmm, vidxA, viaddrA, vfield, vlen, elemsOf, dF32, dF64, dI64, dU8,
                dBool, dStr, esOk, elemsS, vsliceX, bnd, ownV, ownC, own1, ownT, isSl, nSl, endL, Md.isOwn, purge, purgeH, purgeB, purgeE, hasName, name1, List.any_cons,
                List.any_nil, Md.isWr, pureV.pureP, Option.map, reduceIte, Nat.reduceEqDiff, Nat.reduceAdd, Nat.reduceMul, Nat.reduceLT, Nat.reduceLeDiff, List.mapM_cons,
                List.mapM_nil, Option.pure_def, Option.bind_eq_bind, Option.bind_some, implies_true, forall_const, beq_self_eq_true, decide_true, decide_false, eq_self,
                Int.reduceEq, Int.reduceLE, Int.reduceLT, if_true, if_false, fc59_0, fc59_1, fc59_2, fc59_3, fc59_4, Int.reduceAdd, Int.reduceSub, Int.reduceMul, Int.reduceNeg,
                Int.reducePow, Nat.reducePow, Int.reduceToNat, Nat.reduceSub, List.replicate, Nat.reduceBEq, wAs, wA, wC, zipW, noDupN, grpE, g_laws_eqBone, grpC, en0, dc_en0, en1,
                dc_en1] <;> rfl); (simp only [nilS, nilV, normS,  List.map_append, List.length_append, List.map_set, List.length_set, List.map_replicate, List.length_replicate, List.map_nil, List.map_cons,
          hp, grpA, vsliceS, grpS, grpD, grpF, grpL, eop, vop, bop, uop, fltop, convop, endOk, newE, new1, freshL, Md.isNew, outV, pureV, pureX, pure1, AV.cells, AV.one, storable,
                laid, refless, refless1, vload, loadC, storeC, vnil, vfaddr, vextract, flatT, flatE, flatC, vconv, vmm, vidxA, viaddrA, vfield, vlen, elemsOf, dF32, dF64, dI64, dU8,
                dBool, dStr, esOk, elemsS, vsliceX, bnd, ownV, ownC, own1, ownT, isSl, nSl, endL, Md.isOwn, purge, purgeH, purgeB, purgeE, hasName, name1, List.any_cons,
                List.any_nil, Md.isWr, pureV.pureP, Option.map, reduceIte, Nat.reduceEqDiff, Nat.reduceAdd, Nat.reduceMul, Nat.reduceLT, Nat.reduceLeDiff, List.mapM_cons,
                List.mapM_nil, Option.pure_def, Option.bind_eq_bind, Option.bind_some, implies_true, forall_const, beq_self_eq_true, decide_true, decide_false, eq_self,
                Int.reduceEq, Int.reduceLE, Int.reduceLT, if_true, if_false, fc59_0, fc59_1, fc59_2, fc59_3, fc59_4, Int.reduceAdd, Int.reduceSub, Int.reduceMul, Int.reduceNeg,
                Int.reducePow, Nat.reducePow, Int.reduceToNat, Nat.reduceSub, List.replicate, Nat.reduceBEq, wAs, wA, wC, zipW, noDupN, grpE, g_laws_eqBone, grpC, en0, dc_en0, en1,
                dc_en1] <;> first | rfl | (simp only [Nat.add_comm]; done)); (simp only [hp]); (
        intro st2 ht hw; simp only [Kq_ret, Kb_ret, Kl_ret, ret_ok]; first | exact h0 _ hw | exact h0 _ rfl hw | exact h1 _ rfl hw | exact h0 _ ht hw | exact h1 _ ht hw | refine ⟨_, hw, ?_⟩); rotate_left; (
        intro st2 ht hw; (try simp only [ht, reduceCtorEq, Bool.not_eq_true', decide_eq_false_iff_not, Bool.not_true, Bool.not_false, Bool.false_or, Bool.true_or, Bool.true_and, Bool.false_and, Bool.and_eq_true, Bool.or_eq_true, if_true, if_false, reduceIte, Bool.false_eq_true, and_true, true_and, false_or, or_false, decide_eq_true_eq, not_false_eq_true, not_true_eq_false] at hp); simp only [
          hp, grpA, vsliceS, grpS, grpD, grpF, grpL, eop, vop, bop, uop, fltop, convop, endOk, newE, new1, freshL, Md.isNew, outV, pureV, pureX, pure1, AV.cells, AV.one, storable,
                laid, refless, refless1, vload, loadC, storeC, vnil, vfaddr, vextract, flatT, flatE, flatC, vconv, vmm, vidxA, viaddrA, vfield, vlen, elemsOf, dF32, dF64, dI64, dU8,
                dBool, dStr, esOk, elemsS, vsliceX, bnd, ownV, ownC, own1, ownT, isSl, nSl, endL, Md.isOwn, purge, purgeH, purgeB, purgeE, hasName, name1, List.any_cons,
                List.any_nil, Md.isWr, pureV.pureP, Option.map, reduceIte, Nat.reduceEqDiff, Nat.reduceAdd, Nat.reduceMul, Nat.reduceLT, Nat.reduceLeDiff, List.mapM_cons,
                List.mapM_nil, Option.pure_def, Option.bind_eq_bind, Option.bind_some, implies_true, forall_const, beq_self_eq_true, decide_true, decide_false, eq_self,
                Int.reduceEq, Int.reduceLE, Int.reduceLT, if_true, if_false, fc59_0, fc59_1, fc59_2, fc59_3, fc59_4, Int.reduceAdd, Int.reduceSub, Int.reduceMul, Int.reduceNeg,
                Int.reducePow, Nat.reducePow, Int.reduceToNat, Nat.reduceSub, List.replicate, Nat.reduceBEq, wAs, wA, wC, zipW, noDupN, grpE, g_laws_eqBone, grpC, en0, dc_en0, en1,
                dc_en1]; refine KW_of hw ?_; simp only [ht, 
          hp, grpA, vsliceS, grpS, grpD, grpF, grpL, eop, vop, bop, uop, fltop, convop, endOk, newE, new1, freshL, Md.isNew, outV, pureV, pureX, pure1, AV.cells, AV.one, storable,
                laid, refless, refless1, vload, loadC, storeC, vnil, vfaddr, vextract, flatT, flatE, flatC, vconv, vmm, vidxA, viaddrA, vfield, vlen, elemsOf, dF32, dF64, dI64, dU8,
                dBool, dStr, esOk, elemsS, vsliceX, bnd, ownV, ownC, own1, ownT, isSl, nSl, endL, Md.isOwn, purge, purgeH, purgeB, purgeE, hasName, name1, List.any_cons,
                List.any_nil, Md.isWr, pureV.pureP, Option.map, reduceIte, Nat.reduceEqDiff, Nat.reduceAdd, Nat.reduceMul, Nat.reduceLT, Nat.reduceLeDiff, List.mapM_cons,
                List.mapM_nil, Option.pure_def, Option.bind_eq_bind, Option.bind_some, implies_true, forall_const, beq_self_eq_true, decide_true, decide_false, eq_self,
                Int.reduceEq, Int.reduceLE, Int.reduceLT, if_true, if_false, fc59_0, fc59_1, fc59_2, fc59_3, fc59_4, Int.reduceAdd, Int.reduceSub, Int.reduceMul, Int.reduceNeg,
                Int.reducePow, Nat.reducePow, Int.reduceToNat, Nat.reduceSub, List.replicate, Nat.reduceBEq, wAs, wA, wC, zipW, noDupN, grpE, g_laws_eqBone, grpC, en0, dc_en0, en1,
                dc_en1])))
      all_goals (try simp only [*, m_laws_eqBoneS, Bool.and_true, Bool.true_and, Bool.and_false, Bool.false_and, Bool.or_true, Bool.true_or, Bool.or_false, Bool.false_or, Bool.not_true, Bool.not_false, Bool.false_eq_true, if_true, if_false, reduceIte, decide_true, decide_false])
      all_goals (try (simp_all; done))
    · cases h
  · cases h
def m_laws_eqSkeleton (x0 : (List (Int × Nat × Nat × Nat))) (x1 : (List (Int × Nat × Nat × Nat))) : Bool := (if (m_laws_eqBoneS x0 x1) = true then true else false)
def p_laws_eqSkeleton (x0 : (List (Int × Nat × Nat × Nat))) (x1 : (List (Int × Nat × Nat × Nat))) : Bool := (p_laws_eqBoneS x0 x1)
def g_laws_eqSkeleton : List AV → Option AV
  | [.agg [.sl w0], .agg [.sl w1]] => (match decL dc_en0 w0 with | some y0 => ((match decL dc_en0 w1 with | some y1 => (if p_laws_eqSkeleton y0 y1 = true then some (.bool (m_laws_eqSkeleton y0 y1)) else none) | none => none)) | none => none)
  | _ => none
def ic16 : ICode := (.seq (.reg [⟨(some 2), none, (.box 1 (.t 0))⟩, ⟨(some 3), none, (.box 1 (.t 1))⟩, ⟨(some 4), none, (.mov (.c (.bool false)))⟩] [2, 3]) (.seq (.seq (.reg [⟨(some
      5), none, (.faddr 0 (.t 2))⟩, ⟨(some 6), none, (.load none (.t 5))⟩, ⟨(some 7), none, (.faddr 0 (.t 3))⟩, ⟨(some 8), none, (.load none (.t 7))⟩, ⟨(some 9), none, (.call (.fn
      59) [(.t 6), (.t 8)] [])⟩, ⟨(some 10), none, (.un .not (.t 9))⟩] [10]) (.cond (.t 10) (.seq (.reg [⟨(some 4), none, (.mov (.c (.bool false)))⟩] [4]) .ret) .skip)) (.seq (.reg
      [⟨(some 4), none, (.mov (.c (.bool true)))⟩] [4]) .ret)))
def cp16 : CP := CP.mk [] [] [[2, 3], [10], [4], [4]] 11 [] []
theorem fc16_0 : IntKind.wrap .i64 0 = 0 := by decide
theorem fc16_1 : IntKind.wrap .i64 1 = 1 := by decide
theorem fc16_2 : IntKind.wrap .i64 2 = 2 := by decide
theorem fc16_3 : IntKind.wrap .i64 3 = 3 := by decide
theorem fc16_4 : IntKind.wrap .i64 4 = 4 := by decide
theorem s16 : ∀ vs r, g_laws_eqSkeleton vs = some r → SaysM Try.prog .any 16 vs r := by
  intro vs r h
  unfold g_laws_eqSkeleton at h
  split at h
  · rename_i w0 w1
    cases hd_y0 : decL dc_en0 w0 with
    | none => rw [hd_y0] at h; cases h
    | some y0 =>
    rw [hd_y0] at h
    obtain rfl := decL_inv dc_en0_inv hd_y0
    clear hd_y0
    dsimp only at h
    cases hd_y1 : decL dc_en0 w1 with
    | none => rw [hd_y1] at h; cases h
    | some y1 =>
    rw [hd_y1] at h
    obtain rfl := decL_inv dc_en0_inv hd_y1
    clear hd_y1
    dsimp only at h
    split at h
    · rename_i hp
      cases h
      refine spec_of (m := .any) (tab := tabOf [(59, wM .any g_laws_eqBoneS)]) (cp := cp16) (ic := ic16) (rvl := [(.t 4)]) hm (tabOk_cons (m := .any) s59 tabOk_nil) Try.func16 rfl rfl rfl (by kernel_rfl) rfl (Nat.le_of_ble_eq_true rfl) (Nat.le_of_ble_eq_true rfl) ?_
      show eA _ _ _ _
      unfold ic16
      simp only [p_laws_eqSkeleton, Bool.and_eq_true, Bool.or_eq_true, decide_eq_true_eq, Bool.not_eq_true', decide_eq_false_iff_not] at hp
      simp only [
          hp, grpA, vsliceS, grpS, grpD, grpF, grpL, eop, vop, bop, uop, fltop, convop, endOk, newE, new1, freshL, Md.isNew, outV, pureV, pureX, pure1, AV.cells, AV.one, storable,
                laid, refless, refless1, vload, loadC, storeC, vnil, vfaddr, vextract, flatT, flatE, flatC, vconv, vmm, vidxA, viaddrA, vfield, vlen, elemsOf, dF32, dF64, dI64, dU8,
                dBool, dStr, esOk, elemsS, vsliceX, bnd, ownV, ownC, own1, ownT, isSl, nSl, endL, Md.isOwn, purge, purgeH, purgeB, purgeE, hasName, name1, List.any_cons,
                List.any_nil, Md.isWr, pureV.pureP, Option.map, reduceIte, Nat.reduceEqDiff, Nat.reduceAdd, Nat.reduceMul, Nat.reduceLT, Nat.reduceLeDiff, List.mapM_cons,
                List.mapM_nil, Option.pure_def, Option.bind_eq_bind, Option.bind_some, implies_true, forall_const, beq_self_eq_true, decide_true, decide_false, eq_self,
                Int.reduceEq, Int.reduceLE, Int.reduceLT, if_true, if_false, fc16_0, fc16_1, fc16_2, fc16_3, fc16_4, Int.reduceAdd, Int.reduceSub, Int.reduceMul, Int.reduceNeg,
                Int.reducePow, Nat.reducePow, Int.reduceToNat, Nat.reduceSub, List.replicate, Nat.reduceBEq, wAs, wA, wC, zipW, noDupN, grpE, g_laws_eqBoneS, grpC, en0, dc_en0, en1,
                dc_en1]
      repeat' (first
        | ((first | (refine eGI_of (fun h => ?_) (fun h => ?_)) | (refine eCc_of (fun h => ?_) (fun h => ?_))) <;> (try simp only [Bool.not_eq_true', Bool.not_eq_false'] at h) <;> (try simp only [h, reduceCtorEq, Bool.not_eq_true', decide_eq_false_iff_not, Bool.not_true, Bool.not_false, Bool.false_or, Bool.true_or, Bool.true_and, Bool.false_and, Bool.and_eq_true, Bool.or_eq_true, if_true, if_false, reduceIte, Bool.false_eq_true, and_true, true_and, false_or, or_false, decide_eq_true_eq, not_false_eq_true, not_true_eq_false] at hp) <;> (try (have h2 := h; simp only [decide_eq_true_eq, decide_eq_false_iff_not] at h2; (first | (replace h2 := eq_false h2) | (replace h2 := eq_true h2)); simp only [h2, if_true, if_false, false_or, true_or, or_true, or_false, and_true, true_and, not_false_eq_true, not_true_eq_false] at hp)) <;> simp only [h,
          hp, grpA, vsliceS, grpS, grpD, grpF, grpL, eop, vop, bop, uop, fltop, convop, endOk, newE, new1, freshL, Md.isNew, outV, pureV, pureX, pure1, AV.cells, AV.one, storable,
                laid, refless, refless1, vload, loadC, storeC, vnil, vfaddr, vextract, flatT, flatE, flatC, vconv, vmm, vidxA, viaddrA, vfield, vlen, elemsOf, dF32, dF64, dI64, dU8,
                dBool, dStr, esOk, elemsS, vsliceX, bnd, ownV, ownC, own1, ownT, isSl, nSl, endL, Md.isOwn, purge, purgeH, purgeB, purgeE, hasName, name1, List.any_cons,
                List.any_nil, Md.isWr, pureV.pureP, Option.map, reduceIte, Nat.reduceEqDiff, Nat.reduceAdd, Nat.reduceMul, Nat.reduceLT, Nat.reduceLeDiff, List.mapM_cons,
                List.mapM_nil, Option.pure_def, Option.bind_eq_bind, Option.bind_some, implies_true, forall_const, beq_self_eq_true, decide_true, decide_false, eq_self,
                Int.reduceEq, Int.reduceLE, Int.reduceLT, if_true, if_false, fc16_0, fc16_1, fc16_2, fc16_3, fc16_4, Int.reduceAdd, Int.reduceSub, Int.reduceMul, Int.reduceNeg,
                Int.reducePow, Nat.reducePow, Int.reduceToNat, Nat.reduceSub, List.replicate, Nat.reduceBEq, wAs, wA, wC, zipW, noDupN, grpE, g_laws_eqBoneS, grpC, en0, dc_en0, en1,
                dc_en1]))
      all_goals (try simp only [*, m_laws_eqSkeleton, Bool.and_true, Bool.true_and, Bool.and_false, Bool.false_and, Bool.or_true, Bool.true_or, Bool.or_false, Bool.false_or, Bool.not_true, Bool.not_false, Bool.false_eq_true, if_true, if_false, reduceIte, decide_true, decide_false])
      all_goals (try (simp_all; done))
    · cases h
  · cases h
def l_laws_eqInt64S_0 (x0 : (List Int)) (x1 : (List Int)) : Nat → Int → Option (Bool × Bool × Unit)
  | 0, _ => none
  | n + 1, z0_0 => (if (decide (z0_0 < ((List.length x0 : Nat) : Int))) = true then (need (inB z0_0 (List.length x0)) (need (inB z0_0 (List.length x1)) (if (decide ((atI x0 z0_0) =
        (atI x1 z0_0))) = true then (l_laws_eqInt64S_0 x0 x1 n (IntKind.wrap .i64 (z0_0 + 1))) else (some (true, false, default))))) else (some (false, default, ())))
def m_laws_eqInt64S (x0 : (List Int)) (x1 : (List Int)) : Bool := (if (decide (((List.length x0 : Nat) : Int) = ((List.length x1 : Nat) : Int))) = true then (if (Option.getD
      (l_laws_eqInt64S_0 x0 x1 (Int.toNat (((List.length x0 : Nat) : Int) - 0) + 2) 0) default).1 = true then (Option.getD (l_laws_eqInt64S_0 x0 x1 (Int.toNat (((List.length x0 :
      Nat) : Int) - 0) + 2) 0) default).2.1 else true) else false)
def p_laws_eqInt64S (x0 : (List Int)) (x1 : (List Int)) : Bool := (!(decide (((List.length x0 : Nat) : Int) = ((List.length x1 : Nat) : Int))) || (Option.isSome (l_laws_eqInt64S_0
      x0 x1 (Int.toNat (((List.length x0 : Nat) : Int) - 0) + 2) 0)))
def g_laws_eqInt64S : List AV → Option AV
  | [.sl w0, .sl w1] => (match decL dI64 w0 with | some y0 => ((match decL dI64 w1 with | some y1 => (if p_laws_eqInt64S y0 y1 = true then some (.bool (m_laws_eqInt64S y0 y1)) else none) | none => none)) | none => none)
  | _ => none
def lb17_0 : ICode := (.seq (.seq (.reg [⟨(some 11), none, (.mov (.t 5))⟩, ⟨(some 12), none, (.mov (.t 0))⟩, ⟨(some 13), none, (.len false (.t 12))⟩, ⟨(some 14), none, (.bin .lss
      false (.t 11) (.t 13))⟩] [0, 1, 5, 14]) (.cond (.t 14) .skip (.exit 0))) (.seq (.block 1 (.seq (.reg [⟨(some 17), none, (.mov (.t 0))⟩, ⟨(some 18), none, (.mov (.t 5))⟩,
      ⟨(some 19), none, (.iaddrS 1 (.t 17) (.t 18))⟩, ⟨(some 20), none, (.load none (.t 19))⟩, ⟨(some 21), none, (.mov (.t 1))⟩, ⟨(some 22), none, (.mov (.t 5))⟩, ⟨(some 23), none,
      (.iaddrS 1 (.t 21) (.t 22))⟩, ⟨(some 24), none, (.load none (.t 23))⟩, ⟨(some 25), none, (.bin .neq false (.t 20) (.t 24))⟩] [0, 1, 5, 25]) (.cond (.t 25) (.seq (.reg [⟨(some
      4), none, (.mov (.c (.bool false)))⟩] [4]) .ret) .skip))) (.reg [⟨(some 15), none, (.mov (.t 5))⟩, ⟨(some 16), none, (.bin .add false (.t 15) (.c (.int .i64 1)))⟩, ⟨(some 5),
      none, (.mov (.t 16))⟩] [0, 1, 5])))
def ic17 : ICode := (.seq (.reg [⟨(some 4), none, (.mov (.c (.bool false)))⟩] [0, 1]) (.seq (.seq (.reg [⟨(some 6), none, (.mov (.t 0))⟩, ⟨(some 7), none, (.len false (.t 6))⟩,
      ⟨(some 8), none, (.mov (.t 1))⟩, ⟨(some 9), none, (.len false (.t 8))⟩, ⟨(some 10), none, (.bin .neq false (.t 7) (.t 9))⟩] [0, 1, 10]) (.cond (.t 10) (.seq (.reg [⟨(some 4),
      none, (.mov (.c (.bool false)))⟩] [4]) .ret) .skip)) (.seq (.seq (.reg [⟨(some 5), none, (.mov (.c (.int .i64 0)))⟩] [0, 1, 5]) (.block 0 (.loop lb17_0))) (.seq (.reg [⟨(some
      4), none, (.mov (.c (.bool true)))⟩] [4]) .ret))))
def cp17 : CP := CP.mk [] [] [[0, 1], [0, 1, 10], [4], [0, 1, 5], [0, 1, 5, 14], [0, 1, 5], [0, 1, 5, 25], [4], [4]] 26 [] []
theorem fc17_0 : IntKind.wrap .i64 0 = 0 := by decide
theorem fc17_1 : IntKind.wrap .i64 1 = 1 := by decide
theorem fc17_2 : IntKind.wrap .i64 2 = 2 := by decide
theorem fc17_3 : IntKind.wrap .i64 3 = 3 := by decide
theorem fc17_4 : IntKind.wrap .i64 4 = 4 := by decide
theorem sl17_0 (x0 : (List Int)) (x1 : (List Int)) : ∀ (n : Nat) (z0_0 : Int) (o : (Bool × Bool × Unit)) (K : IExit → St → Prop), l_laws_eqInt64S_0 x0 x1 n z0_0 = some o → (∀ st,
      o.1 = true → outM .any st [(.t 4)] = some (.bool o.2.1) → K .ret st) → (∀ st, o.1 = false → Wk st (⟨[], []⟩ : St) → K (.exit 0) st) → eA (tabOf []) (.loop lb17_0) (⟨[(0, (.sl
      (List.map (AV.int .i64) x0))), (1, (.sl (List.map (AV.int .i64) x1))), (5, (.int .i64 z0_0))], []⟩ : St) K := by
  intro n
  induction n with
  | zero =>
    intro z0_0 o K h h0 h1
    simp only [l_laws_eqInt64S_0, reduceCtorEq] at h
  | succ n ih =>
    intro z0_0 o K h h0 h1
    refine eA_loop ?_
    unfold lb17_0
    unfold l_laws_eqInt64S_0 at h
    (try simp only [need_iff] at h)
    simp only [
      need_iff, h, grpA, vsliceS, grpS, grpD, grpF, grpL, eop, vop, bop, uop, fltop, convop, endOk, newE, new1, freshL, Md.isNew, outV, pureV, pureX, pure1, AV.cells, AV.one,
            storable, laid, refless, refless1, vload, loadC, storeC, vnil, vfaddr, vextract, flatT, flatE, flatC, vconv, vmm, vidxA, viaddrA, vfield, vlen, elemsOf, dF32, dF64,
            dI64, dU8, dBool, dStr, esOk, elemsS, vsliceX, bnd, ownV, ownC, own1, ownT, isSl, nSl, endL, Md.isOwn, purge, purgeH, purgeB, purgeE, hasName, name1, List.any_cons,
            List.any_nil, Md.isWr, pureV.pureP, Option.map, reduceIte, Nat.reduceEqDiff, Nat.reduceAdd, Nat.reduceMul, Nat.reduceLT, Nat.reduceLeDiff, List.mapM_cons, List.mapM_nil,
            Option.pure_def, Option.bind_eq_bind, Option.bind_some, implies_true, forall_const, beq_self_eq_true, decide_true, decide_false, eq_self, Int.reduceEq, Int.reduceLE,
            Int.reduceLT, if_true, if_false, fc17_0, fc17_1, fc17_2, fc17_3, fc17_4, Int.reduceAdd, Int.reduceSub, Int.reduceMul, Int.reduceNeg, Int.reducePow, Nat.reducePow,
            Int.reduceToNat, Nat.reduceSub, List.replicate, Nat.reduceBEq, wAs, wA, wC, zipW, noDupN, grpE, grpC, en0, dc_en0, en1, dc_en1]
    repeat' (first
      | ((first | (refine eGI_of (fun hc => ?_) (fun hc => ?_)) | (refine eCc_of (fun hc => ?_) (fun hc => ?_)) | (have hc := True.intro; refine KW_refl ?_)) <;> (try simp only [Bool.not_eq_true', Bool.not_eq_false'] at hc) <;> (try simp only [hc, need_iff, reduceCtorEq, Bool.not_eq_true', decide_eq_false_iff_not, Bool.not_true, Bool.not_false, Bool.false_or, Bool.true_or, Bool.true_and, Bool.false_and, Bool.and_eq_true, Bool.or_eq_true, if_true, if_false, reduceIte, Bool.false_eq_true, and_true, true_and, false_or, or_false, decide_eq_true_eq, not_false_eq_true, not_true_eq_false] at h) <;> (try (have hc2 := hc; simp only [decide_eq_true_eq, decide_eq_false_iff_not] at hc2; (first | (replace hc2 := eq_false hc2) | (replace hc2 := eq_true hc2)); simp only [hc2, if_true, if_false, need_iff, reduceCtorEq, Bool.not_eq_true', decide_eq_false_iff_not, Bool.not_true, Bool.not_false, Bool.false_or, Bool.true_or, Bool.true_and, Bool.false_and, Bool.and_eq_true, Bool.or_eq_true, if_true, if_false, reduceIte, Bool.false_eq_true, and_true, true_and, false_or, or_false, decide_eq_true_eq, not_false_eq_true, not_true_eq_false] at h)) <;> simp only [hc,
      need_iff, h, grpA, vsliceS, grpS, grpD, grpF, grpL, eop, vop, bop, uop, fltop, convop, endOk, newE, new1, freshL, Md.isNew, outV, pureV, pureX, pure1, AV.cells, AV.one,
            storable, laid, refless, refless1, vload, loadC, storeC, vnil, vfaddr, vextract, flatT, flatE, flatC, vconv, vmm, vidxA, viaddrA, vfield, vlen, elemsOf, dF32, dF64,
            dI64, dU8, dBool, dStr, esOk, elemsS, vsliceX, bnd, ownV, ownC, own1, ownT, isSl, nSl, endL, Md.isOwn, purge, purgeH, purgeB, purgeE, hasName, name1, List.any_cons,
            List.any_nil, Md.isWr, pureV.pureP, Option.map, reduceIte, Nat.reduceEqDiff, Nat.reduceAdd, Nat.reduceMul, Nat.reduceLT, Nat.reduceLeDiff, List.mapM_cons, List.mapM_nil,
            Option.pure_def, Option.bind_eq_bind, Option.bind_some, implies_true, forall_const, beq_self_eq_true, decide_true, decide_false, eq_self, Int.reduceEq, Int.reduceLE,
            Int.reduceLT, if_true, if_false, fc17_0, fc17_1, fc17_2, fc17_3, fc17_4, Int.reduceAdd, Int.reduceSub, Int.reduceMul, Int.reduceNeg, Int.reducePow, Nat.reducePow,
            Int.reduceToNat, Nat.reduceSub, List.replicate, Nat.reduceBEq, wAs, wA, wC, zipW, noDupN, grpE, grpC, en0, dc_en0, en1, dc_en1]))
    all_goals (repeat (replace h := And.right h))
    all_goals first
      | (refine eA_wk (wk_norm (ks := [0, 1, 5]) (ls := []) ?_) (eA_cast ?_ (ih _ _ _ h h0 h1)); (simp only [normOk, optIn, blkIn, nameIn,
      need_iff, h, grpA, vsliceS, grpS, grpD, grpF, grpL, eop, vop, bop, uop, fltop, convop, endOk, newE, new1, freshL, Md.isNew, outV, pureV, pureX, pure1, AV.cells, AV.one,
            storable, laid, refless, refless1, vload, loadC, storeC, vnil, vfaddr, vextract, flatT, flatE, flatC, vconv, vmm, vidxA, viaddrA, vfield, vlen, elemsOf, dF32, dF64,
            dI64, dU8, dBool, dStr, esOk, elemsS, vsliceX, bnd, ownV, ownC, own1, ownT, isSl, nSl, endL, Md.isOwn, purge, purgeH, purgeB, purgeE, hasName, name1, List.any_cons,
            List.any_nil, Md.isWr, pureV.pureP, Option.map, reduceIte, Nat.reduceEqDiff, Nat.reduceAdd, Nat.reduceMul, Nat.reduceLT, Nat.reduceLeDiff, List.mapM_cons, List.mapM_nil,
            Option.pure_def, Option.bind_eq_bind, Option.bind_some, implies_true, forall_const, beq_self_eq_true, decide_true, decide_false, eq_self, Int.reduceEq, Int.reduceLE,
            Int.reduceLT, if_true, if_false, fc17_0, fc17_1, fc17_2, fc17_3, fc17_4, Int.reduceAdd, Int.reduceSub, Int.reduceMul, Int.reduceNeg, Int.reducePow, Nat.reducePow,
            Int.reduceToNat, Nat.reduceSub, List.replicate, Nat.reduceBEq, wAs, wA, wC, zipW, noDupN, grpE, grpC, en0, dc_en0, en1, dc_en1] <;> rfl); (simp only [normS, List.map_append, List.length_append, List.map_set, List.length_set, List.map_replicate, List.length_replicate, List.map_nil, List.map_cons,
      need_iff, h, grpA, vsliceS, grpS, grpD, grpF, grpL, eop, vop, bop, uop, fltop, convop, endOk, newE, new1, freshL, Md.isNew, outV, pureV, pureX, pure1, AV.cells, AV.one,
            storable, laid, refless, refless1, vload, loadC, storeC, vnil, vfaddr, vextract, flatT, flatE, flatC, vconv, vmm, vidxA, viaddrA, vfield, vlen, elemsOf, dF32, dF64,
            dI64, dU8, dBool, dStr, esOk, elemsS, vsliceX, bnd, ownV, ownC, own1, ownT, isSl, nSl, endL, Md.isOwn, purge, purgeH, purgeB, purgeE, hasName, name1, List.any_cons,
            List.any_nil, Md.isWr, pureV.pureP, Option.map, reduceIte, Nat.reduceEqDiff, Nat.reduceAdd, Nat.reduceMul, Nat.reduceLT, Nat.reduceLeDiff, List.mapM_cons, List.mapM_nil,
            Option.pure_def, Option.bind_eq_bind, Option.bind_some, implies_true, forall_const, beq_self_eq_true, decide_true, decide_false, eq_self, Int.reduceEq, Int.reduceLE,
            Int.reduceLT, if_true, if_false, fc17_0, fc17_1, fc17_2, fc17_3, fc17_4, Int.reduceAdd, Int.reduceSub, Int.reduceMul, Int.reduceNeg, Int.reducePow, Nat.reducePow,
            Int.reduceToNat, Nat.reduceSub, List.replicate, Nat.reduceBEq, wAs, wA, wC, zipW, noDupN, grpE, grpC, en0, dc_en0, en1, dc_en1] <;> first | rfl | (simp only [Nat.add_comm]; done)))
      | (cases h; refine h0 _ rfl ?_; simp only [
      grpA, vsliceS, grpS, grpD, grpF, grpL, eop, vop, bop, uop, fltop, convop, endOk, newE, new1, freshL, Md.isNew, outV, pureV, pureX, pure1, AV.cells, AV.one, storable, laid,
            refless, refless1, vload, loadC, storeC, vnil, vfaddr, vextract, flatT, flatE, flatC, vconv, vmm, vidxA, viaddrA, vfield, vlen, elemsOf, dF32, dF64, dI64, dU8, dBool,
            dStr, esOk, elemsS, vsliceX, bnd, ownV, ownC, own1, ownT, isSl, nSl, endL, Md.isOwn, purge, purgeH, purgeB, purgeE, hasName, name1, List.any_cons, List.any_nil, Md.isWr,
            pureV.pureP, Option.map, reduceIte, Nat.reduceEqDiff, Nat.reduceAdd, Nat.reduceMul, Nat.reduceLT, Nat.reduceLeDiff, List.mapM_cons, List.mapM_nil, Option.pure_def,
            Option.bind_eq_bind, Option.bind_some, implies_true, forall_const, beq_self_eq_true, decide_true, decide_false, eq_self, Int.reduceEq, Int.reduceLE, Int.reduceLT,
            if_true, if_false, fc17_0, fc17_1, fc17_2, fc17_3, fc17_4, Int.reduceAdd, Int.reduceSub, Int.reduceMul, Int.reduceNeg, Int.reducePow, Nat.reducePow, Int.reduceToNat,
            Nat.reduceSub, List.replicate, Nat.reduceBEq, wAs, wA, wC, zipW, noDupN, grpE, grpC, en0, dc_en0, en1, dc_en1])
      | (cases h; refine h1 _ rfl (Wk.cast (wk_norm (ks := []) (ls := []) ?_) ?_); (simp only [normOk, optIn, blkIn, nameIn,
      grpA, vsliceS, grpS, grpD, grpF, grpL, eop, vop, bop, uop, fltop, convop, endOk, newE, new1, freshL, Md.isNew, outV, pureV, pureX, pure1, AV.cells, AV.one, storable, laid,
            refless, refless1, vload, loadC, storeC, vnil, vfaddr, vextract, flatT, flatE, flatC, vconv, vmm, vidxA, viaddrA, vfield, vlen, elemsOf, dF32, dF64, dI64, dU8, dBool,
            dStr, esOk, elemsS, vsliceX, bnd, ownV, ownC, own1, ownT, isSl, nSl, endL, Md.isOwn, purge, purgeH, purgeB, purgeE, hasName, name1, List.any_cons, List.any_nil, Md.isWr,
            pureV.pureP, Option.map, reduceIte, Nat.reduceEqDiff, Nat.reduceAdd, Nat.reduceMul, Nat.reduceLT, Nat.reduceLeDiff, List.mapM_cons, List.mapM_nil, Option.pure_def,
            Option.bind_eq_bind, Option.bind_some, implies_true, forall_const, beq_self_eq_true, decide_true, decide_false, eq_self, Int.reduceEq, Int.reduceLE, Int.reduceLT,
            if_true, if_false, fc17_0, fc17_1, fc17_2, fc17_3, fc17_4, Int.reduceAdd, Int.reduceSub, Int.reduceMul, Int.reduceNeg, Int.reducePow, Nat.reducePow, Int.reduceToNat,
            Nat.reduceSub, List.replicate, Nat.reduceBEq, wAs, wA, wC, zipW, noDupN, grpE, grpC, en0, dc_en0, en1, dc_en1] <;> rfl); (simp only [normS, List.map_append, List.length_append, List.map_set, List.length_set, List.map_replicate, List.length_replicate,
      grpA, vsliceS, grpS, grpD, grpF, grpL, eop, vop, bop, uop, fltop, convop, endOk, newE, new1, freshL, Md.isNew, outV, pureV, pureX, pure1, AV.cells, AV.one, storable, laid,
            refless, refless1, vload, loadC, storeC, vnil, vfaddr, vextract, flatT, flatE, flatC, vconv, vmm, vidxA, viaddrA, vfield, vlen, elemsOf, dF32, dF64, dI64, dU8, dBool,
            dStr, esOk, elemsS, vsliceX, bnd, ownV, ownC, own1, ownT, isSl, nSl, endL, Md.isOwn, purge, purgeH, purgeB, purgeE, hasName, name1, List.any_cons, List.any_nil, Md.isWr,
            pureV.pureP, Option.map, reduceIte, Nat.reduceEqDiff, Nat.reduceAdd, Nat.reduceMul, Nat.reduceLT, Nat.reduceLeDiff, List.mapM_cons, List.mapM_nil, Option.pure_def,
            Option.bind_eq_bind, Option.bind_some, implies_true, forall_const, beq_self_eq_true, decide_true, decide_false, eq_self, Int.reduceEq, Int.reduceLE, Int.reduceLT,
            if_true, if_false, fc17_0, fc17_1, fc17_2, fc17_3, fc17_4, Int.reduceAdd, Int.reduceSub, Int.reduceMul, Int.reduceNeg, Int.reducePow, Nat.reducePow, Int.reduceToNat,
            Nat.reduceSub, List.replicate, Nat.reduceBEq, wAs, wA, wC, zipW, noDupN, grpE, grpC, en0, dc_en0, en1, dc_en1] <;> first | rfl | (simp only [Nat.add_comm]; done)))
theorem s17 : ∀ vs r, g_laws_eqInt64S vs = some r → SaysM Try.prog .any 17 vs r := by
  intro vs r h
  unfold g_laws_eqInt64S at h
  split at h
  · rename_i w0 w1
    cases hd_y0 : decL dI64 w0 with
    | none => rw [hd_y0] at h; cases h
    | some y0 =>
    rw [hd_y0] at h
    obtain rfl := decL_inv dI64_inv hd_y0
    clear hd_y0
    dsimp only at h
    cases hd_y1 : decL dI64 w1 with
    | none => rw [hd_y1] at h; cases h
    | some y1 =>
    rw [hd_y1] at h
    obtain rfl := decL_inv dI64_inv hd_y1
    clear hd_y1
    dsimp only at h
    split at h
    · rename_i hp
      cases h
      refine spec_of (m := .any) (tab := tabOf []) (cp := cp17) (ic := ic17) (rvl := [(.t 4)]) hm tabOk_nil Try.func17 rfl rfl rfl (by kernel_rfl) rfl (Nat.le_of_ble_eq_true rfl) (Nat.le_of_ble_eq_true rfl) ?_
      show eA _ _ _ _
      unfold ic17
      simp only [p_laws_eqInt64S, Bool.and_eq_true, Bool.or_eq_true, decide_eq_true_eq, Bool.not_eq_true', decide_eq_false_iff_not] at hp
      simp only [
          hp, grpA, vsliceS, grpS, grpD, grpF, grpL, eop, vop, bop, uop, fltop, convop, endOk, newE, new1, freshL, Md.isNew, outV, pureV, pureX, pure1, AV.cells, AV.one, storable,
                laid, refless, refless1, vload, loadC, storeC, vnil, vfaddr, vextract, flatT, flatE, flatC, vconv, vmm, vidxA, viaddrA, vfield, vlen, elemsOf, dF32, dF64, dI64, dU8,
                dBool, dStr, esOk, elemsS, vsliceX, bnd, ownV, ownC, own1, ownT, isSl, nSl, endL, Md.isOwn, purge, purgeH, purgeB, purgeE, hasName, name1, List.any_cons,
                List.any_nil, Md.isWr, pureV.pureP, Option.map, reduceIte, Nat.reduceEqDiff, Nat.reduceAdd, Nat.reduceMul, Nat.reduceLT, Nat.reduceLeDiff, List.mapM_cons,
                List.mapM_nil, Option.pure_def, Option.bind_eq_bind, Option.bind_some, implies_true, forall_const, beq_self_eq_true, decide_true, decide_false, eq_self,
                Int.reduceEq, Int.reduceLE, Int.reduceLT, if_true, if_false, fc17_0, fc17_1, fc17_2, fc17_3, fc17_4, Int.reduceAdd, Int.reduceSub, Int.reduceMul, Int.reduceNeg,
                Int.reducePow, Nat.reducePow, Int.reduceToNat, Nat.reduceSub, List.replicate, Nat.reduceBEq, wAs, wA, wC, zipW, noDupN, grpE, grpC, en0, dc_en0, en1, dc_en1]
      repeat' (first
        | ((first | (refine eGI_of (fun h => ?_) (fun h => ?_)) | (refine eCc_of (fun h => ?_) (fun h => ?_)) | (have h := True.intro; refine KW_refl ?_)) <;> (try simp only [Bool.not_eq_true', Bool.not_eq_false'] at h) <;> (try simp only [h, reduceCtorEq, Bool.not_eq_true', decide_eq_false_iff_not, Bool.not_true, Bool.not_false, Bool.false_or, Bool.true_or, Bool.true_and, Bool.false_and, Bool.and_eq_true, Bool.or_eq_true, if_true, if_false, reduceIte, Bool.false_eq_true, and_true, true_and, false_or, or_false, decide_eq_true_eq, not_false_eq_true, not_true_eq_false] at hp) <;> (try (have h2 := h; simp only [decide_eq_true_eq, decide_eq_false_iff_not] at h2; (first | (replace h2 := eq_false h2) | (replace h2 := eq_true h2)); simp only [h2, if_true, if_false, false_or, true_or, or_true, or_false, and_true, true_and, not_false_eq_true, not_true_eq_false] at hp)) <;> simp only [h,
          hp, grpA, vsliceS, grpS, grpD, grpF, grpL, eop, vop, bop, uop, fltop, convop, endOk, newE, new1, freshL, Md.isNew, outV, pureV, pureX, pure1, AV.cells, AV.one, storable,
                laid, refless, refless1, vload, loadC, storeC, vnil, vfaddr, vextract, flatT, flatE, flatC, vconv, vmm, vidxA, viaddrA, vfield, vlen, elemsOf, dF32, dF64, dI64, dU8,
                dBool, dStr, esOk, elemsS, vsliceX, bnd, ownV, ownC, own1, ownT, isSl, nSl, endL, Md.isOwn, purge, purgeH, purgeB, purgeE, hasName, name1, List.any_cons,
                List.any_nil, Md.isWr, pureV.pureP, Option.map, reduceIte, Nat.reduceEqDiff, Nat.reduceAdd, Nat.reduceMul, Nat.reduceLT, Nat.reduceLeDiff, List.mapM_cons,
                List.mapM_nil, Option.pure_def, Option.bind_eq_bind, Option.bind_some, implies_true, forall_const, beq_self_eq_true, decide_true, decide_false, eq_self,
                Int.reduceEq, Int.reduceLE, Int.reduceLT, if_true, if_false, fc17_0, fc17_1, fc17_2, fc17_3, fc17_4, Int.reduceAdd, Int.reduceSub, Int.reduceMul, Int.reduceNeg,
                Int.reducePow, Nat.reducePow, Int.reduceToNat, Nat.reduceSub, List.replicate, Nat.reduceBEq, wAs, wA, wC, zipW, noDupN, grpE, grpC, en0, dc_en0, en1, dc_en1])
        | (refine eA_wk (wk_norm (ks := [0, 1, 5]) (ls := []) ?_) (eA_cast ?_ (sl17_0 y0 y1 _ _ _ _ (getD_some (d := default) (x := (l_laws_eqInt64S_0 y0 y1 (Int.toNat (((List.length y0 : Nat) : Int) - 0) + 2) 0)) ?_) ?_ ?_)); (simp only [nilS, nilV, normOk, optIn, blkIn, nameIn, 
          hp, grpA, vsliceS, grpS, grpD, grpF, grpL, eop, vop, bop, uop, fltop, convop, endOk, newE, new1, freshL, Md.isNew, outV, pureV, pureX, pure1, AV.cells, AV.one, storable,
                laid, refless, refless1, vload, loadC, storeC, vnil, vfaddr, vextract, flatT, flatE, flatC, vconv, vmm, vidxA, viaddrA, vfield, vlen, elemsOf, dF32, dF64, dI64, dU8,
                dBool, dStr, esOk, elemsS, vsliceX, bnd, ownV, ownC, own1, ownT, isSl, nSl, endL, Md.isOwn, purge, purgeH, purgeB, purgeE, hasName, name1, List.any_cons,
                List.any_nil, Md.isWr, pureV.pureP, Option.map, reduceIte, Nat.reduceEqDiff, Nat.reduceAdd, Nat.reduceMul, Nat.reduceLT, Nat.reduceLeDiff, List.mapM_cons,
                List.mapM_nil, Option.pure_def, Option.bind_eq_bind, Option.bind_some, implies_true, forall_const, beq_self_eq_true, decide_true, decide_false, eq_self,
                Int.reduceEq, Int.reduceLE, Int.reduceLT, if_true, if_false, fc17_0, fc17_1, fc17_2, fc17_3, fc17_4, Int.reduceAdd, Int.reduceSub, Int.reduceMul, Int.reduceNeg,
                Int.reducePow, Nat.reducePow, Int.reduceToNat, Nat.reduceSub, List.replicate, Nat.reduceBEq, wAs, wA, wC, zipW, noDupN, grpE, grpC, en0, dc_en0, en1, dc_en1] <;> rfl); (simp only [nilS, nilV, normS,  List.map_append, List.length_append, List.map_set, List.length_set, List.map_replicate, List.length_replicate, List.map_nil, List.map_cons,
          hp, grpA, vsliceS, grpS, grpD, grpF, grpL, eop, vop, bop, uop, fltop, convop, endOk, newE, new1, freshL, Md.isNew, outV, pureV, pureX, pure1, AV.cells, AV.one, storable,
                laid, refless, refless1, vload, loadC, storeC, vnil, vfaddr, vextract, flatT, flatE, flatC, vconv, vmm, vidxA, viaddrA, vfield, vlen, elemsOf, dF32, dF64, dI64, dU8,
                dBool, dStr, esOk, elemsS, vsliceX, bnd, ownV, ownC, own1, ownT, isSl, nSl, endL, Md.isOwn, purge, purgeH, purgeB, purgeE, hasName, name1, List.any_cons,
                List.any_nil, Md.isWr, pureV.pureP, Option.map, reduceIte, Nat.reduceEqDiff, Nat.reduceAdd, Nat.reduceMul, Nat.reduceLT, Nat.reduceLeDiff, List.mapM_cons,
                List.mapM_nil, Option.pure_def, Option.bind_eq_bind, Option.bind_some, implies_true, forall_const, beq_self_eq_true, decide_true, decide_false, eq_self,
                Int.reduceEq, Int.reduceLE, Int.reduceLT, if_true, if_false, fc17_0, fc17_1, fc17_2, fc17_3, fc17_4, Int.reduceAdd, Int.reduceSub, Int.reduceMul, Int.reduceNeg,
                Int.reducePow, Nat.reducePow, Int.reduceToNat, Nat.reduceSub, List.replicate, Nat.reduceBEq, wAs, wA, wC, zipW, noDupN, grpE, grpC, en0, dc_en0, en1, dc_en1] <;> first | rfl | (simp only [Nat.add_comm]; done)); (simp only [hp]); (
        intro st2 ht hw; simp only [Kq_ret, Kb_ret, Kl_ret, ret_ok]; first | exact h0 _ hw | exact h0 _ rfl hw | exact h1 _ rfl hw | exact h0 _ ht hw | exact h1 _ ht hw | refine ⟨_, hw, ?_⟩); rotate_left; (
        intro st2 ht hw; (try simp only [ht, reduceCtorEq, Bool.not_eq_true', decide_eq_false_iff_not, Bool.not_true, Bool.not_false, Bool.false_or, Bool.true_or, Bool.true_and, Bool.false_and, Bool.and_eq_true, Bool.or_eq_true, if_true, if_false, reduceIte, Bool.false_eq_true, and_true, true_and, false_or, or_false, decide_eq_true_eq, not_false_eq_true, not_true_eq_false] at hp); simp only [
          hp, grpA, vsliceS, grpS, grpD, grpF, grpL, eop, vop, bop, uop, fltop, convop, endOk, newE, new1, freshL, Md.isNew, outV, pureV, pureX, pure1, AV.cells, AV.one, storable,
                laid, refless, refless1, vload, loadC, storeC, vnil, vfaddr, vextract, flatT, flatE, flatC, vconv, vmm, vidxA, viaddrA, vfield, vlen, elemsOf, dF32, dF64, dI64, dU8,
                dBool, dStr, esOk, elemsS, vsliceX, bnd, ownV, ownC, own1, ownT, isSl, nSl, endL, Md.isOwn, purge, purgeH, purgeB, purgeE, hasName, name1, List.any_cons,
                List.any_nil, Md.isWr, pureV.pureP, Option.map, reduceIte, Nat.reduceEqDiff, Nat.reduceAdd, Nat.reduceMul, Nat.reduceLT, Nat.reduceLeDiff, List.mapM_cons,
                List.mapM_nil, Option.pure_def, Option.bind_eq_bind, Option.bind_some, implies_true, forall_const, beq_self_eq_true, decide_true, decide_false, eq_self,
                Int.reduceEq, Int.reduceLE, Int.reduceLT, if_true, if_false, fc17_0, fc17_1, fc17_2, fc17_3, fc17_4, Int.reduceAdd, Int.reduceSub, Int.reduceMul, Int.reduceNeg,
                Int.reducePow, Nat.reducePow, Int.reduceToNat, Nat.reduceSub, List.replicate, Nat.reduceBEq, wAs, wA, wC, zipW, noDupN, grpE, grpC, en0, dc_en0, en1, dc_en1]; refine KW_of hw ?_; simp only [ht, 
          hp, grpA, vsliceS, grpS, grpD, grpF, grpL, eop, vop, bop, uop, fltop, convop, endOk, newE, new1, freshL, Md.isNew, outV, pureV, pureX, pure1, AV.cells, AV.one, storable,
                laid, refless, refless1, vload, loadC, storeC, vnil, vfaddr, vextract, flatT, flatE, flatC, vconv, vmm, vidxA, viaddrA, vfield, vlen, elemsOf, dF32, dF64, dI64, dU8,
                dBool, dStr, esOk, elemsS, vsliceX, bnd, ownV, ownC, own1, ownT, isSl, nSl, endL, Md.isOwn, purge, purgeH, purgeB, purgeE, hasName, name1, List.any_cons,
                List.any_nil, Md.isWr, pureV.pureP, Option.map, reduceIte, Nat.reduceEqDiff, Nat.reduceAdd, Nat.reduceMul, Nat.reduceLT, Nat.reduceLeDiff, List.mapM_cons,
                List.mapM_nil, Option.pure_def, Option.bind_eq_bind, Option.bind_some, implies_true, forall_const, beq_self_eq_true, decide_true, decide_false, eq_self,
                Int.reduceEq, Int.reduceLE, Int.reduceLT, if_true, if_false, fc17_0, fc17_1, fc17_2, fc17_3, fc17_4, Int.reduceAdd, Int.reduceSub, Int.reduceMul, Int.reduceNeg,
                Int.reducePow, Nat.reducePow, Int.reduceToNat, Nat.reduceSub, List.replicate, Nat.reduceBEq, wAs, wA, wC, zipW, noDupN, grpE, grpC, en0, dc_en0, en1, dc_en1])))
      all_goals (try simp only [*, m_laws_eqInt64S, Bool.and_true, Bool.true_and, Bool.and_false, Bool.false_and, Bool.or_true, Bool.true_or, Bool.or_false, Bool.false_or, Bool.not_true, Bool.not_false, Bool.false_eq_true, if_true, if_false, reduceIte, decide_true, decide_false])
      all_goals (try (simp_all; done))
    · cases h
  · cases h
def l_laws_markBoneS_0 : Nat → (List (Int × Nat × Nat × Nat)) → Int → Int → Option (Int × (List (Int × Nat × Nat × Nat)))
  | 0, _, _, _ => none
  | n + 1, z0_0, z0_1, z0_2 => (if (decide (z0_2 < (((List.length z0_0) : Nat) : Int))) = true then (need (inB z0_2 (List.length z0_0)) (l_laws_markBoneS_0 n (List.set z0_0
        (Int.toNat z0_2) (z0_1, (ofInt .f32 (IntKind.wrap .i64 (z0_1 + 1))), (ofInt .f32 (IntKind.wrap .i64 ((IntKind.wrap .i64 (z0_1 + 1)) + 1))), (ofInt .f32 (IntKind.wrap .i64
        ((IntKind.wrap .i64 ((IntKind.wrap .i64 (z0_1 + 1)) + 1)) + 1))))) (IntKind.wrap .i64 ((IntKind.wrap .i64 ((IntKind.wrap .i64 ((IntKind.wrap .i64 (z0_1 + 1)) + 1)) + 1)) +
        1)) (IntKind.wrap .i64 (z0_2 + 1)))) else (some (z0_1, z0_0)))
def m_laws_markBoneS (x0 : (List (Int × Nat × Nat × Nat))) (x1 : Int) : (Int × (List (Int × Nat × Nat × Nat))) := (Option.getD (l_laws_markBoneS_0 (Int.toNat ((((List.length x0) :
      Nat) : Int) - 0) + 2) x0 x1 0) default)
def p_laws_markBoneS (x0 : (List (Int × Nat × Nat × Nat))) (x1 : Int) : Bool := ((Option.isSome (l_laws_markBoneS_0 (Int.toNat ((((List.length x0) : Nat) : Int) - 0) + 2) x0 x1 0))
      && (decide (List.length (Option.getD (l_laws_markBoneS_0 (Int.toNat ((((List.length x0) : Nat) : Int) - 0) + 2) x0 x1 0) default).2 = List.length x0)))
def g_laws_markBoneS : List AV → Option (AV × Md)
  | [.sl w0, .int .i64 y1] => (match decL dc_en0 w0 with | some y0 => (if p_laws_markBoneS y0 y1 = true then some ((.int .i64 (m_laws_markBoneS y0 y1).1), .wr [4] [List.map en0 (m_laws_markBoneS y0 y1).2]) else none) | none => none)
  | _ => none
def lb63_0 : ICode := (.seq (.seq (.reg [⟨(some 6), none, (.mov (.t 5))⟩, ⟨(some 7), none, (.mov (.t 0))⟩, ⟨(some 8), none, (.len false (.t 7))⟩, ⟨(some 9), none, (.bin .lss false
      (.t 6) (.t 8))⟩] [0, 1, 5, 9]) (.cond (.t 9) .skip (.exit 0))) (.seq (.block 1 (.seq (.reg [⟨(some 12), none, (.mov (.t 0))⟩, ⟨(some 13), none, (.mov (.t 5))⟩, ⟨(some 14),
      none, (.mov (.t 1))⟩, ⟨(some 15), none, (.iaddrS 4 (.t 12) (.t 13))⟩, ⟨(some 16), none, (.faddr 0 (.t 15))⟩, ⟨none, none, (.store 1 (.t 16) (.t 14))⟩] [0, 1, 5]) (.seq (.reg
      [⟨(some 17), none, (.mov (.t 1))⟩, ⟨(some 18), none, (.bin .add false (.t 17) (.c (.int .i64 1)))⟩, ⟨(some 1), none, (.mov (.t 18))⟩] [0, 1, 5]) (.seq (.reg [⟨(some 19), none,
      (.mov (.t 0))⟩, ⟨(some 20), none, (.mov (.t 5))⟩, ⟨(some 21), none, (.mov (.t 1))⟩, ⟨(some 22), none, (.conv (.flt .f32) (.t 21))⟩, ⟨(some 23), none, (.iaddrS 4 (.t 19) (.t
      20))⟩, ⟨(some 24), none, (.faddr 1 (.t 23))⟩, ⟨(some 25), none, (.faddr 0 (.t 24))⟩, ⟨none, none, (.store 1 (.t 25) (.t 22))⟩] [0, 1, 5]) (.seq (.reg [⟨(some 26), none, (.mov
      (.t 1))⟩, ⟨(some 27), none, (.bin .add false (.t 26) (.c (.int .i64 1)))⟩, ⟨(some 1), none, (.mov (.t 27))⟩] [0, 1, 5]) (.seq (.reg [⟨(some 28), none, (.mov (.t 0))⟩, ⟨(some
      29), none, (.mov (.t 5))⟩, ⟨(some 30), none, (.mov (.t 1))⟩, ⟨(some 31), none, (.conv (.flt .f32) (.t 30))⟩, ⟨(some 32), none, (.iaddrS 4 (.t 28) (.t 29))⟩, ⟨(some 33), none,
      (.faddr 1 (.t 32))⟩, ⟨(some 34), none, (.faddr 1 (.t 33))⟩, ⟨none, none, (.store 1 (.t 34) (.t 31))⟩] [0, 1, 5]) (.seq (.reg [⟨(some 35), none, (.mov (.t 1))⟩, ⟨(some 36),
      none, (.bin .add false (.t 35) (.c (.int .i64 1)))⟩, ⟨(some 1), none, (.mov (.t 36))⟩] [0, 1, 5]) (.seq (.reg [⟨(some 37), none, (.mov (.t 0))⟩, ⟨(some 38), none, (.mov (.t
      5))⟩, ⟨(some 39), none, (.mov (.t 1))⟩, ⟨(some 40), none, (.conv (.flt .f32) (.t 39))⟩, ⟨(some 41), none, (.iaddrS 4 (.t 37) (.t 38))⟩, ⟨(some 42), none, (.faddr 1 (.t 41))⟩,
      ⟨(some 43), none, (.faddr 2 (.t 42))⟩, ⟨none, none, (.store 1 (.t 43) (.t 40))⟩] [0, 1, 5]) (.reg [⟨(some 44), none, (.mov (.t 1))⟩, ⟨(some 45), none, (.bin .add false (.t 44)
      (.c (.int .i64 1)))⟩, ⟨(some 1), none, (.mov (.t 45))⟩] [0, 1, 5]))))))))) (.reg [⟨(some 10), none, (.mov (.t 5))⟩, ⟨(some 11), none, (.bin .add false (.t 10) (.c (.int .i64
      1)))⟩, ⟨(some 5), none, (.mov (.t 11))⟩] [0, 1, 5])))
def ic63 : ICode := (.seq (.reg [⟨(some 4), none, (.mov (.c (.int .i64 0)))⟩] [0, 1]) (.seq (.seq (.reg [⟨(some 5), none, (.mov (.c (.int .i64 0)))⟩] [0, 1, 5]) (.block 0 (.loop
      lb63_0))) (.seq (.reg [⟨(some 46), none, (.mov (.t 1))⟩, ⟨(some 4), none, (.mov (.t 46))⟩] [0, 4]) .ret)))
def cp63 : CP := CP.mk [] [] [[0, 1], [0, 1, 5], [0, 1, 5, 9], [0, 1, 5], [0, 1, 5], [0, 1, 5], [0, 1, 5], [0, 1, 5], [0, 1, 5], [0, 1, 5], [0, 1, 5], [0, 1, 5], [0, 4]] 47 [] []
theorem fc63_0 : IntKind.wrap .i64 0 = 0 := by decide
theorem fc63_1 : IntKind.wrap .i64 1 = 1 := by decide
theorem fc63_2 : IntKind.wrap .i64 2 = 2 := by decide
theorem fc63_3 : IntKind.wrap .i64 3 = 3 := by decide
theorem fc63_4 : IntKind.wrap .i64 4 = 4 := by decide
theorem sl63_0 : ∀ (n : Nat) (z0_0 : (List (Int × Nat × Nat × Nat))) (z0_1 : Int) (z0_2 : Int) (o : (Int × (List (Int × Nat × Nat × Nat)))) (K : IExit → St → Prop),
      l_laws_markBoneS_0 n z0_0 z0_1 z0_2 = some o → (∀ st, Wk st (⟨[(0, (.lsl 1000000 0 (List.length o.2))), (1, (.int .i64 o.1))], [(1000000, (some ⟨4, true, (List.map en0
      o.2)⟩))]⟩ : St) → K (.exit 0) st) → eA (tabOf []) (.loop lb63_0) (⟨[(0, (.lsl 1000000 0 (List.length z0_0))), (1, (.int .i64 z0_1)), (5, (.int .i64 z0_2))], [(1000000, (some
      ⟨4, true, (List.map en0 z0_0)⟩))]⟩ : St) K := by
  intro n
  induction n with
  | zero =>
    intro z0_0 z0_1 z0_2 o K h h0
    simp only [l_laws_markBoneS_0, reduceCtorEq] at h
  | succ n ih =>
    intro z0_0 z0_1 z0_2 o K h h0
    refine eA_loop ?_
    unfold lb63_0
    unfold l_laws_markBoneS_0 at h
    (try simp only [need_iff] at h)
    simp only [
      need_iff, h, grpA, vsliceS, grpS, grpD, grpF, grpL, eop, vop, bop, uop, fltop, convop, endOk, newE, new1, freshL, Md.isNew, outV, pureV, pureX, pure1, AV.cells, AV.one,
            storable, laid, refless, refless1, vload, loadC, storeC, vnil, vfaddr, vextract, flatT, flatE, flatC, vconv, vmm, vidxA, viaddrA, vfield, vlen, elemsOf, dF32, dF64,
            dI64, dU8, dBool, dStr, esOk, elemsS, vsliceX, bnd, ownV, ownC, own1, ownT, isSl, nSl, endL, Md.isOwn, purge, purgeH, purgeB, purgeE, hasName, name1, List.any_cons,
            List.any_nil, Md.isWr, pureV.pureP, Option.map, reduceIte, Nat.reduceEqDiff, Nat.reduceAdd, Nat.reduceMul, Nat.reduceLT, Nat.reduceLeDiff, List.mapM_cons, List.mapM_nil,
            Option.pure_def, Option.bind_eq_bind, Option.bind_some, implies_true, forall_const, beq_self_eq_true, decide_true, decide_false, eq_self, Int.reduceEq, Int.reduceLE,
            Int.reduceLT, if_true, if_false, fc63_0, fc63_1, fc63_2, fc63_3, fc63_4, Int.reduceAdd, Int.reduceSub, Int.reduceMul, Int.reduceNeg, Int.reducePow, Nat.reducePow,
            Int.reduceToNat, Nat.reduceSub, List.replicate, Nat.reduceBEq, wAs, wA, wC, zipW, noDupN, grpE, grpC, en0, dc_en0, en1, dc_en1]
    repeat' (first
      | ((first | (refine eGI_of (fun hc => ?_) (fun hc => ?_)) | (refine eCc_of (fun hc => ?_) (fun hc => ?_)) | (have hc := True.intro; refine KW_refl ?_)) <;> (try simp only [Bool.not_eq_true', Bool.not_eq_false'] at hc) <;> (try simp only [hc, need_iff, reduceCtorEq, Bool.not_eq_true', decide_eq_false_iff_not, Bool.not_true, Bool.not_false, Bool.false_or, Bool.true_or, Bool.true_and, Bool.false_and, Bool.and_eq_true, Bool.or_eq_true, if_true, if_false, reduceIte, Bool.false_eq_true, and_true, true_and, false_or, or_false, decide_eq_true_eq, not_false_eq_true, not_true_eq_false] at h) <;> (try (have hc2 := hc; simp only [decide_eq_true_eq, decide_eq_false_iff_not] at hc2; (first | (replace hc2 := eq_false hc2) | (replace hc2 := eq_true hc2)); simp only [hc2, if_true, if_false, need_iff, reduceCtorEq, Bool.not_eq_true', decide_eq_false_iff_not, Bool.not_true, Bool.not_false, Bool.false_or, Bool.true_or, Bool.true_and, Bool.false_and, Bool.and_eq_true, Bool.or_eq_true, if_true, if_false, reduceIte, Bool.false_eq_true, and_true, true_and, false_or, or_false, decide_eq_true_eq, not_false_eq_true, not_true_eq_false] at h)) <;> simp only [hc,
      need_iff, h, grpA, vsliceS, grpS, grpD, grpF, grpL, eop, vop, bop, uop, fltop, convop, endOk, newE, new1, freshL, Md.isNew, outV, pureV, pureX, pure1, AV.cells, AV.one,
            storable, laid, refless, refless1, vload, loadC, storeC, vnil, vfaddr, vextract, flatT, flatE, flatC, vconv, vmm, vidxA, viaddrA, vfield, vlen, elemsOf, dF32, dF64,
            dI64, dU8, dBool, dStr, esOk, elemsS, vsliceX, bnd, ownV, ownC, own1, ownT, isSl, nSl, endL, Md.isOwn, purge, purgeH, purgeB, purgeE, hasName, name1, List.any_cons,
            List.any_nil, Md.isWr, pureV.pureP, Option.map, reduceIte, Nat.reduceEqDiff, Nat.reduceAdd, Nat.reduceMul, Nat.reduceLT, Nat.reduceLeDiff, List.mapM_cons, List.mapM_nil,
            Option.pure_def, Option.bind_eq_bind, Option.bind_some, implies_true, forall_const, beq_self_eq_true, decide_true, decide_false, eq_self, Int.reduceEq, Int.reduceLE,
            Int.reduceLT, if_true, if_false, fc63_0, fc63_1, fc63_2, fc63_3, fc63_4, Int.reduceAdd, Int.reduceSub, Int.reduceMul, Int.reduceNeg, Int.reducePow, Nat.reducePow,
            Int.reduceToNat, Nat.reduceSub, List.replicate, Nat.reduceBEq, wAs, wA, wC, zipW, noDupN, grpE, grpC, en0, dc_en0, en1, dc_en1]))
    all_goals (repeat (replace h := And.right h))
    all_goals first
      | (refine eA_wk (wk_norm (ks := [0, 1, 5]) (ls := [1000000]) ?_) (eA_cast ?_ (ih _ _ _ _ _ h h0)); (simp only [normOk, optIn, blkIn, nameIn,
      need_iff, h, grpA, vsliceS, grpS, grpD, grpF, grpL, eop, vop, bop, uop, fltop, convop, endOk, newE, new1, freshL, Md.isNew, outV, pureV, pureX, pure1, AV.cells, AV.one,
            storable, laid, refless, refless1, vload, loadC, storeC, vnil, vfaddr, vextract, flatT, flatE, flatC, vconv, vmm, vidxA, viaddrA, vfield, vlen, elemsOf, dF32, dF64,
            dI64, dU8, dBool, dStr, esOk, elemsS, vsliceX, bnd, ownV, ownC, own1, ownT, isSl, nSl, endL, Md.isOwn, purge, purgeH, purgeB, purgeE, hasName, name1, List.any_cons,
            List.any_nil, Md.isWr, pureV.pureP, Option.map, reduceIte, Nat.reduceEqDiff, Nat.reduceAdd, Nat.reduceMul, Nat.reduceLT, Nat.reduceLeDiff, List.mapM_cons, List.mapM_nil,
            Option.pure_def, Option.bind_eq_bind, Option.bind_some, implies_true, forall_const, beq_self_eq_true, decide_true, decide_false, eq_self, Int.reduceEq, Int.reduceLE,
            Int.reduceLT, if_true, if_false, fc63_0, fc63_1, fc63_2, fc63_3, fc63_4, Int.reduceAdd, Int.reduceSub, Int.reduceMul, Int.reduceNeg, Int.reducePow, Nat.reducePow,
            Int.reduceToNat, Nat.reduceSub, List.replicate, Nat.reduceBEq, wAs, wA, wC, zipW, noDupN, grpE, grpC, en0, dc_en0, en1, dc_en1] <;> rfl); (simp only [normS, List.map_append, List.length_append, List.map_set, List.length_set, List.map_replicate, List.length_replicate, List.map_nil, List.map_cons,
      need_iff, h, grpA, vsliceS, grpS, grpD, grpF, grpL, eop, vop, bop, uop, fltop, convop, endOk, newE, new1, freshL, Md.isNew, outV, pureV, pureX, pure1, AV.cells, AV.one,
            storable, laid, refless, refless1, vload, loadC, storeC, vnil, vfaddr, vextract, flatT, flatE, flatC, vconv, vmm, vidxA, viaddrA, vfield, vlen, elemsOf, dF32, dF64,
            dI64, dU8, dBool, dStr, esOk, elemsS, vsliceX, bnd, ownV, ownC, own1, ownT, isSl, nSl, endL, Md.isOwn, purge, purgeH, purgeB, purgeE, hasName, name1, List.any_cons,
            List.any_nil, Md.isWr, pureV.pureP, Option.map, reduceIte, Nat.reduceEqDiff, Nat.reduceAdd, Nat.reduceMul, Nat.reduceLT, Nat.reduceLeDiff, List.mapM_cons, List.mapM_nil,
            Option.pure_def, Option.bind_eq_bind, Option.bind_some, implies_true, forall_const, beq_self_eq_true, decide_true, decide_false, eq_self, Int.reduceEq, Int.reduceLE,
            Int.reduceLT, if_true, if_false, fc63_0, fc63_1, fc63_2, fc63_3, fc63_4, Int.reduceAdd, Int.reduceSub, Int.reduceMul, Int.reduceNeg, Int.reducePow, Nat.reducePow,
            Int.reduceToNat, Nat.reduceSub, List.replicate, Nat.reduceBEq, wAs, wA, wC, zipW, noDupN, grpE, grpC, en0, dc_en0, en1, dc_en1] <;> first | rfl | (simp only [Nat.add_comm]; done)))
      | (cases h; refine h0 _ (Wk.cast (wk_norm (ks := [0, 1]) (ls := [1000000]) ?_) ?_); (simp only [normOk, optIn, blkIn, nameIn,
      grpA, vsliceS, grpS, grpD, grpF, grpL, eop, vop, bop, uop, fltop, convop, endOk, newE, new1, freshL, Md.isNew, outV, pureV, pureX, pure1, AV.cells, AV.one, storable, laid,
            refless, refless1, vload, loadC, storeC, vnil, vfaddr, vextract, flatT, flatE, flatC, vconv, vmm, vidxA, viaddrA, vfield, vlen, elemsOf, dF32, dF64, dI64, dU8, dBool,
            dStr, esOk, elemsS, vsliceX, bnd, ownV, ownC, own1, ownT, isSl, nSl, endL, Md.isOwn, purge, purgeH, purgeB, purgeE, hasName, name1, List.any_cons, List.any_nil, Md.isWr,
            pureV.pureP, Option.map, reduceIte, Nat.reduceEqDiff, Nat.reduceAdd, Nat.reduceMul, Nat.reduceLT, Nat.reduceLeDiff, List.mapM_cons, List.mapM_nil, Option.pure_def,
            Option.bind_eq_bind, Option.bind_some, implies_true, forall_const, beq_self_eq_true, decide_true, decide_false, eq_self, Int.reduceEq, Int.reduceLE, Int.reduceLT,
            if_true, if_false, fc63_0, fc63_1, fc63_2, fc63_3, fc63_4, Int.reduceAdd, Int.reduceSub, Int.reduceMul, Int.reduceNeg, Int.reducePow, Nat.reducePow, Int.reduceToNat,
            Nat.reduceSub, List.replicate, Nat.reduceBEq, wAs, wA, wC, zipW, noDupN, grpE, grpC, en0, dc_en0, en1, dc_en1] <;> rfl); (simp only [normS, List.map_append, List.length_append, List.map_set, List.length_set, List.map_replicate, List.length_replicate,
      grpA, vsliceS, grpS, grpD, grpF, grpL, eop, vop, bop, uop, fltop, convop, endOk, newE, new1, freshL, Md.isNew, outV, pureV, pureX, pure1, AV.cells, AV.one, storable, laid,
            refless, refless1, vload, loadC, storeC, vnil, vfaddr, vextract, flatT, flatE, flatC, vconv, vmm, vidxA, viaddrA, vfield, vlen, elemsOf, dF32, dF64, dI64, dU8, dBool,
            dStr, esOk, elemsS, vsliceX, bnd, ownV, ownC, own1, ownT, isSl, nSl, endL, Md.isOwn, purge, purgeH, purgeB, purgeE, hasName, name1, List.any_cons, List.any_nil, Md.isWr,
            pureV.pureP, Option.map, reduceIte, Nat.reduceEqDiff, Nat.reduceAdd, Nat.reduceMul, Nat.reduceLT, Nat.reduceLeDiff, List.mapM_cons, List.mapM_nil, Option.pure_def,
            Option.bind_eq_bind, Option.bind_some, implies_true, forall_const, beq_self_eq_true, decide_true, decide_false, eq_self, Int.reduceEq, Int.reduceLE, Int.reduceLT,
            if_true, if_false, fc63_0, fc63_1, fc63_2, fc63_3, fc63_4, Int.reduceAdd, Int.reduceSub, Int.reduceMul, Int.reduceNeg, Int.reducePow, Nat.reducePow, Int.reduceToNat,
            Nat.reduceSub, List.replicate, Nat.reduceBEq, wAs, wA, wC, zipW, noDupN, grpE, grpC, en0, dc_en0, en1, dc_en1] <;> first | rfl | (simp only [Nat.add_comm]; done)))
theorem s63 : ∀ vs r m, g_laws_markBoneS vs = some (r, m) → SaysX Try.prog m 63 vs r := by
  intro vs r m h
  unfold g_laws_markBoneS at h
  split at h
  · rename_i w0 y1
    cases hd_y0 : decL dc_en0 w0 with
    | none => rw [hd_y0] at h; cases h
    | some y0 =>
    rw [hd_y0] at h
    obtain rfl := decL_inv dc_en0_inv hd_y0
    clear hd_y0
    dsimp only at h
    split at h
    · rename_i hp
      cases h
      have hz : zipW [(1000000, ⟨4, true, List.map en0 y0⟩)] [List.map en0 (m_laws_markBoneS y0 y1).2] = some [(1000000, ⟨4, true, List.map en0 (m_laws_markBoneS y0 y1).2⟩)] := by simp only [zipW, List.map_cons, List.map_nil, List.length_map, m_laws_markBoneS, p_laws_markBoneS, Bool.and_eq_true, decide_eq_true_eq] at hp ⊢; simp only [hp, if_true]
      refine spec_ofW (tab := tabOf []) (cp := cp63) (ic := ic63) (rvl := [(.t 4)]) (H := [(1000000, ⟨4, true, List.map en0 y0⟩)]) (H' := [(1000000, ⟨4, true, List.map en0 (m_laws_markBoneS y0 y1).2⟩)]) hm tabOk_nil Try.func63 rfl rfl rfl (by kernel_rfl) rfl (Nat.le_of_ble_eq_true rfl) (Nat.le_of_ble_eq_true rfl) (by rfl) hz (by rfl) (by rfl) (by rfl) ?_
      show eA _ _ _ _
      unfold ic63
      simp only [p_laws_markBoneS, Bool.and_eq_true, Bool.or_eq_true, decide_eq_true_eq, Bool.not_eq_true', decide_eq_false_iff_not] at hp
      simp only [
          hp, grpA, vsliceS, grpS, grpD, grpF, grpL, eop, vop, bop, uop, fltop, convop, endOk, newE, new1, freshL, Md.isNew, outV, pureV, pureX, pure1, AV.cells, AV.one, storable,
                laid, refless, refless1, vload, loadC, storeC, vnil, vfaddr, vextract, flatT, flatE, flatC, vconv, vmm, vidxA, viaddrA, vfield, vlen, elemsOf, dF32, dF64, dI64, dU8,
                dBool, dStr, esOk, elemsS, vsliceX, bnd, ownV, ownC, own1, ownT, isSl, nSl, endL, Md.isOwn, purge, purgeH, purgeB, purgeE, hasName, name1, List.any_cons,
                List.any_nil, Md.isWr, pureV.pureP, Option.map, reduceIte, Nat.reduceEqDiff, Nat.reduceAdd, Nat.reduceMul, Nat.reduceLT, Nat.reduceLeDiff, List.mapM_cons,
                List.mapM_nil, Option.pure_def, Option.bind_eq_bind, Option.bind_some, implies_true, forall_const, beq_self_eq_true, decide_true, decide_false, eq_self,
                Int.reduceEq, Int.reduceLE, Int.reduceLT, if_true, if_false, fc63_0, fc63_1, fc63_2, fc63_3, fc63_4, Int.reduceAdd, Int.reduceSub, Int.reduceMul, Int.reduceNeg,
                Int.reducePow, Nat.reducePow, Int.reduceToNat, Nat.reduceSub, List.replicate, Nat.reduceBEq, wAs, wA, wC, zipW, noDupN, grpE, grpC, en0, dc_en0, en1, dc_en1, startW,
                hpIs]
      repeat' (first
        | ((first | (refine eGI_of (fun h => ?_) (fun h => ?_)) | (refine eCc_of (fun h => ?_) (fun h => ?_)) | (have h := True.intro; refine KW_refl ?_)) <;> (try simp only [Bool.not_eq_true', Bool.not_eq_false'] at h) <;> (try simp only [h, reduceCtorEq, Bool.not_eq_true', decide_eq_false_iff_not, Bool.not_true, Bool.not_false, Bool.false_or, Bool.true_or, Bool.true_and, Bool.false_and, Bool.and_eq_true, Bool.or_eq_true, if_true, if_false, reduceIte, Bool.false_eq_true, and_true, true_and, false_or, or_false, decide_eq_true_eq, not_false_eq_true, not_true_eq_false] at hp) <;> (try (have h2 := h; simp only [decide_eq_true_eq, decide_eq_false_iff_not] at h2; (first | (replace h2 := eq_false h2) | (replace h2 := eq_true h2)); simp only [h2, if_true, if_false, false_or, true_or, or_true, or_false, and_true, true_and, not_false_eq_true, not_true_eq_false] at hp)) <;> simp only [h,
          hp, grpA, vsliceS, grpS, grpD, grpF, grpL, eop, vop, bop, uop, fltop, convop, endOk, newE, new1, freshL, Md.isNew, outV, pureV, pureX, pure1, AV.cells, AV.one, storable,
                laid, refless, refless1, vload, loadC, storeC, vnil, vfaddr, vextract, flatT, flatE, flatC, vconv, vmm, vidxA, viaddrA, vfield, vlen, elemsOf, dF32, dF64, dI64, dU8,
                dBool, dStr, esOk, elemsS, vsliceX, bnd, ownV, ownC, own1, ownT, isSl, nSl, endL, Md.isOwn, purge, purgeH, purgeB, purgeE, hasName, name1, List.any_cons,
                List.any_nil, Md.isWr, pureV.pureP, Option.map, reduceIte, Nat.reduceEqDiff, Nat.reduceAdd, Nat.reduceMul, Nat.reduceLT, Nat.reduceLeDiff, List.mapM_cons,
                List.mapM_nil, Option.pure_def, Option.bind_eq_bind, Option.bind_some, implies_true, forall_const, beq_self_eq_true, decide_true, decide_false, eq_self,
                Int.reduceEq, Int.reduceLE, Int.reduceLT, if_true, if_false, fc63_0, fc63_1, fc63_2, fc63_3, fc63_4, Int.reduceAdd, Int.reduceSub, Int.reduceMul, Int.reduceNeg,
                Int.reducePow, Nat.reducePow, Int.reduceToNat, Nat.reduceSub, List.replicate, Nat.reduceBEq, wAs, wA, wC, zipW, noDupN, grpE, grpC, en0, dc_en0, en1, dc_en1, startW,
                hpIs])
        | (refine eA_wk (wk_norm (ks := [0, 1, 5]) (ls := [1000000]) ?_) (eA_cast ?_ (sl63_0 _ _ _ _ _ _ (getD_some (d := default) (x := (l_laws_markBoneS_0 (Int.toNat ((((List.length y0) : Nat) : Int) - 0) + 2) y0 y1 0)) ?_) ?_)); (simp only [nilS, nilV, normOk, optIn, blkIn, nameIn, 
          hp, grpA, vsliceS, grpS, grpD, grpF, grpL, eop, vop, bop, uop, fltop, convop, endOk, newE, new1, freshL, Md.isNew, outV, pureV, pureX, pure1, AV.cells, AV.one, storable,
                laid, refless, refless1, vload, loadC, storeC, vnil, vfaddr, vextract, flatT, flatE, flatC, vconv, vmm, vidxA, viaddrA, vfield, vlen, elemsOf, dF32, dF64, dI64, dU8,
                dBool, dStr, esOk, elemsS, vsliceX, bnd, ownV, ownC, own1, ownT, isSl, nSl, endL, Md.isOwn, purge, purgeH, purgeB, purgeE, hasName, name1, List.any_cons,
                List.any_nil, Md.isWr, pureV.pureP, Option.map, reduceIte, Nat.reduceEqDiff, Nat.reduceAdd, Nat.reduceMul, Nat.reduceLT, Nat.reduceLeDiff, List.mapM_cons,
                List.mapM_nil, Option.pure_def, Option.bind_eq_bind, Option.bind_some, implies_true, forall_const, beq_self_eq_true, decide_true, decide_false, eq_self,
                Int.reduceEq, Int.reduceLE, Int.reduceLT, if_true, if_false, fc63_0, fc63_1, fc63_2, fc63_3, fc63_4, Int.reduceAdd, Int.reduceSub, Int.reduceMul, Int.reduceNeg,
                Int.reducePow, Nat.reducePow, Int.reduceToNat, Nat.reduceSub, List.replicate, Nat.reduceBEq, wAs, wA, wC, zipW, noDupN, grpE, grpC, en0, dc_en0, en1, dc_en1, startW,
                hpIs] <;> rfl); (simp only [nilS, nilV, normS,  List.map_append, List.length_append, List.map_set, List.length_set, List.map_replicate, List.length_replicate, List.map_nil, List.map_cons,
          hp, grpA, vsliceS, grpS, grpD, grpF, grpL, eop, vop, bop, uop, fltop, convop, endOk, newE, new1, freshL, Md.isNew, outV, pureV, pureX, pure1, AV.cells, AV.one, storable,
                laid, refless, refless1, vload, loadC, storeC, vnil, vfaddr, vextract, flatT, flatE, flatC, vconv, vmm, vidxA, viaddrA, vfield, vlen, elemsOf, dF32, dF64, dI64, dU8,
                dBool, dStr, esOk, elemsS, vsliceX, bnd, ownV, ownC, own1, ownT, isSl, nSl, endL, Md.isOwn, purge, purgeH, purgeB, purgeE, hasName, name1, List.any_cons,
                List.any_nil, Md.isWr, pureV.pureP, Option.map, reduceIte, Nat.reduceEqDiff, Nat.reduceAdd, Nat.reduceMul, Nat.reduceLT, Nat.reduceLeDiff, List.mapM_cons,
                List.mapM_nil, Option.pure_def, Option.bind_eq_bind, Option.bind_some, implies_true, forall_const, beq_self_eq_true, decide_true, decide_false, eq_self,
                Int.reduceEq, Int.reduceLE, Int.reduceLT, if_true, if_false, fc63_0, fc63_1, fc63_2, fc63_3, fc63_4, Int.reduceAdd, Int.reduceSub, Int.reduceMul, Int.reduceNeg,
                Int.reducePow, Nat.reducePow, Int.reduceToNat, Nat.reduceSub, List.replicate, Nat.reduceBEq, wAs, wA, wC, zipW, noDupN, grpE, grpC, en0, dc_en0, en1, dc_en1, startW,
                hpIs] <;> first | rfl | (simp only [Nat.add_comm]; done)); (simp only [hp]); (
        intro st2 hw; (try simp only [reduceCtorEq, Bool.not_eq_true', decide_eq_false_iff_not, Bool.not_true, Bool.not_false, Bool.false_or, Bool.true_or, Bool.true_and, Bool.false_and, Bool.and_eq_true, Bool.or_eq_true, if_true, if_false, reduceIte, Bool.false_eq_true, and_true, true_and, false_or, or_false, decide_eq_true_eq, not_false_eq_true, not_true_eq_false] at hp); simp only [
          hp, grpA, vsliceS, grpS, grpD, grpF, grpL, eop, vop, bop, uop, fltop, convop, endOk, newE, new1, freshL, Md.isNew, outV, pureV, pureX, pure1, AV.cells, AV.one, storable,
                laid, refless, refless1, vload, loadC, storeC, vnil, vfaddr, vextract, flatT, flatE, flatC, vconv, vmm, vidxA, viaddrA, vfield, vlen, elemsOf, dF32, dF64, dI64, dU8,
                dBool, dStr, esOk, elemsS, vsliceX, bnd, ownV, ownC, own1, ownT, isSl, nSl, endL, Md.isOwn, purge, purgeH, purgeB, purgeE, hasName, name1, List.any_cons,
                List.any_nil, Md.isWr, pureV.pureP, Option.map, reduceIte, Nat.reduceEqDiff, Nat.reduceAdd, Nat.reduceMul, Nat.reduceLT, Nat.reduceLeDiff, List.mapM_cons,
                List.mapM_nil, Option.pure_def, Option.bind_eq_bind, Option.bind_some, implies_true, forall_const, beq_self_eq_true, decide_true, decide_false, eq_self,
                Int.reduceEq, Int.reduceLE, Int.reduceLT, if_true, if_false, fc63_0, fc63_1, fc63_2, fc63_3, fc63_4, Int.reduceAdd, Int.reduceSub, Int.reduceMul, Int.reduceNeg,
                Int.reducePow, Nat.reducePow, Int.reduceToNat, Nat.reduceSub, List.replicate, Nat.reduceBEq, wAs, wA, wC, zipW, noDupN, grpE, grpC, en0, dc_en0, en1, dc_en1, startW,
                hpIs]; refine KW_of hw ?_; simp only [
          hp, grpA, vsliceS, grpS, grpD, grpF, grpL, eop, vop, bop, uop, fltop, convop, endOk, newE, new1, freshL, Md.isNew, outV, pureV, pureX, pure1, AV.cells, AV.one, storable,
                laid, refless, refless1, vload, loadC, storeC, vnil, vfaddr, vextract, flatT, flatE, flatC, vconv, vmm, vidxA, viaddrA, vfield, vlen, elemsOf, dF32, dF64, dI64, dU8,
                dBool, dStr, esOk, elemsS, vsliceX, bnd, ownV, ownC, own1, ownT, isSl, nSl, endL, Md.isOwn, purge, purgeH, purgeB, purgeE, hasName, name1, List.any_cons,
                List.any_nil, Md.isWr, pureV.pureP, Option.map, reduceIte, Nat.reduceEqDiff, Nat.reduceAdd, Nat.reduceMul, Nat.reduceLT, Nat.reduceLeDiff, List.mapM_cons,
                List.mapM_nil, Option.pure_def, Option.bind_eq_bind, Option.bind_some, implies_true, forall_const, beq_self_eq_true, decide_true, decide_false, eq_self,
                Int.reduceEq, Int.reduceLE, Int.reduceLT, if_true, if_false, fc63_0, fc63_1, fc63_2, fc63_3, fc63_4, Int.reduceAdd, Int.reduceSub, Int.reduceMul, Int.reduceNeg,
                Int.reducePow, Nat.reducePow, Int.reduceToNat, Nat.reduceSub, List.replicate, Nat.reduceBEq, wAs, wA, wC, zipW, noDupN, grpE, grpC, en0, dc_en0, en1, dc_en1, startW,
                hpIs])))
      all_goals (try simp only [*, m_laws_markBoneS, Bool.and_true, Bool.true_and, Bool.and_false, Bool.false_and, Bool.or_true, Bool.true_or, Bool.or_false, Bool.false_or, Bool.not_true, Bool.not_false, Bool.false_eq_true, if_true, if_false, reduceIte, decide_true, decide_false])
      all_goals (try (simp_all; done))
    · cases h
  · cases h
def m_laws_markSkeleton (x0 : (List (Int × Nat × Nat × Nat))) (x1 : Int) : (Int × (List (Int × Nat × Nat × Nat))) := (m_laws_markBoneS x0 x1)
def p_laws_markSkeleton (x0 : (List (Int × Nat × Nat × Nat))) (x1 : Int) : Bool := ((p_laws_markBoneS x0 x1) && ((decide (List.length (m_laws_markBoneS x0 x1).2 = (List.length x0)))
      && (decide (List.length (m_laws_markBoneS x0 x1).2 = List.length x0))))
def g_laws_markSkeleton : List AV → Option (AV × Md)
  | [.agg [.sl w0], .int .i64 y1] => (match decL dc_en0 w0 with | some y0 => (if p_laws_markSkeleton y0 y1 = true then some ((.int .i64 (m_laws_markSkeleton y0 y1).1), .wr [4] [List.map en0 (m_laws_markSkeleton y0 y1).2]) else none) | none => none)
  | _ => none
def ic20 : ICode := (.seq (.reg [⟨(some 2), none, (.box 1 (.t 0))⟩, ⟨(some 4), none, (.mov (.c (.int .i64 0)))⟩] [0, 1, 2]) (.seq (.reg [⟨(some 5), none, (.faddr 0 (.t 2))⟩, ⟨(some
      6), none, (.load none (.t 5))⟩, ⟨(some 7), none, (.mov (.t 1))⟩, ⟨(some 8), none, (.callM 63 [(.t 6), (.t 7)])⟩, ⟨(some 1), none, (.mov (.t 8))⟩] [0, 1]) (.seq (.reg [⟨(some
      9), none, (.mov (.t 1))⟩, ⟨(some 4), none, (.mov (.t 9))⟩] [0, 4]) .ret)))
def cp20 : CP := CP.mk [] [63] [[0, 1, 2], [0, 1], [0, 4]] 10 [] []
theorem fc20_0 : IntKind.wrap .i64 0 = 0 := by decide
theorem fc20_1 : IntKind.wrap .i64 1 = 1 := by decide
theorem fc20_2 : IntKind.wrap .i64 2 = 2 := by decide
theorem fc20_3 : IntKind.wrap .i64 3 = 3 := by decide
theorem fc20_4 : IntKind.wrap .i64 4 = 4 := by decide
theorem s20 : ∀ vs r m, g_laws_markSkeleton vs = some (r, m) → SaysX Try.prog m 20 vs r := by
  intro vs r m h
  unfold g_laws_markSkeleton at h
  split at h
  · rename_i w0 y1
    cases hd_y0 : decL dc_en0 w0 with
    | none => rw [hd_y0] at h; cases h
    | some y0 =>
    rw [hd_y0] at h
    obtain rfl := decL_inv dc_en0_inv hd_y0
    clear hd_y0
    dsimp only at h
    split at h
    · rename_i hp
      cases h
      have hz : zipW [(1000000, ⟨4, true, List.map en0 y0⟩)] [List.map en0 (m_laws_markSkeleton y0 y1).2] = some [(1000000, ⟨4, true, List.map en0 (m_laws_markSkeleton y0 y1).2⟩)] := by simp only [zipW, List.map_cons, List.map_nil, List.length_map, m_laws_markSkeleton, p_laws_markSkeleton, Bool.and_eq_true, decide_eq_true_eq] at hp ⊢; simp only [hp, if_true]
      refine spec_ofW (tab := tabOf [(63, g_laws_markBoneS)]) (cp := cp20) (ic := ic20) (rvl := [(.t 4)]) (H := [(1000000, ⟨4, true, List.map en0 y0⟩)]) (H' := [(1000000, ⟨4, true, List.map en0 (m_laws_markSkeleton y0 y1).2⟩)]) hm (tabOk_consW s63 tabOk_nil) Try.func20 rfl rfl rfl (by kernel_rfl) rfl (Nat.le_of_ble_eq_true rfl) (Nat.le_of_ble_eq_true rfl) (by rfl) hz (by rfl) (by rfl) (by rfl) ?_
      show eA _ _ _ _
      unfold ic20
      simp only [p_laws_markSkeleton, Bool.and_eq_true, Bool.or_eq_true, decide_eq_true_eq, Bool.not_eq_true', decide_eq_false_iff_not] at hp
      simp only [
          hp, grpA, vsliceS, grpS, grpD, grpF, grpL, eop, vop, bop, uop, fltop, convop, endOk, newE, new1, freshL, Md.isNew, outV, pureV, pureX, pure1, AV.cells, AV.one, storable,
                laid, refless, refless1, vload, loadC, storeC, vnil, vfaddr, vextract, flatT, flatE, flatC, vconv, vmm, vidxA, viaddrA, vfield, vlen, elemsOf, dF32, dF64, dI64, dU8,
                dBool, dStr, esOk, elemsS, vsliceX, bnd, ownV, ownC, own1, ownT, isSl, nSl, endL, Md.isOwn, purge, purgeH, purgeB, purgeE, hasName, name1, List.any_cons,
                List.any_nil, Md.isWr, pureV.pureP, Option.map, reduceIte, Nat.reduceEqDiff, Nat.reduceAdd, Nat.reduceMul, Nat.reduceLT, Nat.reduceLeDiff, List.mapM_cons,
                List.mapM_nil, Option.pure_def, Option.bind_eq_bind, Option.bind_some, implies_true, forall_const, beq_self_eq_true, decide_true, decide_false, eq_self,
                Int.reduceEq, Int.reduceLE, Int.reduceLT, if_true, if_false, fc20_0, fc20_1, fc20_2, fc20_3, fc20_4, Int.reduceAdd, Int.reduceSub, Int.reduceMul, Int.reduceNeg,
                Int.reducePow, Nat.reducePow, Int.reduceToNat, Nat.reduceSub, List.replicate, Nat.reduceBEq, wAs, wA, wC, zipW, noDupN, grpE, g_laws_markBoneS, grpC, en0, dc_en0,
                en1, dc_en1, startW, hpIs]
      repeat' (first
        | ((first | (refine eGI_of (fun h => ?_) (fun h => ?_)) | (refine eCc_of (fun h => ?_) (fun h => ?_))) <;> (try simp only [Bool.not_eq_true', Bool.not_eq_false'] at h) <;> (try simp only [h, reduceCtorEq, Bool.not_eq_true', decide_eq_false_iff_not, Bool.not_true, Bool.not_false, Bool.false_or, Bool.true_or, Bool.true_and, Bool.false_and, Bool.and_eq_true, Bool.or_eq_true, if_true, if_false, reduceIte, Bool.false_eq_true, and_true, true_and, false_or, or_false, decide_eq_true_eq, not_false_eq_true, not_true_eq_false] at hp) <;> (try (have h2 := h; simp only [decide_eq_true_eq, decide_eq_false_iff_not] at h2; (first | (replace h2 := eq_false h2) | (replace h2 := eq_true h2)); simp only [h2, if_true, if_false, false_or, true_or, or_true, or_false, and_true, true_and, not_false_eq_true, not_true_eq_false] at hp)) <;> simp only [h,
          hp, grpA, vsliceS, grpS, grpD, grpF, grpL, eop, vop, bop, uop, fltop, convop, endOk, newE, new1, freshL, Md.isNew, outV, pureV, pureX, pure1, AV.cells, AV.one, storable,
                laid, refless, refless1, vload, loadC, storeC, vnil, vfaddr, vextract, flatT, flatE, flatC, vconv, vmm, vidxA, viaddrA, vfield, vlen, elemsOf, dF32, dF64, dI64, dU8,
                dBool, dStr, esOk, elemsS, vsliceX, bnd, ownV, ownC, own1, ownT, isSl, nSl, endL, Md.isOwn, purge, purgeH, purgeB, purgeE, hasName, name1, List.any_cons,
                List.any_nil, Md.isWr, pureV.pureP, Option.map, reduceIte, Nat.reduceEqDiff, Nat.reduceAdd, Nat.reduceMul, Nat.reduceLT, Nat.reduceLeDiff, List.mapM_cons,
                List.mapM_nil, Option.pure_def, Option.bind_eq_bind, Option.bind_some, implies_true, forall_const, beq_self_eq_true, decide_true, decide_false, eq_self,
                Int.reduceEq, Int.reduceLE, Int.reduceLT, if_true, if_false, fc20_0, fc20_1, fc20_2, fc20_3, fc20_4, Int.reduceAdd, Int.reduceSub, Int.reduceMul, Int.reduceNeg,
                Int.reducePow, Nat.reducePow, Int.reduceToNat, Nat.reduceSub, List.replicate, Nat.reduceBEq, wAs, wA, wC, zipW, noDupN, grpE, g_laws_markBoneS, grpC, en0, dc_en0,
                en1, dc_en1, startW, hpIs]))
      all_goals (try simp only [*, m_laws_markSkeleton, Bool.and_true, Bool.true_and, Bool.and_false, Bool.false_and, Bool.or_true, Bool.true_or, Bool.or_false, Bool.false_or, Bool.not_true, Bool.not_false, Bool.false_eq_true, if_true, if_false, reduceIte, decide_true, decide_false])
      all_goals (try (simp_all; done))
    · cases h
  · cases h
def l_laws_markTurnS_0 : Nat → (List (Nat × Nat × Nat × Nat)) → Int → Int → Option (Int × (List (Nat × Nat × Nat × Nat)))
  | 0, _, _, _ => none
  | n + 1, z0_0, z0_1, z0_2 => (if (decide (z0_2 < (((List.length z0_0) : Nat) : Int))) = true then (need (inB z0_2 (List.length z0_0)) (l_laws_markTurnS_0 n (List.set z0_0
        (Int.toNat z0_2) ((ofInt .f32 z0_1), (ofInt .f32 (IntKind.wrap .i64 (z0_1 + 1))), (ofInt .f32 (IntKind.wrap .i64 ((IntKind.wrap .i64 (z0_1 + 1)) + 1))), (ofInt .f32
        (IntKind.wrap .i64 ((IntKind.wrap .i64 ((IntKind.wrap .i64 (z0_1 + 1)) + 1)) + 1))))) (IntKind.wrap .i64 ((IntKind.wrap .i64 ((IntKind.wrap .i64 ((IntKind.wrap .i64 (z0_1 +
        1)) + 1)) + 1)) + 1)) (IntKind.wrap .i64 (z0_2 + 1)))) else (some (z0_1, z0_0)))
def m_laws_markTurnS (x0 : (List (Nat × Nat × Nat × Nat))) (x1 : Int) : (Int × (List (Nat × Nat × Nat × Nat))) := (Option.getD (l_laws_markTurnS_0 (Int.toNat ((((List.length x0) :
      Nat) : Int) - 0) + 2) x0 x1 0) default)
def p_laws_markTurnS (x0 : (List (Nat × Nat × Nat × Nat))) (x1 : Int) : Bool := ((Option.isSome (l_laws_markTurnS_0 (Int.toNat ((((List.length x0) : Nat) : Int) - 0) + 2) x0 x1 0))
      && (decide (List.length (Option.getD (l_laws_markTurnS_0 (Int.toNat ((((List.length x0) : Nat) : Int) - 0) + 2) x0 x1 0) default).2 = List.length x0)))
def g_laws_markTurnS : List AV → Option (AV × Md)
  | [.sl w0, .int .i64 y1] => (match decL dc_en1 w0 with | some y0 => (if p_laws_markTurnS y0 y1 = true then some ((.int .i64 (m_laws_markTurnS y0 y1).1), .wr [4] [List.map en1 (m_laws_markTurnS y0 y1).2]) else none) | none => none)
  | _ => none
def lb38_0 : ICode := (.seq (.seq (.reg [⟨(some 6), none, (.mov (.t 5))⟩, ⟨(some 7), none, (.mov (.t 0))⟩, ⟨(some 8), none, (.len false (.t 7))⟩, ⟨(some 9), none, (.bin .lss false
      (.t 6) (.t 8))⟩] [0, 1, 5, 9]) (.cond (.t 9) .skip (.exit 0))) (.seq (.block 1 (.seq (.reg [⟨(some 12), none, (.mov (.t 0))⟩, ⟨(some 13), none, (.mov (.t 5))⟩, ⟨(some 14),
      none, (.mov (.t 1))⟩, ⟨(some 15), none, (.conv (.flt .f32) (.t 14))⟩, ⟨(some 16), none, (.iaddrS 4 (.t 12) (.t 13))⟩, ⟨(some 17), none, (.faddr 0 (.t 16))⟩, ⟨none, none,
      (.store 1 (.t 17) (.t 15))⟩] [0, 1, 5]) (.seq (.reg [⟨(some 18), none, (.mov (.t 1))⟩, ⟨(some 19), none, (.bin .add false (.t 18) (.c (.int .i64 1)))⟩, ⟨(some 1), none, (.mov
      (.t 19))⟩] [0, 1, 5]) (.seq (.reg [⟨(some 20), none, (.mov (.t 0))⟩, ⟨(some 21), none, (.mov (.t 5))⟩, ⟨(some 22), none, (.mov (.t 1))⟩, ⟨(some 23), none, (.conv (.flt .f32)
      (.t 22))⟩, ⟨(some 24), none, (.iaddrS 4 (.t 20) (.t 21))⟩, ⟨(some 25), none, (.faddr 1 (.t 24))⟩, ⟨none, none, (.store 1 (.t 25) (.t 23))⟩] [0, 1, 5]) (.seq (.reg [⟨(some 26),
      none, (.mov (.t 1))⟩, ⟨(some 27), none, (.bin .add false (.t 26) (.c (.int .i64 1)))⟩, ⟨(some 1), none, (.mov (.t 27))⟩] [0, 1, 5]) (.seq (.reg [⟨(some 28), none, (.mov (.t
      0))⟩, ⟨(some 29), none, (.mov (.t 5))⟩, ⟨(some 30), none, (.mov (.t 1))⟩, ⟨(some 31), none, (.conv (.flt .f32) (.t 30))⟩, ⟨(some 32), none, (.iaddrS 4 (.t 28) (.t 29))⟩,
      ⟨(some 33), none, (.faddr 2 (.t 32))⟩, ⟨none, none, (.store 1 (.t 33) (.t 31))⟩] [0, 1, 5]) (.seq (.reg [⟨(some 34), none, (.mov (.t 1))⟩, ⟨(some 35), none, (.bin .add false
      (.t 34) (.c (.int .i64 1)))⟩, ⟨(some 1), none, (.mov (.t 35))⟩] [0, 1, 5]) (.seq (.reg [⟨(some 36), none, (.mov (.t 0))⟩, ⟨(some 37), none, (.mov (.t 5))⟩, ⟨(some 38), none,
      (.mov (.t 1))⟩, ⟨(some 39), none, (.conv (.flt .f32) (.t 38))⟩, ⟨(some 40), none, (.iaddrS 4 (.t 36) (.t 37))⟩, ⟨(some 41), none, (.faddr 3 (.t 40))⟩, ⟨none, none, (.store 1
      (.t 41) (.t 39))⟩] [0, 1, 5]) (.reg [⟨(some 42), none, (.mov (.t 1))⟩, ⟨(some 43), none, (.bin .add false (.t 42) (.c (.int .i64 1)))⟩, ⟨(some 1), none, (.mov (.t 43))⟩] [0,
      1, 5]))))))))) (.reg [⟨(some 10), none, (.mov (.t 5))⟩, ⟨(some 11), none, (.bin .add false (.t 10) (.c (.int .i64 1)))⟩, ⟨(some 5), none, (.mov (.t 11))⟩] [0, 1, 5])))
def ic38 : ICode := (.seq (.reg [⟨(some 4), none, (.mov (.c (.int .i64 0)))⟩] [0, 1]) (.seq (.seq (.reg [⟨(some 5), none, (.mov (.c (.int .i64 0)))⟩] [0, 1, 5]) (.block 0 (.loop
      lb38_0))) (.seq (.reg [⟨(some 44), none, (.mov (.t 1))⟩, ⟨(some 4), none, (.mov (.t 44))⟩] [0, 4]) .ret)))
def cp38 : CP := CP.mk [] [] [[0, 1], [0, 1, 5], [0, 1, 5, 9], [0, 1, 5], [0, 1, 5], [0, 1, 5], [0, 1, 5], [0, 1, 5], [0, 1, 5], [0, 1, 5], [0, 1, 5], [0, 1, 5], [0, 4]] 45 [] []
theorem fc38_0 : IntKind.wrap .i64 0 = 0 := by decide
theorem fc38_1 : IntKind.wrap .i64 1 = 1 := by decide
theorem fc38_2 : IntKind.wrap .i64 2 = 2 := by decide
theorem fc38_3 : IntKind.wrap .i64 3 = 3 := by decide
theorem fc38_4 : IntKind.wrap .i64 4 = 4 := by decide
theorem sl38_0 : ∀ (n : Nat) (z0_0 : (List (Nat × Nat × Nat × Nat))) (z0_1 : Int) (z0_2 : Int) (o : (Int × (List (Nat × Nat × Nat × Nat)))) (K : IExit → St → Prop),
      l_laws_markTurnS_0 n z0_0 z0_1 z0_2 = some o → (∀ st, Wk st (⟨[(0, (.lsl 1000000 0 (List.length o.2))), (1, (.int .i64 o.1))], [(1000000, (some ⟨4, true, (List.map en1
      o.2)⟩))]⟩ : St) → K (.exit 0) st) → eA (tabOf []) (.loop lb38_0) (⟨[(0, (.lsl 1000000 0 (List.length z0_0))), (1, (.int .i64 z0_1)), (5, (.int .i64 z0_2))], [(1000000, (some
      ⟨4, true, (List.map en1 z0_0)⟩))]⟩ : St) K := by
  intro n
  induction n with
  | zero =>
    intro z0_0 z0_1 z0_2 o K h h0
    simp only [l_laws_markTurnS_0, reduceCtorEq] at h
  | succ n ih =>
    intro z0_0 z0_1 z0_2 o K h h0
    refine eA_loop ?_
    unfold lb38_0
    unfold l_laws_markTurnS_0 at h
    (try simp only [need_iff] at h)
    simp only [
      need_iff, h, grpA, vsliceS, grpS, grpD, grpF, grpL, eop, vop, bop, uop, fltop, convop, endOk, newE, new1, freshL, Md.isNew, outV, pureV, pureX, pure1, AV.cells, AV.one,
            storable, laid, refless, refless1, vload, loadC, storeC, vnil, vfaddr, vextract, flatT, flatE, flatC, vconv, vmm, vidxA, viaddrA, vfield, vlen, elemsOf, dF32, dF64,
            dI64, dU8, dBool, dStr, esOk, elemsS, vsliceX, bnd, ownV, ownC, own1, ownT, isSl, nSl, endL, Md.isOwn, purge, purgeH, purgeB, purgeE, hasName, name1, List.any_cons,
            List.any_nil, Md.isWr, pureV.pureP, Option.map, reduceIte, Nat.reduceEqDiff, Nat.reduceAdd, Nat.reduceMul, Nat.reduceLT, Nat.reduceLeDiff, List.mapM_cons, List.mapM_nil,
            Option.pure_def, Option.bind_eq_bind, Option.bind_some, implies_true, forall_const, beq_self_eq_true, decide_true, decide_false, eq_self, Int.reduceEq, Int.reduceLE,
            Int.reduceLT, if_true, if_false, fc38_0, fc38_1, fc38_2, fc38_3, fc38_4, Int.reduceAdd, Int.reduceSub, Int.reduceMul, Int.reduceNeg, Int.reducePow, Nat.reducePow,
            Int.reduceToNat, Nat.reduceSub, List.replicate, Nat.reduceBEq, wAs, wA, wC, zipW, noDupN, grpE, grpC, en0, dc_en0, en1, dc_en1]
    repeat' (first
      | ((first | (refine eGI_of (fun hc => ?_) (fun hc => ?_)) | (refine eCc_of (fun hc => ?_) (fun hc => ?_)) | (have hc := True.intro; refine KW_refl ?_)) <;> (try simp only [Bool.not_eq_true', Bool.not_eq_false'] at hc) <;> (try simp only [hc, need_iff, reduceCtorEq, Bool.not_eq_true', decide_eq_false_iff_not, Bool.not_true, Bool.not_false, Bool.false_or, Bool.true_or, Bool.true_and, Bool.false_and, Bool.and_eq_true, Bool.or_eq_true, if_true, if_false, reduceIte, Bool.false_eq_true, and_true, true_and, false_or, or_false, decide_eq_true_eq, not_false_eq_true, not_true_eq_false] at h) <;> (try (have hc2 := hc; simp only [decide_eq_true_eq, decide_eq_false_iff_not] at hc2; (first | (replace hc2 := eq_false hc2) | (replace hc2 := eq_true hc2)); simp only [hc2, if_true, if_false, need_iff, reduceCtorEq, Bool.not_eq_true', decide_eq_false_iff_not, Bool.not_true, Bool.not_false, Bool.false_or, Bool.true_or, Bool.true_and, Bool.false_and, Bool.and_eq_true, Bool.or_eq_true, if_true, if_false, reduceIte, Bool.false_eq_true, and_true, true_and, false_or, or_false, decide_eq_true_eq, not_false_eq_true, not_true_eq_false] at h)) <;> simp only [hc,
      need_iff, h, grpA, vsliceS, grpS, grpD, grpF, grpL, eop, vop, bop, uop, fltop, convop, endOk, newE, new1, freshL, Md.isNew, outV, pureV, pureX, pure1, AV.cells, AV.one,
            storable, laid, refless, refless1, vload, loadC, storeC, vnil, vfaddr, vextract, flatT, flatE, flatC, vconv, vmm, vidxA, viaddrA, vfield, vlen, elemsOf, dF32, dF64,
            dI64, dU8, dBool, dStr, esOk, elemsS, vsliceX, bnd, ownV, ownC, own1, ownT, isSl, nSl, endL, Md.isOwn, purge, purgeH, purgeB, purgeE, hasName, name1, List.any_cons,
            List.any_nil, Md.isWr, pureV.pureP, Option.map, reduceIte, Nat.reduceEqDiff, Nat.reduceAdd, Nat.reduceMul, Nat.reduceLT, Nat.reduceLeDiff, List.mapM_cons, List.mapM_nil,
            Option.pure_def, Option.bind_eq_bind, Option.bind_some, implies_true, forall_const, beq_self_eq_true, decide_true, decide_false, eq_self, Int.reduceEq, Int.reduceLE,
            Int.reduceLT, if_true, if_false, fc38_0, fc38_1, fc38_2, fc38_3, fc38_4, Int.reduceAdd, Int.reduceSub, Int.reduceMul, Int.reduceNeg, Int.reducePow, Nat.reducePow,
            Int.reduceToNat, Nat.reduceSub, List.replicate, Nat.reduceBEq, wAs, wA, wC, zipW, noDupN, grpE, grpC, en0, dc_en0, en1, dc_en1]))
    all_goals (repeat (replace h := And.right h))
    all_goals first
      | (refine eA_wk (wk_norm (ks := [0, 1, 5]) (ls := [1000000]) ?_) (eA_cast ?_ (ih _ _ _ _ _ h h0)); (simp only [normOk, optIn, blkIn, nameIn,
      need_iff, h, grpA, vsliceS, grpS, grpD, grpF, grpL, eop, vop, bop, uop, fltop, convop, endOk, newE, new1, freshL, Md.isNew, outV, pureV, pureX, pure1, AV.cells, AV.one,
            storable, laid, refless, refless1, vload, loadC, storeC, vnil, vfaddr, vextract, flatT, flatE, flatC, vconv, vmm, vidxA, viaddrA, vfield, vlen, elemsOf, dF32, dF64,
            dI64, dU8, dBool, dStr, esOk, elemsS, vsliceX, bnd, ownV, ownC, own1, ownT, isSl, nSl, endL, Md.isOwn, purge, purgeH, purgeB, purgeE, hasName, name1, List.any_cons,
            List.any_nil, Md.isWr, pureV.pureP, Option.map, reduceIte, Nat.reduceEqDiff, Nat.reduceAdd, Nat.reduceMul, Nat.reduceLT, Nat.reduceLeDiff, List.mapM_cons, List.mapM_nil,
            Option.pure_def, Option.bind_eq_bind, Option.bind_some, implies_true, forall_const, beq_self_eq_true, decide_true, decide_false, eq_self, Int.reduceEq, Int.reduceLE,
            Int.reduceLT, if_true, if_false, fc38_0, fc38_1, fc38_2, fc38_3, fc38_4, Int.reduceAdd, Int.reduceSub, Int.reduceMul, Int.reduceNeg, Int.reducePow, Nat.reducePow,
            Int.reduceToNat, Nat.reduceSub, List.replicate, Nat.reduceBEq, wAs, wA, wC, zipW, noDupN, grpE, grpC, en0, dc_en0, en1, dc_en1] <;> rfl); (simp only [normS, List.map_append, List.length_append, List.map_set, List.length_set, List.map_replicate, List.length_replicate, List.map_nil, List.map_cons,
      need_iff, h, grpA, vsliceS, grpS, grpD, grpF, grpL, eop, vop, bop, uop, fltop, convop, endOk, newE, new1, freshL, Md.isNew, outV, pureV, pureX, pure1, AV.cells, AV.one,
            storable, laid, refless, refless1, vload, loadC, storeC, vnil, vfaddr, vextract, flatT, flatE, flatC, vconv, vmm, vidxA, viaddrA, vfield, vlen, elemsOf, dF32, dF64,
            dI64, dU8, dBool, dStr, esOk, elemsS, vsliceX, bnd, ownV, ownC, own1, ownT, isSl, nSl, endL, Md.isOwn, purge, purgeH, purgeB, purgeE, hasName, name1, List.any_cons,
            List.any_nil, Md.isWr, pureV.pureP, Option.map, reduceIte, Nat.reduceEqDiff, Nat.reduceAdd, Nat.reduceMul, Nat.reduceLT, Nat.reduceLeDiff, List.mapM_cons, List.mapM_nil,
            Option.pure_def, Option.bind_eq_bind, Option.bind_some, implies_true, forall_const, beq_self_eq_true, decide_true, decide_false, eq_self, Int.reduceEq, Int.reduceLE,
            Int.reduceLT, if_true, if_false, fc38_0, fc38_1, fc38_2, fc38_3, fc38_4, Int.reduceAdd, Int.reduceSub, Int.reduceMul, Int.reduceNeg, Int.reducePow, Nat.reducePow,
            Int.reduceToNat, Nat.reduceSub, List.replicate, Nat.reduceBEq, wAs, wA, wC, zipW, noDupN, grpE, grpC, en0, dc_en0, en1, dc_en1] <;> first | rfl | (simp only [Nat.add_comm]; done)))
      | (cases h; refine h0 _ (Wk.cast (wk_norm (ks := [0, 1]) (ls := [1000000]) ?_) ?_); (simp only [normOk, optIn, blkIn, nameIn,
      grpA, vsliceS, grpS, grpD, grpF, grpL, eop, vop, bop, uop, fltop, convop, endOk, newE, new1, freshL, Md.isNew, outV, pureV, pureX, pure1, AV.cells, AV.one, storable, laid,
            refless, refless1, vload, loadC, storeC, vnil, vfaddr, vextract, flatT, flatE, flatC, vconv, vmm, vidxA, viaddrA, vfield, vlen, elemsOf, dF32, dF64, dI64, dU8, dBool,
            dStr, esOk, elemsS, vsliceX, bnd, ownV, ownC, own1, ownT, isSl, nSl, endL, Md.isOwn, purge, purgeH, purgeB, purgeE, hasName, name1, List.any_cons, List.any_nil, Md.isWr,
            pureV.pureP, Option.map, reduceIte, Nat.reduceEqDiff, Nat.reduceAdd, Nat.reduceMul, Nat.reduceLT, Nat.reduceLeDiff, List.mapM_cons, List.mapM_nil, Option.pure_def,
            Option.bind_eq_bind, Option.bind_some, implies_true, forall_const, beq_self_eq_true, decide_true, decide_false, eq_self, Int.reduceEq, Int.reduceLE, Int.reduceLT,
            if_true, if_false, fc38_0, fc38_1, fc38_2, fc38_3, fc38_4, Int.reduceAdd, Int.reduceSub, Int.reduceMul, Int.reduceNeg, Int.reducePow, Nat.reducePow, Int.reduceToNat,
            Nat.reduceSub, List.replicate, Nat.reduceBEq, wAs, wA, wC, zipW, noDupN, grpE, grpC, en0, dc_en0, en1, dc_en1] <;> rfl); (simp only [normS, List.map_append, List.length_append, List.map_set, List.length_set, List.map_replicate, List.length_replicate,
      grpA, vsliceS, grpS, grpD, grpF, grpL, eop, vop, bop, uop, fltop, convop, endOk, newE, new1, freshL, Md.isNew, outV, pureV, pureX, pure1, AV.cells, AV.one, storable, laid,
            refless, refless1, vload, loadC, storeC, vnil, vfaddr, vextract, flatT, flatE, flatC, vconv, vmm, vidxA, viaddrA, vfield, vlen, elemsOf, dF32, dF64, dI64, dU8, dBool,
            dStr, esOk, elemsS, vsliceX, bnd, ownV, ownC, own1, ownT, isSl, nSl, endL, Md.isOwn, purge, purgeH, purgeB, purgeE, hasName, name1, List.any_cons, List.any_nil, Md.isWr,
            pureV.pureP, Option.map, reduceIte, Nat.reduceEqDiff, Nat.reduceAdd, Nat.reduceMul, Nat.reduceLT, Nat.reduceLeDiff, List.mapM_cons, List.mapM_nil, Option.pure_def,
            Option.bind_eq_bind, Option.bind_some, implies_true, forall_const, beq_self_eq_true, decide_true, decide_false, eq_self, Int.reduceEq, Int.reduceLE, Int.reduceLT,
            if_true, if_false, fc38_0, fc38_1, fc38_2, fc38_3, fc38_4, Int.reduceAdd, Int.reduceSub, Int.reduceMul, Int.reduceNeg, Int.reducePow, Nat.reducePow, Int.reduceToNat,
            Nat.reduceSub, List.replicate, Nat.reduceBEq, wAs, wA, wC, zipW, noDupN, grpE, grpC, en0, dc_en0, en1, dc_en1] <;> first | rfl | (simp only [Nat.add_comm]; done)))
end Go.Proofs
