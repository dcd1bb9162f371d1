/- What functions that FnExactDifferenceOf reaches compute, and that the program's and the reference's answers are the same. No conditions. -/
import Derived.Test.YtlpbpdjledpfbabDifferenceOfY0
set_option maxRecDepth 100000
set_option maxHeartbeats 4000000
set_option linter.all false
namespace Go.Proofs
open Go.Ab
def lb50_0 : ICode := (.seq (.seq (.reg [⟨(some 6), none, (.mov (.t 5))⟩, ⟨(some 7), none, (.mov (.t 0))⟩, ⟨(some 8), none, (.len false (.t 7))⟩, ⟨(some 9), none, (.bin .lss false
      (.t 6) (.t 8))⟩] [0, 1, 5, 9]) (.cond (.t 9) .skip (.exit 0))) (.seq (.block 1 (.seq (.seq (.reg [⟨(some 12), none, (.mov (.t 0))⟩, ⟨(some 13), none, (.mov (.t 5))⟩, ⟨(some
      14), none, (.iaddrS 4 (.t 12) (.t 13))⟩, ⟨(some 15), none, (.faddr 0 (.t 14))⟩, ⟨(some 16), none, (.load none (.t 15))⟩, ⟨(some 17), none, (.mov (.t 1))⟩, ⟨(some 18), none,
      (.conv (.flt .f32) (.t 17))⟩, ⟨(some 19), none, (.bin .neq false (.t 16) (.t 18))⟩] [0, 1, 5, 19]) (.cond (.t 19) (.seq (.reg [⟨(some 4), none, (.mov (.c (.int .i64 (-1))))⟩]
      [4]) .ret) .skip)) (.seq (.reg [⟨(some 20), none, (.mov (.t 1))⟩, ⟨(some 21), none, (.bin .add false (.t 20) (.c (.int .i64 1)))⟩, ⟨(some 1), none, (.mov (.t 21))⟩] [0, 1, 5])
      (.seq (.seq (.reg [⟨(some 22), none, (.mov (.t 0))⟩, ⟨(some 23), none, (.mov (.t 5))⟩, ⟨(some 24), none, (.iaddrS 4 (.t 22) (.t 23))⟩, ⟨(some 25), none, (.faddr 1 (.t 24))⟩,
      ⟨(some 26), none, (.load none (.t 25))⟩, ⟨(some 27), none, (.mov (.t 1))⟩, ⟨(some 28), none, (.conv (.flt .f32) (.t 27))⟩, ⟨(some 29), none, (.bin .neq false (.t 26) (.t
      28))⟩] [0, 1, 5, 29]) (.cond (.t 29) (.seq (.reg [⟨(some 4), none, (.mov (.c (.int .i64 (-1))))⟩] [4]) .ret) .skip)) (.seq (.reg [⟨(some 30), none, (.mov (.t 1))⟩, ⟨(some 31),
      none, (.bin .add false (.t 30) (.c (.int .i64 1)))⟩, ⟨(some 1), none, (.mov (.t 31))⟩] [0, 1, 5]) (.seq (.seq (.reg [⟨(some 32), none, (.mov (.t 0))⟩, ⟨(some 33), none, (.mov
      (.t 5))⟩, ⟨(some 34), none, (.iaddrS 4 (.t 32) (.t 33))⟩, ⟨(some 35), none, (.faddr 2 (.t 34))⟩, ⟨(some 36), none, (.load none (.t 35))⟩, ⟨(some 37), none, (.mov (.t 1))⟩,
      ⟨(some 38), none, (.conv (.flt .f32) (.t 37))⟩, ⟨(some 39), none, (.bin .neq false (.t 36) (.t 38))⟩] [0, 1, 5, 39]) (.cond (.t 39) (.seq (.reg [⟨(some 4), none, (.mov (.c
      (.int .i64 (-1))))⟩] [4]) .ret) .skip)) (.seq (.reg [⟨(some 40), none, (.mov (.t 1))⟩, ⟨(some 41), none, (.bin .add false (.t 40) (.c (.int .i64 1)))⟩, ⟨(some 1), none, (.mov
      (.t 41))⟩] [0, 1, 5]) (.seq (.seq (.reg [⟨(some 42), none, (.mov (.t 0))⟩, ⟨(some 43), none, (.mov (.t 5))⟩, ⟨(some 44), none, (.iaddrS 4 (.t 42) (.t 43))⟩, ⟨(some 45), none,
      (.faddr 3 (.t 44))⟩, ⟨(some 46), none, (.load none (.t 45))⟩, ⟨(some 47), none, (.mov (.t 1))⟩, ⟨(some 48), none, (.conv (.flt .f32) (.t 47))⟩, ⟨(some 49), none, (.bin .neq
      false (.t 46) (.t 48))⟩] [0, 1, 5, 49]) (.cond (.t 49) (.seq (.reg [⟨(some 4), none, (.mov (.c (.int .i64 (-1))))⟩] [4]) .ret) .skip)) (.reg [⟨(some 50), none, (.mov (.t 1))⟩,
      ⟨(some 51), none, (.bin .add false (.t 50) (.c (.int .i64 1)))⟩, ⟨(some 1), none, (.mov (.t 51))⟩] [0, 1, 5]))))))))) (.reg [⟨(some 10), none, (.mov (.t 5))⟩, ⟨(some 11),
      none, (.bin .add false (.t 10) (.c (.int .i64 1)))⟩, ⟨(some 5), none, (.mov (.t 11))⟩] [0, 1, 5])))
def ic50 : ICode := (.seq (.reg [⟨(some 4), none, (.mov (.c (.int .i64 0)))⟩] [0, 1]) (.seq (.seq (.reg [⟨(some 5), none, (.mov (.c (.int .i64 0)))⟩] [0, 1, 5]) (.block 0 (.loop
      lb50_0))) (.seq (.reg [⟨(some 52), none, (.mov (.t 1))⟩, ⟨(some 4), none, (.mov (.t 52))⟩] [4]) .ret)))
def cp50 : CP := CP.mk [] [] [[0, 1], [0, 1, 5], [0, 1, 5, 9], [0, 1, 5], [0, 1, 5, 19], [4], [0, 1, 5], [0, 1, 5, 29], [4], [0, 1, 5], [0, 1, 5, 39], [4], [0, 1, 5], [0, 1, 5, 49],
      [4], [0, 1, 5], [4]] 53 [] []
theorem fc50_0 : IntKind.wrap .i64 1 = 1 := by decide
theorem fc50_1 : IntKind.wrap .i64 2 = 2 := by decide
theorem fc50_2 : IntKind.wrap .i64 3 = 3 := by decide
theorem sl50_0 (x0 : (List (Nat × Nat × Nat × Nat))) : ∀ (n : Nat) (z0_0 : Int) (z0_1 : Int) (o : (Bool × Int × Int)) (K : IExit → St → Prop), l_laws_heldTurnS_0 x0 n z0_0 z0_1 =
      some o → (∀ st, o.1 = true → outM .any st [(.t 4)] = some (.int .i64 o.2.1) → K .ret st) → (∀ st, o.1 = false → Wk st (⟨[(1, (.int .i64 o.2.2))], []⟩ : St) → K (.exit 0) st) →
      eA (tabOf []) (.loop lb50_0) (⟨[(0, (.sl (List.map en0 x0))), (1, (.int .i64 z0_0)), (5, (.int .i64 z0_1))], []⟩ : St) K := by
  intro n
  induction n with
  | zero =>
    intro z0_0 z0_1 o K h h0 h1
    simp only [l_laws_heldTurnS_0, reduceCtorEq] at h
  | succ n ih =>
    intro z0_0 z0_1 o K h h0 h1
    refine eA_loop ?_
    unfold lb50_0
    unfold l_laws_heldTurnS_0 at h
    (try simp only [need_iff] at h)
    simp only [
      need_iff, h, grpA, vsliceS, grpS, grpD, grpF, grpL, eop, vop, bop, uop, fltop, convop, endOk, newE, new1, freshL, Md.isNew, outV, pureV, pureX, pure1, AV.cells, AV.one,
            storable, laid, refless, refless1, vload, loadC, storeC, vnil, vfaddr, vextract, flatT, flatE, flatC, vconv, vmm, vidxA, viaddrA, vfield, vlen, elemsOf, dF32, dF64,
            dI64, dU8, dBool, dStr, esOk, elemsS, vsliceX, bnd, ownV, ownC, own1, ownT, isSl, nSl, endL, Md.isOwn, purge, purgeH, purgeB, purgeE, hasName, name1, List.any_cons,
            List.any_nil, Md.isWr, pureV.pureP, Option.map, reduceIte, Nat.reduceEqDiff, Nat.reduceAdd, Nat.reduceMul, Nat.reduceLT, Nat.reduceLeDiff, List.mapM_cons, List.mapM_nil,
            Option.pure_def, Option.bind_eq_bind, Option.bind_some, implies_true, forall_const, beq_self_eq_true, decide_true, decide_false, eq_self, Int.reduceEq, Int.reduceLE,
            Int.reduceLT, if_true, if_false, fc50_0, fc50_1, fc50_2, Int.reduceAdd, Int.reduceSub, Int.reduceMul, Int.reduceNeg, Int.reducePow, Nat.reducePow, Int.reduceToNat,
            Nat.reduceSub, List.replicate, Nat.reduceBEq, wAs, wA, wC, zipW, noDupN, grpE, beq_true, beq_false, grpC, en0, dc_en0]
    repeat' (first
      | ((first | (refine eGI_of (fun hc => ?_) (fun hc => ?_)) | (refine eCc_of (fun hc => ?_) (fun hc => ?_)) | (have hc := True.intro; refine KW_refl ?_)) <;> (try simp only [Bool.not_eq_true', Bool.not_eq_false'] at hc) <;> (try simp only [hc, need_iff, reduceCtorEq, beq_true, beq_false, Int.reduceEq, Int.reduceLT, Int.reduceLE, true_or, or_true, Bool.not_eq_true', decide_eq_false_iff_not, Bool.not_true, Bool.not_false, Bool.false_or, Bool.true_or, Bool.true_and, Bool.false_and, Bool.and_eq_true, Bool.or_eq_true, if_true, if_false, reduceIte, Bool.false_eq_true, and_true, true_and, false_or, or_false, decide_eq_true_eq, not_false_eq_true, not_true_eq_false] at h) <;> (first | (have hc2 := hc; simp only [decide_eq_true_eq, decide_eq_false_iff_not] at hc2; (first | (replace hc2 := eq_false hc2) | (replace hc2 := eq_true hc2)); (try simp only [hc2, need_iff, reduceCtorEq, beq_true, beq_false, Int.reduceEq, Int.reduceLT, Int.reduceLE, true_or, or_true, Bool.not_eq_true', decide_eq_false_iff_not, Bool.not_true, Bool.not_false, Bool.false_or, Bool.true_or, Bool.true_and, Bool.false_and, Bool.and_eq_true, Bool.or_eq_true, if_true, if_false, reduceIte, Bool.false_eq_true, and_true, true_and, false_or, or_false, decide_eq_true_eq, not_false_eq_true, not_true_eq_false] at h); replace h := And.intro hc2 h) | (replace h := And.intro hc h) | skip) <;> simp only [hc,
      need_iff, h, grpA, vsliceS, grpS, grpD, grpF, grpL, eop, vop, bop, uop, fltop, convop, endOk, newE, new1, freshL, Md.isNew, outV, pureV, pureX, pure1, AV.cells, AV.one,
            storable, laid, refless, refless1, vload, loadC, storeC, vnil, vfaddr, vextract, flatT, flatE, flatC, vconv, vmm, vidxA, viaddrA, vfield, vlen, elemsOf, dF32, dF64,
            dI64, dU8, dBool, dStr, esOk, elemsS, vsliceX, bnd, ownV, ownC, own1, ownT, isSl, nSl, endL, Md.isOwn, purge, purgeH, purgeB, purgeE, hasName, name1, List.any_cons,
            List.any_nil, Md.isWr, pureV.pureP, Option.map, reduceIte, Nat.reduceEqDiff, Nat.reduceAdd, Nat.reduceMul, Nat.reduceLT, Nat.reduceLeDiff, List.mapM_cons, List.mapM_nil,
            Option.pure_def, Option.bind_eq_bind, Option.bind_some, implies_true, forall_const, beq_self_eq_true, decide_true, decide_false, eq_self, Int.reduceEq, Int.reduceLE,
            Int.reduceLT, if_true, if_false, fc50_0, fc50_1, fc50_2, Int.reduceAdd, Int.reduceSub, Int.reduceMul, Int.reduceNeg, Int.reducePow, Nat.reducePow, Int.reduceToNat,
            Nat.reduceSub, List.replicate, Nat.reduceBEq, wAs, wA, wC, zipW, noDupN, grpE, beq_true, beq_false, grpC, en0, dc_en0]))
    all_goals (repeat (replace h := And.right h))
    all_goals first
      | (refine eA_wk (wk_norm (ks := [0, 1, 5]) (ls := []) ?_) (eA_cast ?_ (ih _ _ _ _ h h0 h1)); (simp only [normOk, optIn, blkIn, nameIn,
      need_iff, h, grpA, vsliceS, grpS, grpD, grpF, grpL, eop, vop, bop, uop, fltop, convop, endOk, newE, new1, freshL, Md.isNew, outV, pureV, pureX, pure1, AV.cells, AV.one,
            storable, laid, refless, refless1, vload, loadC, storeC, vnil, vfaddr, vextract, flatT, flatE, flatC, vconv, vmm, vidxA, viaddrA, vfield, vlen, elemsOf, dF32, dF64,
            dI64, dU8, dBool, dStr, esOk, elemsS, vsliceX, bnd, ownV, ownC, own1, ownT, isSl, nSl, endL, Md.isOwn, purge, purgeH, purgeB, purgeE, hasName, name1, List.any_cons,
            List.any_nil, Md.isWr, pureV.pureP, Option.map, reduceIte, Nat.reduceEqDiff, Nat.reduceAdd, Nat.reduceMul, Nat.reduceLT, Nat.reduceLeDiff, List.mapM_cons, List.mapM_nil,
            Option.pure_def, Option.bind_eq_bind, Option.bind_some, implies_true, forall_const, beq_self_eq_true, decide_true, decide_false, eq_self, Int.reduceEq, Int.reduceLE,
            Int.reduceLT, if_true, if_false, fc50_0, fc50_1, fc50_2, Int.reduceAdd, Int.reduceSub, Int.reduceMul, Int.reduceNeg, Int.reducePow, Nat.reducePow, Int.reduceToNat,
            Nat.reduceSub, List.replicate, Nat.reduceBEq, wAs, wA, wC, zipW, noDupN, grpE, beq_true, beq_false, grpC, en0, dc_en0] <;> rfl); (simp only [normS, List.map_append, List.length_append, List.map_set, List.length_set, List.map_replicate, List.length_replicate, List.map_nil, List.map_cons,
      need_iff, h, grpA, vsliceS, grpS, grpD, grpF, grpL, eop, vop, bop, uop, fltop, convop, endOk, newE, new1, freshL, Md.isNew, outV, pureV, pureX, pure1, AV.cells, AV.one,
            storable, laid, refless, refless1, vload, loadC, storeC, vnil, vfaddr, vextract, flatT, flatE, flatC, vconv, vmm, vidxA, viaddrA, vfield, vlen, elemsOf, dF32, dF64,
            dI64, dU8, dBool, dStr, esOk, elemsS, vsliceX, bnd, ownV, ownC, own1, ownT, isSl, nSl, endL, Md.isOwn, purge, purgeH, purgeB, purgeE, hasName, name1, List.any_cons,
            List.any_nil, Md.isWr, pureV.pureP, Option.map, reduceIte, Nat.reduceEqDiff, Nat.reduceAdd, Nat.reduceMul, Nat.reduceLT, Nat.reduceLeDiff, List.mapM_cons, List.mapM_nil,
            Option.pure_def, Option.bind_eq_bind, Option.bind_some, implies_true, forall_const, beq_self_eq_true, decide_true, decide_false, eq_self, Int.reduceEq, Int.reduceLE,
            Int.reduceLT, if_true, if_false, fc50_0, fc50_1, fc50_2, Int.reduceAdd, Int.reduceSub, Int.reduceMul, Int.reduceNeg, Int.reducePow, Nat.reducePow, Int.reduceToNat,
            Nat.reduceSub, List.replicate, Nat.reduceBEq, wAs, wA, wC, zipW, noDupN, grpE, beq_true, beq_false, grpC, en0, dc_en0] <;> first | rfl | (simp only [Nat.add_comm]; done)))
      | (cases h; refine h0 _ rfl ?_; simp only [
      grpA, vsliceS, grpS, grpD, grpF, grpL, eop, vop, bop, uop, fltop, convop, endOk, newE, new1, freshL, Md.isNew, outV, pureV, pureX, pure1, AV.cells, AV.one, storable, laid,
            refless, refless1, vload, loadC, storeC, vnil, vfaddr, vextract, flatT, flatE, flatC, vconv, vmm, vidxA, viaddrA, vfield, vlen, elemsOf, dF32, dF64, dI64, dU8, dBool,
            dStr, esOk, elemsS, vsliceX, bnd, ownV, ownC, own1, ownT, isSl, nSl, endL, Md.isOwn, purge, purgeH, purgeB, purgeE, hasName, name1, List.any_cons, List.any_nil, Md.isWr,
            pureV.pureP, Option.map, reduceIte, Nat.reduceEqDiff, Nat.reduceAdd, Nat.reduceMul, Nat.reduceLT, Nat.reduceLeDiff, List.mapM_cons, List.mapM_nil, Option.pure_def,
            Option.bind_eq_bind, Option.bind_some, implies_true, forall_const, beq_self_eq_true, decide_true, decide_false, eq_self, Int.reduceEq, Int.reduceLE, Int.reduceLT,
            if_true, if_false, fc50_0, fc50_1, fc50_2, Int.reduceAdd, Int.reduceSub, Int.reduceMul, Int.reduceNeg, Int.reducePow, Nat.reducePow, Int.reduceToNat, Nat.reduceSub,
            List.replicate, Nat.reduceBEq, wAs, wA, wC, zipW, noDupN, grpE, beq_true, beq_false, grpC, en0, dc_en0])
      | (cases h; refine h1 _ rfl (Wk.cast (wk_norm (ks := [1]) (ls := []) ?_) ?_); (simp only [normOk, optIn, blkIn, nameIn,
      grpA, vsliceS, grpS, grpD, grpF, grpL, eop, vop, bop, uop, fltop, convop, endOk, newE, new1, freshL, Md.isNew, outV, pureV, pureX, pure1, AV.cells, AV.one, storable, laid,
            refless, refless1, vload, loadC, storeC, vnil, vfaddr, vextract, flatT, flatE, flatC, vconv, vmm, vidxA, viaddrA, vfield, vlen, elemsOf, dF32, dF64, dI64, dU8, dBool,
            dStr, esOk, elemsS, vsliceX, bnd, ownV, ownC, own1, ownT, isSl, nSl, endL, Md.isOwn, purge, purgeH, purgeB, purgeE, hasName, name1, List.any_cons, List.any_nil, Md.isWr,
            pureV.pureP, Option.map, reduceIte, Nat.reduceEqDiff, Nat.reduceAdd, Nat.reduceMul, Nat.reduceLT, Nat.reduceLeDiff, List.mapM_cons, List.mapM_nil, Option.pure_def,
            Option.bind_eq_bind, Option.bind_some, implies_true, forall_const, beq_self_eq_true, decide_true, decide_false, eq_self, Int.reduceEq, Int.reduceLE, Int.reduceLT,
            if_true, if_false, fc50_0, fc50_1, fc50_2, Int.reduceAdd, Int.reduceSub, Int.reduceMul, Int.reduceNeg, Int.reducePow, Nat.reducePow, Int.reduceToNat, Nat.reduceSub,
            List.replicate, Nat.reduceBEq, wAs, wA, wC, zipW, noDupN, grpE, beq_true, beq_false, grpC, en0, dc_en0] <;> rfl); (simp only [normS, List.map_append, List.length_append, List.map_set, List.length_set, List.map_replicate, List.length_replicate,
      grpA, vsliceS, grpS, grpD, grpF, grpL, eop, vop, bop, uop, fltop, convop, endOk, newE, new1, freshL, Md.isNew, outV, pureV, pureX, pure1, AV.cells, AV.one, storable, laid,
            refless, refless1, vload, loadC, storeC, vnil, vfaddr, vextract, flatT, flatE, flatC, vconv, vmm, vidxA, viaddrA, vfield, vlen, elemsOf, dF32, dF64, dI64, dU8, dBool,
            dStr, esOk, elemsS, vsliceX, bnd, ownV, ownC, own1, ownT, isSl, nSl, endL, Md.isOwn, purge, purgeH, purgeB, purgeE, hasName, name1, List.any_cons, List.any_nil, Md.isWr,
            pureV.pureP, Option.map, reduceIte, Nat.reduceEqDiff, Nat.reduceAdd, Nat.reduceMul, Nat.reduceLT, Nat.reduceLeDiff, List.mapM_cons, List.mapM_nil, Option.pure_def,
            Option.bind_eq_bind, Option.bind_some, implies_true, forall_const, beq_self_eq_true, decide_true, decide_false, eq_self, Int.reduceEq, Int.reduceLE, Int.reduceLT,
            if_true, if_false, fc50_0, fc50_1, fc50_2, Int.reduceAdd, Int.reduceSub, Int.reduceMul, Int.reduceNeg, Int.reducePow, Nat.reducePow, Int.reduceToNat, Nat.reduceSub,
            List.replicate, Nat.reduceBEq, wAs, wA, wC, zipW, noDupN, grpE, beq_true, beq_false, grpC, en0, dc_en0] <;> first | rfl | (simp only [Nat.add_comm]; done)))
theorem s50 : ∀ vs r, g_laws_heldTurnS vs = some r → SaysM Try.prog .any 50 vs r := by
  intro vs r h
  unfold g_laws_heldTurnS at h
  split at h
  · rename_i w0 y1
    cases hd_y0 : decL dc_en0 w0 with
    | none => rw [hd_y0] at h; cases h
    | some y0 =>
    rw [hd_y0] at h
    obtain rfl := decL_inv dc_en0_inv hd_y0
    clear hd_y0
    dsimp only at h
    split at h
    · rename_i hp
      cases h
      refine spec_of (m := .any) (tab := tabOf []) (cp := cp50) (ic := ic50) (rvl := [(.t 4)]) hm tabOk_nil Try.func50 rfl rfl rfl (by kernel_rfl) rfl (Nat.le_of_ble_eq_true rfl) (Nat.le_of_ble_eq_true rfl) ?_
      show eA _ _ _ _
      unfold ic50
      simp only [p_laws_heldTurnS, Bool.and_eq_true, Bool.or_eq_true, decide_eq_true_eq, Bool.not_eq_true', decide_eq_false_iff_not] at hp
      simp only [
          hp, grpA, vsliceS, grpS, grpD, grpF, grpL, eop, vop, bop, uop, fltop, convop, endOk, newE, new1, freshL, Md.isNew, outV, pureV, pureX, pure1, AV.cells, AV.one, storable,
                laid, refless, refless1, vload, loadC, storeC, vnil, vfaddr, vextract, flatT, flatE, flatC, vconv, vmm, vidxA, viaddrA, vfield, vlen, elemsOf, dF32, dF64, dI64, dU8,
                dBool, dStr, esOk, elemsS, vsliceX, bnd, ownV, ownC, own1, ownT, isSl, nSl, endL, Md.isOwn, purge, purgeH, purgeB, purgeE, hasName, name1, List.any_cons,
                List.any_nil, Md.isWr, pureV.pureP, Option.map, reduceIte, Nat.reduceEqDiff, Nat.reduceAdd, Nat.reduceMul, Nat.reduceLT, Nat.reduceLeDiff, List.mapM_cons,
                List.mapM_nil, Option.pure_def, Option.bind_eq_bind, Option.bind_some, implies_true, forall_const, beq_self_eq_true, decide_true, decide_false, eq_self,
                Int.reduceEq, Int.reduceLE, Int.reduceLT, if_true, if_false, fc50_0, fc50_1, fc50_2, Int.reduceAdd, Int.reduceSub, Int.reduceMul, Int.reduceNeg, Int.reducePow,
                Nat.reducePow, Int.reduceToNat, Nat.reduceSub, List.replicate, Nat.reduceBEq, wAs, wA, wC, zipW, noDupN, grpE, beq_true, beq_false, grpC, en0, dc_en0]
      repeat' (first
        | ((first | (refine eGI_of (fun h => ?_) (fun h => ?_)) | (refine eCc_of (fun h => ?_) (fun h => ?_)) | (have h := True.intro; refine KW_refl ?_)) <;> (try simp only [Bool.not_eq_true', Bool.not_eq_false'] at h) <;> (try first | exact absurd (Eq.trans (Eq.symm h) (by assumption)) Bool.false_ne_true | exact absurd (Eq.trans (Eq.symm h) (by assumption)) (Ne.symm Bool.false_ne_true)) <;> (try simp only [h, reduceCtorEq, beq_true, beq_false, Int.reduceEq, Int.reduceLT, Int.reduceLE, true_or, or_true, Bool.not_eq_true', decide_eq_false_iff_not, Bool.not_true, Bool.not_false, Bool.false_or, Bool.true_or, Bool.true_and, Bool.false_and, Bool.and_eq_true, Bool.or_eq_true, if_true, if_false, reduceIte, Bool.false_eq_true, and_true, true_and, false_or, or_false, decide_eq_true_eq, not_false_eq_true, not_true_eq_false] at hp) <;> (first | (have h2 := h; simp only [decide_eq_true_eq, decide_eq_false_iff_not] at h2; (first | (replace h2 := eq_false h2) | (replace h2 := eq_true h2)); (try simp only [h2, reduceCtorEq, beq_true, beq_false, Int.reduceEq, Int.reduceLT, Int.reduceLE, true_or, or_true, Bool.not_eq_true', decide_eq_false_iff_not, Bool.not_true, Bool.not_false, Bool.false_or, Bool.true_or, Bool.true_and, Bool.false_and, Bool.and_eq_true, Bool.or_eq_true, if_true, if_false, reduceIte, Bool.false_eq_true, and_true, true_and, false_or, or_false, decide_eq_true_eq, not_false_eq_true, not_true_eq_false] at hp); replace hp := And.intro h2 hp) | (replace hp := And.intro h hp) | skip) <;> simp only [h,
          hp, grpA, vsliceS, grpS, grpD, grpF, grpL, eop, vop, bop, uop, fltop, convop, endOk, newE, new1, freshL, Md.isNew, outV, pureV, pureX, pure1, AV.cells, AV.one, storable,
                laid, refless, refless1, vload, loadC, storeC, vnil, vfaddr, vextract, flatT, flatE, flatC, vconv, vmm, vidxA, viaddrA, vfield, vlen, elemsOf, dF32, dF64, dI64, dU8,
                dBool, dStr, esOk, elemsS, vsliceX, bnd, ownV, ownC, own1, ownT, isSl, nSl, endL, Md.isOwn, purge, purgeH, purgeB, purgeE, hasName, name1, List.any_cons,
                List.any_nil, Md.isWr, pureV.pureP, Option.map, reduceIte, Nat.reduceEqDiff, Nat.reduceAdd, Nat.reduceMul, Nat.reduceLT, Nat.reduceLeDiff, List.mapM_cons,
                List.mapM_nil, Option.pure_def, Option.bind_eq_bind, Option.bind_some, implies_true, forall_const, beq_self_eq_true, decide_true, decide_false, eq_self,
                Int.reduceEq, Int.reduceLE, Int.reduceLT, if_true, if_false, fc50_0, fc50_1, fc50_2, Int.reduceAdd, Int.reduceSub, Int.reduceMul, Int.reduceNeg, Int.reducePow,
                Nat.reducePow, Int.reduceToNat, Nat.reduceSub, List.replicate, Nat.reduceBEq, wAs, wA, wC, zipW, noDupN, grpE, beq_true, beq_false, grpC, en0, dc_en0])
        | (refine eA_wk (wk_norm (ks := [0, 1, 5]) (ls := []) ?_) (eA_cast ?_ (sl50_0 y0 _ _ _ _ _ (getD_some (d := default) (x := (l_laws_heldTurnS_0 y0 (Int.toNat (((List.length y0 : Nat) : Int) - 0) + 2) y1 0)) ?_) ?_ ?_)); (simp only [nilS, nilV, normOk, optIn, blkIn, nameIn, 
          hp, grpA, vsliceS, grpS, grpD, grpF, grpL, eop, vop, bop, uop, fltop, convop, endOk, newE, new1, freshL, Md.isNew, outV, pureV, pureX, pure1, AV.cells, AV.one, storable,
                laid, refless, refless1, vload, loadC, storeC, vnil, vfaddr, vextract, flatT, flatE, flatC, vconv, vmm, vidxA, viaddrA, vfield, vlen, elemsOf, dF32, dF64, dI64, dU8,
                dBool, dStr, esOk, elemsS, vsliceX, bnd, ownV, ownC, own1, ownT, isSl, nSl, endL, Md.isOwn, purge, purgeH, purgeB, purgeE, hasName, name1, List.any_cons,
                List.any_nil, Md.isWr, pureV.pureP, Option.map, reduceIte, Nat.reduceEqDiff, Nat.reduceAdd, Nat.reduceMul, Nat.reduceLT, Nat.reduceLeDiff, List.mapM_cons,
                List.mapM_nil, Option.pure_def, Option.bind_eq_bind, Option.bind_some, implies_true, forall_const, beq_self_eq_true, decide_true, decide_false, eq_self,
                Int.reduceEq, Int.reduceLE, Int.reduceLT, if_true, if_false, fc50_0, fc50_1, fc50_2, Int.reduceAdd, Int.reduceSub, Int.reduceMul, Int.reduceNeg, Int.reducePow,
                Nat.reducePow, Int.reduceToNat, Nat.reduceSub, List.replicate, Nat.reduceBEq, wAs, wA, wC, zipW, noDupN, grpE, beq_true, beq_false, grpC, en0, dc_en0] <;> rfl); (simp only [nilS, nilV, normS,  List.map_append, List.length_append, List.map_set, List.length_set, List.map_replicate, List.length_replicate, List.map_nil, List.map_cons,
          hp, grpA, vsliceS, grpS, grpD, grpF, grpL, eop, vop, bop, uop, fltop, convop, endOk, newE, new1, freshL, Md.isNew, outV, pureV, pureX, pure1, AV.cells, AV.one, storable,
                laid, refless, refless1, vload, loadC, storeC, vnil, vfaddr, vextract, flatT, flatE, flatC, vconv, vmm, vidxA, viaddrA, vfield, vlen, elemsOf, dF32, dF64, dI64, dU8,
                dBool, dStr, esOk, elemsS, vsliceX, bnd, ownV, ownC, own1, ownT, isSl, nSl, endL, Md.isOwn, purge, purgeH, purgeB, purgeE, hasName, name1, List.any_cons,
                List.any_nil, Md.isWr, pureV.pureP, Option.map, reduceIte, Nat.reduceEqDiff, Nat.reduceAdd, Nat.reduceMul, Nat.reduceLT, Nat.reduceLeDiff, List.mapM_cons,
                List.mapM_nil, Option.pure_def, Option.bind_eq_bind, Option.bind_some, implies_true, forall_const, beq_self_eq_true, decide_true, decide_false, eq_self,
                Int.reduceEq, Int.reduceLE, Int.reduceLT, if_true, if_false, fc50_0, fc50_1, fc50_2, Int.reduceAdd, Int.reduceSub, Int.reduceMul, Int.reduceNeg, Int.reducePow,
                Nat.reducePow, Int.reduceToNat, Nat.reduceSub, List.replicate, Nat.reduceBEq, wAs, wA, wC, zipW, noDupN, grpE, beq_true, beq_false, grpC, en0, dc_en0] <;> first | rfl | (simp only [Nat.add_comm]; done)); (simp only [hp]); (
        intro st2 ht hw; simp only [Kq_ret, Kb_ret, Kl_ret, ret_ok]; first | exact h0 _ hw | exact h0 _ rfl hw | exact h1 _ rfl hw | exact h0 _ ht hw | exact h1 _ ht hw | (simp only [ht, need_iff, reduceCtorEq, beq_true, beq_false, Int.reduceEq, Int.reduceLT, Int.reduceLE, true_or, or_true, Bool.not_eq_true', decide_eq_false_iff_not, Bool.not_true, Bool.not_false, Bool.false_or, Bool.true_or, Bool.true_and, Bool.false_and, Bool.and_eq_true, Bool.or_eq_true, if_true, if_false, reduceIte, Bool.false_eq_true, and_true, true_and, false_or, or_false, decide_eq_true_eq, not_false_eq_true, not_true_eq_false] at h; (repeat (replace h := And.right h)); cases h; first | exact h0 _ hw | exact h0 _ rfl hw | exact h1 _ rfl hw) | refine ⟨_, hw, ?_⟩); rotate_left; (
        intro st2 ht hw; (try simp only [ht, reduceCtorEq, beq_true, beq_false, Int.reduceEq, Int.reduceLT, Int.reduceLE, true_or, or_true, Bool.not_eq_true', decide_eq_false_iff_not, Bool.not_true, Bool.not_false, Bool.false_or, Bool.true_or, Bool.true_and, Bool.false_and, Bool.and_eq_true, Bool.or_eq_true, if_true, if_false, reduceIte, Bool.false_eq_true, and_true, true_and, false_or, or_false, decide_eq_true_eq, not_false_eq_true, not_true_eq_false] at hp); simp only [
          hp, grpA, vsliceS, grpS, grpD, grpF, grpL, eop, vop, bop, uop, fltop, convop, endOk, newE, new1, freshL, Md.isNew, outV, pureV, pureX, pure1, AV.cells, AV.one, storable,
                laid, refless, refless1, vload, loadC, storeC, vnil, vfaddr, vextract, flatT, flatE, flatC, vconv, vmm, vidxA, viaddrA, vfield, vlen, elemsOf, dF32, dF64, dI64, dU8,
                dBool, dStr, esOk, elemsS, vsliceX, bnd, ownV, ownC, own1, ownT, isSl, nSl, endL, Md.isOwn, purge, purgeH, purgeB, purgeE, hasName, name1, List.any_cons,
                List.any_nil, Md.isWr, pureV.pureP, Option.map, reduceIte, Nat.reduceEqDiff, Nat.reduceAdd, Nat.reduceMul, Nat.reduceLT, Nat.reduceLeDiff, List.mapM_cons,
                List.mapM_nil, Option.pure_def, Option.bind_eq_bind, Option.bind_some, implies_true, forall_const, beq_self_eq_true, decide_true, decide_false, eq_self,
                Int.reduceEq, Int.reduceLE, Int.reduceLT, if_true, if_false, fc50_0, fc50_1, fc50_2, Int.reduceAdd, Int.reduceSub, Int.reduceMul, Int.reduceNeg, Int.reducePow,
                Nat.reducePow, Int.reduceToNat, Nat.reduceSub, List.replicate, Nat.reduceBEq, wAs, wA, wC, zipW, noDupN, grpE, beq_true, beq_false, grpC, en0, dc_en0]; refine KW_of hw ?_; simp only [ht, 
          hp, grpA, vsliceS, grpS, grpD, grpF, grpL, eop, vop, bop, uop, fltop, convop, endOk, newE, new1, freshL, Md.isNew, outV, pureV, pureX, pure1, AV.cells, AV.one, storable,
                laid, refless, refless1, vload, loadC, storeC, vnil, vfaddr, vextract, flatT, flatE, flatC, vconv, vmm, vidxA, viaddrA, vfield, vlen, elemsOf, dF32, dF64, dI64, dU8,
                dBool, dStr, esOk, elemsS, vsliceX, bnd, ownV, ownC, own1, ownT, isSl, nSl, endL, Md.isOwn, purge, purgeH, purgeB, purgeE, hasName, name1, List.any_cons,
                List.any_nil, Md.isWr, pureV.pureP, Option.map, reduceIte, Nat.reduceEqDiff, Nat.reduceAdd, Nat.reduceMul, Nat.reduceLT, Nat.reduceLeDiff, List.mapM_cons,
                List.mapM_nil, Option.pure_def, Option.bind_eq_bind, Option.bind_some, implies_true, forall_const, beq_self_eq_true, decide_true, decide_false, eq_self,
                Int.reduceEq, Int.reduceLE, Int.reduceLT, if_true, if_false, fc50_0, fc50_1, fc50_2, Int.reduceAdd, Int.reduceSub, Int.reduceMul, Int.reduceNeg, Int.reducePow,
                Nat.reducePow, Int.reduceToNat, Nat.reduceSub, List.replicate, Nat.reduceBEq, wAs, wA, wC, zipW, noDupN, grpE, beq_true, beq_false, grpC, en0, dc_en0])))
      all_goals (try simp only [*, m_laws_heldTurnS, Bool.and_true, Bool.true_and, Bool.and_false, Bool.false_and, Bool.or_true, Bool.true_or, Bool.or_false, Bool.false_or, Bool.not_true, Bool.not_false, Bool.false_eq_true, if_true, if_false, reduceIte, decide_true, decide_false])
      all_goals (try (simp_all; done))
    · cases h
  · cases h
def m_laws_heldPose (x0 : (Nat × Nat × Nat × (List (Nat × Nat × Nat × Nat)))) (x1 : Int) : Int := (if (decide ((m_laws_heldTurnS x0.2.2.2 x1) < 0)) = true then (-1) else
      (m_laws_heldTurnS x0.2.2.2 x1))
def p_laws_heldPose (x0 : (Nat × Nat × Nat × (List (Nat × Nat × Nat × Nat)))) (x1 : Int) : Bool := (p_laws_heldTurnS x0.2.2.2 x1)
def g_laws_heldPose : List AV → Option AV
  | [.agg [.flt .f32 y0, .flt .f32 y1, .flt .f32 y2, .sl w3], .int .i64 y4] => (match decL dc_en0 w3 with | some y3 => (if p_laws_heldPose (y0, y1, y2, y3) y4 = true then some (.int .i64 (m_laws_heldPose (y0, y1, y2, y3) y4)) else none) | none => none)
  | _ => none
def ic29 : ICode := (.seq (.reg [⟨(some 2), none, (.box 4 (.t 0))⟩, ⟨(some 4), none, (.mov (.c (.int .i64 0)))⟩] [1, 2]) (.seq (.reg [⟨(some 5), none, (.faddr 3 (.t 2))⟩, ⟨(some 6),
      none, (.load none (.t 5))⟩, ⟨(some 7), none, (.mov (.t 1))⟩, ⟨(some 8), none, (.call (.fn 50) [(.t 6), (.t 7)] [])⟩, ⟨(some 1), none, (.mov (.t 8))⟩] [1]) (.seq (.seq (.reg
      [⟨(some 9), none, (.mov (.t 1))⟩, ⟨(some 10), none, (.bin .lss false (.t 9) (.c (.int .i64 0)))⟩] [1, 10]) (.cond (.t 10) (.seq (.reg [⟨(some 4), none, (.mov (.c (.int .i64
      (-1))))⟩] [4]) .ret) .skip)) (.seq (.reg [⟨(some 11), none, (.mov (.t 1))⟩, ⟨(some 4), none, (.mov (.t 11))⟩] [4]) .ret))))
def cp29 : CP := CP.mk [] [] [[1, 2], [1], [1, 10], [4], [4]] 12 [] []
theorem fc29_0 : IntKind.wrap .i64 1 = 1 := by decide
theorem fc29_1 : IntKind.wrap .i64 2 = 2 := by decide
theorem fc29_2 : IntKind.wrap .i64 3 = 3 := by decide
theorem s29 : ∀ vs r, g_laws_heldPose vs = some r → SaysM Try.prog .any 29 vs r := by
  intro vs r h
  unfold g_laws_heldPose at h
  split at h
  · rename_i y0 y1 y2 w3 y4
    cases hd_y3 : decL dc_en0 w3 with
    | none => rw [hd_y3] at h; cases h
    | some y3 =>
    rw [hd_y3] at h
    obtain rfl := decL_inv dc_en0_inv hd_y3
    clear hd_y3
    dsimp only at h
    split at h
    · rename_i hp
      cases h
      refine spec_of (m := .any) (tab := tabOf [(50, wM .any g_laws_heldTurnS)]) (cp := cp29) (ic := ic29) (rvl := [(.t 4)]) hm (tabOk_cons (m := .any) s50 tabOk_nil) Try.func29 rfl rfl rfl (by kernel_rfl) rfl (Nat.le_of_ble_eq_true rfl) (Nat.le_of_ble_eq_true rfl) ?_
      show eA _ _ _ _
      unfold ic29
      simp only [p_laws_heldPose, Bool.and_eq_true, Bool.or_eq_true, decide_eq_true_eq, Bool.not_eq_true', decide_eq_false_iff_not] at hp
      simp only [
          hp, grpA, vsliceS, grpS, grpD, grpF, grpL, eop, vop, bop, uop, fltop, convop, endOk, newE, new1, freshL, Md.isNew, outV, pureV, pureX, pure1, AV.cells, AV.one, storable,
                laid, refless, refless1, vload, loadC, storeC, vnil, vfaddr, vextract, flatT, flatE, flatC, vconv, vmm, vidxA, viaddrA, vfield, vlen, elemsOf, dF32, dF64, dI64, dU8,
                dBool, dStr, esOk, elemsS, vsliceX, bnd, ownV, ownC, own1, ownT, isSl, nSl, endL, Md.isOwn, purge, purgeH, purgeB, purgeE, hasName, name1, List.any_cons,
                List.any_nil, Md.isWr, pureV.pureP, Option.map, reduceIte, Nat.reduceEqDiff, Nat.reduceAdd, Nat.reduceMul, Nat.reduceLT, Nat.reduceLeDiff, List.mapM_cons,
                List.mapM_nil, Option.pure_def, Option.bind_eq_bind, Option.bind_some, implies_true, forall_const, beq_self_eq_true, decide_true, decide_false, eq_self,
                Int.reduceEq, Int.reduceLE, Int.reduceLT, if_true, if_false, fc29_0, fc29_1, fc29_2, Int.reduceAdd, Int.reduceSub, Int.reduceMul, Int.reduceNeg, Int.reducePow,
                Nat.reducePow, Int.reduceToNat, Nat.reduceSub, List.replicate, Nat.reduceBEq, wAs, wA, wC, zipW, noDupN, grpE, beq_true, beq_false, g_laws_heldTurnS, grpC, en0,
                dc_en0]
      repeat' (first
        | ((first | (refine eGI_of (fun h => ?_) (fun h => ?_)) | (refine eCc_of (fun h => ?_) (fun h => ?_))) <;> (try simp only [Bool.not_eq_true', Bool.not_eq_false'] at h) <;> (try first | exact absurd (Eq.trans (Eq.symm h) (by assumption)) Bool.false_ne_true | exact absurd (Eq.trans (Eq.symm h) (by assumption)) (Ne.symm Bool.false_ne_true)) <;> (try simp only [h, reduceCtorEq, beq_true, beq_false, Int.reduceEq, Int.reduceLT, Int.reduceLE, true_or, or_true, Bool.not_eq_true', decide_eq_false_iff_not, Bool.not_true, Bool.not_false, Bool.false_or, Bool.true_or, Bool.true_and, Bool.false_and, Bool.and_eq_true, Bool.or_eq_true, if_true, if_false, reduceIte, Bool.false_eq_true, and_true, true_and, false_or, or_false, decide_eq_true_eq, not_false_eq_true, not_true_eq_false] at hp) <;> (first | (have h2 := h; simp only [decide_eq_true_eq, decide_eq_false_iff_not] at h2; (first | (replace h2 := eq_false h2) | (replace h2 := eq_true h2)); (try simp only [h2, reduceCtorEq, beq_true, beq_false, Int.reduceEq, Int.reduceLT, Int.reduceLE, true_or, or_true, Bool.not_eq_true', decide_eq_false_iff_not, Bool.not_true, Bool.not_false, Bool.false_or, Bool.true_or, Bool.true_and, Bool.false_and, Bool.and_eq_true, Bool.or_eq_true, if_true, if_false, reduceIte, Bool.false_eq_true, and_true, true_and, false_or, or_false, decide_eq_true_eq, not_false_eq_true, not_true_eq_false] at hp); replace hp := And.intro h2 hp) | (replace hp := And.intro h hp) | skip) <;> simp only [h,
          hp, grpA, vsliceS, grpS, grpD, grpF, grpL, eop, vop, bop, uop, fltop, convop, endOk, newE, new1, freshL, Md.isNew, outV, pureV, pureX, pure1, AV.cells, AV.one, storable,
                laid, refless, refless1, vload, loadC, storeC, vnil, vfaddr, vextract, flatT, flatE, flatC, vconv, vmm, vidxA, viaddrA, vfield, vlen, elemsOf, dF32, dF64, dI64, dU8,
                dBool, dStr, esOk, elemsS, vsliceX, bnd, ownV, ownC, own1, ownT, isSl, nSl, endL, Md.isOwn, purge, purgeH, purgeB, purgeE, hasName, name1, List.any_cons,
                List.any_nil, Md.isWr, pureV.pureP, Option.map, reduceIte, Nat.reduceEqDiff, Nat.reduceAdd, Nat.reduceMul, Nat.reduceLT, Nat.reduceLeDiff, List.mapM_cons,
                List.mapM_nil, Option.pure_def, Option.bind_eq_bind, Option.bind_some, implies_true, forall_const, beq_self_eq_true, decide_true, decide_false, eq_self,
                Int.reduceEq, Int.reduceLE, Int.reduceLT, if_true, if_false, fc29_0, fc29_1, fc29_2, Int.reduceAdd, Int.reduceSub, Int.reduceMul, Int.reduceNeg, Int.reducePow,
                Nat.reducePow, Int.reduceToNat, Nat.reduceSub, List.replicate, Nat.reduceBEq, wAs, wA, wC, zipW, noDupN, grpE, beq_true, beq_false, g_laws_heldTurnS, grpC, en0,
                dc_en0]))
      all_goals (try simp only [*, m_laws_heldPose, Bool.and_true, Bool.true_and, Bool.and_false, Bool.false_and, Bool.or_true, Bool.true_or, Bool.or_false, Bool.false_or, Bool.not_true, Bool.not_false, Bool.false_eq_true, if_true, if_false, reduceIte, decide_true, decide_false])
      all_goals (try (simp_all; done))
    · cases h
  · cases h
def v_laws_FnExactDifferenceOf_0 (x0 : (Nat × Nat × Nat × (List (Nat × Nat × Nat × Nat)))) (x1 : (Nat × Nat × Nat × (List (Nat × Nat × Nat × Nat)))) : Int := (m_laws_heldPose
      ((m_impl_DifferenceOf (m_laws_toPose x0) (m_laws_toPose x1)).1.1, (m_impl_DifferenceOf (m_laws_toPose x0) (m_laws_toPose x1)).1.2.1, (m_impl_DifferenceOf (m_laws_toPose x0)
      (m_laws_toPose x1)).1.2.2.1, (m_laws_markPose (m_impl_DifferenceOf (m_laws_toPose x0) (m_laws_toPose x1)).1 1).2) 1)
def m_laws_FnExactDifferenceOf (x0 : (Nat × Nat × Nat × (List (Nat × Nat × Nat × Nat)))) (x1 : (Nat × Nat × Nat × (List (Nat × Nat × Nat × Nat)))) : Bool := (if (decide
      ((m_laws_szPose x0 1048576) < 0)) = true then true else (if (decide ((m_laws_szPose x1 (m_laws_szPose x0 1048576)) < 0)) = true then true else (if (m_laws_eqPose
      (m_impl_DifferenceOf (m_laws_toPose x0) (m_laws_toPose x1)).1 (m_spec_DifferenceOf (m_laws_toPose x0) (m_laws_toPose x1)).1) = true then (if ((m_impl_DifferenceOf
      (m_laws_toPose x0) (m_laws_toPose x1)).2 == (m_spec_DifferenceOf (m_laws_toPose x0) (m_laws_toPose x1)).2) = true then (if (m_laws_eqPose (m_laws_toPose x0) (m_laws_toPose
      x0)) = true then (if (m_laws_eqPose (m_laws_toPose x1) (m_laws_toPose x1)) = true then (if (decide ((m_laws_markPose (m_laws_toPose x1) (m_laws_markPose (m_laws_toPose x0)
      1).1).1 < 0)) = true then false else (if (decide ((v_laws_FnExactDifferenceOf_0 x0 x1) < 0)) = true then false else (if (decide ((v_laws_FnExactDifferenceOf_0 x0 x1) =
      (m_laws_markPose (m_impl_DifferenceOf (m_laws_toPose x0) (m_laws_toPose x1)).1 1).1)) = true then true else false))) else false) else false) else false) else false)))
def p_laws_FnExactDifferenceOf (x0 : (Nat × Nat × Nat × (List (Nat × Nat × Nat × Nat)))) (x1 : (Nat × Nat × Nat × (List (Nat × Nat × Nat × Nat)))) : Bool := ((decide ((m_laws_szPose
      x0 1048576) < 0)) || ((decide ((m_laws_szPose x1 (m_laws_szPose x0 1048576)) < 0)) || ((p_laws_toPose x0) && ((p_laws_toPose x1) && ((p_spec_DifferenceOf (m_laws_toPose x0)
      (m_laws_toPose x1)) && ((p_impl_DifferenceOf (m_laws_toPose x0) (m_laws_toPose x1)) && ((p_laws_eqPose (m_impl_DifferenceOf (m_laws_toPose x0) (m_laws_toPose x1)).1
      (m_spec_DifferenceOf (m_laws_toPose x0) (m_laws_toPose x1)).1) && (!(m_laws_eqPose (m_impl_DifferenceOf (m_laws_toPose x0) (m_laws_toPose x1)).1 (m_spec_DifferenceOf
      (m_laws_toPose x0) (m_laws_toPose x1)).1) || (!((m_impl_DifferenceOf (m_laws_toPose x0) (m_laws_toPose x1)).2 == (m_spec_DifferenceOf (m_laws_toPose x0) (m_laws_toPose x1)).2)
      || ((p_laws_eqPose (m_laws_toPose x0) (m_laws_toPose x0)) && (!(m_laws_eqPose (m_laws_toPose x0) (m_laws_toPose x0)) || ((p_laws_eqPose (m_laws_toPose x1) (m_laws_toPose x1))
      && (!(m_laws_eqPose (m_laws_toPose x1) (m_laws_toPose x1)) || ((p_laws_markPose (m_laws_toPose x0) 1) && ((decide (List.length (m_laws_markPose (m_laws_toPose x0) 1).2 =
      (List.length (m_laws_toPose x0).2.2.2))) && ((p_laws_markPose (m_laws_toPose x1) (m_laws_markPose (m_laws_toPose x0) 1).1) && ((decide (List.length (m_laws_markPose
      (m_laws_toPose x1) (m_laws_markPose (m_laws_toPose x0) 1).1).2 = (List.length (m_laws_toPose x1).2.2.2))) && ((decide ((m_laws_markPose (m_laws_toPose x1) (m_laws_markPose
      (m_laws_toPose x0) 1).1).1 < 0)) || ((p_laws_markPose (m_impl_DifferenceOf (m_laws_toPose x0) (m_laws_toPose x1)).1 1) && ((decide (List.length (m_laws_markPose
      (m_impl_DifferenceOf (m_laws_toPose x0) (m_laws_toPose x1)).1 1).2 = (List.length (m_impl_DifferenceOf (m_laws_toPose x0) (m_laws_toPose x1)).1.2.2.2))) && (p_laws_heldPose
      ((m_impl_DifferenceOf (m_laws_toPose x0) (m_laws_toPose x1)).1.1, (m_impl_DifferenceOf (m_laws_toPose x0) (m_laws_toPose x1)).1.2.1, (m_impl_DifferenceOf (m_laws_toPose x0)
      (m_laws_toPose x1)).1.2.2.1, (m_laws_markPose (m_impl_DifferenceOf (m_laws_toPose x0) (m_laws_toPose x1)).1 1).2) 1)))))))))))))))))))))
def g_laws_FnExactDifferenceOf : List AV → Option AV
  | [.agg [.flt .f32 y0, .flt .f32 y1, .flt .f32 y2, .sl w3], .agg [.flt .f32 y4, .flt .f32 y5, .flt .f32 y6, .sl w7]] => (match decL dc_en0 w3 with | some y3 => ((match decL dc_en0 w7 with | some y7 => (if p_laws_FnExactDifferenceOf (y0, y1, y2, y3) (y4, y5, y6, y7) = true then some (.bool (m_laws_FnExactDifferenceOf (y0, y1, y2, y3) (y4, y5, y6, y7))) else none) | none => none)) | none => none)
  | _ => none
def ic6 : ICode := (.seq (.reg [⟨(some 2), none, (.box 4 (.t 0))⟩, ⟨(some 3), none, (.box 4 (.t 1))⟩, ⟨(some 4), none, (.mov (.c (.bool false)))⟩] [2, 3]) (.seq (.reg [⟨(some 5),
      none, (.mov (.c (.int .i64 1048576)))⟩] [2, 3, 5]) (.seq (.reg [⟨(some 17), none, (.load (some 4) (.t 2))⟩, ⟨(some 18), none, (.mov (.t 5))⟩, ⟨(some 19), none, (.call (.fn 23)
      [(.t 17), (.t 18)] [])⟩, ⟨(some 5), none, (.mov (.t 19))⟩] [2, 3, 5]) (.seq (.seq (.reg [⟨(some 20), none, (.mov (.t 5))⟩, ⟨(some 21), none, (.bin .lss false (.t 20) (.c (.int
      .i64 0)))⟩] [2, 3, 5, 21]) (.cond (.t 21) (.seq (.reg [⟨(some 4), none, (.mov (.c (.bool true)))⟩] [4]) .ret) .skip)) (.seq (.reg [⟨(some 22), none, (.load (some 4) (.t 3))⟩,
      ⟨(some 23), none, (.mov (.t 5))⟩, ⟨(some 24), none, (.call (.fn 23) [(.t 22), (.t 23)] [])⟩, ⟨(some 5), none, (.mov (.t 24))⟩] [2, 3, 5]) (.seq (.seq (.reg [⟨(some 25), none,
      (.mov (.t 5))⟩, ⟨(some 26), none, (.bin .lss false (.t 25) (.c (.int .i64 0)))⟩] [2, 3, 26]) (.cond (.t 26) (.seq (.reg [⟨(some 4), none, (.mov (.c (.bool true)))⟩] [4]) .ret)
      .skip)) (.seq (.reg [⟨(some 28), none, (.load (some 4) (.t 2))⟩, ⟨(some 29), none, (.call (.fn 25) [(.t 28)] [])⟩, ⟨(some 30), none, (.load (some 4) (.t 3))⟩, ⟨(some 31),
      none, (.call (.fn 25) [(.t 30)] [])⟩, ⟨(some 32), none, (.call (.fn 30) [(.t 29), (.t 31)] [])⟩, ⟨(some 27), none, (.mov (.t 32))⟩, ⟨(some 33), none, (.extract (.t 27) 0)⟩,
      ⟨(some 34), none, (.extract (.t 27) 1)⟩, ⟨(some 6), none, (.alloc (.agg [(.flt .f32 0), (.flt .f32 0), (.flt .f32 0), .snil]))⟩, ⟨none, none, (.store 4 (.t 6) (.t 33))⟩,
      ⟨(some 7), none, (.mov (.t 34))⟩] [2, 3, 6, 7]) (.seq (.reg [⟨(some 35), none, (.load (some 4) (.t 2))⟩, ⟨(some 36), none, (.call (.fn 25) [(.t 35)] [4])⟩, ⟨(some 8), none,
      (.alloc (.agg [(.flt .f32 0), (.flt .f32 0), (.flt .f32 0), .snil]))⟩, ⟨none, none, (.store 4 (.t 8) (.t 36))⟩] [2, 3, 6, 7, 8]) (.seq (.reg [⟨(some 37), none, (.load (some 4)
      (.t 3))⟩, ⟨(some 38), none, (.call (.fn 25) [(.t 37)] [4])⟩, ⟨(some 9), none, (.alloc (.agg [(.flt .f32 0), (.flt .f32 0), (.flt .f32 0), .snil]))⟩, ⟨none, none, (.store 4 (.t
      9) (.t 38))⟩] [2, 3, 6, 7, 8, 9]) (.seq (.reg [⟨(some 40), none, (.load (some 4) (.t 8))⟩, ⟨(some 41), none, (.load (some 4) (.t 9))⟩, ⟨(some 42), none, (.call (.fn 31) [(.t
      40), (.t 41)] [4])⟩, ⟨(some 39), none, (.mov (.t 42))⟩, ⟨(some 43), none, (.extract (.t 39) 0)⟩, ⟨(some 44), none, (.extract (.t 39) 1)⟩, ⟨(some 10), none, (.alloc (.agg
      [(.flt .f32 0), (.flt .f32 0), (.flt .f32 0), .snil]))⟩, ⟨none, none, (.store 4 (.t 10) (.t 43))⟩, ⟨(some 11), none, (.mov (.t 44))⟩] [2, 3, 6, 7, 8, 9, 10, 11]) (.seq (.seq
      (.reg [⟨(some 45), none, (.load (some 4) (.t 10))⟩, ⟨(some 46), none, (.load (some 4) (.t 6))⟩, ⟨(some 47), none, (.call (.fn 27) [(.t 45), (.t 46)] [])⟩, ⟨(some 48), none,
      (.un .not (.t 47))⟩, ⟨(some 49), none, (.mov (.t 48))⟩, ⟨(some 50), (some (49, false)), (.mov (.t 11))⟩, ⟨(some 51), (some (49, false)), (.mov (.t 7))⟩, ⟨(some 52), (some (49,
      false)), (.bin .neq true (.t 50) (.t 51))⟩, ⟨(some 53), none, (.pick (.t 49) (.c (.bool true)) (.t 52))⟩] [2, 3, 6, 7, 8, 9, 10, 11, 53]) (.cond (.t 53) (.seq (.reg [⟨(some
      4), none, (.mov (.c (.bool false)))⟩] [4]) .ret) .skip)) (.seq (.seq (.reg [⟨(some 54), none, (.load (some 4) (.t 8))⟩, ⟨(some 55), none, (.load (some 4) (.t 2))⟩, ⟨(some 56),
      none, (.call (.fn 25) [(.t 55)] [])⟩, ⟨(some 57), none, (.call (.fn 27) [(.t 54), (.t 56)] [])⟩, ⟨(some 58), none, (.un .not (.t 57))⟩] [2, 3, 6, 7, 8, 9, 10, 11, 58]) (.cond
      (.t 58) (.seq (.reg [⟨(some 4), none, (.mov (.c (.bool false)))⟩] [4]) .ret) .skip)) (.seq (.seq (.reg [⟨(some 59), none, (.load (some 4) (.t 9))⟩, ⟨(some 60), none, (.load
      (some 4) (.t 3))⟩, ⟨(some 61), none, (.call (.fn 25) [(.t 60)] [])⟩, ⟨(some 62), none, (.call (.fn 27) [(.t 59), (.t 61)] [])⟩, ⟨(some 63), none, (.un .not (.t 62))⟩] [2, 3,
      6, 7, 8, 9, 10, 11, 63]) (.cond (.t 63) (.seq (.reg [⟨(some 4), none, (.mov (.c (.bool false)))⟩] [4]) .ret) .skip)) (.seq (.reg [⟨(some 12), none, (.mov (.c (.int .i64 1)))⟩]
      [2, 3, 6, 7, 8, 9, 10, 11, 12]) (.seq (.reg [⟨(some 64), none, (.load (some 4) (.t 8))⟩, ⟨(some 65), none, (.mov (.t 12))⟩, ⟨(some 66), none, (.callM 28 [(.t 64), (.t 65)])⟩,
      ⟨(some 12), none, (.mov (.t 66))⟩] [2, 3, 6, 7, 9, 10, 11, 12]) (.seq (.reg [⟨(some 67), none, (.load (some 4) (.t 9))⟩, ⟨(some 68), none, (.mov (.t 12))⟩, ⟨(some 69), none,
      (.callM 28 [(.t 67), (.t 68)])⟩, ⟨(some 12), none, (.mov (.t 69))⟩] [2, 3, 6, 7, 10, 11, 12]) (.seq (.seq (.reg [⟨(some 70), none, (.mov (.t 12))⟩, ⟨(some 71), none, (.bin
      .lss false (.t 70) (.c (.int .i64 0)))⟩, ⟨(some 72), none, (.mov (.t 71))⟩, ⟨(some 73), (some (72, false)), (.load (some 4) (.t 10))⟩, ⟨(some 74), (some (72, false)), (.load
      (some 4) (.t 6))⟩, ⟨(some 75), (some (72, false)), (.call (.fn 27) [(.t 73), (.t 74)] [])⟩, ⟨(some 76), (some (72, false)), (.un .not (.t 75))⟩, ⟨(some 77), none, (.pick (.t
      72) (.c (.bool true)) (.t 76))⟩, ⟨(some 78), none, (.mov (.t 77))⟩, ⟨(some 79), (some (78, false)), (.mov (.t 11))⟩, ⟨(some 80), (some (78, false)), (.mov (.t 7))⟩, ⟨(some
      81), (some (78, false)), (.bin .neq true (.t 79) (.t 80))⟩, ⟨(some 82), none, (.pick (.t 78) (.c (.bool true)) (.t 81))⟩] [2, 3, 6, 7, 10, 82]) (.cond (.t 82) (.seq (.reg
      [⟨(some 4), none, (.mov (.c (.bool false)))⟩] [4]) .ret) .skip)) (.seq (.reg [⟨(some 13), none, (.mov (.c (.int .i64 1)))⟩] [2, 3, 6, 7, 10, 13]) (.seq (.reg [⟨(some 83),
      none, (.load (some 4) (.t 10))⟩, ⟨(some 84), none, (.mov (.t 13))⟩, ⟨(some 85), none, (.callM 28 [(.t 83), (.t 84)])⟩, ⟨(some 13), none, (.mov (.t 85))⟩] [2, 3, 6, 7, 10, 13])
      (.seq (.reg [⟨(some 14), none, (.mov (.c (.int .i64 1)))⟩] [2, 3, 6, 7, 10, 13, 14]) (.seq (.reg [⟨(some 86), none, (.load (some 4) (.t 10))⟩, ⟨(some 87), none, (.mov (.t
      14))⟩, ⟨(some 88), none, (.call (.fn 29) [(.t 86), (.t 87)] [])⟩, ⟨(some 14), none, (.mov (.t 88))⟩] [2, 3, 6, 7, 10, 13, 14]) (.seq (.seq (.reg [⟨(some 89), none, (.mov (.t
      14))⟩, ⟨(some 90), none, (.bin .lss false (.t 89) (.c (.int .i64 0)))⟩] [2, 3, 6, 7, 10, 13, 14, 90]) (.cond (.t 90) (.seq (.reg [⟨(some 4), none, (.mov (.c (.bool false)))⟩]
      [4]) .ret) .skip)) (.seq (.seq (.reg [⟨(some 91), none, (.mov (.t 14))⟩, ⟨(some 92), none, (.mov (.t 13))⟩, ⟨(some 93), none, (.bin .neq false (.t 91) (.t 92))⟩] [2, 3, 6, 7,
      10, 13, 93]) (.cond (.t 93) (.seq (.reg [⟨(some 4), none, (.mov (.c (.bool false)))⟩] [4]) .ret) .skip)) (.seq (.reg [⟨(some 95), none, (.load (some 4) (.t 2))⟩, ⟨(some 96),
      none, (.call (.fn 25) [(.t 95)] [])⟩, ⟨(some 97), none, (.load (some 4) (.t 3))⟩, ⟨(some 98), none, (.call (.fn 25) [(.t 97)] [])⟩, ⟨(some 99), none, (.call (.fn 31) [(.t 96),
      (.t 98)] [])⟩, ⟨(some 94), none, (.mov (.t 99))⟩, ⟨(some 100), none, (.extract (.t 94) 0)⟩, ⟨(some 101), none, (.extract (.t 94) 1)⟩, ⟨(some 15), none, (.alloc (.agg [(.flt
      .f32 0), (.flt .f32 0), (.flt .f32 0), .snil]))⟩, ⟨none, none, (.store 4 (.t 15) (.t 100))⟩, ⟨(some 16), none, (.mov (.t 101))⟩] [6, 7, 10, 13, 15, 16]) (.seq (.seq (.reg
      [⟨(some 102), none, (.load (some 4) (.t 15))⟩, ⟨(some 103), none, (.load (some 4) (.t 6))⟩, ⟨(some 104), none, (.call (.fn 27) [(.t 102), (.t 103)] [])⟩, ⟨(some 105), none,
      (.un .not (.t 104))⟩, ⟨(some 106), none, (.mov (.t 105))⟩, ⟨(some 107), (some (106, false)), (.mov (.t 16))⟩, ⟨(some 108), (some (106, false)), (.mov (.t 7))⟩, ⟨(some 109),
      (some (106, false)), (.bin .neq true (.t 107) (.t 108))⟩, ⟨(some 110), none, (.pick (.t 106) (.c (.bool true)) (.t 109))⟩] [10, 13, 110]) (.cond (.t 110) (.seq (.reg [⟨(some
      4), none, (.mov (.c (.bool false)))⟩] [4]) .ret) .skip)) (.seq (.reg [⟨(some 14), none, (.mov (.c (.int .i64 1)))⟩] [10, 13, 14]) (.seq (.reg [⟨(some 111), none, (.load (some
      4) (.t 10))⟩, ⟨(some 112), none, (.mov (.t 14))⟩, ⟨(some 113), none, (.call (.fn 29) [(.t 111), (.t 112)] [])⟩, ⟨(some 14), none, (.mov (.t 113))⟩] [13, 14]) (.seq (.seq (.reg
      [⟨(some 114), none, (.mov (.t 14))⟩, ⟨(some 115), none, (.bin .lss false (.t 114) (.c (.int .i64 0)))⟩] [13, 14, 115]) (.cond (.t 115) (.seq (.reg [⟨(some 4), none, (.mov (.c
      (.bool false)))⟩] [4]) .ret) .skip)) (.seq (.seq (.reg [⟨(some 116), none, (.mov (.t 14))⟩, ⟨(some 117), none, (.mov (.t 13))⟩, ⟨(some 118), none, (.bin .neq false (.t 116)
      (.t 117))⟩] [118]) (.cond (.t 118) (.seq (.reg [⟨(some 4), none, (.mov (.c (.bool false)))⟩] [4]) .ret) .skip)) (.seq (.reg [⟨(some 4), none, (.mov (.c (.bool true)))⟩] [4])
      .ret))))))))))))))))))))))))))))))
def cp6 : CP := CP.mk [(36, [4]), (38, [4]), (42, [4])] [28] [[2, 3], [2, 3, 5], [2, 3, 5], [2, 3, 5, 21], [4], [2, 3, 5], [2, 3, 26], [4], [2, 3, 6, 7], [2, 3, 6, 7, 8], [2, 3, 6,
      7, 8, 9], [2, 3, 6, 7, 8, 9, 10, 11], [2, 3, 6, 7, 8, 9, 10, 11, 53], [4], [2, 3, 6, 7, 8, 9, 10, 11, 58], [4], [2, 3, 6, 7, 8, 9, 10, 11, 63], [4], [2, 3, 6, 7, 8, 9, 10, 11,
      12], [2, 3, 6, 7, 9, 10, 11, 12], [2, 3, 6, 7, 10, 11, 12], [2, 3, 6, 7, 10, 82], [4], [2, 3, 6, 7, 10, 13], [2, 3, 6, 7, 10, 13], [2, 3, 6, 7, 10, 13, 14], [2, 3, 6, 7, 10,
      13, 14], [2, 3, 6, 7, 10, 13, 14, 90], [4], [2, 3, 6, 7, 10, 13, 93], [4], [6, 7, 10, 13, 15, 16], [10, 13, 110], [4], [10, 13, 14], [13, 14], [13, 14, 115], [4], [118], [4],
      [4]] 119 [] []
theorem fc6_0 : IntKind.wrap .i64 1 = 1 := by decide
theorem fc6_1 : IntKind.wrap .i64 2 = 2 := by decide
theorem fc6_2 : IntKind.wrap .i64 3 = 3 := by decide
theorem s6 : ∀ vs r, g_laws_FnExactDifferenceOf vs = some r → SaysM Try.prog .any 6 vs r := by
  intro vs r h
  unfold g_laws_FnExactDifferenceOf at h
  split at h
  · rename_i y0 y1 y2 w3 y4 y5 y6 w7
    cases hd_y3 : decL dc_en0 w3 with
    | none => rw [hd_y3] at h; cases h
    | some y3 =>
    rw [hd_y3] at h
    obtain rfl := decL_inv dc_en0_inv hd_y3
    clear hd_y3
    dsimp only at h
    cases hd_y7 : decL dc_en0 w7 with
    | none => rw [hd_y7] at h; cases h
    | some y7 =>
    rw [hd_y7] at h
    obtain rfl := decL_inv dc_en0_inv hd_y7
    clear hd_y7
    dsimp only at h
    split at h
    · rename_i hp
      cases h
      refine spec_of (m := .any) (tab := tabOf [(23, wM .any g_laws_szPose), (25, wM (.own [4]) g_laws_toPose), (27, wM .any g_laws_eqPose), (28, g_laws_markPose), (29, wM .any g_laws_heldPose), (30, wM (.own [4]) g_spec_DifferenceOf), (31, wM (.own [4]) g_impl_DifferenceOf)]) (cp := cp6) (ic := ic6) (rvl := [(.t 4)]) hm (tabOk_cons (m := .any) s23 (tabOk_cons (m := (.own [4])) s25 (tabOk_cons (m := .any) s27 (tabOk_consW s28 (tabOk_cons (m := .any) s29 (tabOk_cons (m := (.own [4])) s30 (tabOk_cons (m := (.own [4])) s31 tabOk_nil))))))) Try.func6 rfl rfl rfl (by kernel_rfl) rfl (Nat.le_of_ble_eq_true rfl) (Nat.le_of_ble_eq_true rfl) ?_
      show eA _ _ _ _
      unfold ic6
      simp only [p_laws_FnExactDifferenceOf, v_laws_FnExactDifferenceOf_0, Bool.and_eq_true, Bool.or_eq_true, decide_eq_true_eq, Bool.not_eq_true', decide_eq_false_iff_not] at hp
      simp only [
          hp, grpA, vsliceS, grpS, grpD, grpF, grpL, eop, vop, bop, uop, fltop, convop, endOk, newE, new1, freshL, Md.isNew, outV, pureV, pureX, pure1, AV.cells, AV.one, storable,
                laid, refless, refless1, vload, loadC, storeC, vnil, vfaddr, vextract, flatT, flatE, flatC, vconv, vmm, vidxA, viaddrA, vfield, vlen, elemsOf, dF32, dF64, dI64, dU8,
                dBool, dStr, esOk, elemsS, vsliceX, bnd, ownV, ownC, own1, ownT, isSl, nSl, endL, Md.isOwn, purge, purgeH, purgeB, purgeE, hasName, name1, List.any_cons,
                List.any_nil, Md.isWr, pureV.pureP, Option.map, reduceIte, Nat.reduceEqDiff, Nat.reduceAdd, Nat.reduceMul, Nat.reduceLT, Nat.reduceLeDiff, List.mapM_cons,
                List.mapM_nil, Option.pure_def, Option.bind_eq_bind, Option.bind_some, implies_true, forall_const, beq_self_eq_true, decide_true, decide_false, eq_self,
                Int.reduceEq, Int.reduceLE, Int.reduceLT, if_true, if_false, fc6_0, fc6_1, fc6_2, Int.reduceAdd, Int.reduceSub, Int.reduceMul, Int.reduceNeg, Int.reducePow,
                Nat.reducePow, Int.reduceToNat, Nat.reduceSub, List.replicate, Nat.reduceBEq, wAs, wA, wC, zipW, noDupN, grpE, beq_true, beq_false, g_laws_szPose, g_laws_toPose,
                g_laws_eqPose, g_laws_markPose, g_laws_heldPose, g_spec_DifferenceOf, g_impl_DifferenceOf, grpC, en0, dc_en0, ↓b_pick, ePk_true, ePk_false]
      repeat' (first
        | ((first | (refine eGI_of (fun h => ?_) (fun h => ?_)) | (refine eCc_of (fun h => ?_) (fun h => ?_)) | (refine ePk_of (fun h => ?_) (fun h => ?_))) <;> (try simp only [Bool.not_eq_true', Bool.not_eq_false'] at h) <;> (try first | exact absurd (Eq.trans (Eq.symm h) (by assumption)) Bool.false_ne_true | exact absurd (Eq.trans (Eq.symm h) (by assumption)) (Ne.symm Bool.false_ne_true)) <;> (try simp only [h, reduceCtorEq, beq_true, beq_false, Int.reduceEq, Int.reduceLT, Int.reduceLE, true_or, or_true, Bool.not_eq_true', decide_eq_false_iff_not, Bool.not_true, Bool.not_false, Bool.false_or, Bool.true_or, Bool.true_and, Bool.false_and, Bool.and_eq_true, Bool.or_eq_true, if_true, if_false, reduceIte, Bool.false_eq_true, and_true, true_and, false_or, or_false, decide_eq_true_eq, not_false_eq_true, not_true_eq_false] at hp) <;> (first | (have h2 := h; simp only [decide_eq_true_eq, decide_eq_false_iff_not] at h2; (first | (replace h2 := eq_false h2) | (replace h2 := eq_true h2)); (try simp only [h2, reduceCtorEq, beq_true, beq_false, Int.reduceEq, Int.reduceLT, Int.reduceLE, true_or, or_true, Bool.not_eq_true', decide_eq_false_iff_not, Bool.not_true, Bool.not_false, Bool.false_or, Bool.true_or, Bool.true_and, Bool.false_and, Bool.and_eq_true, Bool.or_eq_true, if_true, if_false, reduceIte, Bool.false_eq_true, and_true, true_and, false_or, or_false, decide_eq_true_eq, not_false_eq_true, not_true_eq_false] at hp); replace hp := And.intro h2 hp) | (replace hp := And.intro h hp) | skip) <;> simp only [h,
          hp, grpA, vsliceS, grpS, grpD, grpF, grpL, eop, vop, bop, uop, fltop, convop, endOk, newE, new1, freshL, Md.isNew, outV, pureV, pureX, pure1, AV.cells, AV.one, storable,
                laid, refless, refless1, vload, loadC, storeC, vnil, vfaddr, vextract, flatT, flatE, flatC, vconv, vmm, vidxA, viaddrA, vfield, vlen, elemsOf, dF32, dF64, dI64, dU8,
                dBool, dStr, esOk, elemsS, vsliceX, bnd, ownV, ownC, own1, ownT, isSl, nSl, endL, Md.isOwn, purge, purgeH, purgeB, purgeE, hasName, name1, List.any_cons,
                List.any_nil, Md.isWr, pureV.pureP, Option.map, reduceIte, Nat.reduceEqDiff, Nat.reduceAdd, Nat.reduceMul, Nat.reduceLT, Nat.reduceLeDiff, List.mapM_cons,
                List.mapM_nil, Option.pure_def, Option.bind_eq_bind, Option.bind_some, implies_true, forall_const, beq_self_eq_true, decide_true, decide_false, eq_self,
                Int.reduceEq, Int.reduceLE, Int.reduceLT, if_true, if_false, fc6_0, fc6_1, fc6_2, Int.reduceAdd, Int.reduceSub, Int.reduceMul, Int.reduceNeg, Int.reducePow,
                Nat.reducePow, Int.reduceToNat, Nat.reduceSub, List.replicate, Nat.reduceBEq, wAs, wA, wC, zipW, noDupN, grpE, beq_true, beq_false, g_laws_szPose, g_laws_toPose,
                g_laws_eqPose, g_laws_markPose, g_laws_heldPose, g_spec_DifferenceOf, g_impl_DifferenceOf, grpC, en0, dc_en0, ↓b_pick, ePk_true, ePk_false]))
      all_goals (try simp only [*, m_laws_FnExactDifferenceOf, v_laws_FnExactDifferenceOf_0, Bool.and_true, Bool.true_and, Bool.and_false, Bool.false_and, Bool.or_true, Bool.true_or, Bool.or_false, Bool.false_or, Bool.not_true, Bool.not_false, Bool.false_eq_true, if_true, if_false, reduceIte, decide_true, decide_false])
      all_goals (try (simp_all; done))
    · cases h
  · cases h
end Go.Proofs
namespace Go.Ab
/-- a list of known length is filled, an element a round -/
theorem fill_loop {β : Type} (l : Nat → List β → Int → Option (List β)) (len : Nat) (F : Nat → β) (hlen : len < 2 ^ 62)
    (H : ∀ (n : Nat) (z : List β) (k : Nat), k < len → z.length = len → l (n + 1) z (k : Int) = l n (z.set k (F k)) (IntKind.wrap .i64 ((k : Int) + 1)))
    (H' : ∀ (n : Nat) (z : List β) (k : Nat), ¬ k < len → l (n + 1) z (k : Int) = some z) :
    ∀ (n : Nat) (z : List β) (k : Nat), k ≤ len → z.length = len → len - k < n → l n z (k : Int) = some (z.take k ++ (List.range' k (len - k)).map F)
  | 0, z, k, _, _, h => by omega
  | n + 1, z, k, hk, hz, h => by
    by_cases hlt : k < len
    · rw [H n z k hlt hz, wrapS (by omega), fill_loop l len F hlen H H' n _ (k + 1) (by omega) (by rw [List.length_set]; exact hz) (by omega), show len - k = (len - (k + 1)) + 1 by omega, List.range'_succ, List.map_cons]
      congr 1
      rw [List.take_succ_eq_append_getElem (by rw [List.length_set]; omega), List.take_set_of_le (Nat.le_refl _), List.getElem_set_self, List.append_assoc, List.singleton_append]
    · rw [H' n z k hlt, show len - k = 0 by omega]
      have : k = z.length := by omega
      subst this
      simp
/-- elements are put at the end, one a round -/
theorem app_loop {β : Type} (l : Nat → List β → Int → Option (List β)) (len : Nat) (F : Nat → β) (hlen : len < 2 ^ 62) (P : Nat → Nat → Prop)
    (H : ∀ (n : Nat) (z : List β) (k : Nat), k < len → P k z.length → l (n + 1) z (k : Int) = l n (z ++ [F k]) (IntKind.wrap .i64 ((k : Int) + 1)))
    (H' : ∀ (n : Nat) (z : List β) (k : Nat), ¬ k < len → l (n + 1) z (k : Int) = some z) (hP : ∀ k j, k < len → P k j → P (k + 1) (j + 1)) :
    ∀ (n : Nat) (z : List β) (k : Nat), k ≤ len → P k z.length → len - k < n → l n z (k : Int) = some (z ++ (List.range' k (len - k)).map F)
  | 0, z, k, _, _, h => by omega
  | n + 1, z, k, hk, hp, h => by
    by_cases hlt : k < len
    · rw [H n z k hlt hp, wrapS (by omega), app_loop l len F hlen P H H' hP n _ (k + 1) (by omega) (by rw [List.length_append]; exact hP _ _ hlt hp) (by omega), show len - k = (len - (k + 1)) + 1 by omega, List.range'_succ, List.map_cons]
      simp
    · rw [H' n z k hlt, show len - k = 0 by omega]
      simp
theorem map_range_shift {β : Type} {F G : Nat → β} {k j m : Nat} (h : ∀ i, i < m → F (k + i) = G (j + i)) : (List.range' k m).map F = (List.range' j m).map G := by
  induction m generalizing k j with
  | zero => rfl
  | succ m ih =>
    have h0 := h 0 (by omega)
    rw [Nat.add_zero, Nat.add_zero] at h0
    rw [List.range'_succ, List.range'_succ, List.map_cons, List.map_cons, h0, ih fun i hi => by
      have := h (i + 1) (by omega)
      rw [show k + (i + 1) = k + 1 + i by omega, show j + (i + 1) = j + 1 + i by omega] at this
      exact this]
/-- marks -/
def marks {α : Type} (f : Int → α) (g : Int → Int) : Int → Nat → List α
  | _, 0 => []
  | m, n + 1 => f m :: marks f g (g m) n
def iter (g : Int → Int) : Nat → Int → Int
  | 0, m => m
  | n + 1, m => iter g n (g m)
theorem marks_len {α : Type} (f : Int → α) (g : Int → Int) : ∀ (n : Nat) (m : Int), (marks f g m n).length = n
  | 0, _ => rfl
  | n + 1, m => by rw [marks, List.length_cons, marks_len f g n]
theorem marks_get {α : Type} [Inhabited α] (f : Int → α) (g : Int → Int) : ∀ (n : Nat) (m : Int) (i : Nat), i < n → (marks f g m n).getD i default = f (iter g i m)
  | 0, _, _, h => by omega
  | n + 1, m, 0, _ => rfl
  | n + 1, m, i + 1, h => by
    rw [marks, List.getD_cons_succ, marks_get f g n (g m) i (by omega)]; rfl
theorem iter_succ (g : Int → Int) : ∀ (i : Nat) (m : Int), g (iter g i m) = iter g (i + 1) m
  | 0, _ => rfl
  | i + 1, m => by rw [iter, iter_succ g i (g m)]; rfl
theorem iter_add {g : Int → Int} {c : Nat} (hg : ∀ m : Int, 0 ≤ m → m ≤ 2 ^ 60 → g m = m + c) : ∀ (n : Nat) (m : Int), 0 ≤ m → m + ((c * n : Nat) : Int) ≤ 2 ^ 60 → iter g n m = m + ((c * n : Nat) : Int)
  | 0, m, _, _ => by simp [iter]
  | n + 1, m, h0, h => by
    rw [Nat.mul_succ] at h ⊢
    rw [iter, hg m h0 (by omega), iter_add hg n _ (by omega) (by omega)]
    omega
theorem mark_loop {α : Type} (l : Nat → List α → Int → Int → Option (Int × List α)) (f : Int → α) (g : Int → Int)
    (H : ∀ n z m k, l (n + 1) z m k = if (decide (k < ((z.length : Nat) : Int))) = true then need (inB k z.length) (l n (z.set k.toNat (f m)) (g m) (IntKind.wrap .i64 (k + 1))) else some (m, z)) :
    ∀ (n : Nat) (z : List α) (m : Int) (k : Nat), z.length < 2 ^ 62 → k ≤ z.length → z.length - k < n → l n z m (k : Int) = some (iter g (z.length - k) m, z.take k ++ marks f g m (z.length - k))
  | 0, z, m, k, _, _, h => by omega
  | n + 1, z, m, k, hz, hk, h => by
    rw [H]
    by_cases hlt : k < z.length
    · rw [if_pos (by simp; omega), inB_nat]
      unfold need
      rw [if_pos (by simpa using hlt), wrapS (by omega), Int.toNat_natCast, mark_loop l f g H n _ (g m) (k + 1) (by rw [List.length_set]; exact hz) (by rw [List.length_set]; omega) (by rw [List.length_set]; omega), List.length_set,
        show z.length - k = (z.length - (k + 1)) + 1 by omega]
      congr 2
      rw [List.take_succ_eq_append_getElem (by rw [List.length_set]; omega), List.take_set_of_le (Nat.le_refl _), List.getElem_set_self, List.append_assoc, List.singleton_append]
      rfl
    · rw [if_neg (by simp; omega), show z.length - k = 0 by omega]
      have : k = z.length := by omega
      subst this
      simp [iter, marks]
theorem mark_all {α : Type} (l : Nat → List α → Int → Int → Option (Int × List α)) (f : Int → α) (g : Int → Int) (x : List α) (m : Int) (hx : x.length < 2 ^ 62)
    (H : ∀ n z m k, l (n + 1) z m k = if (decide (k < ((z.length : Nat) : Int))) = true then need (inB k z.length) (l n (z.set k.toNat (f m)) (g m) (IntKind.wrap .i64 (k + 1))) else some (m, z)) :
    l (Int.toNat (((x.length : Nat) : Int) - 0) + 2) x m 0 = some (iter g x.length m, marks f g m x.length) := by
  have := mark_loop l f g H (Int.toNat (((x.length : Nat) : Int) - 0) + 2) x m 0 hx (Nat.zero_le _) (by omega)
  simpa using this
theorem held_all {α : Type} [Inhabited α] (l : Nat → Int → Int → Option (Bool × Int × Int)) (f : Int → α) (g : Int → Int) (e : α → Int → Bool) (x : List α) (m : Int) (len : Nat) (hx : x = marks f g m len) (hl : len < 2 ^ 62) (he : ∀ m, e (f m) m = true)
    (H : ∀ n m k, l (n + 1) m k = if (decide (k < ((x.length : Nat) : Int))) = true then need (inB k x.length) (if e (atI x k) m = true then l n (g m) (IntKind.wrap .i64 (k + 1)) else some (true, -1, default)) else some (false, default, m)) :
    l (Int.toNat (((x.length : Nat) : Int) - 0) + 2) m 0 = some (false, default, iter g len m) := by
  have hlen : x.length = len := by rw [hx, marks_len]
  have key : ∀ (n k : Nat), k ≤ len → len - k < n → l n (iter g k m) (k : Int) = some (false, default, iter g len m) := by
    intro n
    induction n with
    | zero => intro k _ h; omega
    | succ n ih =>
      intro k hk h
      rw [H, hlen]
      by_cases hlt : k < len
      · rw [if_pos (by simp; omega), inB_nat]
        unfold need
        rw [if_pos (by simpa using hlt), atI_nat, hx, marks_get f g len m k hlt, if_pos (he _), wrapS (by omega), iter_succ g, ih (k + 1) (by omega) (by omega)]
      · rw [if_neg (by simp; omega), show k = len by omega]
  have := key (Int.toNat (((x.length : Nat) : Int) - 0) + 2) 0 (Nat.zero_le _) (by omega)
  exact this
/-- a whole number made a float is itself -/
theorem feq_ofInt (n : Int) : feq .f32 (ofInt .f32 n) (ofInt .f32 n) = true := by
  rw [feq_self_iff]
  have h : isNaN .f32 (ofInt .f32 n) = false := by
    unfold isNaN ofInt
    show (FloatKind.f32.format.read (FloatKind.f32.nearest n)).isNaN = false
    rcases read_nearest .f32 (decide (n < 0)) n.natAbs 0 with ⟨m', e', h, _⟩ | h
    all_goals
      have h2 : FloatKind.f32.format.read (FloatKind.f32.nearest n) = _ := h
      rw [h2]; rfl
  rw [h]; rfl
end Go.Ab
namespace Go.Proofs
open Go.Ab
theorem sameFloat_refl (x : Nat) : m_laws_sameFloat x x = true := by
  unfold m_laws_sameFloat
  by_cases h : feq .f64 x x = true
  · simp [h]
  · simp [h]
end Go.Proofs
namespace Go.Proofs
open Go.Ab
theorem eq_Vector (a : Nat × Nat × Nat) : m_laws_eqVector a a = true := by unfold m_laws_eqVector; simp [sameFloat_refl]
end Go.Proofs
namespace Go.Proofs
open Go.Ab
theorem eq_Turn (a : Nat × Nat × Nat × Nat) : m_laws_eqTurn a a = true := by unfold m_laws_eqTurn; simp [sameFloat_refl]
theorem eq_TurnS (x : List (Nat × Nat × Nat × Nat)) (h : x.length ≤ 1048576) : m_laws_eqTurnS x x = true ∧ p_laws_eqTurnS x x = true := by
  unfold m_laws_eqTurnS p_laws_eqTurnS
  rw [show l_laws_eqTurnS_0 x x (Int.toNat (((List.length x : Nat) : Int) - 0) + 2) 0 = some (false, default, ()) from eq_loop _ x m_laws_eqTurn eq_Turn (by omega) fun _ _ => rfl]; simp
theorem to_TurnS (x : List (Nat × Nat × Nat × Nat)) (h : x.length ≤ 1048576) : m_laws_toTurnS x = x ∧ p_laws_toTurnS x = true := by
  unfold m_laws_toTurnS p_laws_toTurnS
  rw [show l_laws_toTurnS_0 x (Int.toNat (((List.length x : Nat) : Int) - 0) + 2) (List.replicate (Int.toNat ((List.length x : Nat) : Int)) (0, 0, 0, 0)) 0 = some x by
    rw [copy_all (l_laws_toTurnS_0 x) x m_laws_toTurn _ (by omega) fun _ _ _ => rfl]
    congr 1
    exact List.map_id x]
  refine ⟨rfl, ?_⟩
  simp; omega
theorem sz_TurnS (x : List (Nat × Nat × Nat × Nat)) (n : Int) (hx : x.length ≤ maxLen) (h0 : 0 ≤ n) (hn : n ≤ 1048576) (hs : ¬ (m_laws_szTurnS x n < 0)) : x.length ≤ 1048576 ∧ 0 ≤ m_laws_szTurnS x n ∧ m_laws_szTurnS x n ≤ 1048576 := by
  unfold m_laws_szTurnS at hs ⊢
  have hx' : x.length ≤ 9223372036854775807 := by unfold maxLen at hx; omega
  rw [wrapI (by omega) (by omega)] at hs ⊢
  by_cases h : n - ((List.length x : Nat) : Int) < 0
  · simp [h] at hs
  · rw [if_neg (by simpa using h)]; omega
end Go.Proofs
namespace Go.Proofs
open Go.Ab
theorem eq_Pose (x : Nat × Nat × Nat × List (Nat × Nat × Nat × Nat)) (h : x.2.2.2.length ≤ 1048576) : m_laws_eqPose x x = true ∧ p_laws_eqPose x x = true := by
  unfold m_laws_eqPose p_laws_eqPose
  simp [eq_Vector, eq_TurnS _ h]
theorem to_Pose (x : Nat × Nat × Nat × List (Nat × Nat × Nat × Nat)) (h : x.2.2.2.length ≤ 1048576) : m_laws_toPose x = x ∧ p_laws_toPose x = true := by
  unfold m_laws_toPose p_laws_toPose
  exact ⟨by simp [to_TurnS _ h, m_laws_toVector], (to_TurnS _ h).2⟩
theorem sz_Pose (x : Nat × Nat × Nat × List (Nat × Nat × Nat × Nat)) (n : Int) (hx : x.2.2.2.length ≤ maxLen) (h0 : 0 ≤ n) (hn : n ≤ 1048576) (hs : ¬ (m_laws_szPose x n < 0)) : x.2.2.2.length ≤ 1048576 ∧ 0 ≤ m_laws_szPose x n ∧ m_laws_szPose x n ≤ 1048576 := by
  unfold m_laws_szPose at hs ⊢
  by_cases h : m_laws_szTurnS x.2.2.2 n < 0
  · simp [h] at hs
  · have := sz_TurnS x.2.2.2 n hx h0 hn h
    simpa [h] using this
end Go.Proofs
namespace Go.Proofs
open Go.Ab
def gT (m : Int) : Int := IntKind.wrap .i64 ((IntKind.wrap .i64 ((IntKind.wrap .i64 ((IntKind.wrap .i64 (m + 1)) + 1)) + 1)) + 1)
theorem gT_add (m : Int) (h0 : 0 ≤ m) (h : m ≤ 2 ^ 60) : gT m = m + (4 : Nat) := by
  unfold gT
  rw [wrapI (n := m + 1) (by omega) (by omega), wrapI (n := m + 1 + 1) (by omega) (by omega), wrapI (n := m + 1 + 1 + 1) (by omega) (by omega), wrapI (by omega) (by omega)]
  omega
def fT (m : Int) : Nat × Nat × Nat × Nat := (ofInt .f32 m, ofInt .f32 (IntKind.wrap .i64 (m + 1)), ofInt .f32 (IntKind.wrap .i64 ((IntKind.wrap .i64 (m + 1)) + 1)), ofInt .f32 (IntKind.wrap .i64 ((IntKind.wrap .i64 ((IntKind.wrap .i64 (m + 1)) + 1)) + 1)))
theorem mark_TurnS (x : List (Nat × Nat × Nat × Nat)) (m : Int) (h : x.length ≤ 1048576) : m_laws_markTurnS x m = (iter gT x.length m, marks fT gT m x.length) ∧ p_laws_markTurnS x m = true := by
  unfold m_laws_markTurnS p_laws_markTurnS
  rw [show l_laws_markTurnS_0 (Int.toNat (((List.length x : Nat) : Int) - 0) + 2) x m 0 = some (iter gT x.length m, marks fT gT m x.length) from mark_all _ fT gT x m (by omega) fun _ _ _ _ => rfl]
  exact ⟨rfl, by simp [marks_len]⟩
theorem mark_Pose (x : Nat × Nat × Nat × List (Nat × Nat × Nat × Nat)) (m : Int) (h : x.2.2.2.length ≤ 1048576) : m_laws_markPose x m = (iter gT x.2.2.2.length m, marks fT gT m x.2.2.2.length) ∧ p_laws_markPose x m = true := by
  unfold m_laws_markPose p_laws_markPose
  rw [(mark_TurnS _ m h).1, (mark_TurnS _ m h).2]
  exact ⟨rfl, by simp [marks_len]⟩
end Go.Proofs
namespace Go.Proofs
open Go.Ab
theorem held_TurnS (n : Nat) (m : Int) (h : n ≤ 1048576) : m_laws_heldTurnS (marks fT gT m n) m = iter gT n m ∧ p_laws_heldTurnS (marks fT gT m n) m = true := by
  unfold m_laws_heldTurnS p_laws_heldTurnS
  rw [show l_laws_heldTurnS_0 (marks fT gT m n) (Int.toNat (((List.length (marks fT gT m n) : Nat) : Int) - 0) + 2) m 0 = some (false, default, iter gT n m) from
    held_all _ fT gT (fun a m => feq .f32 a.1 (ofInt .f32 m) && (feq .f32 a.2.1 (ofInt .f32 (IntKind.wrap .i64 (m + 1))) && (feq .f32 a.2.2.1 (ofInt .f32 (IntKind.wrap .i64 ((IntKind.wrap .i64 (m + 1)) + 1))) && feq .f32 a.2.2.2 (ofInt .f32 (IntKind.wrap .i64 ((IntKind.wrap .i64 ((IntKind.wrap .i64 (m + 1)) + 1)) + 1)))))) _ m n rfl (by omega) (fun m => by
      simp [fT, feq_ofInt]) fun n m k => by
      show (if (decide (k < _)) = true then _ else _) = _
      split
      · congr 1
        split
        · rename_i h1; rw [h1]
          split
          · rename_i h2; rw [h2]
            split
            · rename_i h3; rw [h3]
              split
              · rename_i h4; rw [h4]; rfl
              · rename_i h4; rw [(Bool.not_eq_true _).mp h4]; first | rfl | (simp; done)
            · rename_i h3; rw [(Bool.not_eq_true _).mp h3]; first | rfl | (simp; done)
          · rename_i h2; rw [(Bool.not_eq_true _).mp h2]; first | rfl | (simp; done)
        · rename_i h1; rw [(Bool.not_eq_true _).mp h1]; first | rfl | (simp; done)
      · rfl]
  exact ⟨by simp, rfl⟩
theorem held_Pose (a b c : Nat) (n : Nat) (m : Int) (h : n ≤ 1048576) (h0 : 0 ≤ m) (h1 : m ≤ 2 ^ 30) : m_laws_heldPose (a, b, c, marks fT gT m n) m = iter gT n m ∧ p_laws_heldPose (a, b, c, marks fT gT m n) m = true := by
  unfold m_laws_heldPose p_laws_heldPose
  rw [(held_TurnS n m h).1, (held_TurnS n m h).2]
  have : ¬ iter gT n m < 0 := by rw [iter_add (g := gT) (c := 4) gT_add _ _ h0 (by omega)]; omega
  exact ⟨by simp [this], rfl⟩
end Go.Proofs
namespace Go.Proofs
open Go.Ab
abbrev Ps : Type := Nat × Nat × Nat × List (Nat × Nat × Nat × Nat)
def difT (x y : Ps) : List (Nat × Nat × Nat × Nat) := (List.range' 0 x.2.2.2.length).map fun k => m_spec_l02Mul (m_spec_l02Inverse (x.2.2.2.getD k default)) (y.2.2.2.getD k default)
theorem spec_df (x y : Ps) (h : x.2.2.2.length ≤ 1048576) (hl : x.2.2.2.length = y.2.2.2.length) : l_spec_DifferenceOf_0 x y (Int.toNat (((List.length y.2.2.2 : Nat) : Int) - 0) + 2) [] 0 = some (difT x y) := by
  have := app_loop (l_spec_DifferenceOf_0 x y) y.2.2.2.length (fun k => m_spec_l02Mul (m_spec_l02Inverse (x.2.2.2.getD k default)) (y.2.2.2.getD k default)) (by omega) (fun k j => k = j) (fun n z k hk hp => by
      show (if (decide ((k : Int) < ((List.length y.2.2.2 : Nat) : Int))) = true then _ else _) = _
      rw [if_pos (by simp; omega), inB_nat, inB_nat, atI_nat, atI_nat]
      unfold need
      rw [if_pos (by simp; omega), if_pos (by simp; omega), if_pos (by simp; omega), if_pos (by simp; omega)]) (fun n z k hk => by
      show (if (decide ((k : Int) < ((List.length y.2.2.2 : Nat) : Int))) = true then _ else _) = _
      rw [if_neg (by simp; omega)]) (fun k j _ h => by omega) (Int.toNat (((List.length y.2.2.2 : Nat) : Int) - 0) + 2) [] 0 (Nat.zero_le _) (by simp) (by omega)
  refine this.trans ?_
  simp [difT, hl]
theorem impl_df (x y : Ps) (h : x.2.2.2.length ≤ 1048576) (hl : x.2.2.2.length = y.2.2.2.length) : l_impl_DifferenceOf_0 x y (Int.toNat (((List.length y.2.2.2 : Nat) : Int) - 0) + 2) (List.replicate (Int.toNat ((List.length y.2.2.2 : Nat) : Int)) (0, 0, 0, 0)) 0 = some (difT x y) := by
  have := fill_loop (l_impl_DifferenceOf_0 x y) y.2.2.2.length (fun k => m_spec_l02Mul (m_spec_l02Inverse (x.2.2.2.getD k default)) (y.2.2.2.getD k default)) (by omega) (fun n z k hk hz => by
      show (if (decide ((k : Int) < ((List.length y.2.2.2 : Nat) : Int))) = true then _ else _) = _
      rw [if_pos (by simp; omega), inB_nat, inB_nat, inB_nat, atI_nat, atI_nat, Int.toNat_natCast]
      unfold need
      rw [if_pos (by simp; omega), if_pos (by simp; omega), if_pos (by simp; omega)]
      rfl) (fun n z k hk => by
      show (if (decide ((k : Int) < ((List.length y.2.2.2 : Nat) : Int))) = true then _ else _) = _
      rw [if_neg (by simp; omega)]) (Int.toNat (((List.length y.2.2.2 : Nat) : Int) - 0) + 2) (List.replicate (Int.toNat ((List.length y.2.2.2 : Nat) : Int)) (0, 0, 0, 0)) 0 (Nat.zero_le _) (by simp) (by omega)
  refine this.trans ?_
  simp [difT, hl]
theorem core_DifferenceOf (x y : Ps) : p_impl_DifferenceOf x y = true ∧ p_spec_DifferenceOf x y = true ∧ m_impl_DifferenceOf x y = m_spec_DifferenceOf x y ∧ (m_spec_DifferenceOf x y).1.2.2.2.length ≤ 1048576 := by
  unfold p_impl_DifferenceOf p_spec_DifferenceOf m_impl_DifferenceOf m_spec_DifferenceOf m_impl_arePair m_impl_isPose m_spec_l03Few
  by_cases h1 : (1 : Int) ≤ ((List.length y.2.2.2 : Nat) : Int)
  · by_cases h2 : ((List.length y.2.2.2 : Nat) : Int) ≤ 12
    · by_cases h3 : ((List.length x.2.2.2 : Nat) : Int) = ((List.length y.2.2.2 : Nat) : Int)
      · have hl : x.2.2.2.length = y.2.2.2.length := by omega
        rw [spec_df x y (by omega) hl, impl_df x y (by omega) hl]
        have e : m_impl_LessVectors = m_spec_l01Less := rfl
        have hlen : (difT x y).length = x.2.2.2.length := by simp [difT]
        rw [e]
        simp [h1, h2, h3, hlen]
        omega
      · simp [h3]
    · by_cases h3 : ((List.length x.2.2.2 : Nat) : Int) = ((List.length y.2.2.2 : Nat) : Int)
      · simp [h3, h2]
      · simp [h3, h2]
  · by_cases h3 : ((List.length x.2.2.2 : Nat) : Int) = ((List.length y.2.2.2 : Nat) : Int)
    · simp [h3, h1]
    · simp [h3, h1]
theorem law_DifferenceOf (a b c : Nat) (l : List (Nat × Nat × Nat × Nat)) (_ : Canon .f32 a) (_ : Canon .f32 b) (_ : Canon .f32 c) (hl : l.length ≤ maxLen) (_ : ∀ q ∈ l, Canon .f32 q.1 ∧ Canon .f32 q.2.1 ∧ Canon .f32 q.2.2.1 ∧ Canon .f32 q.2.2.2)
    (a' b' c' : Nat) (l' : List (Nat × Nat × Nat × Nat)) (_ : Canon .f32 a') (_ : Canon .f32 b') (_ : Canon .f32 c') (hl' : l'.length ≤ maxLen) (_ : ∀ q ∈ l', Canon .f32 q.1 ∧ Canon .f32 q.2.1 ∧ Canon .f32 q.2.2.1 ∧ Canon .f32 q.2.2.2) :
    g_laws_FnExactDifferenceOf [.agg [.flt .f32 a, .flt .f32 b, .flt .f32 c, .sl (List.map en0 l)], .agg [.flt .f32 a', .flt .f32 b', .flt .f32 c', .sl (List.map en0 l')]] = some (.bool true) := by
  have key : p_laws_FnExactDifferenceOf (a, b, c, l) (a', b', c', l') = true ∧ m_laws_FnExactDifferenceOf (a, b, c, l) (a', b', c', l') = true := by
    unfold p_laws_FnExactDifferenceOf m_laws_FnExactDifferenceOf v_laws_FnExactDifferenceOf_0
    generalize hx : (a, b, c, l) = x at *
    generalize hy : (a', b', c', l') = y at *
    by_cases hs : m_laws_szPose x 1048576 < 0
    · simp [hs]
    · obtain ⟨k1, k2, k3⟩ := sz_Pose x 1048576 (by rw [← hx]; exact hl) (by omega) (by omega) hs
      by_cases hs' : m_laws_szPose y (m_laws_szPose x 1048576) < 0
      · simp [hs, hs']
      · obtain ⟨j1, j2, j3⟩ := sz_Pose y _ (by rw [← hy]; exact hl') k2 k3 hs'
        obtain ⟨c1, c2, c3, c4⟩ := core_DifferenceOf x y
        rw [(to_Pose x k1).1, (to_Pose y j1).1, c3]
        generalize (m_spec_DifferenceOf x y) = r at *
        have i0 : iter gT x.2.2.2.length 1 = 1 + ((4 * x.2.2.2.length : Nat) : Int) := iter_add (g := gT) (c := 4) gT_add _ _ (by omega) (by omega)
        have i1 : ¬ iter gT y.2.2.2.length (iter gT x.2.2.2.length 1) < 0 := by rw [i0, iter_add (g := gT) (c := 4) gT_add _ _ (by omega) (by omega)]; omega
        have i2 : ¬ iter gT r.1.2.2.2.length 1 < 0 := by rw [iter_add (g := gT) (c := 4) gT_add _ _ (by omega) (by omega)]; omega
        simp [hs, hs', to_Pose x k1, to_Pose y j1, c1, c2, eq_Pose x k1, eq_Pose y j1, eq_Pose r.1 c4, mark_Pose x _ k1, mark_Pose y _ j1, mark_Pose r.1 1 c4, held_Pose _ _ _ _ 1 c4, marks_len, i1, i2]
  unfold g_laws_FnExactDifferenceOf
  simp only [dc_en0_map, key.1, key.2, if_true]
end Go.Proofs
