/- What functions that FnExactMirrorSkeleton reaches compute, and that the program's and the reference's answers are the same. No conditions. -/
import Derived.Test.YtlpbpdjledpfbabMirrorSkeletonY0
set_option maxRecDepth 100000
set_option maxHeartbeats 4000000
set_option linter.all false
namespace Go.Proofs
open Go.Ab
def ic62 : ICode := (.seq (.reg [⟨(some 1), none, (.box 3 (.t 0))⟩, ⟨(some 2), none, (.alloc (.agg [(.flt .f32 0), (.flt .f32 0), (.flt .f32 0)]))⟩] [1, 2]) (.seq (.reg [⟨(some 3),
      none, (.faddr 0 (.t 1))⟩, ⟨(some 4), none, (.load none (.t 3))⟩, ⟨(some 5), none, (.un .neg (.t 4))⟩, ⟨(some 6), none, (.faddr 1 (.t 1))⟩, ⟨(some 7), none, (.load none (.t
      6))⟩, ⟨(some 8), none, (.faddr 2 (.t 1))⟩, ⟨(some 9), none, (.load none (.t 8))⟩, ⟨(some 10), none, (.build [(.flt .f32 0), (.flt .f32 0), (.flt .f32 0)] [(0, 1, (.t 5)), (1,
      1, (.t 7)), (2, 1, (.t 9))])⟩, ⟨none, none, (.store 3 (.t 2) (.t 10))⟩] [2]) .ret))
def cp62 : CP := CP.mk [] [] [[1, 2], [2]] 11 [] []
theorem fc62_0 : IntKind.wrap .i64 0 = 0 := by decide
theorem fc62_1 : IntKind.wrap .i64 1 = 1 := by decide
theorem fc62_2 : IntKind.wrap .i64 2 = 2 := by decide
theorem fc62_3 : IntKind.wrap .i64 3 = 3 := by decide
theorem fc62_4 : IntKind.wrap .i64 4 = 4 := by decide
theorem s62 : ∀ vs r, g_impl_Vector_mirrored vs = some r → SaysM Try.prog .any 62 vs r := by
  intro vs r h
  unfold g_impl_Vector_mirrored at h
  split at h
  · rename_i y0 y1 y2
    cases h
    refine spec_of (m := .any) (tab := tabOf []) (cp := cp62) (ic := ic62) (rvl := [(.c 2 (some 3))]) hm tabOk_nil Try.func62 rfl rfl rfl (by kernel_rfl) rfl (Nat.le_of_ble_eq_true rfl) (Nat.le_of_ble_eq_true rfl) ?_
    show eA _ _ _ _
    unfold ic62
    simp only [
        grpA, vsliceS, grpS, grpD, grpF, grpL, eop, vop, bop, uop, fltop, convop, endOk, newE, new1, freshL, Md.isNew, outV, pureV, pureX, pure1, AV.cells, AV.one, storable, laid,
              refless, refless1, vload, loadC, storeC, vnil, vfaddr, vextract, flatT, flatE, flatC, vconv, vmm, vidxA, viaddrA, vfield, vlen, elemsOf, dF32, dF64, dI64, dU8, dBool,
              dStr, esOk, elemsS, vsliceX, bnd, ownV, ownC, own1, ownT, isSl, nSl, endL, Md.isOwn, purge, purgeH, purgeB, purgeE, hasName, name1, List.any_cons, List.any_nil,
              Md.isWr, pureV.pureP, Option.map, reduceIte, Nat.reduceEqDiff, Nat.reduceAdd, Nat.reduceMul, Nat.reduceLT, Nat.reduceLeDiff, List.mapM_cons, List.mapM_nil,
              Option.pure_def, Option.bind_eq_bind, Option.bind_some, implies_true, forall_const, beq_self_eq_true, decide_true, decide_false, eq_self, Int.reduceEq, Int.reduceLE,
              Int.reduceLT, if_true, if_false, fc62_0, fc62_1, fc62_2, fc62_3, fc62_4, Int.reduceAdd, Int.reduceSub, Int.reduceMul, Int.reduceNeg, Int.reducePow, Nat.reducePow,
              Int.reduceToNat, Nat.reduceSub, List.replicate, Nat.reduceBEq, wAs, wA, wC, zipW, noDupN, grpE, grpC, en0, dc_en0]
    repeat' (first
      | ((first | (refine eGI_of (fun h => ?_) (fun h => ?_)) | (refine eCc_of (fun h => ?_) (fun h => ?_))) <;> (try simp only [Bool.not_eq_true', Bool.not_eq_false'] at h) <;> simp only [h,
        grpA, vsliceS, grpS, grpD, grpF, grpL, eop, vop, bop, uop, fltop, convop, endOk, newE, new1, freshL, Md.isNew, outV, pureV, pureX, pure1, AV.cells, AV.one, storable, laid,
              refless, refless1, vload, loadC, storeC, vnil, vfaddr, vextract, flatT, flatE, flatC, vconv, vmm, vidxA, viaddrA, vfield, vlen, elemsOf, dF32, dF64, dI64, dU8, dBool,
              dStr, esOk, elemsS, vsliceX, bnd, ownV, ownC, own1, ownT, isSl, nSl, endL, Md.isOwn, purge, purgeH, purgeB, purgeE, hasName, name1, List.any_cons, List.any_nil,
              Md.isWr, pureV.pureP, Option.map, reduceIte, Nat.reduceEqDiff, Nat.reduceAdd, Nat.reduceMul, Nat.reduceLT, Nat.reduceLeDiff, List.mapM_cons, List.mapM_nil,
              Option.pure_def, Option.bind_eq_bind, Option.bind_some, implies_true, forall_const, beq_self_eq_true, decide_true, decide_false, eq_self, Int.reduceEq, Int.reduceLE,
              Int.reduceLT, if_true, if_false, fc62_0, fc62_1, fc62_2, fc62_3, fc62_4, Int.reduceAdd, Int.reduceSub, Int.reduceMul, Int.reduceNeg, Int.reducePow, Nat.reducePow,
              Int.reduceToNat, Nat.reduceSub, List.replicate, Nat.reduceBEq, wAs, wA, wC, zipW, noDupN, grpE, grpC, en0, dc_en0]))
    all_goals (try simp only [*, m_impl_Vector_mirrored, Bool.and_true, Bool.true_and, Bool.and_false, Bool.false_and, Bool.or_true, Bool.true_or, Bool.or_false, Bool.false_or, Bool.not_true, Bool.not_false, Bool.false_eq_true, if_true, if_false, reduceIte, decide_true, decide_false])
    all_goals (try (simp_all; done))
  · cases h
def l_impl_MirrorSkeleton_0 (x0 : (List (Int × Nat × Nat × Nat))) (x1 : (List Int)) : Nat → (List (Int × Nat × Nat × Nat)) → Int → Option (List (Int × Nat × Nat × Nat))
  | 0, _, _ => none
  | n + 1, z0_0, z0_1 => (if (decide (z0_1 < ((List.length x1 : Nat) : Int))) = true then (need (inB z0_1 (List.length x1)) (need (inB (atI x1 z0_1) (List.length x0)) (need (inB
        z0_1 (List.length z0_0)) (l_impl_MirrorSkeleton_0 x0 x1 n (List.set z0_0 (Int.toNat z0_1) ((atI z0_0 z0_1).1, (m_impl_Vector_mirrored (atI x0 (atI x1 z0_1)).2).1,
        (m_impl_Vector_mirrored (atI x0 (atI x1 z0_1)).2).2.1, (m_impl_Vector_mirrored (atI x0 (atI x1 z0_1)).2).2.2)) (IntKind.wrap .i64 (z0_1 + 1)))))) else (some z0_0))
def m_impl_MirrorSkeleton (x0 : (List (Int × Nat × Nat × Nat))) (x1 : (List Int)) : ((List (Int × Nat × Nat × Nat)) × Bool) := (if (m_impl_IsPairing x0 x1) = true then ((Option.getD
      (l_impl_MirrorSkeleton_0 x0 x1 (Int.toNat (((List.length x1 : Nat) : Int) - 0) + 2) (m_impl_Bone x0) 0) default), true) else ([], false))
def p_impl_MirrorSkeleton (x0 : (List (Int × Nat × Nat × Nat))) (x1 : (List Int)) : Bool := ((p_impl_IsPairing x0 x1) && (!(m_impl_IsPairing x0 x1) || ((p_impl_Bone x0) &&
      (Option.isSome (l_impl_MirrorSkeleton_0 x0 x1 (Int.toNat (((List.length x1 : Nat) : Int) - 0) + 2) (m_impl_Bone x0) 0)))))
def g_impl_MirrorSkeleton : List AV → Option AV
  | [.agg [.sl w0], .sl w1] => (match decL dc_en0 w0 with | some y0 => ((match decL dI64 w1 with | some y1 => (if p_impl_MirrorSkeleton y0 y1 = true then some (AV.tup [(AV.agg [(.sl (List.map en0 (m_impl_MirrorSkeleton y0 y1).1))]), (.bool (m_impl_MirrorSkeleton y0 y1).2)]) else none) | none => none)) | none => none)
  | _ => none
def lb19_0 : ICode := (.seq (.reg [⟨(some 21), none, (.bin .lss false (.t 20) (.t 19))⟩] [2, 4, 6, 18, 19, 20, 21]) (.seq (.cond (.t 21) .skip (.exit 0)) (.seq (.block 1 (.seq (.reg
      [⟨(some 22), none, (.mov (.t 20))⟩, ⟨(some 23), none, (.iaddrS 1 (.t 18) (.t 20))⟩, ⟨(some 24), none, (.load none (.t 23))⟩, ⟨(some 7), none, (.mov (.t 22))⟩, ⟨(some 8), none,
      (.mov (.t 24))⟩] [2, 4, 6, 7, 8, 18, 19, 20]) (.reg [⟨(some 25), none, (.faddr 0 (.t 6))⟩, ⟨(some 26), none, (.load none (.t 25))⟩, ⟨(some 27), none, (.mov (.t 7))⟩, ⟨(some
      28), none, (.faddr 0 (.t 2))⟩, ⟨(some 29), none, (.load none (.t 28))⟩, ⟨(some 30), none, (.mov (.t 8))⟩, ⟨(some 31), none, (.iaddrS 4 (.t 29) (.t 30))⟩, ⟨(some 32), none,
      (.faddr 1 (.t 31))⟩, ⟨(some 33), none, (.load (some 3) (.t 32))⟩, ⟨(some 34), none, (.call (.fn 62) [(.t 33)] [])⟩, ⟨(some 35), none, (.iaddrS 4 (.t 26) (.t 27))⟩, ⟨(some 36),
      none, (.faddr 1 (.t 35))⟩, ⟨none, none, (.store 3 (.t 36) (.t 34))⟩] [2, 4, 6, 18, 19, 20]))) (.reg [⟨(some 37), none, (.bin .add false (.t 20) (.c (.int .i64 1)))⟩, ⟨(some
      20), none, (.mov (.t 37))⟩] [2, 4, 6, 18, 19, 20]))))
def ic19 : ICode := (.seq (.reg [⟨(some 2), none, (.box 1 (.t 0))⟩, ⟨(some 4), none, (.alloc (.agg [.snil]))⟩, ⟨(some 5), none, (.mov (.c (.bool false)))⟩] [1, 2, 4]) (.seq (.seq
      (.reg [⟨(some 9), none, (.load (some 1) (.t 2))⟩, ⟨(some 10), none, (.mov (.t 1))⟩, ⟨(some 11), none, (.call (.fn 15) [(.t 9), (.t 10)] [])⟩, ⟨(some 12), none, (.un .not (.t
      11))⟩] [1, 2, 4, 12]) (.cond (.t 12) (.seq (.reg [⟨(some 13), none, (.build [.snil] [])⟩, ⟨none, none, (.store 1 (.t 4) (.t 13))⟩, ⟨(some 5), none, (.mov (.c (.bool false)))⟩]
      [4, 5]) .ret) .skip)) (.seq (.reg [⟨(some 14), none, (.faddr 0 (.t 2))⟩, ⟨(some 15), none, (.load none (.t 14))⟩, ⟨(some 16), none, (.call (.fn 61) [(.t 15)] [4])⟩, ⟨(some
      17), none, (.build [.snil] [(0, 1, (.t 16))])⟩, ⟨(some 6), none, (.alloc (.agg [.snil]))⟩, ⟨none, none, (.store 1 (.t 6) (.t 17))⟩] [1, 2, 4, 6]) (.seq (.seq (.reg [⟨(some
      18), none, (.mov (.t 1))⟩, ⟨(some 19), none, (.len false (.t 18))⟩, ⟨(some 20), none, (.mov (.c (.int .i64 0)))⟩] [2, 4, 6, 18, 19, 20]) (.block 0 (.loop lb19_0))) (.seq (.reg
      [⟨(some 38), none, (.load (some 1) (.t 6))⟩, ⟨none, none, (.store 1 (.t 4) (.t 38))⟩, ⟨(some 5), none, (.mov (.c (.bool true)))⟩] [4, 5]) .ret)))))
def cp19 : CP := CP.mk [(16, [4])] [] [[1, 2, 4], [1, 2, 4, 12], [4, 5], [1, 2, 4, 6], [2, 4, 6, 18, 19, 20], [2, 4, 6, 18, 19, 20, 21], [2, 4, 6, 7, 8, 18, 19, 20], [2, 4, 6, 18,
      19, 20], [2, 4, 6, 18, 19, 20], [4, 5]] 39 [] []
theorem fc19_0 : IntKind.wrap .i64 0 = 0 := by decide
theorem fc19_1 : IntKind.wrap .i64 1 = 1 := by decide
theorem fc19_2 : IntKind.wrap .i64 2 = 2 := by decide
theorem fc19_3 : IntKind.wrap .i64 3 = 3 := by decide
theorem fc19_4 : IntKind.wrap .i64 4 = 4 := by decide
theorem sl19_0 (x0 : (List (Int × Nat × Nat × Nat))) (x1 : (List Int)) : ∀ (n : Nat) (z0_0 : (List (Int × Nat × Nat × Nat))) (z0_1 : Int) (o : (List (Int × Nat × Nat × Nat))) (K :
      IExit → St → Prop), l_impl_MirrorSkeleton_0 x0 x1 n z0_0 z0_1 = some o → (∀ st, Wk st (⟨[(4, (.lptr 4 0 0)), (6, (.lptr 6 0 0))], [(4, (some ⟨1, false, [(AV.agg [.snil])]⟩)),
      (6, (some ⟨1, false, [(AV.agg [(.lsl 16 0 (List.length o))])]⟩)), (16, (some ⟨4, true, (List.map en0 o)⟩))]⟩ : St) → K (.exit 0) st) → eA (tabOf [(15, wM .any
      g_impl_IsPairing), (61, wM (.own [4]) g_impl_Bone), (62, wM .any g_impl_Vector_mirrored)]) (.loop lb19_0) (⟨[(2, (.lptr 2 0 0)), (4, (.lptr 4 0 0)), (6, (.lptr 6 0 0)), (18,
      (.sl (List.map (AV.int .i64) x1))), (19, (.int .i64 ((List.length x1 : Nat) : Int))), (20, (.int .i64 z0_1))], [(2, (some ⟨1, false, [(AV.agg [(.sl (List.map en0 x0))])]⟩)),
      (4, (some ⟨1, false, [(AV.agg [.snil])]⟩)), (6, (some ⟨1, false, [(AV.agg [(.lsl 16 0 (List.length z0_0))])]⟩)), (16, (some ⟨4, true, (List.map en0 z0_0)⟩))]⟩ : St) K := by
  intro n
  induction n with
  | zero =>
    intro z0_0 z0_1 o K h h0
    simp only [l_impl_MirrorSkeleton_0, reduceCtorEq] at h
  | succ n ih =>
    intro z0_0 z0_1 o K h h0
    refine eA_loop ?_
    unfold lb19_0
    unfold l_impl_MirrorSkeleton_0 at h
    (try simp only [need_iff] at h)
    simp only [
      need_iff, h, grpA, vsliceS, grpS, grpD, grpF, grpL, eop, vop, bop, uop, fltop, convop, endOk, newE, new1, freshL, Md.isNew, outV, pureV, pureX, pure1, AV.cells, AV.one,
            storable, laid, refless, refless1, vload, loadC, storeC, vnil, vfaddr, vextract, flatT, flatE, flatC, vconv, vmm, vidxA, viaddrA, vfield, vlen, elemsOf, dF32, dF64,
            dI64, dU8, dBool, dStr, esOk, elemsS, vsliceX, bnd, ownV, ownC, own1, ownT, isSl, nSl, endL, Md.isOwn, purge, purgeH, purgeB, purgeE, hasName, name1, List.any_cons,
            List.any_nil, Md.isWr, pureV.pureP, Option.map, reduceIte, Nat.reduceEqDiff, Nat.reduceAdd, Nat.reduceMul, Nat.reduceLT, Nat.reduceLeDiff, List.mapM_cons, List.mapM_nil,
            Option.pure_def, Option.bind_eq_bind, Option.bind_some, implies_true, forall_const, beq_self_eq_true, decide_true, decide_false, eq_self, Int.reduceEq, Int.reduceLE,
            Int.reduceLT, if_true, if_false, fc19_0, fc19_1, fc19_2, fc19_3, fc19_4, Int.reduceAdd, Int.reduceSub, Int.reduceMul, Int.reduceNeg, Int.reducePow, Nat.reducePow,
            Int.reduceToNat, Nat.reduceSub, List.replicate, Nat.reduceBEq, wAs, wA, wC, zipW, noDupN, grpE, g_impl_IsPairing, g_impl_Bone, g_impl_Vector_mirrored, grpC, en0, dc_en0]
    repeat' (first
      | ((first | (refine eGI_of (fun hc => ?_) (fun hc => ?_)) | (refine eCc_of (fun hc => ?_) (fun hc => ?_)) | (have hc := True.intro; refine KW_refl ?_)) <;> (try simp only [Bool.not_eq_true', Bool.not_eq_false'] at hc) <;> (try simp only [hc, need_iff, reduceCtorEq, Bool.not_eq_true', decide_eq_false_iff_not, Bool.not_true, Bool.not_false, Bool.false_or, Bool.true_or, Bool.true_and, Bool.false_and, Bool.and_eq_true, Bool.or_eq_true, if_true, if_false, reduceIte, Bool.false_eq_true, and_true, true_and, false_or, or_false, decide_eq_true_eq, not_false_eq_true, not_true_eq_false] at h) <;> (try (have hc2 := hc; simp only [decide_eq_true_eq, decide_eq_false_iff_not] at hc2; (first | (replace hc2 := eq_false hc2) | (replace hc2 := eq_true hc2)); simp only [hc2, if_true, if_false, need_iff, reduceCtorEq, Bool.not_eq_true', decide_eq_false_iff_not, Bool.not_true, Bool.not_false, Bool.false_or, Bool.true_or, Bool.true_and, Bool.false_and, Bool.and_eq_true, Bool.or_eq_true, if_true, if_false, reduceIte, Bool.false_eq_true, and_true, true_and, false_or, or_false, decide_eq_true_eq, not_false_eq_true, not_true_eq_false] at h)) <;> simp only [hc,
      need_iff, h, grpA, vsliceS, grpS, grpD, grpF, grpL, eop, vop, bop, uop, fltop, convop, endOk, newE, new1, freshL, Md.isNew, outV, pureV, pureX, pure1, AV.cells, AV.one,
            storable, laid, refless, refless1, vload, loadC, storeC, vnil, vfaddr, vextract, flatT, flatE, flatC, vconv, vmm, vidxA, viaddrA, vfield, vlen, elemsOf, dF32, dF64,
            dI64, dU8, dBool, dStr, esOk, elemsS, vsliceX, bnd, ownV, ownC, own1, ownT, isSl, nSl, endL, Md.isOwn, purge, purgeH, purgeB, purgeE, hasName, name1, List.any_cons,
            List.any_nil, Md.isWr, pureV.pureP, Option.map, reduceIte, Nat.reduceEqDiff, Nat.reduceAdd, Nat.reduceMul, Nat.reduceLT, Nat.reduceLeDiff, List.mapM_cons, List.mapM_nil,
            Option.pure_def, Option.bind_eq_bind, Option.bind_some, implies_true, forall_const, beq_self_eq_true, decide_true, decide_false, eq_self, Int.reduceEq, Int.reduceLE,
            Int.reduceLT, if_true, if_false, fc19_0, fc19_1, fc19_2, fc19_3, fc19_4, Int.reduceAdd, Int.reduceSub, Int.reduceMul, Int.reduceNeg, Int.reducePow, Nat.reducePow,
            Int.reduceToNat, Nat.reduceSub, List.replicate, Nat.reduceBEq, wAs, wA, wC, zipW, noDupN, grpE, g_impl_IsPairing, g_impl_Bone, g_impl_Vector_mirrored, grpC, en0, dc_en0]))
    all_goals (repeat (replace h := And.right h))
    all_goals first
      | (refine eA_wk (wk_norm (ks := [2, 4, 6, 18, 19, 20]) (ls := [2, 4, 6, 16]) ?_) (eA_cast ?_ (ih _ _ _ _ h h0)); (simp only [normOk, optIn, blkIn, nameIn,
      need_iff, h, grpA, vsliceS, grpS, grpD, grpF, grpL, eop, vop, bop, uop, fltop, convop, endOk, newE, new1, freshL, Md.isNew, outV, pureV, pureX, pure1, AV.cells, AV.one,
            storable, laid, refless, refless1, vload, loadC, storeC, vnil, vfaddr, vextract, flatT, flatE, flatC, vconv, vmm, vidxA, viaddrA, vfield, vlen, elemsOf, dF32, dF64,
            dI64, dU8, dBool, dStr, esOk, elemsS, vsliceX, bnd, ownV, ownC, own1, ownT, isSl, nSl, endL, Md.isOwn, purge, purgeH, purgeB, purgeE, hasName, name1, List.any_cons,
            List.any_nil, Md.isWr, pureV.pureP, Option.map, reduceIte, Nat.reduceEqDiff, Nat.reduceAdd, Nat.reduceMul, Nat.reduceLT, Nat.reduceLeDiff, List.mapM_cons, List.mapM_nil,
            Option.pure_def, Option.bind_eq_bind, Option.bind_some, implies_true, forall_const, beq_self_eq_true, decide_true, decide_false, eq_self, Int.reduceEq, Int.reduceLE,
            Int.reduceLT, if_true, if_false, fc19_0, fc19_1, fc19_2, fc19_3, fc19_4, Int.reduceAdd, Int.reduceSub, Int.reduceMul, Int.reduceNeg, Int.reducePow, Nat.reducePow,
            Int.reduceToNat, Nat.reduceSub, List.replicate, Nat.reduceBEq, wAs, wA, wC, zipW, noDupN, grpE, g_impl_IsPairing, g_impl_Bone, g_impl_Vector_mirrored, grpC, en0, dc_en0] <;> rfl); (simp only [normS, List.map_append, List.length_append, List.map_set, List.length_set, List.map_replicate, List.length_replicate, List.map_nil, List.map_cons,
      need_iff, h, grpA, vsliceS, grpS, grpD, grpF, grpL, eop, vop, bop, uop, fltop, convop, endOk, newE, new1, freshL, Md.isNew, outV, pureV, pureX, pure1, AV.cells, AV.one,
            storable, laid, refless, refless1, vload, loadC, storeC, vnil, vfaddr, vextract, flatT, flatE, flatC, vconv, vmm, vidxA, viaddrA, vfield, vlen, elemsOf, dF32, dF64,
            dI64, dU8, dBool, dStr, esOk, elemsS, vsliceX, bnd, ownV, ownC, own1, ownT, isSl, nSl, endL, Md.isOwn, purge, purgeH, purgeB, purgeE, hasName, name1, List.any_cons,
            List.any_nil, Md.isWr, pureV.pureP, Option.map, reduceIte, Nat.reduceEqDiff, Nat.reduceAdd, Nat.reduceMul, Nat.reduceLT, Nat.reduceLeDiff, List.mapM_cons, List.mapM_nil,
            Option.pure_def, Option.bind_eq_bind, Option.bind_some, implies_true, forall_const, beq_self_eq_true, decide_true, decide_false, eq_self, Int.reduceEq, Int.reduceLE,
            Int.reduceLT, if_true, if_false, fc19_0, fc19_1, fc19_2, fc19_3, fc19_4, Int.reduceAdd, Int.reduceSub, Int.reduceMul, Int.reduceNeg, Int.reducePow, Nat.reducePow,
            Int.reduceToNat, Nat.reduceSub, List.replicate, Nat.reduceBEq, wAs, wA, wC, zipW, noDupN, grpE, g_impl_IsPairing, g_impl_Bone, g_impl_Vector_mirrored, grpC, en0, dc_en0] <;> first | rfl | (simp only [Nat.add_comm]; done)))
      | (cases h; refine h0 _ (Wk.cast (wk_norm (ks := [4, 6]) (ls := [4, 6, 16]) ?_) ?_); (simp only [normOk, optIn, blkIn, nameIn,
      grpA, vsliceS, grpS, grpD, grpF, grpL, eop, vop, bop, uop, fltop, convop, endOk, newE, new1, freshL, Md.isNew, outV, pureV, pureX, pure1, AV.cells, AV.one, storable, laid,
            refless, refless1, vload, loadC, storeC, vnil, vfaddr, vextract, flatT, flatE, flatC, vconv, vmm, vidxA, viaddrA, vfield, vlen, elemsOf, dF32, dF64, dI64, dU8, dBool,
            dStr, esOk, elemsS, vsliceX, bnd, ownV, ownC, own1, ownT, isSl, nSl, endL, Md.isOwn, purge, purgeH, purgeB, purgeE, hasName, name1, List.any_cons, List.any_nil, Md.isWr,
            pureV.pureP, Option.map, reduceIte, Nat.reduceEqDiff, Nat.reduceAdd, Nat.reduceMul, Nat.reduceLT, Nat.reduceLeDiff, List.mapM_cons, List.mapM_nil, Option.pure_def,
            Option.bind_eq_bind, Option.bind_some, implies_true, forall_const, beq_self_eq_true, decide_true, decide_false, eq_self, Int.reduceEq, Int.reduceLE, Int.reduceLT,
            if_true, if_false, fc19_0, fc19_1, fc19_2, fc19_3, fc19_4, Int.reduceAdd, Int.reduceSub, Int.reduceMul, Int.reduceNeg, Int.reducePow, Nat.reducePow, Int.reduceToNat,
            Nat.reduceSub, List.replicate, Nat.reduceBEq, wAs, wA, wC, zipW, noDupN, grpE, g_impl_IsPairing, g_impl_Bone, g_impl_Vector_mirrored, grpC, en0, dc_en0] <;> rfl); (simp only [normS, List.map_append, List.length_append, List.map_set, List.length_set, List.map_replicate, List.length_replicate,
      grpA, vsliceS, grpS, grpD, grpF, grpL, eop, vop, bop, uop, fltop, convop, endOk, newE, new1, freshL, Md.isNew, outV, pureV, pureX, pure1, AV.cells, AV.one, storable, laid,
            refless, refless1, vload, loadC, storeC, vnil, vfaddr, vextract, flatT, flatE, flatC, vconv, vmm, vidxA, viaddrA, vfield, vlen, elemsOf, dF32, dF64, dI64, dU8, dBool,
            dStr, esOk, elemsS, vsliceX, bnd, ownV, ownC, own1, ownT, isSl, nSl, endL, Md.isOwn, purge, purgeH, purgeB, purgeE, hasName, name1, List.any_cons, List.any_nil, Md.isWr,
            pureV.pureP, Option.map, reduceIte, Nat.reduceEqDiff, Nat.reduceAdd, Nat.reduceMul, Nat.reduceLT, Nat.reduceLeDiff, List.mapM_cons, List.mapM_nil, Option.pure_def,
            Option.bind_eq_bind, Option.bind_some, implies_true, forall_const, beq_self_eq_true, decide_true, decide_false, eq_self, Int.reduceEq, Int.reduceLE, Int.reduceLT,
            if_true, if_false, fc19_0, fc19_1, fc19_2, fc19_3, fc19_4, Int.reduceAdd, Int.reduceSub, Int.reduceMul, Int.reduceNeg, Int.reducePow, Nat.reducePow, Int.reduceToNat,
            Nat.reduceSub, List.replicate, Nat.reduceBEq, wAs, wA, wC, zipW, noDupN, grpE, g_impl_IsPairing, g_impl_Bone, g_impl_Vector_mirrored, grpC, en0, dc_en0] <;> first | rfl | (simp only [Nat.add_comm]; done)))
theorem s19 : ∀ vs r, g_impl_MirrorSkeleton vs = some r → SaysM Try.prog (.own [4]) 19 vs r := by
  intro vs r h
  unfold g_impl_MirrorSkeleton at h
  split at h
  · rename_i w0 w1
    cases hd_y0 : decL dc_en0 w0 with
    | none => rw [hd_y0] at h; cases h
    | some y0 =>
    rw [hd_y0] at h
    obtain rfl := decL_inv dc_en0_inv hd_y0
    clear hd_y0
    dsimp only at h
    cases hd_y1 : decL dI64 w1 with
    | none => rw [hd_y1] at h; cases h
    | some y1 =>
    rw [hd_y1] at h
    obtain rfl := decL_inv dI64_inv hd_y1
    clear hd_y1
    dsimp only at h
    split at h
    · rename_i hp
      cases h
      refine spec_of (m := (.own [4])) (tab := tabOf [(15, wM .any g_impl_IsPairing), (61, wM (.own [4]) g_impl_Bone), (62, wM .any g_impl_Vector_mirrored)]) (cp := cp19) (ic := ic19) (rvl := [(.c 4 (some 1)), (.t 5)]) hm (tabOk_cons (m := .any) s15 (tabOk_cons (m := (.own [4])) s61 (tabOk_cons (m := .any) s62 tabOk_nil))) Try.func19 rfl rfl rfl (by kernel_rfl) rfl (Nat.le_of_ble_eq_true rfl) (Nat.le_of_ble_eq_true rfl) ?_
      show eA _ _ _ _
      unfold ic19
      simp only [p_impl_MirrorSkeleton, Bool.and_eq_true, Bool.or_eq_true, decide_eq_true_eq, Bool.not_eq_true', decide_eq_false_iff_not] at hp
      simp only [
          hp, grpA, vsliceS, grpS, grpD, grpF, grpL, eop, vop, bop, uop, fltop, convop, endOk, newE, new1, freshL, Md.isNew, outV, pureV, pureX, pure1, AV.cells, AV.one, storable,
                laid, refless, refless1, vload, loadC, storeC, vnil, vfaddr, vextract, flatT, flatE, flatC, vconv, vmm, vidxA, viaddrA, vfield, vlen, elemsOf, dF32, dF64, dI64, dU8,
                dBool, dStr, esOk, elemsS, vsliceX, bnd, ownV, ownC, own1, ownT, isSl, nSl, endL, Md.isOwn, purge, purgeH, purgeB, purgeE, hasName, name1, List.any_cons,
                List.any_nil, Md.isWr, pureV.pureP, Option.map, reduceIte, Nat.reduceEqDiff, Nat.reduceAdd, Nat.reduceMul, Nat.reduceLT, Nat.reduceLeDiff, List.mapM_cons,
                List.mapM_nil, Option.pure_def, Option.bind_eq_bind, Option.bind_some, implies_true, forall_const, beq_self_eq_true, decide_true, decide_false, eq_self,
                Int.reduceEq, Int.reduceLE, Int.reduceLT, if_true, if_false, fc19_0, fc19_1, fc19_2, fc19_3, fc19_4, Int.reduceAdd, Int.reduceSub, Int.reduceMul, Int.reduceNeg,
                Int.reducePow, Nat.reducePow, Int.reduceToNat, Nat.reduceSub, List.replicate, Nat.reduceBEq, wAs, wA, wC, zipW, noDupN, grpE, g_impl_IsPairing, g_impl_Bone,
                g_impl_Vector_mirrored, grpC, en0, dc_en0]
      repeat' (first
        | ((first | (refine eGI_of (fun h => ?_) (fun h => ?_)) | (refine eCc_of (fun h => ?_) (fun h => ?_)) | (have h := True.intro; refine KW_refl ?_)) <;> (try simp only [Bool.not_eq_true', Bool.not_eq_false'] at h) <;> (try simp only [h, reduceCtorEq, Bool.not_eq_true', decide_eq_false_iff_not, Bool.not_true, Bool.not_false, Bool.false_or, Bool.true_or, Bool.true_and, Bool.false_and, Bool.and_eq_true, Bool.or_eq_true, if_true, if_false, reduceIte, Bool.false_eq_true, and_true, true_and, false_or, or_false, decide_eq_true_eq, not_false_eq_true, not_true_eq_false] at hp) <;> (try (have h2 := h; simp only [decide_eq_true_eq, decide_eq_false_iff_not] at h2; (first | (replace h2 := eq_false h2) | (replace h2 := eq_true h2)); simp only [h2, if_true, if_false, false_or, true_or, or_true, or_false, and_true, true_and, not_false_eq_true, not_true_eq_false] at hp)) <;> simp only [h,
          hp, grpA, vsliceS, grpS, grpD, grpF, grpL, eop, vop, bop, uop, fltop, convop, endOk, newE, new1, freshL, Md.isNew, outV, pureV, pureX, pure1, AV.cells, AV.one, storable,
                laid, refless, refless1, vload, loadC, storeC, vnil, vfaddr, vextract, flatT, flatE, flatC, vconv, vmm, vidxA, viaddrA, vfield, vlen, elemsOf, dF32, dF64, dI64, dU8,
                dBool, dStr, esOk, elemsS, vsliceX, bnd, ownV, ownC, own1, ownT, isSl, nSl, endL, Md.isOwn, purge, purgeH, purgeB, purgeE, hasName, name1, List.any_cons,
                List.any_nil, Md.isWr, pureV.pureP, Option.map, reduceIte, Nat.reduceEqDiff, Nat.reduceAdd, Nat.reduceMul, Nat.reduceLT, Nat.reduceLeDiff, List.mapM_cons,
                List.mapM_nil, Option.pure_def, Option.bind_eq_bind, Option.bind_some, implies_true, forall_const, beq_self_eq_true, decide_true, decide_false, eq_self,
                Int.reduceEq, Int.reduceLE, Int.reduceLT, if_true, if_false, fc19_0, fc19_1, fc19_2, fc19_3, fc19_4, Int.reduceAdd, Int.reduceSub, Int.reduceMul, Int.reduceNeg,
                Int.reducePow, Nat.reducePow, Int.reduceToNat, Nat.reduceSub, List.replicate, Nat.reduceBEq, wAs, wA, wC, zipW, noDupN, grpE, g_impl_IsPairing, g_impl_Bone,
                g_impl_Vector_mirrored, grpC, en0, dc_en0])
        | (refine eA_wk (wk_norm (ks := [2, 4, 6, 18, 19, 20]) (ls := [2, 4, 6, 16]) ?_) (eA_cast ?_ (sl19_0 y0 y1 _ _ _ _ _ (getD_some (d := default) (x := (l_impl_MirrorSkeleton_0 y0 y1 (Int.toNat (((List.length y1 : Nat) : Int) - 0) + 2) (m_impl_Bone y0) 0)) ?_) ?_)); (simp only [nilS, nilV, normOk, optIn, blkIn, nameIn, 
          hp, grpA, vsliceS, grpS, grpD, grpF, grpL, eop, vop, bop, uop, fltop, convop, endOk, newE, new1, freshL, Md.isNew, outV, pureV, pureX, pure1, AV.cells, AV.one, storable,
                laid, refless, refless1, vload, loadC, storeC, vnil, vfaddr, vextract, flatT, flatE, flatC, vconv, vmm, vidxA, viaddrA, vfield, vlen, elemsOf, dF32, dF64, dI64, dU8,
                dBool, dStr, esOk, elemsS, vsliceX, bnd, ownV, ownC, own1, ownT, isSl, nSl, endL, Md.isOwn, purge, purgeH, purgeB, purgeE, hasName, name1, List.any_cons,
                List.any_nil, Md.isWr, pureV.pureP, Option.map, reduceIte, Nat.reduceEqDiff, Nat.reduceAdd, Nat.reduceMul, Nat.reduceLT, Nat.reduceLeDiff, List.mapM_cons,
                List.mapM_nil, Option.pure_def, Option.bind_eq_bind, Option.bind_some, implies_true, forall_const, beq_self_eq_true, decide_true, decide_false, eq_self,
                Int.reduceEq, Int.reduceLE, Int.reduceLT, if_true, if_false, fc19_0, fc19_1, fc19_2, fc19_3, fc19_4, Int.reduceAdd, Int.reduceSub, Int.reduceMul, Int.reduceNeg,
                Int.reducePow, Nat.reducePow, Int.reduceToNat, Nat.reduceSub, List.replicate, Nat.reduceBEq, wAs, wA, wC, zipW, noDupN, grpE, g_impl_IsPairing, g_impl_Bone,
                g_impl_Vector_mirrored, grpC, en0, dc_en0] <;> rfl); (simp only [nilS, nilV, normS,  List.map_append, List.length_append, List.map_set, List.length_set, List.map_replicate, List.length_replicate, List.map_nil, List.map_cons,
          hp, grpA, vsliceS, grpS, grpD, grpF, grpL, eop, vop, bop, uop, fltop, convop, endOk, newE, new1, freshL, Md.isNew, outV, pureV, pureX, pure1, AV.cells, AV.one, storable,
                laid, refless, refless1, vload, loadC, storeC, vnil, vfaddr, vextract, flatT, flatE, flatC, vconv, vmm, vidxA, viaddrA, vfield, vlen, elemsOf, dF32, dF64, dI64, dU8,
                dBool, dStr, esOk, elemsS, vsliceX, bnd, ownV, ownC, own1, ownT, isSl, nSl, endL, Md.isOwn, purge, purgeH, purgeB, purgeE, hasName, name1, List.any_cons,
                List.any_nil, Md.isWr, pureV.pureP, Option.map, reduceIte, Nat.reduceEqDiff, Nat.reduceAdd, Nat.reduceMul, Nat.reduceLT, Nat.reduceLeDiff, List.mapM_cons,
                List.mapM_nil, Option.pure_def, Option.bind_eq_bind, Option.bind_some, implies_true, forall_const, beq_self_eq_true, decide_true, decide_false, eq_self,
                Int.reduceEq, Int.reduceLE, Int.reduceLT, if_true, if_false, fc19_0, fc19_1, fc19_2, fc19_3, fc19_4, Int.reduceAdd, Int.reduceSub, Int.reduceMul, Int.reduceNeg,
                Int.reducePow, Nat.reducePow, Int.reduceToNat, Nat.reduceSub, List.replicate, Nat.reduceBEq, wAs, wA, wC, zipW, noDupN, grpE, g_impl_IsPairing, g_impl_Bone,
                g_impl_Vector_mirrored, grpC, en0, dc_en0] <;> first | rfl | (simp only [Nat.add_comm]; done)); (simp only [hp]); (
        intro st2 hw; (try simp only [reduceCtorEq, Bool.not_eq_true', decide_eq_false_iff_not, Bool.not_true, Bool.not_false, Bool.false_or, Bool.true_or, Bool.true_and, Bool.false_and, Bool.and_eq_true, Bool.or_eq_true, if_true, if_false, reduceIte, Bool.false_eq_true, and_true, true_and, false_or, or_false, decide_eq_true_eq, not_false_eq_true, not_true_eq_false] at hp); simp only [
          hp, grpA, vsliceS, grpS, grpD, grpF, grpL, eop, vop, bop, uop, fltop, convop, endOk, newE, new1, freshL, Md.isNew, outV, pureV, pureX, pure1, AV.cells, AV.one, storable,
                laid, refless, refless1, vload, loadC, storeC, vnil, vfaddr, vextract, flatT, flatE, flatC, vconv, vmm, vidxA, viaddrA, vfield, vlen, elemsOf, dF32, dF64, dI64, dU8,
                dBool, dStr, esOk, elemsS, vsliceX, bnd, ownV, ownC, own1, ownT, isSl, nSl, endL, Md.isOwn, purge, purgeH, purgeB, purgeE, hasName, name1, List.any_cons,
                List.any_nil, Md.isWr, pureV.pureP, Option.map, reduceIte, Nat.reduceEqDiff, Nat.reduceAdd, Nat.reduceMul, Nat.reduceLT, Nat.reduceLeDiff, List.mapM_cons,
                List.mapM_nil, Option.pure_def, Option.bind_eq_bind, Option.bind_some, implies_true, forall_const, beq_self_eq_true, decide_true, decide_false, eq_self,
                Int.reduceEq, Int.reduceLE, Int.reduceLT, if_true, if_false, fc19_0, fc19_1, fc19_2, fc19_3, fc19_4, Int.reduceAdd, Int.reduceSub, Int.reduceMul, Int.reduceNeg,
                Int.reducePow, Nat.reducePow, Int.reduceToNat, Nat.reduceSub, List.replicate, Nat.reduceBEq, wAs, wA, wC, zipW, noDupN, grpE, g_impl_IsPairing, g_impl_Bone,
                g_impl_Vector_mirrored, grpC, en0, dc_en0]; refine KW_of hw ?_; simp only [
          hp, grpA, vsliceS, grpS, grpD, grpF, grpL, eop, vop, bop, uop, fltop, convop, endOk, newE, new1, freshL, Md.isNew, outV, pureV, pureX, pure1, AV.cells, AV.one, storable,
                laid, refless, refless1, vload, loadC, storeC, vnil, vfaddr, vextract, flatT, flatE, flatC, vconv, vmm, vidxA, viaddrA, vfield, vlen, elemsOf, dF32, dF64, dI64, dU8,
                dBool, dStr, esOk, elemsS, vsliceX, bnd, ownV, ownC, own1, ownT, isSl, nSl, endL, Md.isOwn, purge, purgeH, purgeB, purgeE, hasName, name1, List.any_cons,
                List.any_nil, Md.isWr, pureV.pureP, Option.map, reduceIte, Nat.reduceEqDiff, Nat.reduceAdd, Nat.reduceMul, Nat.reduceLT, Nat.reduceLeDiff, List.mapM_cons,
                List.mapM_nil, Option.pure_def, Option.bind_eq_bind, Option.bind_some, implies_true, forall_const, beq_self_eq_true, decide_true, decide_false, eq_self,
                Int.reduceEq, Int.reduceLE, Int.reduceLT, if_true, if_false, fc19_0, fc19_1, fc19_2, fc19_3, fc19_4, Int.reduceAdd, Int.reduceSub, Int.reduceMul, Int.reduceNeg,
                Int.reducePow, Nat.reducePow, Int.reduceToNat, Nat.reduceSub, List.replicate, Nat.reduceBEq, wAs, wA, wC, zipW, noDupN, grpE, g_impl_IsPairing, g_impl_Bone,
                g_impl_Vector_mirrored, grpC, en0, dc_en0])))
      all_goals (try simp only [*, m_impl_MirrorSkeleton, Bool.and_true, Bool.true_and, Bool.and_false, Bool.false_and, Bool.or_true, Bool.true_or, Bool.or_false, Bool.false_or, Bool.not_true, Bool.not_false, Bool.false_eq_true, if_true, if_false, reduceIte, decide_true, decide_false])
      all_goals (try (simp_all; done))
    · cases h
  · cases h
def m_laws_sameFloat (x0 : Nat) (x1 : Nat) : Bool := (if (feq .f64 x0 x0) = true then (if (feq .f64 x1 x1) = true then (if (feq .f64 x0 0) = true then (if (feq .f64 x1 0) = true
      then ((flt .f64 0 (fdiv .f64 4607182418800017408 x0)) == (flt .f64 0 (fdiv .f64 4607182418800017408 x1))) else (feq .f64 x0 x1)) else (feq .f64 x0 x1)) else false) else (!(feq
      .f64 x1 x1)))
def g_laws_sameFloat : List AV → Option AV
  | [.flt .f64 y0, .flt .f64 y1] => some (.bool (m_laws_sameFloat y0 y1))
  | _ => none
def ic92 : ICode := (.seq (.reg [⟨(some 4), none, (.mov (.c (.bool false)))⟩] [0, 1]) (.seq (.seq (.reg [⟨(some 5), none, (.mov (.t 0))⟩, ⟨(some 6), none, (.mov (.t 0))⟩, ⟨(some 7),
      none, (.bin .neq false (.t 5) (.t 6))⟩, ⟨(some 8), none, (.mov (.t 7))⟩, ⟨(some 9), (some (8, false)), (.mov (.t 1))⟩, ⟨(some 10), (some (8, false)), (.mov (.t 1))⟩, ⟨(some
      11), (some (8, false)), (.bin .neq false (.t 9) (.t 10))⟩, ⟨(some 12), none, (.pick (.t 8) (.c (.bool true)) (.t 11))⟩] [0, 1, 12]) (.cond (.t 12) (.seq (.reg [⟨(some 13),
      none, (.mov (.t 0))⟩, ⟨(some 14), none, (.mov (.t 0))⟩, ⟨(some 15), none, (.bin .neq false (.t 13) (.t 14))⟩, ⟨(some 16), none, (.mov (.t 15))⟩, ⟨(some 17), (some (16, true)),
      (.mov (.t 1))⟩, ⟨(some 18), (some (16, true)), (.mov (.t 1))⟩, ⟨(some 19), (some (16, true)), (.bin .neq false (.t 17) (.t 18))⟩, ⟨(some 20), none, (.pick (.t 16) (.t 19) (.c
      (.bool false)))⟩, ⟨(some 4), none, (.mov (.t 20))⟩] [4]) .ret) .skip)) (.seq (.seq (.reg [⟨(some 21), none, (.mov (.t 0))⟩, ⟨(some 22), none, (.bin .eql false (.t 21) (.c
      (.flt .f64 0)))⟩, ⟨(some 23), none, (.mov (.t 22))⟩, ⟨(some 24), (some (23, true)), (.mov (.t 1))⟩, ⟨(some 25), (some (23, true)), (.bin .eql false (.t 24) (.c (.flt .f64
      0)))⟩, ⟨(some 26), none, (.pick (.t 23) (.t 25) (.c (.bool false)))⟩] [0, 1, 26]) (.cond (.t 26) (.seq (.reg [⟨(some 27), none, (.mov (.t 0))⟩, ⟨(some 28), none, (.bin .quo
      false (.c (.flt .f64 4607182418800017408)) (.t 27))⟩, ⟨(some 29), none, (.bin .gtr false (.t 28) (.c (.flt .f64 0)))⟩, ⟨(some 30), none, (.mov (.t 1))⟩, ⟨(some 31), none,
      (.bin .quo false (.c (.flt .f64 4607182418800017408)) (.t 30))⟩, ⟨(some 32), none, (.bin .gtr false (.t 31) (.c (.flt .f64 0)))⟩, ⟨(some 33), none, (.bin .eql true (.t 29) (.t
      32))⟩, ⟨(some 4), none, (.mov (.t 33))⟩] [4]) .ret) .skip)) (.seq (.reg [⟨(some 34), none, (.mov (.t 0))⟩, ⟨(some 35), none, (.mov (.t 1))⟩, ⟨(some 36), none, (.bin .eql false
      (.t 34) (.t 35))⟩, ⟨(some 4), none, (.mov (.t 36))⟩] [4]) .ret))))
def cp92 : CP := CP.mk [] [] [[0, 1], [0, 1, 12], [4], [0, 1, 26], [4], [4]] 37 [] []
theorem fc92_0 : IntKind.wrap .i64 0 = 0 := by decide
theorem fc92_1 : IntKind.wrap .i64 1 = 1 := by decide
theorem fc92_2 : IntKind.wrap .i64 2 = 2 := by decide
theorem fc92_3 : IntKind.wrap .i64 3 = 3 := by decide
theorem fc92_4 : IntKind.wrap .i64 4 = 4 := by decide
theorem s92 : ∀ vs r, g_laws_sameFloat vs = some r → SaysM Try.prog .any 92 vs r := by
  intro vs r h
  unfold g_laws_sameFloat at h
  split at h
  · rename_i y0 y1
    cases h
    refine spec_of (m := .any) (tab := tabOf []) (cp := cp92) (ic := ic92) (rvl := [(.t 4)]) hm tabOk_nil Try.func92 rfl rfl rfl (by kernel_rfl) rfl (Nat.le_of_ble_eq_true rfl) (Nat.le_of_ble_eq_true rfl) ?_
    show eA _ _ _ _
    unfold ic92
    simp only [
        grpA, vsliceS, grpS, grpD, grpF, grpL, eop, vop, bop, uop, fltop, convop, endOk, newE, new1, freshL, Md.isNew, outV, pureV, pureX, pure1, AV.cells, AV.one, storable, laid,
              refless, refless1, vload, loadC, storeC, vnil, vfaddr, vextract, flatT, flatE, flatC, vconv, vmm, vidxA, viaddrA, vfield, vlen, elemsOf, dF32, dF64, dI64, dU8, dBool,
              dStr, esOk, elemsS, vsliceX, bnd, ownV, ownC, own1, ownT, isSl, nSl, endL, Md.isOwn, purge, purgeH, purgeB, purgeE, hasName, name1, List.any_cons, List.any_nil,
              Md.isWr, pureV.pureP, Option.map, reduceIte, Nat.reduceEqDiff, Nat.reduceAdd, Nat.reduceMul, Nat.reduceLT, Nat.reduceLeDiff, List.mapM_cons, List.mapM_nil,
              Option.pure_def, Option.bind_eq_bind, Option.bind_some, implies_true, forall_const, beq_self_eq_true, decide_true, decide_false, eq_self, Int.reduceEq, Int.reduceLE,
              Int.reduceLT, if_true, if_false, fc92_0, fc92_1, fc92_2, fc92_3, fc92_4, Int.reduceAdd, Int.reduceSub, Int.reduceMul, Int.reduceNeg, Int.reducePow, Nat.reducePow,
              Int.reduceToNat, Nat.reduceSub, List.replicate, Nat.reduceBEq, wAs, wA, wC, zipW, noDupN, grpE, grpC, en0, dc_en0, ↓b_pick, ePk_true, ePk_false]
    repeat' (first
      | ((first | (refine eGI_of (fun h => ?_) (fun h => ?_)) | (refine eCc_of (fun h => ?_) (fun h => ?_)) | (refine ePk_of (fun h => ?_) (fun h => ?_))) <;> (try simp only [Bool.not_eq_true', Bool.not_eq_false'] at h) <;> simp only [h,
        grpA, vsliceS, grpS, grpD, grpF, grpL, eop, vop, bop, uop, fltop, convop, endOk, newE, new1, freshL, Md.isNew, outV, pureV, pureX, pure1, AV.cells, AV.one, storable, laid,
              refless, refless1, vload, loadC, storeC, vnil, vfaddr, vextract, flatT, flatE, flatC, vconv, vmm, vidxA, viaddrA, vfield, vlen, elemsOf, dF32, dF64, dI64, dU8, dBool,
              dStr, esOk, elemsS, vsliceX, bnd, ownV, ownC, own1, ownT, isSl, nSl, endL, Md.isOwn, purge, purgeH, purgeB, purgeE, hasName, name1, List.any_cons, List.any_nil,
              Md.isWr, pureV.pureP, Option.map, reduceIte, Nat.reduceEqDiff, Nat.reduceAdd, Nat.reduceMul, Nat.reduceLT, Nat.reduceLeDiff, List.mapM_cons, List.mapM_nil,
              Option.pure_def, Option.bind_eq_bind, Option.bind_some, implies_true, forall_const, beq_self_eq_true, decide_true, decide_false, eq_self, Int.reduceEq, Int.reduceLE,
              Int.reduceLT, if_true, if_false, fc92_0, fc92_1, fc92_2, fc92_3, fc92_4, Int.reduceAdd, Int.reduceSub, Int.reduceMul, Int.reduceNeg, Int.reducePow, Nat.reducePow,
              Int.reduceToNat, Nat.reduceSub, List.replicate, Nat.reduceBEq, wAs, wA, wC, zipW, noDupN, grpE, grpC, en0, dc_en0, ↓b_pick, ePk_true, ePk_false]))
    all_goals (try simp only [*, m_laws_sameFloat, Bool.and_true, Bool.true_and, Bool.and_false, Bool.false_and, Bool.or_true, Bool.true_or, Bool.or_false, Bool.false_or, Bool.not_true, Bool.not_false, Bool.false_eq_true, if_true, if_false, reduceIte, decide_true, decide_false])
    all_goals (try (simp_all; done))
  · cases h
def m_laws_eqVector (x0 : (Nat × Nat × Nat)) (x1 : (Nat × Nat × Nat)) : Bool := (if (m_laws_sameFloat (widen x0.1) (widen x1.1)) = true then (if (m_laws_sameFloat (widen x0.2.1)
      (widen x1.2.1)) = true then (if (m_laws_sameFloat (widen x0.2.2) (widen x1.2.2)) = true then true else false) else false) else false)
def g_laws_eqVector : List AV → Option AV
  | [.agg [.flt .f32 y0, .flt .f32 y1, .flt .f32 y2], .agg [.flt .f32 y3, .flt .f32 y4, .flt .f32 y5]] => some (.bool (m_laws_eqVector (y0,
      y1, y2) (y3, y4, y5)))
  | _ => none
def ic71 : ICode := (.seq (.reg [⟨(some 2), none, (.box 3 (.t 0))⟩, ⟨(some 3), none, (.box 3 (.t 1))⟩, ⟨(some 4), none, (.mov (.c (.bool false)))⟩] [2, 3]) (.seq (.seq (.reg [⟨(some
      5), none, (.faddr 0 (.t 2))⟩, ⟨(some 6), none, (.load none (.t 5))⟩, ⟨(some 7), none, (.conv (.flt .f64) (.t 6))⟩, ⟨(some 8), none, (.faddr 0 (.t 3))⟩, ⟨(some 9), none, (.load
      none (.t 8))⟩, ⟨(some 10), none, (.conv (.flt .f64) (.t 9))⟩, ⟨(some 11), none, (.call (.fn 92) [(.t 7), (.t 10)] [])⟩, ⟨(some 12), none, (.un .not (.t 11))⟩] [2, 3, 12])
      (.cond (.t 12) (.seq (.reg [⟨(some 4), none, (.mov (.c (.bool false)))⟩] [4]) .ret) .skip)) (.seq (.seq (.reg [⟨(some 13), none, (.faddr 1 (.t 2))⟩, ⟨(some 14), none, (.load
      none (.t 13))⟩, ⟨(some 15), none, (.conv (.flt .f64) (.t 14))⟩, ⟨(some 16), none, (.faddr 1 (.t 3))⟩, ⟨(some 17), none, (.load none (.t 16))⟩, ⟨(some 18), none, (.conv (.flt
      .f64) (.t 17))⟩, ⟨(some 19), none, (.call (.fn 92) [(.t 15), (.t 18)] [])⟩, ⟨(some 20), none, (.un .not (.t 19))⟩] [2, 3, 20]) (.cond (.t 20) (.seq (.reg [⟨(some 4), none,
      (.mov (.c (.bool false)))⟩] [4]) .ret) .skip)) (.seq (.seq (.reg [⟨(some 21), none, (.faddr 2 (.t 2))⟩, ⟨(some 22), none, (.load none (.t 21))⟩, ⟨(some 23), none, (.conv (.flt
      .f64) (.t 22))⟩, ⟨(some 24), none, (.faddr 2 (.t 3))⟩, ⟨(some 25), none, (.load none (.t 24))⟩, ⟨(some 26), none, (.conv (.flt .f64) (.t 25))⟩, ⟨(some 27), none, (.call (.fn
      92) [(.t 23), (.t 26)] [])⟩, ⟨(some 28), none, (.un .not (.t 27))⟩] [28]) (.cond (.t 28) (.seq (.reg [⟨(some 4), none, (.mov (.c (.bool false)))⟩] [4]) .ret) .skip)) (.seq
      (.reg [⟨(some 4), none, (.mov (.c (.bool true)))⟩] [4]) .ret)))))
def cp71 : CP := CP.mk [] [] [[2, 3], [2, 3, 12], [4], [2, 3, 20], [4], [28], [4], [4]] 29 [] []
theorem fc71_0 : IntKind.wrap .i64 0 = 0 := by decide
theorem fc71_1 : IntKind.wrap .i64 1 = 1 := by decide
theorem fc71_2 : IntKind.wrap .i64 2 = 2 := by decide
theorem fc71_3 : IntKind.wrap .i64 3 = 3 := by decide
theorem fc71_4 : IntKind.wrap .i64 4 = 4 := by decide
theorem s71 : ∀ vs r, g_laws_eqVector vs = some r → SaysM Try.prog .any 71 vs r := by
  intro vs r h
  unfold g_laws_eqVector at h
  split at h
  · rename_i y0 y1 y2 y3 y4 y5
    cases h
    refine spec_of (m := .any) (tab := tabOf [(92, wM .any g_laws_sameFloat)]) (cp := cp71) (ic := ic71) (rvl := [(.t 4)]) hm (tabOk_cons (m := .any) s92 tabOk_nil) Try.func71 rfl rfl rfl (by kernel_rfl) rfl (Nat.le_of_ble_eq_true rfl) (Nat.le_of_ble_eq_true rfl) ?_
    show eA _ _ _ _
    unfold ic71
    simp only [
        grpA, vsliceS, grpS, grpD, grpF, grpL, eop, vop, bop, uop, fltop, convop, endOk, newE, new1, freshL, Md.isNew, outV, pureV, pureX, pure1, AV.cells, AV.one, storable, laid,
              refless, refless1, vload, loadC, storeC, vnil, vfaddr, vextract, flatT, flatE, flatC, vconv, vmm, vidxA, viaddrA, vfield, vlen, elemsOf, dF32, dF64, dI64, dU8, dBool,
              dStr, esOk, elemsS, vsliceX, bnd, ownV, ownC, own1, ownT, isSl, nSl, endL, Md.isOwn, purge, purgeH, purgeB, purgeE, hasName, name1, List.any_cons, List.any_nil,
              Md.isWr, pureV.pureP, Option.map, reduceIte, Nat.reduceEqDiff, Nat.reduceAdd, Nat.reduceMul, Nat.reduceLT, Nat.reduceLeDiff, List.mapM_cons, List.mapM_nil,
              Option.pure_def, Option.bind_eq_bind, Option.bind_some, implies_true, forall_const, beq_self_eq_true, decide_true, decide_false, eq_self, Int.reduceEq, Int.reduceLE,
              Int.reduceLT, if_true, if_false, fc71_0, fc71_1, fc71_2, fc71_3, fc71_4, Int.reduceAdd, Int.reduceSub, Int.reduceMul, Int.reduceNeg, Int.reducePow, Nat.reducePow,
              Int.reduceToNat, Nat.reduceSub, List.replicate, Nat.reduceBEq, wAs, wA, wC, zipW, noDupN, grpE, g_laws_sameFloat, grpC, en0, dc_en0]
    repeat' (first
      | ((first | (refine eGI_of (fun h => ?_) (fun h => ?_)) | (refine eCc_of (fun h => ?_) (fun h => ?_))) <;> (try simp only [Bool.not_eq_true', Bool.not_eq_false'] at h) <;> simp only [h,
        grpA, vsliceS, grpS, grpD, grpF, grpL, eop, vop, bop, uop, fltop, convop, endOk, newE, new1, freshL, Md.isNew, outV, pureV, pureX, pure1, AV.cells, AV.one, storable, laid,
              refless, refless1, vload, loadC, storeC, vnil, vfaddr, vextract, flatT, flatE, flatC, vconv, vmm, vidxA, viaddrA, vfield, vlen, elemsOf, dF32, dF64, dI64, dU8, dBool,
              dStr, esOk, elemsS, vsliceX, bnd, ownV, ownC, own1, ownT, isSl, nSl, endL, Md.isOwn, purge, purgeH, purgeB, purgeE, hasName, name1, List.any_cons, List.any_nil,
              Md.isWr, pureV.pureP, Option.map, reduceIte, Nat.reduceEqDiff, Nat.reduceAdd, Nat.reduceMul, Nat.reduceLT, Nat.reduceLeDiff, List.mapM_cons, List.mapM_nil,
              Option.pure_def, Option.bind_eq_bind, Option.bind_some, implies_true, forall_const, beq_self_eq_true, decide_true, decide_false, eq_self, Int.reduceEq, Int.reduceLE,
              Int.reduceLT, if_true, if_false, fc71_0, fc71_1, fc71_2, fc71_3, fc71_4, Int.reduceAdd, Int.reduceSub, Int.reduceMul, Int.reduceNeg, Int.reducePow, Nat.reducePow,
              Int.reduceToNat, Nat.reduceSub, List.replicate, Nat.reduceBEq, wAs, wA, wC, zipW, noDupN, grpE, g_laws_sameFloat, grpC, en0, dc_en0]))
    all_goals (try simp only [*, m_laws_eqVector, Bool.and_true, Bool.true_and, Bool.and_false, Bool.false_and, Bool.or_true, Bool.true_or, Bool.or_false, Bool.false_or, Bool.not_true, Bool.not_false, Bool.false_eq_true, if_true, if_false, reduceIte, decide_true, decide_false])
    all_goals (try (simp_all; done))
  · cases h
def m_laws_eqBone (x0 : (Int × Nat × Nat × Nat)) (x1 : (Int × Nat × Nat × Nat)) : Bool := (if (decide (x0.1 = x1.1)) = true then (if (m_laws_eqVector x0.2 x1.2) = true then true
      else false) else false)
def g_laws_eqBone : List AV → Option AV
  | [.agg [.int .i64 y0, .flt .f32 y1, .flt .f32 y2, .flt .f32 y3], .agg [.int .i64 y4, .flt .f32 y5, .flt .f32 y6, .flt .f32 y7]] => some
      (.bool (m_laws_eqBone (y0, y1, y2, y3) (y4, y5, y6, y7)))
  | _ => none
def ic90 : ICode := (.seq (.reg [⟨(some 2), none, (.box 4 (.t 0))⟩, ⟨(some 3), none, (.box 4 (.t 1))⟩, ⟨(some 4), none, (.mov (.c (.bool false)))⟩] [2, 3]) (.seq (.seq (.reg [⟨(some
      5), none, (.faddr 0 (.t 2))⟩, ⟨(some 6), none, (.load none (.t 5))⟩, ⟨(some 7), none, (.faddr 0 (.t 3))⟩, ⟨(some 8), none, (.load none (.t 7))⟩, ⟨(some 9), none, (.bin .neq
      false (.t 6) (.t 8))⟩] [2, 3, 9]) (.cond (.t 9) (.seq (.reg [⟨(some 4), none, (.mov (.c (.bool false)))⟩] [4]) .ret) .skip)) (.seq (.seq (.reg [⟨(some 10), none, (.faddr 1 (.t
      2))⟩, ⟨(some 11), none, (.load (some 3) (.t 10))⟩, ⟨(some 12), none, (.faddr 1 (.t 3))⟩, ⟨(some 13), none, (.load (some 3) (.t 12))⟩, ⟨(some 14), none, (.call (.fn 71) [(.t
      11), (.t 13)] [])⟩, ⟨(some 15), none, (.un .not (.t 14))⟩] [15]) (.cond (.t 15) (.seq (.reg [⟨(some 4), none, (.mov (.c (.bool false)))⟩] [4]) .ret) .skip)) (.seq (.reg
      [⟨(some 4), none, (.mov (.c (.bool true)))⟩] [4]) .ret))))
def cp90 : CP := CP.mk [] [] [[2, 3], [2, 3, 9], [4], [15], [4], [4]] 16 [] []
theorem fc90_0 : IntKind.wrap .i64 0 = 0 := by decide
theorem fc90_1 : IntKind.wrap .i64 1 = 1 := by decide
theorem fc90_2 : IntKind.wrap .i64 2 = 2 := by decide
theorem fc90_3 : IntKind.wrap .i64 3 = 3 := by decide
theorem fc90_4 : IntKind.wrap .i64 4 = 4 := by decide
theorem s90 : ∀ vs r, g_laws_eqBone vs = some r → SaysM Try.prog .any 90 vs r := by
  intro vs r h
  unfold g_laws_eqBone at h
  split at h
  · rename_i y0 y1 y2 y3 y4 y5 y6 y7
    cases h
    refine spec_of (m := .any) (tab := tabOf [(71, wM .any g_laws_eqVector)]) (cp := cp90) (ic := ic90) (rvl := [(.t 4)]) hm (tabOk_cons (m := .any) s71 tabOk_nil) Try.func90 rfl rfl rfl (by kernel_rfl) rfl (Nat.le_of_ble_eq_true rfl) (Nat.le_of_ble_eq_true rfl) ?_
    show eA _ _ _ _
    unfold ic90
    simp only [
        grpA, vsliceS, grpS, grpD, grpF, grpL, eop, vop, bop, uop, fltop, convop, endOk, newE, new1, freshL, Md.isNew, outV, pureV, pureX, pure1, AV.cells, AV.one, storable, laid,
              refless, refless1, vload, loadC, storeC, vnil, vfaddr, vextract, flatT, flatE, flatC, vconv, vmm, vidxA, viaddrA, vfield, vlen, elemsOf, dF32, dF64, dI64, dU8, dBool,
              dStr, esOk, elemsS, vsliceX, bnd, ownV, ownC, own1, ownT, isSl, nSl, endL, Md.isOwn, purge, purgeH, purgeB, purgeE, hasName, name1, List.any_cons, List.any_nil,
              Md.isWr, pureV.pureP, Option.map, reduceIte, Nat.reduceEqDiff, Nat.reduceAdd, Nat.reduceMul, Nat.reduceLT, Nat.reduceLeDiff, List.mapM_cons, List.mapM_nil,
              Option.pure_def, Option.bind_eq_bind, Option.bind_some, implies_true, forall_const, beq_self_eq_true, decide_true, decide_false, eq_self, Int.reduceEq, Int.reduceLE,
              Int.reduceLT, if_true, if_false, fc90_0, fc90_1, fc90_2, fc90_3, fc90_4, Int.reduceAdd, Int.reduceSub, Int.reduceMul, Int.reduceNeg, Int.reducePow, Nat.reducePow,
              Int.reduceToNat, Nat.reduceSub, List.replicate, Nat.reduceBEq, wAs, wA, wC, zipW, noDupN, grpE, g_laws_eqVector, grpC, en0, dc_en0]
    repeat' (first
      | ((first | (refine eGI_of (fun h => ?_) (fun h => ?_)) | (refine eCc_of (fun h => ?_) (fun h => ?_))) <;> (try simp only [Bool.not_eq_true', Bool.not_eq_false'] at h) <;> simp only [h,
        grpA, vsliceS, grpS, grpD, grpF, grpL, eop, vop, bop, uop, fltop, convop, endOk, newE, new1, freshL, Md.isNew, outV, pureV, pureX, pure1, AV.cells, AV.one, storable, laid,
              refless, refless1, vload, loadC, storeC, vnil, vfaddr, vextract, flatT, flatE, flatC, vconv, vmm, vidxA, viaddrA, vfield, vlen, elemsOf, dF32, dF64, dI64, dU8, dBool,
              dStr, esOk, elemsS, vsliceX, bnd, ownV, ownC, own1, ownT, isSl, nSl, endL, Md.isOwn, purge, purgeH, purgeB, purgeE, hasName, name1, List.any_cons, List.any_nil,
              Md.isWr, pureV.pureP, Option.map, reduceIte, Nat.reduceEqDiff, Nat.reduceAdd, Nat.reduceMul, Nat.reduceLT, Nat.reduceLeDiff, List.mapM_cons, List.mapM_nil,
              Option.pure_def, Option.bind_eq_bind, Option.bind_some, implies_true, forall_const, beq_self_eq_true, decide_true, decide_false, eq_self, Int.reduceEq, Int.reduceLE,
              Int.reduceLT, if_true, if_false, fc90_0, fc90_1, fc90_2, fc90_3, fc90_4, Int.reduceAdd, Int.reduceSub, Int.reduceMul, Int.reduceNeg, Int.reducePow, Nat.reducePow,
              Int.reduceToNat, Nat.reduceSub, List.replicate, Nat.reduceBEq, wAs, wA, wC, zipW, noDupN, grpE, g_laws_eqVector, grpC, en0, dc_en0]))
    all_goals (try simp only [*, m_laws_eqBone, Bool.and_true, Bool.true_and, Bool.and_false, Bool.false_and, Bool.or_true, Bool.true_or, Bool.or_false, Bool.false_or, Bool.not_true, Bool.not_false, Bool.false_eq_true, if_true, if_false, reduceIte, decide_true, decide_false])
    all_goals (try (simp_all; done))
  · cases h
def l_laws_eqBoneS_0 (x0 : (List (Int × Nat × Nat × Nat))) (x1 : (List (Int × Nat × Nat × Nat))) : Nat → Int → Option (Bool × Bool × Unit)
  | 0, _ => none
  | n + 1, z0_0 => (if (decide (z0_0 < ((List.length x0 : Nat) : Int))) = true then (need (inB z0_0 (List.length x0)) (need (inB z0_0 (List.length x1)) (if (m_laws_eqBone (atI x0
        z0_0) (atI x1 z0_0)) = true then (l_laws_eqBoneS_0 x0 x1 n (IntKind.wrap .i64 (z0_0 + 1))) else (some (true, false, default))))) else (some (false, default, ())))
def m_laws_eqBoneS (x0 : (List (Int × Nat × Nat × Nat))) (x1 : (List (Int × Nat × Nat × Nat))) : Bool := (if (decide (((List.length x0 : Nat) : Int) = ((List.length x1 : Nat) :
      Int))) = true then (if (Option.getD (l_laws_eqBoneS_0 x0 x1 (Int.toNat (((List.length x0 : Nat) : Int) - 0) + 2) 0) default).1 = true then (Option.getD (l_laws_eqBoneS_0 x0 x1
      (Int.toNat (((List.length x0 : Nat) : Int) - 0) + 2) 0) default).2.1 else true) else false)
def p_laws_eqBoneS (x0 : (List (Int × Nat × Nat × Nat))) (x1 : (List (Int × Nat × Nat × Nat))) : Bool := (!(decide (((List.length x0 : Nat) : Int) = ((List.length x1 : Nat) : Int)))
      || (Option.isSome (l_laws_eqBoneS_0 x0 x1 (Int.toNat (((List.length x0 : Nat) : Int) - 0) + 2) 0)))
def g_laws_eqBoneS : List AV → Option AV
  | [.sl w0, .sl w1] => (match decL dc_en0 w0 with | some y0 => ((match decL dc_en0 w1 with | some y1 => (if p_laws_eqBoneS y0 y1 = true then some (.bool (m_laws_eqBoneS y0 y1)) else none) | none => none)) | none => none)
  | _ => none
def lb59_0 : ICode := (.seq (.seq (.reg [⟨(some 11), none, (.mov (.t 5))⟩, ⟨(some 12), none, (.mov (.t 0))⟩, ⟨(some 13), none, (.len false (.t 12))⟩, ⟨(some 14), none, (.bin .lss
      false (.t 11) (.t 13))⟩] [0, 1, 5, 14]) (.cond (.t 14) .skip (.exit 0))) (.seq (.block 1 (.seq (.reg [⟨(some 17), none, (.mov (.t 0))⟩, ⟨(some 18), none, (.mov (.t 5))⟩,
      ⟨(some 19), none, (.iaddrS 4 (.t 17) (.t 18))⟩, ⟨(some 20), none, (.load (some 4) (.t 19))⟩, ⟨(some 21), none, (.mov (.t 1))⟩, ⟨(some 22), none, (.mov (.t 5))⟩, ⟨(some 23),
      none, (.iaddrS 4 (.t 21) (.t 22))⟩, ⟨(some 24), none, (.load (some 4) (.t 23))⟩, ⟨(some 25), none, (.call (.fn 90) [(.t 20), (.t 24)] [])⟩, ⟨(some 26), none, (.un .not (.t
      25))⟩] [0, 1, 5, 26]) (.cond (.t 26) (.seq (.reg [⟨(some 4), none, (.mov (.c (.bool false)))⟩] [4]) .ret) .skip))) (.reg [⟨(some 15), none, (.mov (.t 5))⟩, ⟨(some 16), none,
      (.bin .add false (.t 15) (.c (.int .i64 1)))⟩, ⟨(some 5), none, (.mov (.t 16))⟩] [0, 1, 5])))
def ic59 : ICode := (.seq (.reg [⟨(some 4), none, (.mov (.c (.bool false)))⟩] [0, 1]) (.seq (.seq (.reg [⟨(some 6), none, (.mov (.t 0))⟩, ⟨(some 7), none, (.len false (.t 6))⟩,
      ⟨(some 8), none, (.mov (.t 1))⟩, ⟨(some 9), none, (.len false (.t 8))⟩, ⟨(some 10), none, (.bin .neq false (.t 7) (.t 9))⟩] [0, 1, 10]) (.cond (.t 10) (.seq (.reg [⟨(some 4),
      none, (.mov (.c (.bool false)))⟩] [4]) .ret) .skip)) (.seq (.seq (.reg [⟨(some 5), none, (.mov (.c (.int .i64 0)))⟩] [0, 1, 5]) (.block 0 (.loop lb59_0))) (.seq (.reg [⟨(some
      4), none, (.mov (.c (.bool true)))⟩] [4]) .ret))))
def cp59 : CP := CP.mk [] [] [[0, 1], [0, 1, 10], [4], [0, 1, 5], [0, 1, 5, 14], [0, 1, 5], [0, 1, 5, 26], [4], [4]] 27 [] []
theorem fc59_0 : IntKind.wrap .i64 0 = 0 := by decide
theorem fc59_1 : IntKind.wrap .i64 1 = 1 := by decide
theorem fc59_2 : IntKind.wrap .i64 2 = 2 := by decide
theorem fc59_3 : IntKind.wrap .i64 3 = 3 := by decide
theorem fc59_4 : IntKind.wrap .i64 4 = 4 := by decide
theorem sl59_0 (x0 : (List (Int × Nat × Nat × Nat))) (x1 : (List (Int × Nat × Nat × Nat))) : ∀ (n : Nat) (z0_0 : Int) (o : (Bool × Bool × Unit)) (K : IExit → St → Prop),
      l_laws_eqBoneS_0 x0 x1 n z0_0 = some o → (∀ st, o.1 = true → outM .any st [(.t 4)] = some (.bool o.2.1) → K .ret st) → (∀ st, o.1 = false → Wk st (⟨[], []⟩ : St) → K (.exit 0)
      st) → eA (tabOf [(90, wM .any g_laws_eqBone)]) (.loop lb59_0) (⟨[(0, (.sl (List.map en0 x0))), (1, (.sl (List.map en0 x1))), (5, (.int .i64 z0_0))], []⟩ : St) K := by
  intro n
  induction n with
  | zero =>
    intro z0_0 o K h h0 h1
    simp only [l_laws_eqBoneS_0, reduceCtorEq] at h
  | succ n ih =>
    intro z0_0 o K h h0 h1
    refine eA_loop ?_
    unfold lb59_0
    unfold l_laws_eqBoneS_0 at h
    (try simp only [need_iff] at h)
    simp only [
      need_iff, h, grpA, vsliceS, grpS, grpD, grpF, grpL, eop, vop, bop, uop, fltop, convop, endOk, newE, new1, freshL, Md.isNew, outV, pureV, pureX, pure1, AV.cells, AV.one,
            storable, laid, refless, refless1, vload, loadC, storeC, vnil, vfaddr, vextract, flatT, flatE, flatC, vconv, vmm, vidxA, viaddrA, vfield, vlen, elemsOf, dF32, dF64,
            dI64, dU8, dBool, dStr, esOk, elemsS, vsliceX, bnd, ownV, ownC, own1, ownT, isSl, nSl, endL, Md.isOwn, purge, purgeH, purgeB, purgeE, hasName, name1, List.any_cons,
            List.any_nil, Md.isWr, pureV.pureP, Option.map, reduceIte, Nat.reduceEqDiff, Nat.reduceAdd, Nat.reduceMul, Nat.reduceLT, Nat.reduceLeDiff, List.mapM_cons, List.mapM_nil,
            Option.pure_def, Option.bind_eq_bind, Option.bind_some, implies_true, forall_const, beq_self_eq_true, decide_true, decide_false, eq_self, Int.reduceEq, Int.reduceLE,
            Int.reduceLT, if_true, if_false, fc59_0, fc59_1, fc59_2, fc59_3, fc59_4, Int.reduceAdd, Int.reduceSub, Int.reduceMul, Int.reduceNeg, Int.reducePow, Nat.reducePow,
            Int.reduceToNat, Nat.reduceSub, List.replicate, Nat.reduceBEq, wAs, wA, wC, zipW, noDupN, grpE, g_laws_eqBone, grpC, en0, dc_en0]
    repeat' (first
      | ((first | (refine eGI_of (fun hc => ?_) (fun hc => ?_)) | (refine eCc_of (fun hc => ?_) (fun hc => ?_)) | (have hc := True.intro; refine KW_refl ?_)) <;> (try simp only [Bool.not_eq_true', Bool.not_eq_false'] at hc) <;> (try simp only [hc, need_iff, reduceCtorEq, Bool.not_eq_true', decide_eq_false_iff_not, Bool.not_true, Bool.not_false, Bool.false_or, Bool.true_or, Bool.true_and, Bool.false_and, Bool.and_eq_true, Bool.or_eq_true, if_true, if_false, reduceIte, Bool.false_eq_true, and_true, true_and, false_or, or_false, decide_eq_true_eq, not_false_eq_true, not_true_eq_false] at h) <;> (try (have hc2 := hc; simp only [decide_eq_true_eq, decide_eq_false_iff_not] at hc2; (first | (replace hc2 := eq_false hc2) | (replace hc2 := eq_true hc2)); simp only [hc2, if_true, if_false, need_iff, reduceCtorEq, Bool.not_eq_true', decide_eq_false_iff_not, Bool.not_true, Bool.not_false, Bool.false_or, Bool.true_or, Bool.true_and, Bool.false_and, Bool.and_eq_true, Bool.or_eq_true, if_true, if_false, reduceIte, Bool.false_eq_true, and_true, true_and, false_or, or_false, decide_eq_true_eq, not_false_eq_true, not_true_eq_false] at h)) <;> simp only [hc,
      need_iff, h, grpA, vsliceS, grpS, grpD, grpF, grpL, eop, vop, bop, uop, fltop, convop, endOk, newE, new1, freshL, Md.isNew, outV, pureV, pureX, pure1, AV.cells, AV.one,
            storable, laid, refless, refless1, vload, loadC, storeC, vnil, vfaddr, vextract, flatT, flatE, flatC, vconv, vmm, vidxA, viaddrA, vfield, vlen, elemsOf, dF32, dF64,
            dI64, dU8, dBool, dStr, esOk, elemsS, vsliceX, bnd, ownV, ownC, own1, ownT, isSl, nSl, endL, Md.isOwn, purge, purgeH, purgeB, purgeE, hasName, name1, List.any_cons,
            List.any_nil, Md.isWr, pureV.pureP, Option.map, reduceIte, Nat.reduceEqDiff, Nat.reduceAdd, Nat.reduceMul, Nat.reduceLT, Nat.reduceLeDiff, List.mapM_cons, List.mapM_nil,
            Option.pure_def, Option.bind_eq_bind, Option.bind_some, implies_true, forall_const, beq_self_eq_true, decide_true, decide_false, eq_self, Int.reduceEq, Int.reduceLE,
            Int.reduceLT, if_true, if_false, fc59_0, fc59_1, fc59_2, fc59_3, fc59_4, Int.reduceAdd, Int.reduceSub, Int.reduceMul, Int.reduceNeg, Int.reducePow, Nat.reducePow,
            Int.reduceToNat, Nat.reduceSub, List.replicate, Nat.reduceBEq, wAs, wA, wC, zipW, noDupN, grpE, g_laws_eqBone, grpC, en0, dc_en0]))
    all_goals (repeat (replace h := And.right h))
    all_goals first
      | (refine eA_wk (wk_norm (ks := [0, 1, 5]) (ls := []) ?_) (eA_cast ?_ (ih _ _ _ h h0 h1)); (simp only [normOk, optIn, blkIn, nameIn,
      need_iff, h, grpA, vsliceS, grpS, grpD, grpF, grpL, eop, vop, bop, uop, fltop, convop, endOk, newE, new1, freshL, Md.isNew, outV, pureV, pureX, pure1, AV.cells, AV.one,
            storable, laid, refless, refless1, vload, loadC, storeC, vnil, vfaddr, vextract, flatT, flatE, flatC, vconv, vmm, vidxA, viaddrA, vfield, vlen, elemsOf, dF32, dF64,
            dI64, dU8, dBool, dStr, esOk, elemsS, vsliceX, bnd, ownV, ownC, own1, ownT, isSl, nSl, endL, Md.isOwn, purge, purgeH, purgeB, purgeE, hasName, name1, List.any_cons,
            List.any_nil, Md.isWr, pureV.pureP, Option.map, reduceIte, Nat.reduceEqDiff, Nat.reduceAdd, Nat.reduceMul, Nat.reduceLT, Nat.reduceLeDiff, List.mapM_cons, List.mapM_nil,
            Option.pure_def, Option.bind_eq_bind, Option.bind_some, implies_true, forall_const, beq_self_eq_true, decide_true, decide_false, eq_self, Int.reduceEq, Int.reduceLE,
            Int.reduceLT, if_true, if_false, fc59_0, fc59_1, fc59_2, fc59_3, fc59_4, Int.reduceAdd, Int.reduceSub, Int.reduceMul, Int.reduceNeg, Int.reducePow, Nat.reducePow,
            Int.reduceToNat, Nat.reduceSub, List.replicate, Nat.reduceBEq, wAs, wA, wC, zipW, noDupN, grpE, g_laws_eqBone, grpC, en0, dc_en0] <;> rfl); (simp only [normS, List.map_append, List.length_append, List.map_set, List.length_set, List.map_replicate, List.length_replicate, List.map_nil, List.map_cons,
      need_iff, h, grpA, vsliceS, grpS, grpD, grpF, grpL, eop, vop, bop, uop, fltop, convop, endOk, newE, new1, freshL, Md.isNew, outV, pureV, pureX, pure1, AV.cells, AV.one,
            storable, laid, refless, refless1, vload, loadC, storeC, vnil, vfaddr, vextract, flatT, flatE, flatC, vconv, vmm, vidxA, viaddrA, vfield, vlen, elemsOf, dF32, dF64,
            dI64, dU8, dBool, dStr, esOk, elemsS, vsliceX, bnd, ownV, ownC, own1, ownT, isSl, nSl, endL, Md.isOwn, purge, purgeH, purgeB, purgeE, hasName, name1, List.any_cons,
            List.any_nil, Md.isWr, pureV.pureP, Option.map, reduceIte, Nat.reduceEqDiff, Nat.reduceAdd, Nat.reduceMul, Nat.reduceLT, Nat.reduceLeDiff, List.mapM_cons, List.mapM_nil,
            Option.pure_def, Option.bind_eq_bind, Option.bind_some, implies_true, forall_const, beq_self_eq_true, decide_true, decide_false, eq_self, Int.reduceEq, Int.reduceLE,
            Int.reduceLT, if_true, if_false, fc59_0, fc59_1, fc59_2, fc59_3, fc59_4, Int.reduceAdd, Int.reduceSub, Int.reduceMul, Int.reduceNeg, Int.reducePow, Nat.reducePow,
            Int.reduceToNat, Nat.reduceSub, List.replicate, Nat.reduceBEq, wAs, wA, wC, zipW, noDupN, grpE, g_laws_eqBone, grpC, en0, dc_en0] <;> first | rfl | (simp only [Nat.add_comm]; done)))
      | (cases h; refine h0 _ rfl ?_; simp only [
      grpA, vsliceS, grpS, grpD, grpF, grpL, eop, vop, bop, uop, fltop, convop, endOk, newE, new1, freshL, Md.isNew, outV, pureV, pureX, pure1, AV.cells, AV.one, storable, laid,
            refless, refless1, vload, loadC, storeC, vnil, vfaddr, vextract, flatT, flatE, flatC, vconv, vmm, vidxA, viaddrA, vfield, vlen, elemsOf, dF32, dF64, dI64, dU8, dBool,
            dStr, esOk, elemsS, vsliceX, bnd, ownV, ownC, own1, ownT, isSl, nSl, endL, Md.isOwn, purge, purgeH, purgeB, purgeE, hasName, name1, List.any_cons, List.any_nil, Md.isWr,
            pureV.pureP, Option.map, reduceIte, Nat.reduceEqDiff, Nat.reduceAdd, Nat.reduceMul, Nat.reduceLT, Nat.reduceLeDiff, List.mapM_cons, List.mapM_nil, Option.pure_def,
            Option.bind_eq_bind, Option.bind_some, implies_true, forall_const, beq_self_eq_true, decide_true, decide_false, eq_self, Int.reduceEq, Int.reduceLE, Int.reduceLT,
            if_true, if_false, fc59_0, fc59_1, fc59_2, fc59_3, fc59_4, Int.reduceAdd, Int.reduceSub, Int.reduceMul, Int.reduceNeg, Int.reducePow, Nat.reducePow, Int.reduceToNat,
            Nat.reduceSub, List.replicate, Nat.reduceBEq, wAs, wA, wC, zipW, noDupN, grpE, g_laws_eqBone, grpC, en0, dc_en0])
      | (cases h; refine h1 _ rfl (Wk.cast (wk_norm (ks := []) (ls := []) ?_) ?_); (simp only [normOk, optIn, blkIn, nameIn,
      grpA, vsliceS, grpS, grpD, grpF, grpL, eop, vop, bop, uop, fltop, convop, endOk, newE, new1, freshL, Md.isNew, outV, pureV, pureX, pure1, AV.cells, AV.one, storable, laid,
            refless, refless1, vload, loadC, storeC, vnil, vfaddr, vextract, flatT, flatE, flatC, vconv, vmm, vidxA, viaddrA, vfield, vlen, elemsOf, dF32, dF64, dI64, dU8, dBool,
            dStr, esOk, elemsS, vsliceX, bnd, ownV, ownC, own1, ownT, isSl, nSl, endL, Md.isOwn, purge, purgeH, purgeB, purgeE, hasName, name1, List.any_cons, List.any_nil, Md.isWr,
            pureV.pureP, Option.map, reduceIte, Nat.reduceEqDiff, Nat.reduceAdd, Nat.reduceMul, Nat.reduceLT, Nat.reduceLeDiff, List.mapM_cons, List.mapM_nil, Option.pure_def,
            Option.bind_eq_bind, Option.bind_some, implies_true, forall_const, beq_self_eq_true, decide_true, decide_false, eq_self, Int.reduceEq, Int.reduceLE, Int.reduceLT,
            if_true, if_false, fc59_0, fc59_1, fc59_2, fc59_3, fc59_4, Int.reduceAdd, Int.reduceSub, Int.reduceMul, Int.reduceNeg, Int.reducePow, Nat.reducePow, Int.reduceToNat,
            Nat.reduceSub, List.replicate, Nat.reduceBEq, wAs, wA, wC, zipW, noDupN, grpE, g_laws_eqBone, grpC, en0, dc_en0] <;> rfl); (simp only [normS, List.map_append, List.length_append, List.map_set, List.length_set, List.map_replicate, List.length_replicate,
      grpA, vsliceS, grpS, grpD, grpF, grpL, eop, vop, bop, uop, fltop, convop, endOk, newE, new1, freshL, Md.isNew, outV, pureV, pureX, pure1, AV.cells, AV.one, storable, laid,
            refless, refless1, vload, loadC, storeC, vnil, vfaddr, vextract, flatT, flatE, flatC, vconv, vmm, vidxA, viaddrA, vfield, vlen, elemsOf, dF32, dF64, dI64, dU8, dBool,
            dStr, esOk, elemsS, vsliceX, bnd, ownV, ownC, own1, ownT, isSl, nSl, endL, Md.isOwn, purge, purgeH, purgeB, purgeE, hasName, name1, List.any_cons, List.any_nil, Md.isWr,
            pureV.pureP, Option.map, reduceIte, Nat.reduceEqDiff, Nat.reduceAdd, Nat.reduceMul, Nat.reduceLT, Nat.reduceLeDiff, List.mapM_cons, List.mapM_nil, Option.pure_def,
            Option.bind_eq_bind, Option.bind_some, implies_true, forall_const, beq_self_eq_true, decide_true, decide_false, eq_self, Int.reduceEq, Int.reduceLE, Int.reduceLT,
            if_true, if_false, fc59_0, fc59_1, fc59_2, fc59_3, fc59_4, Int.reduceAdd, Int.reduceSub, Int.reduceMul, Int.reduceNeg, Int.reducePow, Nat.reducePow, Int.reduceToNat,
            Nat.reduceSub, List.replicate, Nat.reduceBEq, wAs, wA, wC, zipW, noDupN, grpE, g_laws_eqBone, grpC, en0, dc_en0] <;> first | rfl | (simp only [Nat.add_comm]; done)))
theorem s59 : ∀ vs r, g_laws_eqBoneS vs = some r → SaysM Try.prog .any 59 vs r := by
  intro vs r h
  unfold g_laws_eqBoneS at h
  split at h
  · rename_i w0 w1
    cases hd_y0 : decL dc_en0 w0 with
    | none => rw [hd_y0] at h; cases h
    | some y0 =>
    rw [hd_y0] at h
    obtain rfl := decL_inv dc_en0_inv hd_y0
    clear hd_y0
    dsimp only at h
    cases hd_y1 : decL dc_en0 w1 with
    | none => rw [hd_y1] at h; cases h
    | some y1 =>
    rw [hd_y1] at h
    obtain rfl := decL_inv dc_en0_inv hd_y1
    clear hd_y1
    dsimp only at h
    split at h
    · rename_i hp
      cases h
      refine spec_of (m := .any) (tab := tabOf [(90, wM .any g_laws_eqBone)]) (cp := cp59) (ic := ic59) (rvl := [(.t 4)]) hm (tabOk_cons (m := .any) s90 tabOk_nil) Try.func59 rfl rfl rfl (by kernel_rfl) rfl (Nat.le_of_ble_eq_true rfl) (Nat.le_of_ble_eq_true rfl) ?_
      show eA _ _ _ _
      unfold ic59
      simp only [p_laws_eqBoneS, Bool.and_eq_true, Bool.or_eq_true, decide_eq_true_eq, Bool.not_eq_true', decide_eq_false_iff_not] at hp
      simp only [
          hp, grpA, vsliceS, grpS, grpD, grpF, grpL, eop, vop, bop, uop, fltop, convop, endOk, newE, new1, freshL, Md.isNew, outV, pureV, pureX, pure1, AV.cells, AV.one, storable,
                laid, refless, refless1, vload, loadC, storeC, vnil, vfaddr, vextract, flatT, flatE, flatC, vconv, vmm, vidxA, viaddrA, vfield, vlen, elemsOf, dF32, dF64, dI64, dU8,
                dBool, dStr, esOk, elemsS, vsliceX, bnd, ownV, ownC, own1, ownT, isSl, nSl, endL, Md.isOwn, purge, purgeH, purgeB, purgeE, hasName, name1, List.any_cons,
                List.any_nil, Md.isWr, pureV.pureP, Option.map, reduceIte, Nat.reduceEqDiff, Nat.reduceAdd, Nat.reduceMul, Nat.reduceLT, Nat.reduceLeDiff, List.mapM_cons,
                List.mapM_nil, Option.pure_def, Option.bind_eq_bind, Option.bind_some, implies_true, forall_const, beq_self_eq_true, decide_true, decide_false, eq_self,
                Int.reduceEq, Int.reduceLE, Int.reduceLT, if_true, if_false, fc59_0, fc59_1, fc59_2, fc59_3, fc59_4, Int.reduceAdd, Int.reduceSub, Int.reduceMul, Int.reduceNeg,
                Int.reducePow, Nat.reducePow, Int.reduceToNat, Nat.reduceSub, List.replicate, Nat.reduceBEq, wAs, wA, wC, zipW, noDupN, grpE, g_laws_eqBone, grpC, en0, dc_en0]
      repeat' (first
        | ((first | (refine eGI_of (fun h => ?_) (fun h => ?_)) | (refine eCc_of (fun h => ?_) (fun h => ?_)) | (have h := True.intro; refine KW_refl ?_)) <;> (try simp only [Bool.not_eq_true', Bool.not_eq_false'] at h) <;> (try simp only [h, reduceCtorEq, Bool.not_eq_true', decide_eq_false_iff_not, Bool.not_true, Bool.not_false, Bool.false_or, Bool.true_or, Bool.true_and, Bool.false_and, Bool.and_eq_true, Bool.or_eq_true, if_true, if_false, reduceIte, Bool.false_eq_true, and_true, true_and, false_or, or_false, decide_eq_true_eq, not_false_eq_true, not_true_eq_false] at hp) <;> (try (have h2 := h; simp only [decide_eq_true_eq, decide_eq_false_iff_not] at h2; (first | (replace h2 := eq_false h2) | (replace h2 := eq_true h2)); simp only [h2, if_true, if_false, false_or, true_or, or_true, or_false, and_true, true_and, not_false_eq_true, not_true_eq_false] at hp)) <;> simp only [h,
          hp, grpA, vsliceS, grpS, grpD, grpF, grpL, eop, vop, bop, uop, fltop, convop, endOk, newE, new1, freshL, Md.isNew, outV, pureV, pureX, pure1, AV.cells, AV.one, storable,
                laid, refless, refless1, vload, loadC, storeC, vnil, vfaddr, vextract, flatT, flatE, flatC, vconv, vmm, vidxA, viaddrA, vfield, vlen, elemsOf, dF32, dF64, dI64, dU8,
                dBool, dStr, esOk, elemsS, vsliceX, bnd, ownV, ownC, own1, ownT, isSl, nSl, endL, Md.isOwn, purge, purgeH, purgeB, purgeE, hasName, name1, List.any_cons,
                List.any_nil, Md.isWr, pureV.pureP, Option.map, reduceIte, Nat.reduceEqDiff, Nat.reduceAdd, Nat.reduceMul, Nat.reduceLT, Nat.reduceLeDiff, List.mapM_cons,
                List.mapM_nil, Option.pure_def, Option.bind_eq_bind, Option.bind_some, implies_true, forall_const, beq_self_eq_true, decide_true, decide_false, eq_self,
                Int.reduceEq, Int.reduceLE, Int.reduceLT, if_true, if_false, fc59_0, fc59_1, fc59_2, fc59_3, fc59_4, Int.reduceAdd, Int.reduceSub, Int.reduceMul, Int.reduceNeg,
                Int.reducePow, Nat.reducePow, Int.reduceToNat, Nat.reduceSub, List.replicate, Nat.reduceBEq, wAs, wA, wC, zipW, noDupN, grpE, g_laws_eqBone, grpC, en0, dc_en0])
        | (refine eA_wk (wk_norm (ks := [0, 1, 5]) (ls := []) ?_) (eA_cast ?_ (sl59_0 y0 y1 _ _ _ _ (getD_some (d := default) (x := (l_laws_eqBoneS_0 y0 y1 (Int.toNat (((List.length y0 : Nat) : Int) - 0) + 2) 0)) ?_) ?_ ?_)); (simp only [nilS, nilV, normOk, optIn, blkIn, nameIn, 
          hp, grpA, vsliceS, grpS, grpD, grpF, grpL, eop, vop, bop, uop, fltop, convop, endOk, newE, new1, freshL, Md.isNew, outV, pureV, pureX, pure1, AV.cells, AV.one, storable,
                laid, refless, refless1, vload, loadC, storeC, vnil, vfaddr, vextract, flatT, flatE, flatC, vconv, vmm, vidxA, viaddrA, vfield, vlen, elemsOf, dF32, dF64, dI64, dU8,
                dBool, dStr, esOk, elemsS, vsliceX, bnd, ownV, ownC, own1, ownT, isSl, nSl, endL, Md.isOwn, purge, purgeH, purgeB, purgeE, hasName, name1, List.any_cons,
                List.any_nil, Md.isWr, pureV.pureP, Option.map, reduceIte, Nat.reduceEqDiff, Nat.reduceAdd, Nat.reduceMul, Nat.reduceLT, Nat.reduceLeDiff, List.mapM_cons,
                List.mapM_nil, Option.pure_def, Option.bind_eq_bind, Option.bind_some, implies_true, forall_const, beq_self_eq_true, decide_true, decide_false, eq_self,
                Int.reduceEq, Int.reduceLE, Int.reduceLT, if_true, if_false, fc59_0, fc59_1, fc59_2, fc59_3, fc59_4, Int.reduceAdd, Int.reduceSub, Int.reduceMul, Int.reduceNeg,
                Int.reducePow, Nat.reducePow, Int.reduceToNat, Nat.reduceSub, List.replicate, Nat.reduceBEq, wAs, wA, wC, zipW, noDupN, grpE, g_laws_eqBone, grpC, en0, dc_en0] <;> rfl); (simp only [nilS, nilV, normS,  List.map_append, List.length_append, List.map_set, List.length_set, List.map_replicate, List.length_replicate, List.map_nil, List.map_cons,
          hp, grpA, vsliceS, grpS, grpD, grpF, grpL, eop, vop, bop, uop, fltop, convop, endOk, newE, new1, freshL, Md.isNew, outV, pureV, pureX, pure1, AV.cells, AV.one, storable,
                laid, refless, refless1, vload, loadC, storeC, vnil, vfaddr, vextract, flatT, flatE, flatC, vconv, vmm, vidxA, viaddrA, vfield, vlen, elemsOf, dF32, dF64, dI64, dU8,
                dBool, dStr, esOk, elemsS, vsliceX, bnd, ownV, ownC, own1, ownT, isSl, nSl, endL, Md.isOwn, purge, purgeH, purgeB, purgeE, hasName, name1, List.any_cons,
                List.any_nil, Md.isWr, pureV.pureP, Option.map, reduceIte, Nat.reduceEqDiff, Nat.reduceAdd, Nat.reduceMul, Nat.reduceLT, Nat.reduceLeDiff, List.mapM_cons,
                List.mapM_nil, Option.pure_def, Option.bind_eq_bind, Option.bind_some, implies_true, forall_const, beq_self_eq_true, decide_true, decide_false, eq_self,
                Int.reduceEq, Int.reduceLE, Int.reduceLT, if_true, if_false, fc59_0, fc59_1, fc59_2, fc59_3, fc59_4, Int.reduceAdd, Int.reduceSub, Int.reduceMul, Int.reduceNeg,
                Int.reducePow, Nat.reducePow, Int.reduceToNat, Nat.reduceSub, List.replicate, Nat.reduceBEq, wAs, wA, wC, zipW, noDupN, grpE, g_laws_eqBone, grpC, en0, dc_en0] <;> first | rfl | (simp only [Nat.add_comm]; done)); (simp only [hp]); (
        intro st2 ht hw; simp only [Kq_ret, Kb_ret, Kl_ret, ret_ok]; first | exact h0 _ hw | exact h0 _ rfl hw | exact h1 _ rfl hw | exact h0 _ ht hw | exact h1 _ ht hw | refine ⟨_, hw, ?_⟩); rotate_left; (
        intro st2 ht hw; (try simp only [ht, reduceCtorEq, Bool.not_eq_true', decide_eq_false_iff_not, Bool.not_true, Bool.not_false, Bool.false_or, Bool.true_or, Bool.true_and, Bool.false_and, Bool.and_eq_true, Bool.or_eq_true, if_true, if_false, reduceIte, Bool.false_eq_true, and_true, true_and, false_or, or_false, decide_eq_true_eq, not_false_eq_true, not_true_eq_false] at hp); simp only [
          hp, grpA, vsliceS, grpS, grpD, grpF, grpL, eop, vop, bop, uop, fltop, convop, endOk, newE, new1, freshL, Md.isNew, outV, pureV, pureX, pure1, AV.cells, AV.one, storable,
                laid, refless, refless1, vload, loadC, storeC, vnil, vfaddr, vextract, flatT, flatE, flatC, vconv, vmm, vidxA, viaddrA, vfield, vlen, elemsOf, dF32, dF64, dI64, dU8,
                dBool, dStr, esOk, elemsS, vsliceX, bnd, ownV, ownC, own1, ownT, isSl, nSl, endL, Md.isOwn, purge, purgeH, purgeB, purgeE, hasName, name1, List.any_cons,
                List.any_nil, Md.isWr, pureV.pureP, Option.map, reduceIte, Nat.reduceEqDiff, Nat.reduceAdd, Nat.reduceMul, Nat.reduceLT, Nat.reduceLeDiff, List.mapM_cons,
                List.mapM_nil, Option.pure_def, Option.bind_eq_bind, Option.bind_some, implies_true, forall_const, beq_self_eq_true, decide_true, decide_false, eq_self,
                Int.reduceEq, Int.reduceLE, Int.reduceLT, if_true, if_false, fc59_0, fc59_1, fc59_2, fc59_3, fc59_4, Int.reduceAdd, Int.reduceSub, Int.reduceMul, Int.reduceNeg,
                Int.reducePow, Nat.reducePow, Int.reduceToNat, Nat.reduceSub, List.replicate, Nat.reduceBEq, wAs, wA, wC, zipW, noDupN, grpE, g_laws_eqBone, grpC, en0, dc_en0]; refine KW_of hw ?_; simp only [ht, 
          hp, grpA, vsliceS, grpS, grpD, grpF, grpL, eop, vop, bop, uop, fltop, convop, endOk, newE, new1, freshL, Md.isNew, outV, pureV, pureX, pure1, AV.cells, AV.one, storable,
                laid, refless, refless1, vload, loadC, storeC, vnil, vfaddr, vextract, flatT, flatE, flatC, vconv, vmm, vidxA, viaddrA, vfield, vlen, elemsOf, dF32, dF64, dI64, dU8,
                dBool, dStr, esOk, elemsS, vsliceX, bnd, ownV, ownC, own1, ownT, isSl, nSl, endL, Md.isOwn, purge, purgeH, purgeB, purgeE, hasName, name1, List.any_cons,
                List.any_nil, Md.isWr, pureV.pureP, Option.map, reduceIte, Nat.reduceEqDiff, Nat.reduceAdd, Nat.reduceMul, Nat.reduceLT, Nat.reduceLeDiff, List.mapM_cons,
                List.mapM_nil, Option.pure_def, Option.bind_eq_bind, Option.bind_some, implies_true, forall_const, beq_self_eq_true, decide_true, decide_false, eq_self,
                Int.reduceEq, Int.reduceLE, Int.reduceLT, if_true, if_false, fc59_0, fc59_1, fc59_2, fc59_3, fc59_4, Int.reduceAdd, Int.reduceSub, Int.reduceMul, Int.reduceNeg,
                Int.reducePow, Nat.reducePow, Int.reduceToNat, Nat.reduceSub, List.replicate, Nat.reduceBEq, wAs, wA, wC, zipW, noDupN, grpE, g_laws_eqBone, grpC, en0, dc_en0])))
      all_goals (try simp only [*, m_laws_eqBoneS, Bool.and_true, Bool.true_and, Bool.and_false, Bool.false_and, Bool.or_true, Bool.true_or, Bool.or_false, Bool.false_or, Bool.not_true, Bool.not_false, Bool.false_eq_true, if_true, if_false, reduceIte, decide_true, decide_false])
      all_goals (try (simp_all; done))
    · cases h
  · cases h
def m_laws_eqSkeleton (x0 : (List (Int × Nat × Nat × Nat))) (x1 : (List (Int × Nat × Nat × Nat))) : Bool := (if (m_laws_eqBoneS x0 x1) = true then true else false)
def p_laws_eqSkeleton (x0 : (List (Int × Nat × Nat × Nat))) (x1 : (List (Int × Nat × Nat × Nat))) : Bool := (p_laws_eqBoneS x0 x1)
def g_laws_eqSkeleton : List AV → Option AV
  | [.agg [.sl w0], .agg [.sl w1]] => (match decL dc_en0 w0 with | some y0 => ((match decL dc_en0 w1 with | some y1 => (if p_laws_eqSkeleton y0 y1 = true then some (.bool (m_laws_eqSkeleton y0 y1)) else none) | none => none)) | none => none)
  | _ => none
def ic16 : ICode := (.seq (.reg [⟨(some 2), none, (.box 1 (.t 0))⟩, ⟨(some 3), none, (.box 1 (.t 1))⟩, ⟨(some 4), none, (.mov (.c (.bool false)))⟩] [2, 3]) (.seq (.seq (.reg [⟨(some
      5), none, (.faddr 0 (.t 2))⟩, ⟨(some 6), none, (.load none (.t 5))⟩, ⟨(some 7), none, (.faddr 0 (.t 3))⟩, ⟨(some 8), none, (.load none (.t 7))⟩, ⟨(some 9), none, (.call (.fn
      59) [(.t 6), (.t 8)] [])⟩, ⟨(some 10), none, (.un .not (.t 9))⟩] [10]) (.cond (.t 10) (.seq (.reg [⟨(some 4), none, (.mov (.c (.bool false)))⟩] [4]) .ret) .skip)) (.seq (.reg
      [⟨(some 4), none, (.mov (.c (.bool true)))⟩] [4]) .ret)))
def cp16 : CP := CP.mk [] [] [[2, 3], [10], [4], [4]] 11 [] []
theorem fc16_0 : IntKind.wrap .i64 0 = 0 := by decide
theorem fc16_1 : IntKind.wrap .i64 1 = 1 := by decide
theorem fc16_2 : IntKind.wrap .i64 2 = 2 := by decide
theorem fc16_3 : IntKind.wrap .i64 3 = 3 := by decide
theorem fc16_4 : IntKind.wrap .i64 4 = 4 := by decide
theorem s16 : ∀ vs r, g_laws_eqSkeleton vs = some r → SaysM Try.prog .any 16 vs r := by
  intro vs r h
  unfold g_laws_eqSkeleton at h
  split at h
  · rename_i w0 w1
    cases hd_y0 : decL dc_en0 w0 with
    | none => rw [hd_y0] at h; cases h
    | some y0 =>
    rw [hd_y0] at h
    obtain rfl := decL_inv dc_en0_inv hd_y0
    clear hd_y0
    dsimp only at h
    cases hd_y1 : decL dc_en0 w1 with
    | none => rw [hd_y1] at h; cases h
    | some y1 =>
    rw [hd_y1] at h
    obtain rfl := decL_inv dc_en0_inv hd_y1
    clear hd_y1
    dsimp only at h
    split at h
    · rename_i hp
      cases h
      refine spec_of (m := .any) (tab := tabOf [(59, wM .any g_laws_eqBoneS)]) (cp := cp16) (ic := ic16) (rvl := [(.t 4)]) hm (tabOk_cons (m := .any) s59 tabOk_nil) Try.func16 rfl rfl rfl (by kernel_rfl) rfl (Nat.le_of_ble_eq_true rfl) (Nat.le_of_ble_eq_true rfl) ?_
      show eA _ _ _ _
      unfold ic16
      simp only [p_laws_eqSkeleton, Bool.and_eq_true, Bool.or_eq_true, decide_eq_true_eq, Bool.not_eq_true', decide_eq_false_iff_not] at hp
      simp only [
          hp, grpA, vsliceS, grpS, grpD, grpF, grpL, eop, vop, bop, uop, fltop, convop, endOk, newE, new1, freshL, Md.isNew, outV, pureV, pureX, pure1, AV.cells, AV.one, storable,
                laid, refless, refless1, vload, loadC, storeC, vnil, vfaddr, vextract, flatT, flatE, flatC, vconv, vmm, vidxA, viaddrA, vfield, vlen, elemsOf, dF32, dF64, dI64, dU8,
                dBool, dStr, esOk, elemsS, vsliceX, bnd, ownV, ownC, own1, ownT, isSl, nSl, endL, Md.isOwn, purge, purgeH, purgeB, purgeE, hasName, name1, List.any_cons,
                List.any_nil, Md.isWr, pureV.pureP, Option.map, reduceIte, Nat.reduceEqDiff, Nat.reduceAdd, Nat.reduceMul, Nat.reduceLT, Nat.reduceLeDiff, List.mapM_cons,
                List.mapM_nil, Option.pure_def, Option.bind_eq_bind, Option.bind_some, implies_true, forall_const, beq_self_eq_true, decide_true, decide_false, eq_self,
                Int.reduceEq, Int.reduceLE, Int.reduceLT, if_true, if_false, fc16_0, fc16_1, fc16_2, fc16_3, fc16_4, Int.reduceAdd, Int.reduceSub, Int.reduceMul, Int.reduceNeg,
                Int.reducePow, Nat.reducePow, Int.reduceToNat, Nat.reduceSub, List.replicate, Nat.reduceBEq, wAs, wA, wC, zipW, noDupN, grpE, g_laws_eqBoneS, grpC, en0, dc_en0]
      repeat' (first
        | ((first | (refine eGI_of (fun h => ?_) (fun h => ?_)) | (refine eCc_of (fun h => ?_) (fun h => ?_))) <;> (try simp only [Bool.not_eq_true', Bool.not_eq_false'] at h) <;> (try simp only [h, reduceCtorEq, Bool.not_eq_true', decide_eq_false_iff_not, Bool.not_true, Bool.not_false, Bool.false_or, Bool.true_or, Bool.true_and, Bool.false_and, Bool.and_eq_true, Bool.or_eq_true, if_true, if_false, reduceIte, Bool.false_eq_true, and_true, true_and, false_or, or_false, decide_eq_true_eq, not_false_eq_true, not_true_eq_false] at hp) <;> (try (have h2 := h; simp only [decide_eq_true_eq, decide_eq_false_iff_not] at h2; (first | (replace h2 := eq_false h2) | (replace h2 := eq_true h2)); simp only [h2, if_true, if_false, false_or, true_or, or_true, or_false, and_true, true_and, not_false_eq_true, not_true_eq_false] at hp)) <;> simp only [h,
          hp, grpA, vsliceS, grpS, grpD, grpF, grpL, eop, vop, bop, uop, fltop, convop, endOk, newE, new1, freshL, Md.isNew, outV, pureV, pureX, pure1, AV.cells, AV.one, storable,
                laid, refless, refless1, vload, loadC, storeC, vnil, vfaddr, vextract, flatT, flatE, flatC, vconv, vmm, vidxA, viaddrA, vfield, vlen, elemsOf, dF32, dF64, dI64, dU8,
                dBool, dStr, esOk, elemsS, vsliceX, bnd, ownV, ownC, own1, ownT, isSl, nSl, endL, Md.isOwn, purge, purgeH, purgeB, purgeE, hasName, name1, List.any_cons,
                List.any_nil, Md.isWr, pureV.pureP, Option.map, reduceIte, Nat.reduceEqDiff, Nat.reduceAdd, Nat.reduceMul, Nat.reduceLT, Nat.reduceLeDiff, List.mapM_cons,
                List.mapM_nil, Option.pure_def, Option.bind_eq_bind, Option.bind_some, implies_true, forall_const, beq_self_eq_true, decide_true, decide_false, eq_self,
                Int.reduceEq, Int.reduceLE, Int.reduceLT, if_true, if_false, fc16_0, fc16_1, fc16_2, fc16_3, fc16_4, Int.reduceAdd, Int.reduceSub, Int.reduceMul, Int.reduceNeg,
                Int.reducePow, Nat.reducePow, Int.reduceToNat, Nat.reduceSub, List.replicate, Nat.reduceBEq, wAs, wA, wC, zipW, noDupN, grpE, g_laws_eqBoneS, grpC, en0, dc_en0]))
      all_goals (try simp only [*, m_laws_eqSkeleton, Bool.and_true, Bool.true_and, Bool.and_false, Bool.false_and, Bool.or_true, Bool.true_or, Bool.or_false, Bool.false_or, Bool.not_true, Bool.not_false, Bool.false_eq_true, if_true, if_false, reduceIte, decide_true, decide_false])
      all_goals (try (simp_all; done))
    · cases h
  · cases h
def l_laws_eqInt64S_0 (x0 : (List Int)) (x1 : (List Int)) : Nat → Int → Option (Bool × Bool × Unit)
  | 0, _ => none
  | n + 1, z0_0 => (if (decide (z0_0 < ((List.length x0 : Nat) : Int))) = true then (need (inB z0_0 (List.length x0)) (need (inB z0_0 (List.length x1)) (if (decide ((atI x0 z0_0) =
        (atI x1 z0_0))) = true then (l_laws_eqInt64S_0 x0 x1 n (IntKind.wrap .i64 (z0_0 + 1))) else (some (true, false, default))))) else (some (false, default, ())))
def m_laws_eqInt64S (x0 : (List Int)) (x1 : (List Int)) : Bool := (if (decide (((List.length x0 : Nat) : Int) = ((List.length x1 : Nat) : Int))) = true then (if (Option.getD
      (l_laws_eqInt64S_0 x0 x1 (Int.toNat (((List.length x0 : Nat) : Int) - 0) + 2) 0) default).1 = true then (Option.getD (l_laws_eqInt64S_0 x0 x1 (Int.toNat (((List.length x0 :
      Nat) : Int) - 0) + 2) 0) default).2.1 else true) else false)
def p_laws_eqInt64S (x0 : (List Int)) (x1 : (List Int)) : Bool := (!(decide (((List.length x0 : Nat) : Int) = ((List.length x1 : Nat) : Int))) || (Option.isSome (l_laws_eqInt64S_0
      x0 x1 (Int.toNat (((List.length x0 : Nat) : Int) - 0) + 2) 0)))
def g_laws_eqInt64S : List AV → Option AV
  | [.sl w0, .sl w1] => (match decL dI64 w0 with | some y0 => ((match decL dI64 w1 with | some y1 => (if p_laws_eqInt64S y0 y1 = true then some (.bool (m_laws_eqInt64S y0 y1)) else none) | none => none)) | none => none)
  | _ => none
def lb17_0 : ICode := (.seq (.seq (.reg [⟨(some 11), none, (.mov (.t 5))⟩, ⟨(some 12), none, (.mov (.t 0))⟩, ⟨(some 13), none, (.len false (.t 12))⟩, ⟨(some 14), none, (.bin .lss
      false (.t 11) (.t 13))⟩] [0, 1, 5, 14]) (.cond (.t 14) .skip (.exit 0))) (.seq (.block 1 (.seq (.reg [⟨(some 17), none, (.mov (.t 0))⟩, ⟨(some 18), none, (.mov (.t 5))⟩,
      ⟨(some 19), none, (.iaddrS 1 (.t 17) (.t 18))⟩, ⟨(some 20), none, (.load none (.t 19))⟩, ⟨(some 21), none, (.mov (.t 1))⟩, ⟨(some 22), none, (.mov (.t 5))⟩, ⟨(some 23), none,
      (.iaddrS 1 (.t 21) (.t 22))⟩, ⟨(some 24), none, (.load none (.t 23))⟩, ⟨(some 25), none, (.bin .neq false (.t 20) (.t 24))⟩] [0, 1, 5, 25]) (.cond (.t 25) (.seq (.reg [⟨(some
      4), none, (.mov (.c (.bool false)))⟩] [4]) .ret) .skip))) (.reg [⟨(some 15), none, (.mov (.t 5))⟩, ⟨(some 16), none, (.bin .add false (.t 15) (.c (.int .i64 1)))⟩, ⟨(some 5),
      none, (.mov (.t 16))⟩] [0, 1, 5])))
def ic17 : ICode := (.seq (.reg [⟨(some 4), none, (.mov (.c (.bool false)))⟩] [0, 1]) (.seq (.seq (.reg [⟨(some 6), none, (.mov (.t 0))⟩, ⟨(some 7), none, (.len false (.t 6))⟩,
      ⟨(some 8), none, (.mov (.t 1))⟩, ⟨(some 9), none, (.len false (.t 8))⟩, ⟨(some 10), none, (.bin .neq false (.t 7) (.t 9))⟩] [0, 1, 10]) (.cond (.t 10) (.seq (.reg [⟨(some 4),
      none, (.mov (.c (.bool false)))⟩] [4]) .ret) .skip)) (.seq (.seq (.reg [⟨(some 5), none, (.mov (.c (.int .i64 0)))⟩] [0, 1, 5]) (.block 0 (.loop lb17_0))) (.seq (.reg [⟨(some
      4), none, (.mov (.c (.bool true)))⟩] [4]) .ret))))
def cp17 : CP := CP.mk [] [] [[0, 1], [0, 1, 10], [4], [0, 1, 5], [0, 1, 5, 14], [0, 1, 5], [0, 1, 5, 25], [4], [4]] 26 [] []
theorem fc17_0 : IntKind.wrap .i64 0 = 0 := by decide
theorem fc17_1 : IntKind.wrap .i64 1 = 1 := by decide
theorem fc17_2 : IntKind.wrap .i64 2 = 2 := by decide
theorem fc17_3 : IntKind.wrap .i64 3 = 3 := by decide
theorem fc17_4 : IntKind.wrap .i64 4 = 4 := by decide
theorem sl17_0 (x0 : (List Int)) (x1 : (List Int)) : ∀ (n : Nat) (z0_0 : Int) (o : (Bool × Bool × Unit)) (K : IExit → St → Prop), l_laws_eqInt64S_0 x0 x1 n z0_0 = some o → (∀ st,
      o.1 = true → outM .any st [(.t 4)] = some (.bool o.2.1) → K .ret st) → (∀ st, o.1 = false → Wk st (⟨[], []⟩ : St) → K (.exit 0) st) → eA (tabOf []) (.loop lb17_0) (⟨[(0, (.sl
      (List.map (AV.int .i64) x0))), (1, (.sl (List.map (AV.int .i64) x1))), (5, (.int .i64 z0_0))], []⟩ : St) K := by
  intro n
  induction n with
  | zero =>
    intro z0_0 o K h h0 h1
    simp only [l_laws_eqInt64S_0, reduceCtorEq] at h
  | succ n ih =>
    intro z0_0 o K h h0 h1
    refine eA_loop ?_
    unfold lb17_0
    unfold l_laws_eqInt64S_0 at h
    (try simp only [need_iff] at h)
    simp only [
      need_iff, h, grpA, vsliceS, grpS, grpD, grpF, grpL, eop, vop, bop, uop, fltop, convop, endOk, newE, new1, freshL, Md.isNew, outV, pureV, pureX, pure1, AV.cells, AV.one,
            storable, laid, refless, refless1, vload, loadC, storeC, vnil, vfaddr, vextract, flatT, flatE, flatC, vconv, vmm, vidxA, viaddrA, vfield, vlen, elemsOf, dF32, dF64,
            dI64, dU8, dBool, dStr, esOk, elemsS, vsliceX, bnd, ownV, ownC, own1, ownT, isSl, nSl, endL, Md.isOwn, purge, purgeH, purgeB, purgeE, hasName, name1, List.any_cons,
            List.any_nil, Md.isWr, pureV.pureP, Option.map, reduceIte, Nat.reduceEqDiff, Nat.reduceAdd, Nat.reduceMul, Nat.reduceLT, Nat.reduceLeDiff, List.mapM_cons, List.mapM_nil,
            Option.pure_def, Option.bind_eq_bind, Option.bind_some, implies_true, forall_const, beq_self_eq_true, decide_true, decide_false, eq_self, Int.reduceEq, Int.reduceLE,
            Int.reduceLT, if_true, if_false, fc17_0, fc17_1, fc17_2, fc17_3, fc17_4, Int.reduceAdd, Int.reduceSub, Int.reduceMul, Int.reduceNeg, Int.reducePow, Nat.reducePow,
            Int.reduceToNat, Nat.reduceSub, List.replicate, Nat.reduceBEq, wAs, wA, wC, zipW, noDupN, grpE, grpC, en0, dc_en0]
    repeat' (first
      | ((first | (refine eGI_of (fun hc => ?_) (fun hc => ?_)) | (refine eCc_of (fun hc => ?_) (fun hc => ?_)) | (have hc := True.intro; refine KW_refl ?_)) <;> (try simp only [Bool.not_eq_true', Bool.not_eq_false'] at hc) <;> (try simp only [hc, need_iff, reduceCtorEq, Bool.not_eq_true', decide_eq_false_iff_not, Bool.not_true, Bool.not_false, Bool.false_or, Bool.true_or, Bool.true_and, Bool.false_and, Bool.and_eq_true, Bool.or_eq_true, if_true, if_false, reduceIte, Bool.false_eq_true, and_true, true_and, false_or, or_false, decide_eq_true_eq, not_false_eq_true, not_true_eq_false] at h) <;> (try (have hc2 := hc; simp only [decide_eq_true_eq, decide_eq_false_iff_not] at hc2; (first | (replace hc2 := eq_false hc2) | (replace hc2 := eq_true hc2)); simp only [hc2, if_true, if_false, need_iff, reduceCtorEq, Bool.not_eq_true', decide_eq_false_iff_not, Bool.not_true, Bool.not_false, Bool.false_or, Bool.true_or, Bool.true_and, Bool.false_and, Bool.and_eq_true, Bool.or_eq_true, if_true, if_false, reduceIte, Bool.false_eq_true, and_true, true_and, false_or, or_false, decide_eq_true_eq, not_false_eq_true, not_true_eq_false] at h)) <;> simp only [hc,
      need_iff, h, grpA, vsliceS, grpS, grpD, grpF, grpL, eop, vop, bop, uop, fltop, convop, endOk, newE, new1, freshL, Md.isNew, outV, pureV, pureX, pure1, AV.cells, AV.one,
            storable, laid, refless, refless1, vload, loadC, storeC, vnil, vfaddr, vextract, flatT, flatE, flatC, vconv, vmm, vidxA, viaddrA, vfield, vlen, elemsOf, dF32, dF64,
            dI64, dU8, dBool, dStr, esOk, elemsS, vsliceX, bnd, ownV, ownC, own1, ownT, isSl, nSl, endL, Md.isOwn, purge, purgeH, purgeB, purgeE, hasName, name1, List.any_cons,
            List.any_nil, Md.isWr, pureV.pureP, Option.map, reduceIte, Nat.reduceEqDiff, Nat.reduceAdd, Nat.reduceMul, Nat.reduceLT, Nat.reduceLeDiff, List.mapM_cons, List.mapM_nil,
            Option.pure_def, Option.bind_eq_bind, Option.bind_some, implies_true, forall_const, beq_self_eq_true, decide_true, decide_false, eq_self, Int.reduceEq, Int.reduceLE,
            Int.reduceLT, if_true, if_false, fc17_0, fc17_1, fc17_2, fc17_3, fc17_4, Int.reduceAdd, Int.reduceSub, Int.reduceMul, Int.reduceNeg, Int.reducePow, Nat.reducePow,
            Int.reduceToNat, Nat.reduceSub, List.replicate, Nat.reduceBEq, wAs, wA, wC, zipW, noDupN, grpE, grpC, en0, dc_en0]))
    all_goals (repeat (replace h := And.right h))
    all_goals first
      | (refine eA_wk (wk_norm (ks := [0, 1, 5]) (ls := []) ?_) (eA_cast ?_ (ih _ _ _ h h0 h1)); (simp only [normOk, optIn, blkIn, nameIn,
      need_iff, h, grpA, vsliceS, grpS, grpD, grpF, grpL, eop, vop, bop, uop, fltop, convop, endOk, newE, new1, freshL, Md.isNew, outV, pureV, pureX, pure1, AV.cells, AV.one,
            storable, laid, refless, refless1, vload, loadC, storeC, vnil, vfaddr, vextract, flatT, flatE, flatC, vconv, vmm, vidxA, viaddrA, vfield, vlen, elemsOf, dF32, dF64,
            dI64, dU8, dBool, dStr, esOk, elemsS, vsliceX, bnd, ownV, ownC, own1, ownT, isSl, nSl, endL, Md.isOwn, purge, purgeH, purgeB, purgeE, hasName, name1, List.any_cons,
            List.any_nil, Md.isWr, pureV.pureP, Option.map, reduceIte, Nat.reduceEqDiff, Nat.reduceAdd, Nat.reduceMul, Nat.reduceLT, Nat.reduceLeDiff, List.mapM_cons, List.mapM_nil,
            Option.pure_def, Option.bind_eq_bind, Option.bind_some, implies_true, forall_const, beq_self_eq_true, decide_true, decide_false, eq_self, Int.reduceEq, Int.reduceLE,
            Int.reduceLT, if_true, if_false, fc17_0, fc17_1, fc17_2, fc17_3, fc17_4, Int.reduceAdd, Int.reduceSub, Int.reduceMul, Int.reduceNeg, Int.reducePow, Nat.reducePow,
            Int.reduceToNat, Nat.reduceSub, List.replicate, Nat.reduceBEq, wAs, wA, wC, zipW, noDupN, grpE, grpC, en0, dc_en0] <;> rfl); (simp only [normS, List.map_append, List.length_append, List.map_set, List.length_set, List.map_replicate, List.length_replicate, List.map_nil, List.map_cons,
      need_iff, h, grpA, vsliceS, grpS, grpD, grpF, grpL, eop, vop, bop, uop, fltop, convop, endOk, newE, new1, freshL, Md.isNew, outV, pureV, pureX, pure1, AV.cells, AV.one,
            storable, laid, refless, refless1, vload, loadC, storeC, vnil, vfaddr, vextract, flatT, flatE, flatC, vconv, vmm, vidxA, viaddrA, vfield, vlen, elemsOf, dF32, dF64,
            dI64, dU8, dBool, dStr, esOk, elemsS, vsliceX, bnd, ownV, ownC, own1, ownT, isSl, nSl, endL, Md.isOwn, purge, purgeH, purgeB, purgeE, hasName, name1, List.any_cons,
            List.any_nil, Md.isWr, pureV.pureP, Option.map, reduceIte, Nat.reduceEqDiff, Nat.reduceAdd, Nat.reduceMul, Nat.reduceLT, Nat.reduceLeDiff, List.mapM_cons, List.mapM_nil,
            Option.pure_def, Option.bind_eq_bind, Option.bind_some, implies_true, forall_const, beq_self_eq_true, decide_true, decide_false, eq_self, Int.reduceEq, Int.reduceLE,
            Int.reduceLT, if_true, if_false, fc17_0, fc17_1, fc17_2, fc17_3, fc17_4, Int.reduceAdd, Int.reduceSub, Int.reduceMul, Int.reduceNeg, Int.reducePow, Nat.reducePow,
            Int.reduceToNat, Nat.reduceSub, List.replicate, Nat.reduceBEq, wAs, wA, wC, zipW, noDupN, grpE, grpC, en0, dc_en0] <;> first | rfl | (simp only [Nat.add_comm]; done)))
      | (cases h; refine h0 _ rfl ?_; simp only [
      grpA, vsliceS, grpS, grpD, grpF, grpL, eop, vop, bop, uop, fltop, convop, endOk, newE, new1, freshL, Md.isNew, outV, pureV, pureX, pure1, AV.cells, AV.one, storable, laid,
            refless, refless1, vload, loadC, storeC, vnil, vfaddr, vextract, flatT, flatE, flatC, vconv, vmm, vidxA, viaddrA, vfield, vlen, elemsOf, dF32, dF64, dI64, dU8, dBool,
            dStr, esOk, elemsS, vsliceX, bnd, ownV, ownC, own1, ownT, isSl, nSl, endL, Md.isOwn, purge, purgeH, purgeB, purgeE, hasName, name1, List.any_cons, List.any_nil, Md.isWr,
            pureV.pureP, Option.map, reduceIte, Nat.reduceEqDiff, Nat.reduceAdd, Nat.reduceMul, Nat.reduceLT, Nat.reduceLeDiff, List.mapM_cons, List.mapM_nil, Option.pure_def,
            Option.bind_eq_bind, Option.bind_some, implies_true, forall_const, beq_self_eq_true, decide_true, decide_false, eq_self, Int.reduceEq, Int.reduceLE, Int.reduceLT,
            if_true, if_false, fc17_0, fc17_1, fc17_2, fc17_3, fc17_4, Int.reduceAdd, Int.reduceSub, Int.reduceMul, Int.reduceNeg, Int.reducePow, Nat.reducePow, Int.reduceToNat,
            Nat.reduceSub, List.replicate, Nat.reduceBEq, wAs, wA, wC, zipW, noDupN, grpE, grpC, en0, dc_en0])
      | (cases h; refine h1 _ rfl (Wk.cast (wk_norm (ks := []) (ls := []) ?_) ?_); (simp only [normOk, optIn, blkIn, nameIn,
      grpA, vsliceS, grpS, grpD, grpF, grpL, eop, vop, bop, uop, fltop, convop, endOk, newE, new1, freshL, Md.isNew, outV, pureV, pureX, pure1, AV.cells, AV.one, storable, laid,
            refless, refless1, vload, loadC, storeC, vnil, vfaddr, vextract, flatT, flatE, flatC, vconv, vmm, vidxA, viaddrA, vfield, vlen, elemsOf, dF32, dF64, dI64, dU8, dBool,
            dStr, esOk, elemsS, vsliceX, bnd, ownV, ownC, own1, ownT, isSl, nSl, endL, Md.isOwn, purge, purgeH, purgeB, purgeE, hasName, name1, List.any_cons, List.any_nil, Md.isWr,
            pureV.pureP, Option.map, reduceIte, Nat.reduceEqDiff, Nat.reduceAdd, Nat.reduceMul, Nat.reduceLT, Nat.reduceLeDiff, List.mapM_cons, List.mapM_nil, Option.pure_def,
            Option.bind_eq_bind, Option.bind_some, implies_true, forall_const, beq_self_eq_true, decide_true, decide_false, eq_self, Int.reduceEq, Int.reduceLE, Int.reduceLT,
            if_true, if_false, fc17_0, fc17_1, fc17_2, fc17_3, fc17_4, Int.reduceAdd, Int.reduceSub, Int.reduceMul, Int.reduceNeg, Int.reducePow, Nat.reducePow, Int.reduceToNat,
            Nat.reduceSub, List.replicate, Nat.reduceBEq, wAs, wA, wC, zipW, noDupN, grpE, grpC, en0, dc_en0] <;> rfl); (simp only [normS, List.map_append, List.length_append, List.map_set, List.length_set, List.map_replicate, List.length_replicate,
      grpA, vsliceS, grpS, grpD, grpF, grpL, eop, vop, bop, uop, fltop, convop, endOk, newE, new1, freshL, Md.isNew, outV, pureV, pureX, pure1, AV.cells, AV.one, storable, laid,
            refless, refless1, vload, loadC, storeC, vnil, vfaddr, vextract, flatT, flatE, flatC, vconv, vmm, vidxA, viaddrA, vfield, vlen, elemsOf, dF32, dF64, dI64, dU8, dBool,
            dStr, esOk, elemsS, vsliceX, bnd, ownV, ownC, own1, ownT, isSl, nSl, endL, Md.isOwn, purge, purgeH, purgeB, purgeE, hasName, name1, List.any_cons, List.any_nil, Md.isWr,
            pureV.pureP, Option.map, reduceIte, Nat.reduceEqDiff, Nat.reduceAdd, Nat.reduceMul, Nat.reduceLT, Nat.reduceLeDiff, List.mapM_cons, List.mapM_nil, Option.pure_def,
            Option.bind_eq_bind, Option.bind_some, implies_true, forall_const, beq_self_eq_true, decide_true, decide_false, eq_self, Int.reduceEq, Int.reduceLE, Int.reduceLT,
            if_true, if_false, fc17_0, fc17_1, fc17_2, fc17_3, fc17_4, Int.reduceAdd, Int.reduceSub, Int.reduceMul, Int.reduceNeg, Int.reducePow, Nat.reducePow, Int.reduceToNat,
            Nat.reduceSub, List.replicate, Nat.reduceBEq, wAs, wA, wC, zipW, noDupN, grpE, grpC, en0, dc_en0] <;> first | rfl | (simp only [Nat.add_comm]; done)))
theorem s17 : ∀ vs r, g_laws_eqInt64S vs = some r → SaysM Try.prog .any 17 vs r := by
  intro vs r h
  unfold g_laws_eqInt64S at h
  split at h
  · rename_i w0 w1
    cases hd_y0 : decL dI64 w0 with
    | none => rw [hd_y0] at h; cases h
    | some y0 =>
    rw [hd_y0] at h
    obtain rfl := decL_inv dI64_inv hd_y0
    clear hd_y0
    dsimp only at h
    cases hd_y1 : decL dI64 w1 with
    | none => rw [hd_y1] at h; cases h
    | some y1 =>
    rw [hd_y1] at h
    obtain rfl := decL_inv dI64_inv hd_y1
    clear hd_y1
    dsimp only at h
    split at h
    · rename_i hp
      cases h
      refine spec_of (m := .any) (tab := tabOf []) (cp := cp17) (ic := ic17) (rvl := [(.t 4)]) hm tabOk_nil Try.func17 rfl rfl rfl (by kernel_rfl) rfl (Nat.le_of_ble_eq_true rfl) (Nat.le_of_ble_eq_true rfl) ?_
      show eA _ _ _ _
      unfold ic17
      simp only [p_laws_eqInt64S, Bool.and_eq_true, Bool.or_eq_true, decide_eq_true_eq, Bool.not_eq_true', decide_eq_false_iff_not] at hp
      simp only [
          hp, grpA, vsliceS, grpS, grpD, grpF, grpL, eop, vop, bop, uop, fltop, convop, endOk, newE, new1, freshL, Md.isNew, outV, pureV, pureX, pure1, AV.cells, AV.one, storable,
                laid, refless, refless1, vload, loadC, storeC, vnil, vfaddr, vextract, flatT, flatE, flatC, vconv, vmm, vidxA, viaddrA, vfield, vlen, elemsOf, dF32, dF64, dI64, dU8,
                dBool, dStr, esOk, elemsS, vsliceX, bnd, ownV, ownC, own1, ownT, isSl, nSl, endL, Md.isOwn, purge, purgeH, purgeB, purgeE, hasName, name1, List.any_cons,
                List.any_nil, Md.isWr, pureV.pureP, Option.map, reduceIte, Nat.reduceEqDiff, Nat.reduceAdd, Nat.reduceMul, Nat.reduceLT, Nat.reduceLeDiff, List.mapM_cons,
                List.mapM_nil, Option.pure_def, Option.bind_eq_bind, Option.bind_some, implies_true, forall_const, beq_self_eq_true, decide_true, decide_false, eq_self,
                Int.reduceEq, Int.reduceLE, Int.reduceLT, if_true, if_false, fc17_0, fc17_1, fc17_2, fc17_3, fc17_4, Int.reduceAdd, Int.reduceSub, Int.reduceMul, Int.reduceNeg,
                Int.reducePow, Nat.reducePow, Int.reduceToNat, Nat.reduceSub, List.replicate, Nat.reduceBEq, wAs, wA, wC, zipW, noDupN, grpE, grpC, en0, dc_en0]
      repeat' (first
        | ((first | (refine eGI_of (fun h => ?_) (fun h => ?_)) | (refine eCc_of (fun h => ?_) (fun h => ?_)) | (have h := True.intro; refine KW_refl ?_)) <;> (try simp only [Bool.not_eq_true', Bool.not_eq_false'] at h) <;> (try simp only [h, reduceCtorEq, Bool.not_eq_true', decide_eq_false_iff_not, Bool.not_true, Bool.not_false, Bool.false_or, Bool.true_or, Bool.true_and, Bool.false_and, Bool.and_eq_true, Bool.or_eq_true, if_true, if_false, reduceIte, Bool.false_eq_true, and_true, true_and, false_or, or_false, decide_eq_true_eq, not_false_eq_true, not_true_eq_false] at hp) <;> (try (have h2 := h; simp only [decide_eq_true_eq, decide_eq_false_iff_not] at h2; (first | (replace h2 := eq_false h2) | (replace h2 := eq_true h2)); simp only [h2, if_true, if_false, false_or, true_or, or_true, or_false, and_true, true_and, not_false_eq_true, not_true_eq_false] at hp)) <;> simp only [h,
          hp, grpA, vsliceS, grpS, grpD, grpF, grpL, eop, vop, bop, uop, fltop, convop, endOk, newE, new1, freshL, Md.isNew, outV, pureV, pureX, pure1, AV.cells, AV.one, storable,
                laid, refless, refless1, vload, loadC, storeC, vnil, vfaddr, vextract, flatT, flatE, flatC, vconv, vmm, vidxA, viaddrA, vfield, vlen, elemsOf, dF32, dF64, dI64, dU8,
                dBool, dStr, esOk, elemsS, vsliceX, bnd, ownV, ownC, own1, ownT, isSl, nSl, endL, Md.isOwn, purge, purgeH, purgeB, purgeE, hasName, name1, List.any_cons,
                List.any_nil, Md.isWr, pureV.pureP, Option.map, reduceIte, Nat.reduceEqDiff, Nat.reduceAdd, Nat.reduceMul, Nat.reduceLT, Nat.reduceLeDiff, List.mapM_cons,
                List.mapM_nil, Option.pure_def, Option.bind_eq_bind, Option.bind_some, implies_true, forall_const, beq_self_eq_true, decide_true, decide_false, eq_self,
                Int.reduceEq, Int.reduceLE, Int.reduceLT, if_true, if_false, fc17_0, fc17_1, fc17_2, fc17_3, fc17_4, Int.reduceAdd, Int.reduceSub, Int.reduceMul, Int.reduceNeg,
                Int.reducePow, Nat.reducePow, Int.reduceToNat, Nat.reduceSub, List.replicate, Nat.reduceBEq, wAs, wA, wC, zipW, noDupN, grpE, grpC, en0, dc_en0])
        | (refine eA_wk (wk_norm (ks := [0, 1, 5]) (ls := []) ?_) (eA_cast ?_ (sl17_0 y0 y1 _ _ _ _ (getD_some (d := default) (x := (l_laws_eqInt64S_0 y0 y1 (Int.toNat (((List.length y0 : Nat) : Int) - 0) + 2) 0)) ?_) ?_ ?_)); (simp only [nilS, nilV, normOk, optIn, blkIn, nameIn, 
          hp, grpA, vsliceS, grpS, grpD, grpF, grpL, eop, vop, bop, uop, fltop, convop, endOk, newE, new1, freshL, Md.isNew, outV, pureV, pureX, pure1, AV.cells, AV.one, storable,
                laid, refless, refless1, vload, loadC, storeC, vnil, vfaddr, vextract, flatT, flatE, flatC, vconv, vmm, vidxA, viaddrA, vfield, vlen, elemsOf, dF32, dF64, dI64, dU8,
                dBool, dStr, esOk, elemsS, vsliceX, bnd, ownV, ownC, own1, ownT, isSl, nSl, endL, Md.isOwn, purge, purgeH, purgeB, purgeE, hasName, name1, List.any_cons,
                List.any_nil, Md.isWr, pureV.pureP, Option.map, reduceIte, Nat.reduceEqDiff, Nat.reduceAdd, Nat.reduceMul, Nat.reduceLT, Nat.reduceLeDiff, List.mapM_cons,
                List.mapM_nil, Option.pure_def, Option.bind_eq_bind, Option.bind_some, implies_true, forall_const, beq_self_eq_true, decide_true, decide_false, eq_self,
                Int.reduceEq, Int.reduceLE, Int.reduceLT, if_true, if_false, fc17_0, fc17_1, fc17_2, fc17_3, fc17_4, Int.reduceAdd, Int.reduceSub, Int.reduceMul, Int.reduceNeg,
                Int.reducePow, Nat.reducePow, Int.reduceToNat, Nat.reduceSub, List.replicate, Nat.reduceBEq, wAs, wA, wC, zipW, noDupN, grpE, grpC, en0, dc_en0] <;> rfl); (simp only [nilS, nilV, normS,  List.map_append, List.length_append, List.map_set, List.length_set, List.map_replicate, List.length_replicate, List.map_nil, List.map_cons,
          hp, grpA, vsliceS, grpS, grpD, grpF, grpL, eop, vop, bop, uop, fltop, convop, endOk, newE, new1, freshL, Md.isNew, outV, pureV, pureX, pure1, AV.cells, AV.one, storable,
                laid, refless, refless1, vload, loadC, storeC, vnil, vfaddr, vextract, flatT, flatE, flatC, vconv, vmm, vidxA, viaddrA, vfield, vlen, elemsOf, dF32, dF64, dI64, dU8,
                dBool, dStr, esOk, elemsS, vsliceX, bnd, ownV, ownC, own1, ownT, isSl, nSl, endL, Md.isOwn, purge, purgeH, purgeB, purgeE, hasName, name1, List.any_cons,
                List.any_nil, Md.isWr, pureV.pureP, Option.map, reduceIte, Nat.reduceEqDiff, Nat.reduceAdd, Nat.reduceMul, Nat.reduceLT, Nat.reduceLeDiff, List.mapM_cons,
                List.mapM_nil, Option.pure_def, Option.bind_eq_bind, Option.bind_some, implies_true, forall_const, beq_self_eq_true, decide_true, decide_false, eq_self,
                Int.reduceEq, Int.reduceLE, Int.reduceLT, if_true, if_false, fc17_0, fc17_1, fc17_2, fc17_3, fc17_4, Int.reduceAdd, Int.reduceSub, Int.reduceMul, Int.reduceNeg,
                Int.reducePow, Nat.reducePow, Int.reduceToNat, Nat.reduceSub, List.replicate, Nat.reduceBEq, wAs, wA, wC, zipW, noDupN, grpE, grpC, en0, dc_en0] <;> first | rfl | (simp only [Nat.add_comm]; done)); (simp only [hp]); (
        intro st2 ht hw; simp only [Kq_ret, Kb_ret, Kl_ret, ret_ok]; first | exact h0 _ hw | exact h0 _ rfl hw | exact h1 _ rfl hw | exact h0 _ ht hw | exact h1 _ ht hw | refine ⟨_, hw, ?_⟩); rotate_left; (
        intro st2 ht hw; (try simp only [ht, reduceCtorEq, Bool.not_eq_true', decide_eq_false_iff_not, Bool.not_true, Bool.not_false, Bool.false_or, Bool.true_or, Bool.true_and, Bool.false_and, Bool.and_eq_true, Bool.or_eq_true, if_true, if_false, reduceIte, Bool.false_eq_true, and_true, true_and, false_or, or_false, decide_eq_true_eq, not_false_eq_true, not_true_eq_false] at hp); simp only [
          hp, grpA, vsliceS, grpS, grpD, grpF, grpL, eop, vop, bop, uop, fltop, convop, endOk, newE, new1, freshL, Md.isNew, outV, pureV, pureX, pure1, AV.cells, AV.one, storable,
                laid, refless, refless1, vload, loadC, storeC, vnil, vfaddr, vextract, flatT, flatE, flatC, vconv, vmm, vidxA, viaddrA, vfield, vlen, elemsOf, dF32, dF64, dI64, dU8,
                dBool, dStr, esOk, elemsS, vsliceX, bnd, ownV, ownC, own1, ownT, isSl, nSl, endL, Md.isOwn, purge, purgeH, purgeB, purgeE, hasName, name1, List.any_cons,
                List.any_nil, Md.isWr, pureV.pureP, Option.map, reduceIte, Nat.reduceEqDiff, Nat.reduceAdd, Nat.reduceMul, Nat.reduceLT, Nat.reduceLeDiff, List.mapM_cons,
                List.mapM_nil, Option.pure_def, Option.bind_eq_bind, Option.bind_some, implies_true, forall_const, beq_self_eq_true, decide_true, decide_false, eq_self,
                Int.reduceEq, Int.reduceLE, Int.reduceLT, if_true, if_false, fc17_0, fc17_1, fc17_2, fc17_3, fc17_4, Int.reduceAdd, Int.reduceSub, Int.reduceMul, Int.reduceNeg,
                Int.reducePow, Nat.reducePow, Int.reduceToNat, Nat.reduceSub, List.replicate, Nat.reduceBEq, wAs, wA, wC, zipW, noDupN, grpE, grpC, en0, dc_en0]; refine KW_of hw ?_; simp only [ht, 
          hp, grpA, vsliceS, grpS, grpD, grpF, grpL, eop, vop, bop, uop, fltop, convop, endOk, newE, new1, freshL, Md.isNew, outV, pureV, pureX, pure1, AV.cells, AV.one, storable,
                laid, refless, refless1, vload, loadC, storeC, vnil, vfaddr, vextract, flatT, flatE, flatC, vconv, vmm, vidxA, viaddrA, vfield, vlen, elemsOf, dF32, dF64, dI64, dU8,
                dBool, dStr, esOk, elemsS, vsliceX, bnd, ownV, ownC, own1, ownT, isSl, nSl, endL, Md.isOwn, purge, purgeH, purgeB, purgeE, hasName, name1, List.any_cons,
                List.any_nil, Md.isWr, pureV.pureP, Option.map, reduceIte, Nat.reduceEqDiff, Nat.reduceAdd, Nat.reduceMul, Nat.reduceLT, Nat.reduceLeDiff, List.mapM_cons,
                List.mapM_nil, Option.pure_def, Option.bind_eq_bind, Option.bind_some, implies_true, forall_const, beq_self_eq_true, decide_true, decide_false, eq_self,
                Int.reduceEq, Int.reduceLE, Int.reduceLT, if_true, if_false, fc17_0, fc17_1, fc17_2, fc17_3, fc17_4, Int.reduceAdd, Int.reduceSub, Int.reduceMul, Int.reduceNeg,
                Int.reducePow, Nat.reducePow, Int.reduceToNat, Nat.reduceSub, List.replicate, Nat.reduceBEq, wAs, wA, wC, zipW, noDupN, grpE, grpC, en0, dc_en0])))
      all_goals (try simp only [*, m_laws_eqInt64S, Bool.and_true, Bool.true_and, Bool.and_false, Bool.false_and, Bool.or_true, Bool.true_or, Bool.or_false, Bool.false_or, Bool.not_true, Bool.not_false, Bool.false_eq_true, if_true, if_false, reduceIte, decide_true, decide_false])
      all_goals (try (simp_all; done))
    · cases h
  · cases h
def l_laws_markBoneS_0 : Nat → (List (Int × Nat × Nat × Nat)) → Int → Int → Option (Int × (List (Int × Nat × Nat × Nat)))
  | 0, _, _, _ => none
  | n + 1, z0_0, z0_1, z0_2 => (if (decide (z0_2 < (((List.length z0_0) : Nat) : Int))) = true then (need (inB z0_2 (List.length z0_0)) (l_laws_markBoneS_0 n (List.set z0_0
        (Int.toNat z0_2) (z0_1, (ofInt .f32 (IntKind.wrap .i64 (z0_1 + 1))), (ofInt .f32 (IntKind.wrap .i64 ((IntKind.wrap .i64 (z0_1 + 1)) + 1))), (ofInt .f32 (IntKind.wrap .i64
        ((IntKind.wrap .i64 ((IntKind.wrap .i64 (z0_1 + 1)) + 1)) + 1))))) (IntKind.wrap .i64 ((IntKind.wrap .i64 ((IntKind.wrap .i64 ((IntKind.wrap .i64 (z0_1 + 1)) + 1)) + 1)) +
        1)) (IntKind.wrap .i64 (z0_2 + 1)))) else (some (z0_1, z0_0)))
def m_laws_markBoneS (x0 : (List (Int × Nat × Nat × Nat))) (x1 : Int) : (Int × (List (Int × Nat × Nat × Nat))) := (Option.getD (l_laws_markBoneS_0 (Int.toNat ((((List.length x0) :
      Nat) : Int) - 0) + 2) x0 x1 0) default)
def p_laws_markBoneS (x0 : (List (Int × Nat × Nat × Nat))) (x1 : Int) : Bool := ((Option.isSome (l_laws_markBoneS_0 (Int.toNat ((((List.length x0) : Nat) : Int) - 0) + 2) x0 x1 0))
      && (decide (List.length (Option.getD (l_laws_markBoneS_0 (Int.toNat ((((List.length x0) : Nat) : Int) - 0) + 2) x0 x1 0) default).2 = List.length x0)))
def g_laws_markBoneS : List AV → Option (AV × Md)
  | [.sl w0, .int .i64 y1] => (match decL dc_en0 w0 with | some y0 => (if p_laws_markBoneS y0 y1 = true then some ((.int .i64 (m_laws_markBoneS y0 y1).1), .wr [4] [List.map en0 (m_laws_markBoneS y0 y1).2]) else none) | none => none)
  | _ => none
def lb63_0 : ICode := (.seq (.seq (.reg [⟨(some 6), none, (.mov (.t 5))⟩, ⟨(some 7), none, (.mov (.t 0))⟩, ⟨(some 8), none, (.len false (.t 7))⟩, ⟨(some 9), none, (.bin .lss false
      (.t 6) (.t 8))⟩] [0, 1, 5, 9]) (.cond (.t 9) .skip (.exit 0))) (.seq (.block 1 (.seq (.reg [⟨(some 12), none, (.mov (.t 0))⟩, ⟨(some 13), none, (.mov (.t 5))⟩, ⟨(some 14),
      none, (.mov (.t 1))⟩, ⟨(some 15), none, (.iaddrS 4 (.t 12) (.t 13))⟩, ⟨(some 16), none, (.faddr 0 (.t 15))⟩, ⟨none, none, (.store 1 (.t 16) (.t 14))⟩] [0, 1, 5]) (.seq (.reg
      [⟨(some 17), none, (.mov (.t 1))⟩, ⟨(some 18), none, (.bin .add false (.t 17) (.c (.int .i64 1)))⟩, ⟨(some 1), none, (.mov (.t 18))⟩] [0, 1, 5]) (.seq (.reg [⟨(some 19), none,
      (.mov (.t 0))⟩, ⟨(some 20), none, (.mov (.t 5))⟩, ⟨(some 21), none, (.mov (.t 1))⟩, ⟨(some 22), none, (.conv (.flt .f32) (.t 21))⟩, ⟨(some 23), none, (.iaddrS 4 (.t 19) (.t
      20))⟩, ⟨(some 24), none, (.faddr 1 (.t 23))⟩, ⟨(some 25), none, (.faddr 0 (.t 24))⟩, ⟨none, none, (.store 1 (.t 25) (.t 22))⟩] [0, 1, 5]) (.seq (.reg [⟨(some 26), none, (.mov
      (.t 1))⟩, ⟨(some 27), none, (.bin .add false (.t 26) (.c (.int .i64 1)))⟩, ⟨(some 1), none, (.mov (.t 27))⟩] [0, 1, 5]) (.seq (.reg [⟨(some 28), none, (.mov (.t 0))⟩, ⟨(some
      29), none, (.mov (.t 5))⟩, ⟨(some 30), none, (.mov (.t 1))⟩, ⟨(some 31), none, (.conv (.flt .f32) (.t 30))⟩, ⟨(some 32), none, (.iaddrS 4 (.t 28) (.t 29))⟩, ⟨(some 33), none,
      (.faddr 1 (.t 32))⟩, ⟨(some 34), none, (.faddr 1 (.t 33))⟩, ⟨none, none, (.store 1 (.t 34) (.t 31))⟩] [0, 1, 5]) (.seq (.reg [⟨(some 35), none, (.mov (.t 1))⟩, ⟨(some 36),
      none, (.bin .add false (.t 35) (.c (.int .i64 1)))⟩, ⟨(some 1), none, (.mov (.t 36))⟩] [0, 1, 5]) (.seq (.reg [⟨(some 37), none, (.mov (.t 0))⟩, ⟨(some 38), none, (.mov (.t
      5))⟩, ⟨(some 39), none, (.mov (.t 1))⟩, ⟨(some 40), none, (.conv (.flt .f32) (.t 39))⟩, ⟨(some 41), none, (.iaddrS 4 (.t 37) (.t 38))⟩, ⟨(some 42), none, (.faddr 1 (.t 41))⟩,
      ⟨(some 43), none, (.faddr 2 (.t 42))⟩, ⟨none, none, (.store 1 (.t 43) (.t 40))⟩] [0, 1, 5]) (.reg [⟨(some 44), none, (.mov (.t 1))⟩, ⟨(some 45), none, (.bin .add false (.t 44)
      (.c (.int .i64 1)))⟩, ⟨(some 1), none, (.mov (.t 45))⟩] [0, 1, 5]))))))))) (.reg [⟨(some 10), none, (.mov (.t 5))⟩, ⟨(some 11), none, (.bin .add false (.t 10) (.c (.int .i64
      1)))⟩, ⟨(some 5), none, (.mov (.t 11))⟩] [0, 1, 5])))
def ic63 : ICode := (.seq (.reg [⟨(some 4), none, (.mov (.c (.int .i64 0)))⟩] [0, 1]) (.seq (.seq (.reg [⟨(some 5), none, (.mov (.c (.int .i64 0)))⟩] [0, 1, 5]) (.block 0 (.loop
      lb63_0))) (.seq (.reg [⟨(some 46), none, (.mov (.t 1))⟩, ⟨(some 4), none, (.mov (.t 46))⟩] [0, 4]) .ret)))
def cp63 : CP := CP.mk [] [] [[0, 1], [0, 1, 5], [0, 1, 5, 9], [0, 1, 5], [0, 1, 5], [0, 1, 5], [0, 1, 5], [0, 1, 5], [0, 1, 5], [0, 1, 5], [0, 1, 5], [0, 1, 5], [0, 4]] 47 [] []
theorem fc63_0 : IntKind.wrap .i64 0 = 0 := by decide
theorem fc63_1 : IntKind.wrap .i64 1 = 1 := by decide
theorem fc63_2 : IntKind.wrap .i64 2 = 2 := by decide
theorem fc63_3 : IntKind.wrap .i64 3 = 3 := by decide
theorem fc63_4 : IntKind.wrap .i64 4 = 4 := by decide
theorem sl63_0 : ∀ (n : Nat) (z0_0 : (List (Int × Nat × Nat × Nat))) (z0_1 : Int) (z0_2 : Int) (o : (Int × (List (Int × Nat × Nat × Nat)))) (K : IExit → St → Prop),
      l_laws_markBoneS_0 n z0_0 z0_1 z0_2 = some o → (∀ st, Wk st (⟨[(0, (.lsl 1000000 0 (List.length o.2))), (1, (.int .i64 o.1))], [(1000000, (some ⟨4, true, (List.map en0
      o.2)⟩))]⟩ : St) → K (.exit 0) st) → eA (tabOf []) (.loop lb63_0) (⟨[(0, (.lsl 1000000 0 (List.length z0_0))), (1, (.int .i64 z0_1)), (5, (.int .i64 z0_2))], [(1000000, (some
      ⟨4, true, (List.map en0 z0_0)⟩))]⟩ : St) K := by
  intro n
  induction n with
  | zero =>
    intro z0_0 z0_1 z0_2 o K h h0
    simp only [l_laws_markBoneS_0, reduceCtorEq] at h
  | succ n ih =>
    intro z0_0 z0_1 z0_2 o K h h0
    refine eA_loop ?_
    unfold lb63_0
    unfold l_laws_markBoneS_0 at h
    (try simp only [need_iff] at h)
    simp only [
      need_iff, h, grpA, vsliceS, grpS, grpD, grpF, grpL, eop, vop, bop, uop, fltop, convop, endOk, newE, new1, freshL, Md.isNew, outV, pureV, pureX, pure1, AV.cells, AV.one,
            storable, laid, refless, refless1, vload, loadC, storeC, vnil, vfaddr, vextract, flatT, flatE, flatC, vconv, vmm, vidxA, viaddrA, vfield, vlen, elemsOf, dF32, dF64,
            dI64, dU8, dBool, dStr, esOk, elemsS, vsliceX, bnd, ownV, ownC, own1, ownT, isSl, nSl, endL, Md.isOwn, purge, purgeH, purgeB, purgeE, hasName, name1, List.any_cons,
            List.any_nil, Md.isWr, pureV.pureP, Option.map, reduceIte, Nat.reduceEqDiff, Nat.reduceAdd, Nat.reduceMul, Nat.reduceLT, Nat.reduceLeDiff, List.mapM_cons, List.mapM_nil,
            Option.pure_def, Option.bind_eq_bind, Option.bind_some, implies_true, forall_const, beq_self_eq_true, decide_true, decide_false, eq_self, Int.reduceEq, Int.reduceLE,
            Int.reduceLT, if_true, if_false, fc63_0, fc63_1, fc63_2, fc63_3, fc63_4, Int.reduceAdd, Int.reduceSub, Int.reduceMul, Int.reduceNeg, Int.reducePow, Nat.reducePow,
            Int.reduceToNat, Nat.reduceSub, List.replicate, Nat.reduceBEq, wAs, wA, wC, zipW, noDupN, grpE, grpC, en0, dc_en0]
    repeat' (first
      | ((first | (refine eGI_of (fun hc => ?_) (fun hc => ?_)) | (refine eCc_of (fun hc => ?_) (fun hc => ?_)) | (have hc := True.intro; refine KW_refl ?_)) <;> (try simp only [Bool.not_eq_true', Bool.not_eq_false'] at hc) <;> (try simp only [hc, need_iff, reduceCtorEq, Bool.not_eq_true', decide_eq_false_iff_not, Bool.not_true, Bool.not_false, Bool.false_or, Bool.true_or, Bool.true_and, Bool.false_and, Bool.and_eq_true, Bool.or_eq_true, if_true, if_false, reduceIte, Bool.false_eq_true, and_true, true_and, false_or, or_false, decide_eq_true_eq, not_false_eq_true, not_true_eq_false] at h) <;> (try (have hc2 := hc; simp only [decide_eq_true_eq, decide_eq_false_iff_not] at hc2; (first | (replace hc2 := eq_false hc2) | (replace hc2 := eq_true hc2)); simp only [hc2, if_true, if_false, need_iff, reduceCtorEq, Bool.not_eq_true', decide_eq_false_iff_not, Bool.not_true, Bool.not_false, Bool.false_or, Bool.true_or, Bool.true_and, Bool.false_and, Bool.and_eq_true, Bool.or_eq_true, if_true, if_false, reduceIte, Bool.false_eq_true, and_true, true_and, false_or, or_false, decide_eq_true_eq, not_false_eq_true, not_true_eq_false] at h)) <;> simp only [hc,
      need_iff, h, grpA, vsliceS, grpS, grpD, grpF, grpL, eop, vop, bop, uop, fltop, convop, endOk, newE, new1, freshL, Md.isNew, outV, pureV, pureX, pure1, AV.cells, AV.one,
            storable, laid, refless, refless1, vload, loadC, storeC, vnil, vfaddr, vextract, flatT, flatE, flatC, vconv, vmm, vidxA, viaddrA, vfield, vlen, elemsOf, dF32, dF64,
            dI64, dU8, dBool, dStr, esOk, elemsS, vsliceX, bnd, ownV, ownC, own1, ownT, isSl, nSl, endL, Md.isOwn, purge, purgeH, purgeB, purgeE, hasName, name1, List.any_cons,
            List.any_nil, Md.isWr, pureV.pureP, Option.map, reduceIte, Nat.reduceEqDiff, Nat.reduceAdd, Nat.reduceMul, Nat.reduceLT, Nat.reduceLeDiff, List.mapM_cons, List.mapM_nil,
            Option.pure_def, Option.bind_eq_bind, Option.bind_some, implies_true, forall_const, beq_self_eq_true, decide_true, decide_false, eq_self, Int.reduceEq, Int.reduceLE,
            Int.reduceLT, if_true, if_false, fc63_0, fc63_1, fc63_2, fc63_3, fc63_4, Int.reduceAdd, Int.reduceSub, Int.reduceMul, Int.reduceNeg, Int.reducePow, Nat.reducePow,
            Int.reduceToNat, Nat.reduceSub, List.replicate, Nat.reduceBEq, wAs, wA, wC, zipW, noDupN, grpE, grpC, en0, dc_en0]))
    all_goals (repeat (replace h := And.right h))
    all_goals first
      | (refine eA_wk (wk_norm (ks := [0, 1, 5]) (ls := [1000000]) ?_) (eA_cast ?_ (ih _ _ _ _ _ h h0)); (simp only [normOk, optIn, blkIn, nameIn,
      need_iff, h, grpA, vsliceS, grpS, grpD, grpF, grpL, eop, vop, bop, uop, fltop, convop, endOk, newE, new1, freshL, Md.isNew, outV, pureV, pureX, pure1, AV.cells, AV.one,
            storable, laid, refless, refless1, vload, loadC, storeC, vnil, vfaddr, vextract, flatT, flatE, flatC, vconv, vmm, vidxA, viaddrA, vfield, vlen, elemsOf, dF32, dF64,
            dI64, dU8, dBool, dStr, esOk, elemsS, vsliceX, bnd, ownV, ownC, own1, ownT, isSl, nSl, endL, Md.isOwn, purge, purgeH, purgeB, purgeE, hasName, name1, List.any_cons,
            List.any_nil, Md.isWr, pureV.pureP, Option.map, reduceIte, Nat.reduceEqDiff, Nat.reduceAdd, Nat.reduceMul, Nat.reduceLT, Nat.reduceLeDiff, List.mapM_cons, List.mapM_nil,
            Option.pure_def, Option.bind_eq_bind, Option.bind_some, implies_true, forall_const, beq_self_eq_true, decide_true, decide_false, eq_self, Int.reduceEq, Int.reduceLE,
            Int.reduceLT, if_true, if_false, fc63_0, fc63_1, fc63_2, fc63_3, fc63_4, Int.reduceAdd, Int.reduceSub, Int.reduceMul, Int.reduceNeg, Int.reducePow, Nat.reducePow,
            Int.reduceToNat, Nat.reduceSub, List.replicate, Nat.reduceBEq, wAs, wA, wC, zipW, noDupN, grpE, grpC, en0, dc_en0] <;> rfl); (simp only [normS, List.map_append, List.length_append, List.map_set, List.length_set, List.map_replicate, List.length_replicate, List.map_nil, List.map_cons,
      need_iff, h, grpA, vsliceS, grpS, grpD, grpF, grpL, eop, vop, bop, uop, fltop, convop, endOk, newE, new1, freshL, Md.isNew, outV, pureV, pureX, pure1, AV.cells, AV.one,
            storable, laid, refless, refless1, vload, loadC, storeC, vnil, vfaddr, vextract, flatT, flatE, flatC, vconv, vmm, vidxA, viaddrA, vfield, vlen, elemsOf, dF32, dF64,
            dI64, dU8, dBool, dStr, esOk, elemsS, vsliceX, bnd, ownV, ownC, own1, ownT, isSl, nSl, endL, Md.isOwn, purge, purgeH, purgeB, purgeE, hasName, name1, List.any_cons,
            List.any_nil, Md.isWr, pureV.pureP, Option.map, reduceIte, Nat.reduceEqDiff, Nat.reduceAdd, Nat.reduceMul, Nat.reduceLT, Nat.reduceLeDiff, List.mapM_cons, List.mapM_nil,
            Option.pure_def, Option.bind_eq_bind, Option.bind_some, implies_true, forall_const, beq_self_eq_true, decide_true, decide_false, eq_self, Int.reduceEq, Int.reduceLE,
            Int.reduceLT, if_true, if_false, fc63_0, fc63_1, fc63_2, fc63_3, fc63_4, Int.reduceAdd, Int.reduceSub, Int.reduceMul, Int.reduceNeg, Int.reducePow, Nat.reducePow,
            Int.reduceToNat, Nat.reduceSub, List.replicate, Nat.reduceBEq, wAs, wA, wC, zipW, noDupN, grpE, grpC, en0, dc_en0] <;> first | rfl | (simp only [Nat.add_comm]; done)))
      | (cases h; refine h0 _ (Wk.cast (wk_norm (ks := [0, 1]) (ls := [1000000]) ?_) ?_); (simp only [normOk, optIn, blkIn, nameIn,
      grpA, vsliceS, grpS, grpD, grpF, grpL, eop, vop, bop, uop, fltop, convop, endOk, newE, new1, freshL, Md.isNew, outV, pureV, pureX, pure1, AV.cells, AV.one, storable, laid,
            refless, refless1, vload, loadC, storeC, vnil, vfaddr, vextract, flatT, flatE, flatC, vconv, vmm, vidxA, viaddrA, vfield, vlen, elemsOf, dF32, dF64, dI64, dU8, dBool,
            dStr, esOk, elemsS, vsliceX, bnd, ownV, ownC, own1, ownT, isSl, nSl, endL, Md.isOwn, purge, purgeH, purgeB, purgeE, hasName, name1, List.any_cons, List.any_nil, Md.isWr,
            pureV.pureP, Option.map, reduceIte, Nat.reduceEqDiff, Nat.reduceAdd, Nat.reduceMul, Nat.reduceLT, Nat.reduceLeDiff, List.mapM_cons, List.mapM_nil, Option.pure_def,
            Option.bind_eq_bind, Option.bind_some, implies_true, forall_const, beq_self_eq_true, decide_true, decide_false, eq_self, Int.reduceEq, Int.reduceLE, Int.reduceLT,
            if_true, if_false, fc63_0, fc63_1, fc63_2, fc63_3, fc63_4, Int.reduceAdd, Int.reduceSub, Int.reduceMul, Int.reduceNeg, Int.reducePow, Nat.reducePow, Int.reduceToNat,
            Nat.reduceSub, List.replicate, Nat.reduceBEq, wAs, wA, wC, zipW, noDupN, grpE, grpC, en0, dc_en0] <;> rfl); (simp only [normS, List.map_append, List.length_append, List.map_set, List.length_set, List.map_replicate, List.length_replicate,
      grpA, vsliceS, grpS, grpD, grpF, grpL, eop, vop, bop, uop, fltop, convop, endOk, newE, new1, freshL, Md.isNew, outV, pureV, pureX, pure1, AV.cells, AV.one, storable, laid,
            refless, refless1, vload, loadC, storeC, vnil, vfaddr, vextract, flatT, flatE, flatC, vconv, vmm, vidxA, viaddrA, vfield, vlen, elemsOf, dF32, dF64, dI64, dU8, dBool,
            dStr, esOk, elemsS, vsliceX, bnd, ownV, ownC, own1, ownT, isSl, nSl, endL, Md.isOwn, purge, purgeH, purgeB, purgeE, hasName, name1, List.any_cons, List.any_nil, Md.isWr,
            pureV.pureP, Option.map, reduceIte, Nat.reduceEqDiff, Nat.reduceAdd, Nat.reduceMul, Nat.reduceLT, Nat.reduceLeDiff, List.mapM_cons, List.mapM_nil, Option.pure_def,
            Option.bind_eq_bind, Option.bind_some, implies_true, forall_const, beq_self_eq_true, decide_true, decide_false, eq_self, Int.reduceEq, Int.reduceLE, Int.reduceLT,
            if_true, if_false, fc63_0, fc63_1, fc63_2, fc63_3, fc63_4, Int.reduceAdd, Int.reduceSub, Int.reduceMul, Int.reduceNeg, Int.reducePow, Nat.reducePow, Int.reduceToNat,
            Nat.reduceSub, List.replicate, Nat.reduceBEq, wAs, wA, wC, zipW, noDupN, grpE, grpC, en0, dc_en0] <;> first | rfl | (simp only [Nat.add_comm]; done)))
theorem s63 : ∀ vs r m, g_laws_markBoneS vs = some (r, m) → SaysX Try.prog m 63 vs r := by
  intro vs r m h
  unfold g_laws_markBoneS at h
  split at h
  · rename_i w0 y1
    cases hd_y0 : decL dc_en0 w0 with
    | none => rw [hd_y0] at h; cases h
    | some y0 =>
    rw [hd_y0] at h
    obtain rfl := decL_inv dc_en0_inv hd_y0
    clear hd_y0
    dsimp only at h
    split at h
    · rename_i hp
      cases h
      have hz : zipW [(1000000, ⟨4, true, List.map en0 y0⟩)] [List.map en0 (m_laws_markBoneS y0 y1).2] = some [(1000000, ⟨4, true, List.map en0 (m_laws_markBoneS y0 y1).2⟩)] := by simp only [zipW, List.map_cons, List.map_nil, List.length_map, m_laws_markBoneS, p_laws_markBoneS, Bool.and_eq_true, decide_eq_true_eq] at hp ⊢; simp only [hp, if_true]
      refine spec_ofW (tab := tabOf []) (cp := cp63) (ic := ic63) (rvl := [(.t 4)]) (H := [(1000000, ⟨4, true, List.map en0 y0⟩)]) (H' := [(1000000, ⟨4, true, List.map en0 (m_laws_markBoneS y0 y1).2⟩)]) hm tabOk_nil Try.func63 rfl rfl rfl (by kernel_rfl) rfl (Nat.le_of_ble_eq_true rfl) (Nat.le_of_ble_eq_true rfl) (by rfl) hz (by rfl) (by rfl) (by rfl) ?_
      show eA _ _ _ _
      unfold ic63
      simp only [p_laws_markBoneS, Bool.and_eq_true, Bool.or_eq_true, decide_eq_true_eq, Bool.not_eq_true', decide_eq_false_iff_not] at hp
      simp only [
          hp, grpA, vsliceS, grpS, grpD, grpF, grpL, eop, vop, bop, uop, fltop, convop, endOk, newE, new1, freshL, Md.isNew, outV, pureV, pureX, pure1, AV.cells, AV.one, storable,
                laid, refless, refless1, vload, loadC, storeC, vnil, vfaddr, vextract, flatT, flatE, flatC, vconv, vmm, vidxA, viaddrA, vfield, vlen, elemsOf, dF32, dF64, dI64, dU8,
                dBool, dStr, esOk, elemsS, vsliceX, bnd, ownV, ownC, own1, ownT, isSl, nSl, endL, Md.isOwn, purge, purgeH, purgeB, purgeE, hasName, name1, List.any_cons,
                List.any_nil, Md.isWr, pureV.pureP, Option.map, reduceIte, Nat.reduceEqDiff, Nat.reduceAdd, Nat.reduceMul, Nat.reduceLT, Nat.reduceLeDiff, List.mapM_cons,
                List.mapM_nil, Option.pure_def, Option.bind_eq_bind, Option.bind_some, implies_true, forall_const, beq_self_eq_true, decide_true, decide_false, eq_self,
                Int.reduceEq, Int.reduceLE, Int.reduceLT, if_true, if_false, fc63_0, fc63_1, fc63_2, fc63_3, fc63_4, Int.reduceAdd, Int.reduceSub, Int.reduceMul, Int.reduceNeg,
                Int.reducePow, Nat.reducePow, Int.reduceToNat, Nat.reduceSub, List.replicate, Nat.reduceBEq, wAs, wA, wC, zipW, noDupN, grpE, grpC, en0, dc_en0, startW, hpIs]
      repeat' (first
        | ((first | (refine eGI_of (fun h => ?_) (fun h => ?_)) | (refine eCc_of (fun h => ?_) (fun h => ?_)) | (have h := True.intro; refine KW_refl ?_)) <;> (try simp only [Bool.not_eq_true', Bool.not_eq_false'] at h) <;> (try simp only [h, reduceCtorEq, Bool.not_eq_true', decide_eq_false_iff_not, Bool.not_true, Bool.not_false, Bool.false_or, Bool.true_or, Bool.true_and, Bool.false_and, Bool.and_eq_true, Bool.or_eq_true, if_true, if_false, reduceIte, Bool.false_eq_true, and_true, true_and, false_or, or_false, decide_eq_true_eq, not_false_eq_true, not_true_eq_false] at hp) <;> (try (have h2 := h; simp only [decide_eq_true_eq, decide_eq_false_iff_not] at h2; (first | (replace h2 := eq_false h2) | (replace h2 := eq_true h2)); simp only [h2, if_true, if_false, false_or, true_or, or_true, or_false, and_true, true_and, not_false_eq_true, not_true_eq_false] at hp)) <;> simp only [h,
          hp, grpA, vsliceS, grpS, grpD, grpF, grpL, eop, vop, bop, uop, fltop, convop, endOk, newE, new1, freshL, Md.isNew, outV, pureV, pureX, pure1, AV.cells, AV.one, storable,
                laid, refless, refless1, vload, loadC, storeC, vnil, vfaddr, vextract, flatT, flatE, flatC, vconv, vmm, vidxA, viaddrA, vfield, vlen, elemsOf, dF32, dF64, dI64, dU8,
                dBool, dStr, esOk, elemsS, vsliceX, bnd, ownV, ownC, own1, ownT, isSl, nSl, endL, Md.isOwn, purge, purgeH, purgeB, purgeE, hasName, name1, List.any_cons,
                List.any_nil, Md.isWr, pureV.pureP, Option.map, reduceIte, Nat.reduceEqDiff, Nat.reduceAdd, Nat.reduceMul, Nat.reduceLT, Nat.reduceLeDiff, List.mapM_cons,
                List.mapM_nil, Option.pure_def, Option.bind_eq_bind, Option.bind_some, implies_true, forall_const, beq_self_eq_true, decide_true, decide_false, eq_self,
                Int.reduceEq, Int.reduceLE, Int.reduceLT, if_true, if_false, fc63_0, fc63_1, fc63_2, fc63_3, fc63_4, Int.reduceAdd, Int.reduceSub, Int.reduceMul, Int.reduceNeg,
                Int.reducePow, Nat.reducePow, Int.reduceToNat, Nat.reduceSub, List.replicate, Nat.reduceBEq, wAs, wA, wC, zipW, noDupN, grpE, grpC, en0, dc_en0, startW, hpIs])
        | (refine eA_wk (wk_norm (ks := [0, 1, 5]) (ls := [1000000]) ?_) (eA_cast ?_ (sl63_0 _ _ _ _ _ _ (getD_some (d := default) (x := (l_laws_markBoneS_0 (Int.toNat ((((List.length y0) : Nat) : Int) - 0) + 2) y0 y1 0)) ?_) ?_)); (simp only [nilS, nilV, normOk, optIn, blkIn, nameIn, 
          hp, grpA, vsliceS, grpS, grpD, grpF, grpL, eop, vop, bop, uop, fltop, convop, endOk, newE, new1, freshL, Md.isNew, outV, pureV, pureX, pure1, AV.cells, AV.one, storable,
                laid, refless, refless1, vload, loadC, storeC, vnil, vfaddr, vextract, flatT, flatE, flatC, vconv, vmm, vidxA, viaddrA, vfield, vlen, elemsOf, dF32, dF64, dI64, dU8,
                dBool, dStr, esOk, elemsS, vsliceX, bnd, ownV, ownC, own1, ownT, isSl, nSl, endL, Md.isOwn, purge, purgeH, purgeB, purgeE, hasName, name1, List.any_cons,
                List.any_nil, Md.isWr, pureV.pureP, Option.map, reduceIte, Nat.reduceEqDiff, Nat.reduceAdd, Nat.reduceMul, Nat.reduceLT, Nat.reduceLeDiff, List.mapM_cons,
                List.mapM_nil, Option.pure_def, Option.bind_eq_bind, Option.bind_some, implies_true, forall_const, beq_self_eq_true, decide_true, decide_false, eq_self,
                Int.reduceEq, Int.reduceLE, Int.reduceLT, if_true, if_false, fc63_0, fc63_1, fc63_2, fc63_3, fc63_4, Int.reduceAdd, Int.reduceSub, Int.reduceMul, Int.reduceNeg,
                Int.reducePow, Nat.reducePow, Int.reduceToNat, Nat.reduceSub, List.replicate, Nat.reduceBEq, wAs, wA, wC, zipW, noDupN, grpE, grpC, en0, dc_en0, startW, hpIs] <;> rfl); (simp only [nilS, nilV, normS,  List.map_append, List.length_append, List.map_set, List.length_set, List.map_replicate, List.length_replicate, List.map_nil, List.map_cons,
          hp, grpA, vsliceS, grpS, grpD, grpF, grpL, eop, vop, bop, uop, fltop, convop, endOk, newE, new1, freshL, Md.isNew, outV, pureV, pureX, pure1, AV.cells, AV.one, storable,
                laid, refless, refless1, vload, loadC, storeC, vnil, vfaddr, vextract, flatT, flatE, flatC, vconv, vmm, vidxA, viaddrA, vfield, vlen, elemsOf, dF32, dF64, dI64, dU8,
                dBool, dStr, esOk, elemsS, vsliceX, bnd, ownV, ownC, own1, ownT, isSl, nSl, endL, Md.isOwn, purge, purgeH, purgeB, purgeE, hasName, name1, List.any_cons,
                List.any_nil, Md.isWr, pureV.pureP, Option.map, reduceIte, Nat.reduceEqDiff, Nat.reduceAdd, Nat.reduceMul, Nat.reduceLT, Nat.reduceLeDiff, List.mapM_cons,
                List.mapM_nil, Option.pure_def, Option.bind_eq_bind, Option.bind_some, implies_true, forall_const, beq_self_eq_true, decide_true, decide_false, eq_self,
                Int.reduceEq, Int.reduceLE, Int.reduceLT, if_true, if_false, fc63_0, fc63_1, fc63_2, fc63_3, fc63_4, Int.reduceAdd, Int.reduceSub, Int.reduceMul, Int.reduceNeg,
                Int.reducePow, Nat.reducePow, Int.reduceToNat, Nat.reduceSub, List.replicate, Nat.reduceBEq, wAs, wA, wC, zipW, noDupN, grpE, grpC, en0, dc_en0, startW, hpIs] <;> first | rfl | (simp only [Nat.add_comm]; done)); (simp only [hp]); (
        intro st2 hw; (try simp only [reduceCtorEq, Bool.not_eq_true', decide_eq_false_iff_not, Bool.not_true, Bool.not_false, Bool.false_or, Bool.true_or, Bool.true_and, Bool.false_and, Bool.and_eq_true, Bool.or_eq_true, if_true, if_false, reduceIte, Bool.false_eq_true, and_true, true_and, false_or, or_false, decide_eq_true_eq, not_false_eq_true, not_true_eq_false] at hp); simp only [
          hp, grpA, vsliceS, grpS, grpD, grpF, grpL, eop, vop, bop, uop, fltop, convop, endOk, newE, new1, freshL, Md.isNew, outV, pureV, pureX, pure1, AV.cells, AV.one, storable,
                laid, refless, refless1, vload, loadC, storeC, vnil, vfaddr, vextract, flatT, flatE, flatC, vconv, vmm, vidxA, viaddrA, vfield, vlen, elemsOf, dF32, dF64, dI64, dU8,
                dBool, dStr, esOk, elemsS, vsliceX, bnd, ownV, ownC, own1, ownT, isSl, nSl, endL, Md.isOwn, purge, purgeH, purgeB, purgeE, hasName, name1, List.any_cons,
                List.any_nil, Md.isWr, pureV.pureP, Option.map, reduceIte, Nat.reduceEqDiff, Nat.reduceAdd, Nat.reduceMul, Nat.reduceLT, Nat.reduceLeDiff, List.mapM_cons,
                List.mapM_nil, Option.pure_def, Option.bind_eq_bind, Option.bind_some, implies_true, forall_const, beq_self_eq_true, decide_true, decide_false, eq_self,
                Int.reduceEq, Int.reduceLE, Int.reduceLT, if_true, if_false, fc63_0, fc63_1, fc63_2, fc63_3, fc63_4, Int.reduceAdd, Int.reduceSub, Int.reduceMul, Int.reduceNeg,
                Int.reducePow, Nat.reducePow, Int.reduceToNat, Nat.reduceSub, List.replicate, Nat.reduceBEq, wAs, wA, wC, zipW, noDupN, grpE, grpC, en0, dc_en0, startW, hpIs]; refine KW_of hw ?_; simp only [
          hp, grpA, vsliceS, grpS, grpD, grpF, grpL, eop, vop, bop, uop, fltop, convop, endOk, newE, new1, freshL, Md.isNew, outV, pureV, pureX, pure1, AV.cells, AV.one, storable,
                laid, refless, refless1, vload, loadC, storeC, vnil, vfaddr, vextract, flatT, flatE, flatC, vconv, vmm, vidxA, viaddrA, vfield, vlen, elemsOf, dF32, dF64, dI64, dU8,
                dBool, dStr, esOk, elemsS, vsliceX, bnd, ownV, ownC, own1, ownT, isSl, nSl, endL, Md.isOwn, purge, purgeH, purgeB, purgeE, hasName, name1, List.any_cons,
                List.any_nil, Md.isWr, pureV.pureP, Option.map, reduceIte, Nat.reduceEqDiff, Nat.reduceAdd, Nat.reduceMul, Nat.reduceLT, Nat.reduceLeDiff, List.mapM_cons,
                List.mapM_nil, Option.pure_def, Option.bind_eq_bind, Option.bind_some, implies_true, forall_const, beq_self_eq_true, decide_true, decide_false, eq_self,
                Int.reduceEq, Int.reduceLE, Int.reduceLT, if_true, if_false, fc63_0, fc63_1, fc63_2, fc63_3, fc63_4, Int.reduceAdd, Int.reduceSub, Int.reduceMul, Int.reduceNeg,
                Int.reducePow, Nat.reducePow, Int.reduceToNat, Nat.reduceSub, List.replicate, Nat.reduceBEq, wAs, wA, wC, zipW, noDupN, grpE, grpC, en0, dc_en0, startW, hpIs])))
      all_goals (try simp only [*, m_laws_markBoneS, Bool.and_true, Bool.true_and, Bool.and_false, Bool.false_and, Bool.or_true, Bool.true_or, Bool.or_false, Bool.false_or, Bool.not_true, Bool.not_false, Bool.false_eq_true, if_true, if_false, reduceIte, decide_true, decide_false])
      all_goals (try (simp_all; done))
    · cases h
  · cases h
def m_laws_markSkeleton (x0 : (List (Int × Nat × Nat × Nat))) (x1 : Int) : (Int × (List (Int × Nat × Nat × Nat))) := (m_laws_markBoneS x0 x1)
def p_laws_markSkeleton (x0 : (List (Int × Nat × Nat × Nat))) (x1 : Int) : Bool := ((p_laws_markBoneS x0 x1) && ((decide (List.length (m_laws_markBoneS x0 x1).2 = (List.length x0)))
      && (decide (List.length (m_laws_markBoneS x0 x1).2 = List.length x0))))
def g_laws_markSkeleton : List AV → Option (AV × Md)
  | [.agg [.sl w0], .int .i64 y1] => (match decL dc_en0 w0 with | some y0 => (if p_laws_markSkeleton y0 y1 = true then some ((.int .i64 (m_laws_markSkeleton y0 y1).1), .wr [4] [List.map en0 (m_laws_markSkeleton y0 y1).2]) else none) | none => none)
  | _ => none
def ic20 : ICode := (.seq (.reg [⟨(some 2), none, (.box 1 (.t 0))⟩, ⟨(some 4), none, (.mov (.c (.int .i64 0)))⟩] [0, 1, 2]) (.seq (.reg [⟨(some 5), none, (.faddr 0 (.t 2))⟩, ⟨(some
      6), none, (.load none (.t 5))⟩, ⟨(some 7), none, (.mov (.t 1))⟩, ⟨(some 8), none, (.callM 63 [(.t 6), (.t 7)])⟩, ⟨(some 1), none, (.mov (.t 8))⟩] [0, 1]) (.seq (.reg [⟨(some
      9), none, (.mov (.t 1))⟩, ⟨(some 4), none, (.mov (.t 9))⟩] [0, 4]) .ret)))
def cp20 : CP := CP.mk [] [63] [[0, 1, 2], [0, 1], [0, 4]] 10 [] []
theorem fc20_0 : IntKind.wrap .i64 0 = 0 := by decide
theorem fc20_1 : IntKind.wrap .i64 1 = 1 := by decide
theorem fc20_2 : IntKind.wrap .i64 2 = 2 := by decide
theorem fc20_3 : IntKind.wrap .i64 3 = 3 := by decide
theorem fc20_4 : IntKind.wrap .i64 4 = 4 := by decide
theorem s20 : ∀ vs r m, g_laws_markSkeleton vs = some (r, m) → SaysX Try.prog m 20 vs r := by
  intro vs r m h
  unfold g_laws_markSkeleton at h
  split at h
  · rename_i w0 y1
    cases hd_y0 : decL dc_en0 w0 with
    | none => rw [hd_y0] at h; cases h
    | some y0 =>
    rw [hd_y0] at h
    obtain rfl := decL_inv dc_en0_inv hd_y0
    clear hd_y0
    dsimp only at h
    split at h
    · rename_i hp
      cases h
      have hz : zipW [(1000000, ⟨4, true, List.map en0 y0⟩)] [List.map en0 (m_laws_markSkeleton y0 y1).2] = some [(1000000, ⟨4, true, List.map en0 (m_laws_markSkeleton y0 y1).2⟩)] := by simp only [zipW, List.map_cons, List.map_nil, List.length_map, m_laws_markSkeleton, p_laws_markSkeleton, Bool.and_eq_true, decide_eq_true_eq] at hp ⊢; simp only [hp, if_true]
      refine spec_ofW (tab := tabOf [(63, g_laws_markBoneS)]) (cp := cp20) (ic := ic20) (rvl := [(.t 4)]) (H := [(1000000, ⟨4, true, List.map en0 y0⟩)]) (H' := [(1000000, ⟨4, true, List.map en0 (m_laws_markSkeleton y0 y1).2⟩)]) hm (tabOk_consW s63 tabOk_nil) Try.func20 rfl rfl rfl (by kernel_rfl) rfl (Nat.le_of_ble_eq_true rfl) (Nat.le_of_ble_eq_true rfl) (by rfl) hz (by rfl) (by rfl) (by rfl) ?_
      show eA _ _ _ _
      unfold ic20
      simp only [p_laws_markSkeleton, Bool.and_eq_true, Bool.or_eq_true, decide_eq_true_eq, Bool.not_eq_true', decide_eq_false_iff_not] at hp
      simp only [
          hp, grpA, vsliceS, grpS, grpD, grpF, grpL, eop, vop, bop, uop, fltop, convop, endOk, newE, new1, freshL, Md.isNew, outV, pureV, pureX, pure1, AV.cells, AV.one, storable,
                laid, refless, refless1, vload, loadC, storeC, vnil, vfaddr, vextract, flatT, flatE, flatC, vconv, vmm, vidxA, viaddrA, vfield, vlen, elemsOf, dF32, dF64, dI64, dU8,
                dBool, dStr, esOk, elemsS, vsliceX, bnd, ownV, ownC, own1, ownT, isSl, nSl, endL, Md.isOwn, purge, purgeH, purgeB, purgeE, hasName, name1, List.any_cons,
                List.any_nil, Md.isWr, pureV.pureP, Option.map, reduceIte, Nat.reduceEqDiff, Nat.reduceAdd, Nat.reduceMul, Nat.reduceLT, Nat.reduceLeDiff, List.mapM_cons,
                List.mapM_nil, Option.pure_def, Option.bind_eq_bind, Option.bind_some, implies_true, forall_const, beq_self_eq_true, decide_true, decide_false, eq_self,
                Int.reduceEq, Int.reduceLE, Int.reduceLT, if_true, if_false, fc20_0, fc20_1, fc20_2, fc20_3, fc20_4, Int.reduceAdd, Int.reduceSub, Int.reduceMul, Int.reduceNeg,
                Int.reducePow, Nat.reducePow, Int.reduceToNat, Nat.reduceSub, List.replicate, Nat.reduceBEq, wAs, wA, wC, zipW, noDupN, grpE, g_laws_markBoneS, grpC, en0, dc_en0,
                startW, hpIs]
      repeat' (first
        | ((first | (refine eGI_of (fun h => ?_) (fun h => ?_)) | (refine eCc_of (fun h => ?_) (fun h => ?_))) <;> (try simp only [Bool.not_eq_true', Bool.not_eq_false'] at h) <;> (try simp only [h, reduceCtorEq, Bool.not_eq_true', decide_eq_false_iff_not, Bool.not_true, Bool.not_false, Bool.false_or, Bool.true_or, Bool.true_and, Bool.false_and, Bool.and_eq_true, Bool.or_eq_true, if_true, if_false, reduceIte, Bool.false_eq_true, and_true, true_and, false_or, or_false, decide_eq_true_eq, not_false_eq_true, not_true_eq_false] at hp) <;> (try (have h2 := h; simp only [decide_eq_true_eq, decide_eq_false_iff_not] at h2; (first | (replace h2 := eq_false h2) | (replace h2 := eq_true h2)); simp only [h2, if_true, if_false, false_or, true_or, or_true, or_false, and_true, true_and, not_false_eq_true, not_true_eq_false] at hp)) <;> simp only [h,
          hp, grpA, vsliceS, grpS, grpD, grpF, grpL, eop, vop, bop, uop, fltop, convop, endOk, newE, new1, freshL, Md.isNew, outV, pureV, pureX, pure1, AV.cells, AV.one, storable,
                laid, refless, refless1, vload, loadC, storeC, vnil, vfaddr, vextract, flatT, flatE, flatC, vconv, vmm, vidxA, viaddrA, vfield, vlen, elemsOf, dF32, dF64, dI64, dU8,
                dBool, dStr, esOk, elemsS, vsliceX, bnd, ownV, ownC, own1, ownT, isSl, nSl, endL, Md.isOwn, purge, purgeH, purgeB, purgeE, hasName, name1, List.any_cons,
                List.any_nil, Md.isWr, pureV.pureP, Option.map, reduceIte, Nat.reduceEqDiff, Nat.reduceAdd, Nat.reduceMul, Nat.reduceLT, Nat.reduceLeDiff, List.mapM_cons,
                List.mapM_nil, Option.pure_def, Option.bind_eq_bind, Option.bind_some, implies_true, forall_const, beq_self_eq_true, decide_true, decide_false, eq_self,
                Int.reduceEq, Int.reduceLE, Int.reduceLT, if_true, if_false, fc20_0, fc20_1, fc20_2, fc20_3, fc20_4, Int.reduceAdd, Int.reduceSub, Int.reduceMul, Int.reduceNeg,
                Int.reducePow, Nat.reducePow, Int.reduceToNat, Nat.reduceSub, List.replicate, Nat.reduceBEq, wAs, wA, wC, zipW, noDupN, grpE, g_laws_markBoneS, grpC, en0, dc_en0,
                startW, hpIs]))
      all_goals (try simp only [*, m_laws_markSkeleton, Bool.and_true, Bool.true_and, Bool.and_false, Bool.false_and, Bool.or_true, Bool.true_or, Bool.or_false, Bool.false_or, Bool.not_true, Bool.not_false, Bool.false_eq_true, if_true, if_false, reduceIte, decide_true, decide_false])
      all_goals (try (simp_all; done))
    · cases h
  · cases h
def l_laws_markInt64S_0 : Nat → (List Int) → Int → Int → Option (Int × (List Int))
  | 0, _, _, _ => none
  | n + 1, z0_0, z0_1, z0_2 => (if (decide (z0_2 < (((List.length z0_0) : Nat) : Int))) = true then (need (inB z0_2 (List.length z0_0)) (l_laws_markInt64S_0 n (List.set z0_0
        (Int.toNat z0_2) z0_1) (IntKind.wrap .i64 (z0_1 + 1)) (IntKind.wrap .i64 (z0_2 + 1)))) else (some (z0_1, z0_0)))
def m_laws_markInt64S (x0 : (List Int)) (x1 : Int) : (Int × (List Int)) := (Option.getD (l_laws_markInt64S_0 (Int.toNat ((((List.length x0) : Nat) : Int) - 0) + 2) x0 x1 0) default)
def p_laws_markInt64S (x0 : (List Int)) (x1 : Int) : Bool := ((Option.isSome (l_laws_markInt64S_0 (Int.toNat ((((List.length x0) : Nat) : Int) - 0) + 2) x0 x1 0)) && (decide
      (List.length (Option.getD (l_laws_markInt64S_0 (Int.toNat ((((List.length x0) : Nat) : Int) - 0) + 2) x0 x1 0) default).2 = List.length x0)))
def g_laws_markInt64S : List AV → Option (AV × Md)
  | [.sl w0, .int .i64 y1] => (match decL dI64 w0 with | some y0 => (if p_laws_markInt64S y0 y1 = true then some ((.int .i64 (m_laws_markInt64S y0 y1).1), .wr [1] [List.map (AV.int .i64) (m_laws_markInt64S y0 y1).2]) else none) | none => none)
  | _ => none
def lb21_0 : ICode := (.seq (.seq (.reg [⟨(some 6), none, (.mov (.t 5))⟩, ⟨(some 7), none, (.mov (.t 0))⟩, ⟨(some 8), none, (.len false (.t 7))⟩, ⟨(some 9), none, (.bin .lss false
      (.t 6) (.t 8))⟩] [0, 1, 5, 9]) (.cond (.t 9) .skip (.exit 0))) (.seq (.block 1 (.seq (.reg [⟨(some 12), none, (.mov (.t 0))⟩, ⟨(some 13), none, (.mov (.t 5))⟩, ⟨(some 14),
      none, (.mov (.t 1))⟩, ⟨(some 15), none, (.iaddrS 1 (.t 12) (.t 13))⟩, ⟨none, none, (.store 1 (.t 15) (.t 14))⟩] [0, 1, 5]) (.reg [⟨(some 16), none, (.mov (.t 1))⟩, ⟨(some 17),
      none, (.bin .add false (.t 16) (.c (.int .i64 1)))⟩, ⟨(some 1), none, (.mov (.t 17))⟩] [0, 1, 5]))) (.reg [⟨(some 10), none, (.mov (.t 5))⟩, ⟨(some 11), none, (.bin .add false
      (.t 10) (.c (.int .i64 1)))⟩, ⟨(some 5), none, (.mov (.t 11))⟩] [0, 1, 5])))
def ic21 : ICode := (.seq (.reg [⟨(some 4), none, (.mov (.c (.int .i64 0)))⟩] [0, 1]) (.seq (.seq (.reg [⟨(some 5), none, (.mov (.c (.int .i64 0)))⟩] [0, 1, 5]) (.block 0 (.loop
      lb21_0))) (.seq (.reg [⟨(some 18), none, (.mov (.t 1))⟩, ⟨(some 4), none, (.mov (.t 18))⟩] [0, 4]) .ret)))
def cp21 : CP := CP.mk [] [] [[0, 1], [0, 1, 5], [0, 1, 5, 9], [0, 1, 5], [0, 1, 5], [0, 1, 5], [0, 4]] 19 [] []
theorem fc21_0 : IntKind.wrap .i64 0 = 0 := by decide
theorem fc21_1 : IntKind.wrap .i64 1 = 1 := by decide
theorem fc21_2 : IntKind.wrap .i64 2 = 2 := by decide
theorem fc21_3 : IntKind.wrap .i64 3 = 3 := by decide
theorem fc21_4 : IntKind.wrap .i64 4 = 4 := by decide
theorem sl21_0 : ∀ (n : Nat) (z0_0 : (List Int)) (z0_1 : Int) (z0_2 : Int) (o : (Int × (List Int))) (K : IExit → St → Prop), l_laws_markInt64S_0 n z0_0 z0_1 z0_2 = some o → (∀ st,
      Wk st (⟨[(0, (.lsl 1000000 0 (List.length o.2))), (1, (.int .i64 o.1))], [(1000000, (some ⟨1, true, (List.map (AV.int .i64) o.2)⟩))]⟩ : St) → K (.exit 0) st) → eA (tabOf [])
      (.loop lb21_0) (⟨[(0, (.lsl 1000000 0 (List.length z0_0))), (1, (.int .i64 z0_1)), (5, (.int .i64 z0_2))], [(1000000, (some ⟨1, true, (List.map (AV.int .i64) z0_0)⟩))]⟩ : St)
      K := by
  intro n
  induction n with
  | zero =>
    intro z0_0 z0_1 z0_2 o K h h0
    simp only [l_laws_markInt64S_0, reduceCtorEq] at h
  | succ n ih =>
    intro z0_0 z0_1 z0_2 o K h h0
    refine eA_loop ?_
    unfold lb21_0
    unfold l_laws_markInt64S_0 at h
    (try simp only [need_iff] at h)
    simp only [
      need_iff, h, grpA, vsliceS, grpS, grpD, grpF, grpL, eop, vop, bop, uop, fltop, convop, endOk, newE, new1, freshL, Md.isNew, outV, pureV, pureX, pure1, AV.cells, AV.one,
            storable, laid, refless, refless1, vload, loadC, storeC, vnil, vfaddr, vextract, flatT, flatE, flatC, vconv, vmm, vidxA, viaddrA, vfield, vlen, elemsOf, dF32, dF64,
            dI64, dU8, dBool, dStr, esOk, elemsS, vsliceX, bnd, ownV, ownC, own1, ownT, isSl, nSl, endL, Md.isOwn, purge, purgeH, purgeB, purgeE, hasName, name1, List.any_cons,
            List.any_nil, Md.isWr, pureV.pureP, Option.map, reduceIte, Nat.reduceEqDiff, Nat.reduceAdd, Nat.reduceMul, Nat.reduceLT, Nat.reduceLeDiff, List.mapM_cons, List.mapM_nil,
            Option.pure_def, Option.bind_eq_bind, Option.bind_some, implies_true, forall_const, beq_self_eq_true, decide_true, decide_false, eq_self, Int.reduceEq, Int.reduceLE,
            Int.reduceLT, if_true, if_false, fc21_0, fc21_1, fc21_2, fc21_3, fc21_4, Int.reduceAdd, Int.reduceSub, Int.reduceMul, Int.reduceNeg, Int.reducePow, Nat.reducePow,
            Int.reduceToNat, Nat.reduceSub, List.replicate, Nat.reduceBEq, wAs, wA, wC, zipW, noDupN, grpE, grpC, en0, dc_en0]
    repeat' (first
      | ((first | (refine eGI_of (fun hc => ?_) (fun hc => ?_)) | (refine eCc_of (fun hc => ?_) (fun hc => ?_)) | (have hc := True.intro; refine KW_refl ?_)) <;> (try simp only [Bool.not_eq_true', Bool.not_eq_false'] at hc) <;> (try simp only [hc, need_iff, reduceCtorEq, Bool.not_eq_true', decide_eq_false_iff_not, Bool.not_true, Bool.not_false, Bool.false_or, Bool.true_or, Bool.true_and, Bool.false_and, Bool.and_eq_true, Bool.or_eq_true, if_true, if_false, reduceIte, Bool.false_eq_true, and_true, true_and, false_or, or_false, decide_eq_true_eq, not_false_eq_true, not_true_eq_false] at h) <;> (try (have hc2 := hc; simp only [decide_eq_true_eq, decide_eq_false_iff_not] at hc2; (first | (replace hc2 := eq_false hc2) | (replace hc2 := eq_true hc2)); simp only [hc2, if_true, if_false, need_iff, reduceCtorEq, Bool.not_eq_true', decide_eq_false_iff_not, Bool.not_true, Bool.not_false, Bool.false_or, Bool.true_or, Bool.true_and, Bool.false_and, Bool.and_eq_true, Bool.or_eq_true, if_true, if_false, reduceIte, Bool.false_eq_true, and_true, true_and, false_or, or_false, decide_eq_true_eq, not_false_eq_true, not_true_eq_false] at h)) <;> simp only [hc,
      need_iff, h, grpA, vsliceS, grpS, grpD, grpF, grpL, eop, vop, bop, uop, fltop, convop, endOk, newE, new1, freshL, Md.isNew, outV, pureV, pureX, pure1, AV.cells, AV.one,
            storable, laid, refless, refless1, vload, loadC, storeC, vnil, vfaddr, vextract, flatT, flatE, flatC, vconv, vmm, vidxA, viaddrA, vfield, vlen, elemsOf, dF32, dF64,
            dI64, dU8, dBool, dStr, esOk, elemsS, vsliceX, bnd, ownV, ownC, own1, ownT, isSl, nSl, endL, Md.isOwn, purge, purgeH, purgeB, purgeE, hasName, name1, List.any_cons,
            List.any_nil, Md.isWr, pureV.pureP, Option.map, reduceIte, Nat.reduceEqDiff, Nat.reduceAdd, Nat.reduceMul, Nat.reduceLT, Nat.reduceLeDiff, List.mapM_cons, List.mapM_nil,
            Option.pure_def, Option.bind_eq_bind, Option.bind_some, implies_true, forall_const, beq_self_eq_true, decide_true, decide_false, eq_self, Int.reduceEq, Int.reduceLE,
            Int.reduceLT, if_true, if_false, fc21_0, fc21_1, fc21_2, fc21_3, fc21_4, Int.reduceAdd, Int.reduceSub, Int.reduceMul, Int.reduceNeg, Int.reducePow, Nat.reducePow,
            Int.reduceToNat, Nat.reduceSub, List.replicate, Nat.reduceBEq, wAs, wA, wC, zipW, noDupN, grpE, grpC, en0, dc_en0]))
    all_goals (repeat (replace h := And.right h))
    all_goals first
      | (refine eA_wk (wk_norm (ks := [0, 1, 5]) (ls := [1000000]) ?_) (eA_cast ?_ (ih _ _ _ _ _ h h0)); (simp only [normOk, optIn, blkIn, nameIn,
      need_iff, h, grpA, vsliceS, grpS, grpD, grpF, grpL, eop, vop, bop, uop, fltop, convop, endOk, newE, new1, freshL, Md.isNew, outV, pureV, pureX, pure1, AV.cells, AV.one,
            storable, laid, refless, refless1, vload, loadC, storeC, vnil, vfaddr, vextract, flatT, flatE, flatC, vconv, vmm, vidxA, viaddrA, vfield, vlen, elemsOf, dF32, dF64,
            dI64, dU8, dBool, dStr, esOk, elemsS, vsliceX, bnd, ownV, ownC, own1, ownT, isSl, nSl, endL, Md.isOwn, purge, purgeH, purgeB, purgeE, hasName, name1, List.any_cons,
            List.any_nil, Md.isWr, pureV.pureP, Option.map, reduceIte, Nat.reduceEqDiff, Nat.reduceAdd, Nat.reduceMul, Nat.reduceLT, Nat.reduceLeDiff, List.mapM_cons, List.mapM_nil,
            Option.pure_def, Option.bind_eq_bind, Option.bind_some, implies_true, forall_const, beq_self_eq_true, decide_true, decide_false, eq_self, Int.reduceEq, Int.reduceLE,
            Int.reduceLT, if_true, if_false, fc21_0, fc21_1, fc21_2, fc21_3, fc21_4, Int.reduceAdd, Int.reduceSub, Int.reduceMul, Int.reduceNeg, Int.reducePow, Nat.reducePow,
            Int.reduceToNat, Nat.reduceSub, List.replicate, Nat.reduceBEq, wAs, wA, wC, zipW, noDupN, grpE, grpC, en0, dc_en0] <;> rfl); (simp only [normS, List.map_append, List.length_append, List.map_set, List.length_set, List.map_replicate, List.length_replicate, List.map_nil, List.map_cons,
      need_iff, h, grpA, vsliceS, grpS, grpD, grpF, grpL, eop, vop, bop, uop, fltop, convop, endOk, newE, new1, freshL, Md.isNew, outV, pureV, pureX, pure1, AV.cells, AV.one,
            storable, laid, refless, refless1, vload, loadC, storeC, vnil, vfaddr, vextract, flatT, flatE, flatC, vconv, vmm, vidxA, viaddrA, vfield, vlen, elemsOf, dF32, dF64,
            dI64, dU8, dBool, dStr, esOk, elemsS, vsliceX, bnd, ownV, ownC, own1, ownT, isSl, nSl, endL, Md.isOwn, purge, purgeH, purgeB, purgeE, hasName, name1, List.any_cons,
            List.any_nil, Md.isWr, pureV.pureP, Option.map, reduceIte, Nat.reduceEqDiff, Nat.reduceAdd, Nat.reduceMul, Nat.reduceLT, Nat.reduceLeDiff, List.mapM_cons, List.mapM_nil,
            Option.pure_def, Option.bind_eq_bind, Option.bind_some, implies_true, forall_const, beq_self_eq_true, decide_true, decide_false, eq_self, Int.reduceEq, Int.reduceLE,
            Int.reduceLT, if_true, if_false, fc21_0, fc21_1, fc21_2, fc21_3, fc21_4, Int.reduceAdd, Int.reduceSub, Int.reduceMul, Int.reduceNeg, Int.reducePow, Nat.reducePow,
            Int.reduceToNat, Nat.reduceSub, List.replicate, Nat.reduceBEq, wAs, wA, wC, zipW, noDupN, grpE, grpC, en0, dc_en0] <;> first | rfl | (simp only [Nat.add_comm]; done)))
      | (cases h; refine h0 _ (Wk.cast (wk_norm (ks := [0, 1]) (ls := [1000000]) ?_) ?_); (simp only [normOk, optIn, blkIn, nameIn,
      grpA, vsliceS, grpS, grpD, grpF, grpL, eop, vop, bop, uop, fltop, convop, endOk, newE, new1, freshL, Md.isNew, outV, pureV, pureX, pure1, AV.cells, AV.one, storable, laid,
            refless, refless1, vload, loadC, storeC, vnil, vfaddr, vextract, flatT, flatE, flatC, vconv, vmm, vidxA, viaddrA, vfield, vlen, elemsOf, dF32, dF64, dI64, dU8, dBool,
            dStr, esOk, elemsS, vsliceX, bnd, ownV, ownC, own1, ownT, isSl, nSl, endL, Md.isOwn, purge, purgeH, purgeB, purgeE, hasName, name1, List.any_cons, List.any_nil, Md.isWr,
            pureV.pureP, Option.map, reduceIte, Nat.reduceEqDiff, Nat.reduceAdd, Nat.reduceMul, Nat.reduceLT, Nat.reduceLeDiff, List.mapM_cons, List.mapM_nil, Option.pure_def,
            Option.bind_eq_bind, Option.bind_some, implies_true, forall_const, beq_self_eq_true, decide_true, decide_false, eq_self, Int.reduceEq, Int.reduceLE, Int.reduceLT,
            if_true, if_false, fc21_0, fc21_1, fc21_2, fc21_3, fc21_4, Int.reduceAdd, Int.reduceSub, Int.reduceMul, Int.reduceNeg, Int.reducePow, Nat.reducePow, Int.reduceToNat,
            Nat.reduceSub, List.replicate, Nat.reduceBEq, wAs, wA, wC, zipW, noDupN, grpE, grpC, en0, dc_en0] <;> rfl); (simp only [normS, List.map_append, List.length_append, List.map_set, List.length_set, List.map_replicate, List.length_replicate,
      grpA, vsliceS, grpS, grpD, grpF, grpL, eop, vop, bop, uop, fltop, convop, endOk, newE, new1, freshL, Md.isNew, outV, pureV, pureX, pure1, AV.cells, AV.one, storable, laid,
            refless, refless1, vload, loadC, storeC, vnil, vfaddr, vextract, flatT, flatE, flatC, vconv, vmm, vidxA, viaddrA, vfield, vlen, elemsOf, dF32, dF64, dI64, dU8, dBool,
            dStr, esOk, elemsS, vsliceX, bnd, ownV, ownC, own1, ownT, isSl, nSl, endL, Md.isOwn, purge, purgeH, purgeB, purgeE, hasName, name1, List.any_cons, List.any_nil, Md.isWr,
            pureV.pureP, Option.map, reduceIte, Nat.reduceEqDiff, Nat.reduceAdd, Nat.reduceMul, Nat.reduceLT, Nat.reduceLeDiff, List.mapM_cons, List.mapM_nil, Option.pure_def,
            Option.bind_eq_bind, Option.bind_some, implies_true, forall_const, beq_self_eq_true, decide_true, decide_false, eq_self, Int.reduceEq, Int.reduceLE, Int.reduceLT,
            if_true, if_false, fc21_0, fc21_1, fc21_2, fc21_3, fc21_4, Int.reduceAdd, Int.reduceSub, Int.reduceMul, Int.reduceNeg, Int.reducePow, Nat.reducePow, Int.reduceToNat,
            Nat.reduceSub, List.replicate, Nat.reduceBEq, wAs, wA, wC, zipW, noDupN, grpE, grpC, en0, dc_en0] <;> first | rfl | (simp only [Nat.add_comm]; done)))
theorem s21 : ∀ vs r m, g_laws_markInt64S vs = some (r, m) → SaysX Try.prog m 21 vs r := by
  intro vs r m h
  unfold g_laws_markInt64S at h
  split at h
  · rename_i w0 y1
    cases hd_y0 : decL dI64 w0 with
    | none => rw [hd_y0] at h; cases h
    | some y0 =>
    rw [hd_y0] at h
    obtain rfl := decL_inv dI64_inv hd_y0
    clear hd_y0
    dsimp only at h
    split at h
    · rename_i hp
      cases h
      have hz : zipW [(1000000, ⟨1, true, List.map (AV.int .i64) y0⟩)] [List.map (AV.int .i64) (m_laws_markInt64S y0 y1).2] = some [(1000000, ⟨1, true, List.map (AV.int .i64) (m_laws_markInt64S y0 y1).2⟩)] := by simp only [zipW, List.map_cons, List.map_nil, List.length_map, m_laws_markInt64S, p_laws_markInt64S, Bool.and_eq_true, decide_eq_true_eq] at hp ⊢; simp only [hp, if_true]
      refine spec_ofW (tab := tabOf []) (cp := cp21) (ic := ic21) (rvl := [(.t 4)]) (H := [(1000000, ⟨1, true, List.map (AV.int .i64) y0⟩)]) (H' := [(1000000, ⟨1, true, List.map (AV.int .i64) (m_laws_markInt64S y0 y1).2⟩)]) hm tabOk_nil Try.func21 rfl rfl rfl (by kernel_rfl) rfl (Nat.le_of_ble_eq_true rfl) (Nat.le_of_ble_eq_true rfl) (by rfl) hz (by rfl) (by rfl) (by rfl) ?_
      show eA _ _ _ _
      unfold ic21
      simp only [p_laws_markInt64S, Bool.and_eq_true, Bool.or_eq_true, decide_eq_true_eq, Bool.not_eq_true', decide_eq_false_iff_not] at hp
      simp only [
          hp, grpA, vsliceS, grpS, grpD, grpF, grpL, eop, vop, bop, uop, fltop, convop, endOk, newE, new1, freshL, Md.isNew, outV, pureV, pureX, pure1, AV.cells, AV.one, storable,
                laid, refless, refless1, vload, loadC, storeC, vnil, vfaddr, vextract, flatT, flatE, flatC, vconv, vmm, vidxA, viaddrA, vfield, vlen, elemsOf, dF32, dF64, dI64, dU8,
                dBool, dStr, esOk, elemsS, vsliceX, bnd, ownV, ownC, own1, ownT, isSl, nSl, endL, Md.isOwn, purge, purgeH, purgeB, purgeE, hasName, name1, List.any_cons,
                List.any_nil, Md.isWr, pureV.pureP, Option.map, reduceIte, Nat.reduceEqDiff, Nat.reduceAdd, Nat.reduceMul, Nat.reduceLT, Nat.reduceLeDiff, List.mapM_cons,
                List.mapM_nil, Option.pure_def, Option.bind_eq_bind, Option.bind_some, implies_true, forall_const, beq_self_eq_true, decide_true, decide_false, eq_self,
                Int.reduceEq, Int.reduceLE, Int.reduceLT, if_true, if_false, fc21_0, fc21_1, fc21_2, fc21_3, fc21_4, Int.reduceAdd, Int.reduceSub, Int.reduceMul, Int.reduceNeg,
                Int.reducePow, Nat.reducePow, Int.reduceToNat, Nat.reduceSub, List.replicate, Nat.reduceBEq, wAs, wA, wC, zipW, noDupN, grpE, grpC, en0, dc_en0, startW, hpIs]
      repeat' (first
        | ((first | (refine eGI_of (fun h => ?_) (fun h => ?_)) | (refine eCc_of (fun h => ?_) (fun h => ?_)) | (have h := True.intro; refine KW_refl ?_)) <;> (try simp only [Bool.not_eq_true', Bool.not_eq_false'] at h) <;> (try simp only [h, reduceCtorEq, Bool.not_eq_true', decide_eq_false_iff_not, Bool.not_true, Bool.not_false, Bool.false_or, Bool.true_or, Bool.true_and, Bool.false_and, Bool.and_eq_true, Bool.or_eq_true, if_true, if_false, reduceIte, Bool.false_eq_true, and_true, true_and, false_or, or_false, decide_eq_true_eq, not_false_eq_true, not_true_eq_false] at hp) <;> (try (have h2 := h; simp only [decide_eq_true_eq, decide_eq_false_iff_not] at h2; (first | (replace h2 := eq_false h2) | (replace h2 := eq_true h2)); simp only [h2, if_true, if_false, false_or, true_or, or_true, or_false, and_true, true_and, not_false_eq_true, not_true_eq_false] at hp)) <;> simp only [h,
          hp, grpA, vsliceS, grpS, grpD, grpF, grpL, eop, vop, bop, uop, fltop, convop, endOk, newE, new1, freshL, Md.isNew, outV, pureV, pureX, pure1, AV.cells, AV.one, storable,
                laid, refless, refless1, vload, loadC, storeC, vnil, vfaddr, vextract, flatT, flatE, flatC, vconv, vmm, vidxA, viaddrA, vfield, vlen, elemsOf, dF32, dF64, dI64, dU8,
                dBool, dStr, esOk, elemsS, vsliceX, bnd, ownV, ownC, own1, ownT, isSl, nSl, endL, Md.isOwn, purge, purgeH, purgeB, purgeE, hasName, name1, List.any_cons,
                List.any_nil, Md.isWr, pureV.pureP, Option.map, reduceIte, Nat.reduceEqDiff, Nat.reduceAdd, Nat.reduceMul, Nat.reduceLT, Nat.reduceLeDiff, List.mapM_cons,
                List.mapM_nil, Option.pure_def, Option.bind_eq_bind, Option.bind_some, implies_true, forall_const, beq_self_eq_true, decide_true, decide_false, eq_self,
                Int.reduceEq, Int.reduceLE, Int.reduceLT, if_true, if_false, fc21_0, fc21_1, fc21_2, fc21_3, fc21_4, Int.reduceAdd, Int.reduceSub, Int.reduceMul, Int.reduceNeg,
                Int.reducePow, Nat.reducePow, Int.reduceToNat, Nat.reduceSub, List.replicate, Nat.reduceBEq, wAs, wA, wC, zipW, noDupN, grpE, grpC, en0, dc_en0, startW, hpIs])
        | (refine eA_wk (wk_norm (ks := [0, 1, 5]) (ls := [1000000]) ?_) (eA_cast ?_ (sl21_0 _ _ _ _ _ _ (getD_some (d := default) (x := (l_laws_markInt64S_0 (Int.toNat ((((List.length y0) : Nat) : Int) - 0) + 2) y0 y1 0)) ?_) ?_)); (simp only [nilS, nilV, normOk, optIn, blkIn, nameIn, 
          hp, grpA, vsliceS, grpS, grpD, grpF, grpL, eop, vop, bop, uop, fltop, convop, endOk, newE, new1, freshL, Md.isNew, outV, pureV, pureX, pure1, AV.cells, AV.one, storable,
                laid, refless, refless1, vload, loadC, storeC, vnil, vfaddr, vextract, flatT, flatE, flatC, vconv, vmm, vidxA, viaddrA, vfield, vlen, elemsOf, dF32, dF64, dI64, dU8,
                dBool, dStr, esOk, elemsS, vsliceX, bnd, ownV, ownC, own1, ownT, isSl, nSl, endL, Md.isOwn, purge, purgeH, purgeB, purgeE, hasName, name1, List.any_cons,
                List.any_nil, Md.isWr, pureV.pureP, Option.map, reduceIte, Nat.reduceEqDiff, Nat.reduceAdd, Nat.reduceMul, Nat.reduceLT, Nat.reduceLeDiff, List.mapM_cons,
                List.mapM_nil, Option.pure_def, Option.bind_eq_bind, Option.bind_some, implies_true, forall_const, beq_self_eq_true, decide_true, decide_false, eq_self,
                Int.reduceEq, Int.reduceLE, Int.reduceLT, if_true, if_false, fc21_0, fc21_1, fc21_2, fc21_3, fc21_4, Int.reduceAdd, Int.reduceSub, Int.reduceMul, Int.reduceNeg,
                Int.reducePow, Nat.reducePow, Int.reduceToNat, Nat.reduceSub, List.replicate, Nat.reduceBEq, wAs, wA, wC, zipW, noDupN, grpE, grpC, en0, dc_en0, startW, hpIs] <;> rfl); (simp only [nilS, nilV, normS,  List.map_append, List.length_append, List.map_set, List.length_set, List.map_replicate, List.length_replicate, List.map_nil, List.map_cons,
          hp, grpA, vsliceS, grpS, grpD, grpF, grpL, eop, vop, bop, uop, fltop, convop, endOk, newE, new1, freshL, Md.isNew, outV, pureV, pureX, pure1, AV.cells, AV.one, storable,
                laid, refless, refless1, vload, loadC, storeC, vnil, vfaddr, vextract, flatT, flatE, flatC, vconv, vmm, vidxA, viaddrA, vfield, vlen, elemsOf, dF32, dF64, dI64, dU8,
                dBool, dStr, esOk, elemsS, vsliceX, bnd, ownV, ownC, own1, ownT, isSl, nSl, endL, Md.isOwn, purge, purgeH, purgeB, purgeE, hasName, name1, List.any_cons,
                List.any_nil, Md.isWr, pureV.pureP, Option.map, reduceIte, Nat.reduceEqDiff, Nat.reduceAdd, Nat.reduceMul, Nat.reduceLT, Nat.reduceLeDiff, List.mapM_cons,
                List.mapM_nil, Option.pure_def, Option.bind_eq_bind, Option.bind_some, implies_true, forall_const, beq_self_eq_true, decide_true, decide_false, eq_self,
                Int.reduceEq, Int.reduceLE, Int.reduceLT, if_true, if_false, fc21_0, fc21_1, fc21_2, fc21_3, fc21_4, Int.reduceAdd, Int.reduceSub, Int.reduceMul, Int.reduceNeg,
                Int.reducePow, Nat.reducePow, Int.reduceToNat, Nat.reduceSub, List.replicate, Nat.reduceBEq, wAs, wA, wC, zipW, noDupN, grpE, grpC, en0, dc_en0, startW, hpIs] <;> first | rfl | (simp only [Nat.add_comm]; done)); (simp only [hp]); (
        intro st2 hw; (try simp only [reduceCtorEq, Bool.not_eq_true', decide_eq_false_iff_not, Bool.not_true, Bool.not_false, Bool.false_or, Bool.true_or, Bool.true_and, Bool.false_and, Bool.and_eq_true, Bool.or_eq_true, if_true, if_false, reduceIte, Bool.false_eq_true, and_true, true_and, false_or, or_false, decide_eq_true_eq, not_false_eq_true, not_true_eq_false] at hp); simp only [
          hp, grpA, vsliceS, grpS, grpD, grpF, grpL, eop, vop, bop, uop, fltop, convop, endOk, newE, new1, freshL, Md.isNew, outV, pureV, pureX, pure1, AV.cells, AV.one, storable,
                laid, refless, refless1, vload, loadC, storeC, vnil, vfaddr, vextract, flatT, flatE, flatC, vconv, vmm, vidxA, viaddrA, vfield, vlen, elemsOf, dF32, dF64, dI64, dU8,
                dBool, dStr, esOk, elemsS, vsliceX, bnd, ownV, ownC, own1, ownT, isSl, nSl, endL, Md.isOwn, purge, purgeH, purgeB, purgeE, hasName, name1, List.any_cons,
                List.any_nil, Md.isWr, pureV.pureP, Option.map, reduceIte, Nat.reduceEqDiff, Nat.reduceAdd, Nat.reduceMul, Nat.reduceLT, Nat.reduceLeDiff, List.mapM_cons,
                List.mapM_nil, Option.pure_def, Option.bind_eq_bind, Option.bind_some, implies_true, forall_const, beq_self_eq_true, decide_true, decide_false, eq_self,
                Int.reduceEq, Int.reduceLE, Int.reduceLT, if_true, if_false, fc21_0, fc21_1, fc21_2, fc21_3, fc21_4, Int.reduceAdd, Int.reduceSub, Int.reduceMul, Int.reduceNeg,
                Int.reducePow, Nat.reducePow, Int.reduceToNat, Nat.reduceSub, List.replicate, Nat.reduceBEq, wAs, wA, wC, zipW, noDupN, grpE, grpC, en0, dc_en0, startW, hpIs]; refine KW_of hw ?_; simp only [
          hp, grpA, vsliceS, grpS, grpD, grpF, grpL, eop, vop, bop, uop, fltop, convop, endOk, newE, new1, freshL, Md.isNew, outV, pureV, pureX, pure1, AV.cells, AV.one, storable,
                laid, refless, refless1, vload, loadC, storeC, vnil, vfaddr, vextract, flatT, flatE, flatC, vconv, vmm, vidxA, viaddrA, vfield, vlen, elemsOf, dF32, dF64, dI64, dU8,
                dBool, dStr, esOk, elemsS, vsliceX, bnd, ownV, ownC, own1, ownT, isSl, nSl, endL, Md.isOwn, purge, purgeH, purgeB, purgeE, hasName, name1, List.any_cons,
                List.any_nil, Md.isWr, pureV.pureP, Option.map, reduceIte, Nat.reduceEqDiff, Nat.reduceAdd, Nat.reduceMul, Nat.reduceLT, Nat.reduceLeDiff, List.mapM_cons,
                List.mapM_nil, Option.pure_def, Option.bind_eq_bind, Option.bind_some, implies_true, forall_const, beq_self_eq_true, decide_true, decide_false, eq_self,
                Int.reduceEq, Int.reduceLE, Int.reduceLT, if_true, if_false, fc21_0, fc21_1, fc21_2, fc21_3, fc21_4, Int.reduceAdd, Int.reduceSub, Int.reduceMul, Int.reduceNeg,
                Int.reducePow, Nat.reducePow, Int.reduceToNat, Nat.reduceSub, List.replicate, Nat.reduceBEq, wAs, wA, wC, zipW, noDupN, grpE, grpC, en0, dc_en0, startW, hpIs])))
      all_goals (try simp only [*, m_laws_markInt64S, Bool.and_true, Bool.true_and, Bool.and_false, Bool.false_and, Bool.or_true, Bool.true_or, Bool.or_false, Bool.false_or, Bool.not_true, Bool.not_false, Bool.false_eq_true, if_true, if_false, reduceIte, decide_true, decide_false])
      all_goals (try (simp_all; done))
    · cases h
  · cases h
def l_laws_heldBoneS_0 (x0 : (List (Int × Nat × Nat × Nat))) : Nat → Int → Int → Option (Bool × Int × Int)
  | 0, _, _ => none
  | n + 1, z0_0, z0_1 => (if (decide (z0_1 < ((List.length x0 : Nat) : Int))) = true then (need (inB z0_1 (List.length x0)) (if (decide ((atI x0 z0_1).1 = z0_0)) = true then (if
        (feq .f32 (atI x0 z0_1).2.1 (ofInt .f32 (IntKind.wrap .i64 (z0_0 + 1)))) = true then (if (feq .f32 (atI x0 z0_1).2.2.1 (ofInt .f32 (IntKind.wrap .i64 ((IntKind.wrap .i64
        (z0_0 + 1)) + 1)))) = true then (if (feq .f32 (atI x0 z0_1).2.2.2 (ofInt .f32 (IntKind.wrap .i64 ((IntKind.wrap .i64 ((IntKind.wrap .i64 (z0_0 + 1)) + 1)) + 1)))) = true
        then (l_laws_heldBoneS_0 x0 n (IntKind.wrap .i64 ((IntKind.wrap .i64 ((IntKind.wrap .i64 ((IntKind.wrap .i64 (z0_0 + 1)) + 1)) + 1)) + 1)) (IntKind.wrap .i64 (z0_1 + 1)))
        else (some (true, (-1), default))) else (some (true, (-1), default))) else (some (true, (-1), default))) else (some (true, (-1), default)))) else (some (false, default,
        z0_0)))
def m_laws_heldBoneS (x0 : (List (Int × Nat × Nat × Nat))) (x1 : Int) : Int := (if (Option.getD (l_laws_heldBoneS_0 x0 (Int.toNat (((List.length x0 : Nat) : Int) - 0) + 2) x1 0)
      default).1 = true then (Option.getD (l_laws_heldBoneS_0 x0 (Int.toNat (((List.length x0 : Nat) : Int) - 0) + 2) x1 0) default).2.1 else (Option.getD (l_laws_heldBoneS_0 x0
      (Int.toNat (((List.length x0 : Nat) : Int) - 0) + 2) x1 0) default).2.2)
def p_laws_heldBoneS (x0 : (List (Int × Nat × Nat × Nat))) (x1 : Int) : Bool := (Option.isSome (l_laws_heldBoneS_0 x0 (Int.toNat (((List.length x0 : Nat) : Int) - 0) + 2) x1 0))
def g_laws_heldBoneS : List AV → Option AV
  | [.sl w0, .int .i64 y1] => (match decL dc_en0 w0 with | some y0 => (if p_laws_heldBoneS y0 y1 = true then some (.int .i64 (m_laws_heldBoneS y0 y1)) else none) | none => none)
  | _ => none
def lb64_0 : ICode := (.seq (.seq (.reg [⟨(some 6), none, (.mov (.t 5))⟩, ⟨(some 7), none, (.mov (.t 0))⟩, ⟨(some 8), none, (.len false (.t 7))⟩, ⟨(some 9), none, (.bin .lss false
      (.t 6) (.t 8))⟩] [0, 1, 5, 9]) (.cond (.t 9) .skip (.exit 0))) (.seq (.block 1 (.seq (.seq (.reg [⟨(some 12), none, (.mov (.t 0))⟩, ⟨(some 13), none, (.mov (.t 5))⟩, ⟨(some
      14), none, (.iaddrS 4 (.t 12) (.t 13))⟩, ⟨(some 15), none, (.faddr 0 (.t 14))⟩, ⟨(some 16), none, (.load none (.t 15))⟩, ⟨(some 17), none, (.mov (.t 1))⟩, ⟨(some 18), none,
      (.bin .neq false (.t 16) (.t 17))⟩] [0, 1, 5, 18]) (.cond (.t 18) (.seq (.reg [⟨(some 4), none, (.mov (.c (.int .i64 (-1))))⟩] [4]) .ret) .skip)) (.seq (.reg [⟨(some 19),
      none, (.mov (.t 1))⟩, ⟨(some 20), none, (.bin .add false (.t 19) (.c (.int .i64 1)))⟩, ⟨(some 1), none, (.mov (.t 20))⟩] [0, 1, 5]) (.seq (.seq (.reg [⟨(some 21), none, (.mov
      (.t 0))⟩, ⟨(some 22), none, (.mov (.t 5))⟩, ⟨(some 23), none, (.iaddrS 4 (.t 21) (.t 22))⟩, ⟨(some 24), none, (.faddr 1 (.t 23))⟩, ⟨(some 25), none, (.faddr 0 (.t 24))⟩,
      ⟨(some 26), none, (.load none (.t 25))⟩, ⟨(some 27), none, (.mov (.t 1))⟩, ⟨(some 28), none, (.conv (.flt .f32) (.t 27))⟩, ⟨(some 29), none, (.bin .neq false (.t 26) (.t
      28))⟩] [0, 1, 5, 29]) (.cond (.t 29) (.seq (.reg [⟨(some 4), none, (.mov (.c (.int .i64 (-1))))⟩] [4]) .ret) .skip)) (.seq (.reg [⟨(some 30), none, (.mov (.t 1))⟩, ⟨(some 31),
      none, (.bin .add false (.t 30) (.c (.int .i64 1)))⟩, ⟨(some 1), none, (.mov (.t 31))⟩] [0, 1, 5]) (.seq (.seq (.reg [⟨(some 32), none, (.mov (.t 0))⟩, ⟨(some 33), none, (.mov
      (.t 5))⟩, ⟨(some 34), none, (.iaddrS 4 (.t 32) (.t 33))⟩, ⟨(some 35), none, (.faddr 1 (.t 34))⟩, ⟨(some 36), none, (.faddr 1 (.t 35))⟩, ⟨(some 37), none, (.load none (.t
      36))⟩, ⟨(some 38), none, (.mov (.t 1))⟩, ⟨(some 39), none, (.conv (.flt .f32) (.t 38))⟩, ⟨(some 40), none, (.bin .neq false (.t 37) (.t 39))⟩] [0, 1, 5, 40]) (.cond (.t 40)
      (.seq (.reg [⟨(some 4), none, (.mov (.c (.int .i64 (-1))))⟩] [4]) .ret) .skip)) (.seq (.reg [⟨(some 41), none, (.mov (.t 1))⟩, ⟨(some 42), none, (.bin .add false (.t 41) (.c
      (.int .i64 1)))⟩, ⟨(some 1), none, (.mov (.t 42))⟩] [0, 1, 5]) (.seq (.seq (.reg [⟨(some 43), none, (.mov (.t 0))⟩, ⟨(some 44), none, (.mov (.t 5))⟩, ⟨(some 45), none,
      (.iaddrS 4 (.t 43) (.t 44))⟩, ⟨(some 46), none, (.faddr 1 (.t 45))⟩, ⟨(some 47), none, (.faddr 2 (.t 46))⟩, ⟨(some 48), none, (.load none (.t 47))⟩, ⟨(some 49), none, (.mov
      (.t 1))⟩, ⟨(some 50), none, (.conv (.flt .f32) (.t 49))⟩, ⟨(some 51), none, (.bin .neq false (.t 48) (.t 50))⟩] [0, 1, 5, 51]) (.cond (.t 51) (.seq (.reg [⟨(some 4), none,
      (.mov (.c (.int .i64 (-1))))⟩] [4]) .ret) .skip)) (.reg [⟨(some 52), none, (.mov (.t 1))⟩, ⟨(some 53), none, (.bin .add false (.t 52) (.c (.int .i64 1)))⟩, ⟨(some 1), none,
      (.mov (.t 53))⟩] [0, 1, 5]))))))))) (.reg [⟨(some 10), none, (.mov (.t 5))⟩, ⟨(some 11), none, (.bin .add false (.t 10) (.c (.int .i64 1)))⟩, ⟨(some 5), none, (.mov (.t 11))⟩]
      [0, 1, 5])))
def ic64 : ICode := (.seq (.reg [⟨(some 4), none, (.mov (.c (.int .i64 0)))⟩] [0, 1]) (.seq (.seq (.reg [⟨(some 5), none, (.mov (.c (.int .i64 0)))⟩] [0, 1, 5]) (.block 0 (.loop
      lb64_0))) (.seq (.reg [⟨(some 54), none, (.mov (.t 1))⟩, ⟨(some 4), none, (.mov (.t 54))⟩] [4]) .ret)))
def cp64 : CP := CP.mk [] [] [[0, 1], [0, 1, 5], [0, 1, 5, 9], [0, 1, 5], [0, 1, 5, 18], [4], [0, 1, 5], [0, 1, 5, 29], [4], [0, 1, 5], [0, 1, 5, 40], [4], [0, 1, 5], [0, 1, 5, 51],
      [4], [0, 1, 5], [4]] 55 [] []
theorem fc64_0 : IntKind.wrap .i64 0 = 0 := by decide
theorem fc64_1 : IntKind.wrap .i64 1 = 1 := by decide
theorem fc64_2 : IntKind.wrap .i64 2 = 2 := by decide
theorem fc64_3 : IntKind.wrap .i64 3 = 3 := by decide
theorem fc64_4 : IntKind.wrap .i64 4 = 4 := by decide
theorem sl64_0 (x0 : (List (Int × Nat × Nat × Nat))) : ∀ (n : Nat) (z0_0 : Int) (z0_1 : Int) (o : (Bool × Int × Int)) (K : IExit → St → Prop), l_laws_heldBoneS_0 x0 n z0_0 z0_1 =
      some o → (∀ st, o.1 = true → outM .any st [(.t 4)] = some (.int .i64 o.2.1) → K .ret st) → (∀ st, o.1 = false → Wk st (⟨[(1, (.int .i64 o.2.2))], []⟩ : St) → K (.exit 0) st) →
      eA (tabOf []) (.loop lb64_0) (⟨[(0, (.sl (List.map en0 x0))), (1, (.int .i64 z0_0)), (5, (.int .i64 z0_1))], []⟩ : St) K := by
  intro n
  induction n with
  | zero =>
    intro z0_0 z0_1 o K h h0 h1
    simp only [l_laws_heldBoneS_0, reduceCtorEq] at h
  | succ n ih =>
    intro z0_0 z0_1 o K h h0 h1
    refine eA_loop ?_
    unfold lb64_0
    unfold l_laws_heldBoneS_0 at h
    (try simp only [need_iff] at h)
    simp only [
      need_iff, h, grpA, vsliceS, grpS, grpD, grpF, grpL, eop, vop, bop, uop, fltop, convop, endOk, newE, new1, freshL, Md.isNew, outV, pureV, pureX, pure1, AV.cells, AV.one,
            storable, laid, refless, refless1, vload, loadC, storeC, vnil, vfaddr, vextract, flatT, flatE, flatC, vconv, vmm, vidxA, viaddrA, vfield, vlen, elemsOf, dF32, dF64,
            dI64, dU8, dBool, dStr, esOk, elemsS, vsliceX, bnd, ownV, ownC, own1, ownT, isSl, nSl, endL, Md.isOwn, purge, purgeH, purgeB, purgeE, hasName, name1, List.any_cons,
            List.any_nil, Md.isWr, pureV.pureP, Option.map, reduceIte, Nat.reduceEqDiff, Nat.reduceAdd, Nat.reduceMul, Nat.reduceLT, Nat.reduceLeDiff, List.mapM_cons, List.mapM_nil,
            Option.pure_def, Option.bind_eq_bind, Option.bind_some, implies_true, forall_const, beq_self_eq_true, decide_true, decide_false, eq_self, Int.reduceEq, Int.reduceLE,
            Int.reduceLT, if_true, if_false, fc64_0, fc64_1, fc64_2, fc64_3, fc64_4, Int.reduceAdd, Int.reduceSub, Int.reduceMul, Int.reduceNeg, Int.reducePow, Nat.reducePow,
            Int.reduceToNat, Nat.reduceSub, List.replicate, Nat.reduceBEq, wAs, wA, wC, zipW, noDupN, grpE, grpC, en0, dc_en0]
    repeat' (first
      | ((first | (refine eGI_of (fun hc => ?_) (fun hc => ?_)) | (refine eCc_of (fun hc => ?_) (fun hc => ?_)) | (have hc := True.intro; refine KW_refl ?_)) <;> (try simp only [Bool.not_eq_true', Bool.not_eq_false'] at hc) <;> (try simp only [hc, need_iff, reduceCtorEq, Bool.not_eq_true', decide_eq_false_iff_not, Bool.not_true, Bool.not_false, Bool.false_or, Bool.true_or, Bool.true_and, Bool.false_and, Bool.and_eq_true, Bool.or_eq_true, if_true, if_false, reduceIte, Bool.false_eq_true, and_true, true_and, false_or, or_false, decide_eq_true_eq, not_false_eq_true, not_true_eq_false] at h) <;> (try (have hc2 := hc; simp only [decide_eq_true_eq, decide_eq_false_iff_not] at hc2; (first | (replace hc2 := eq_false hc2) | (replace hc2 := eq_true hc2)); simp only [hc2, if_true, if_false, need_iff, reduceCtorEq, Bool.not_eq_true', decide_eq_false_iff_not, Bool.not_true, Bool.not_false, Bool.false_or, Bool.true_or, Bool.true_and, Bool.false_and, Bool.and_eq_true, Bool.or_eq_true, if_true, if_false, reduceIte, Bool.false_eq_true, and_true, true_and, false_or, or_false, decide_eq_true_eq, not_false_eq_true, not_true_eq_false] at h)) <;> simp only [hc,
      need_iff, h, grpA, vsliceS, grpS, grpD, grpF, grpL, eop, vop, bop, uop, fltop, convop, endOk, newE, new1, freshL, Md.isNew, outV, pureV, pureX, pure1, AV.cells, AV.one,
            storable, laid, refless, refless1, vload, loadC, storeC, vnil, vfaddr, vextract, flatT, flatE, flatC, vconv, vmm, vidxA, viaddrA, vfield, vlen, elemsOf, dF32, dF64,
            dI64, dU8, dBool, dStr, esOk, elemsS, vsliceX, bnd, ownV, ownC, own1, ownT, isSl, nSl, endL, Md.isOwn, purge, purgeH, purgeB, purgeE, hasName, name1, List.any_cons,
            List.any_nil, Md.isWr, pureV.pureP, Option.map, reduceIte, Nat.reduceEqDiff, Nat.reduceAdd, Nat.reduceMul, Nat.reduceLT, Nat.reduceLeDiff, List.mapM_cons, List.mapM_nil,
            Option.pure_def, Option.bind_eq_bind, Option.bind_some, implies_true, forall_const, beq_self_eq_true, decide_true, decide_false, eq_self, Int.reduceEq, Int.reduceLE,
            Int.reduceLT, if_true, if_false, fc64_0, fc64_1, fc64_2, fc64_3, fc64_4, Int.reduceAdd, Int.reduceSub, Int.reduceMul, Int.reduceNeg, Int.reducePow, Nat.reducePow,
            Int.reduceToNat, Nat.reduceSub, List.replicate, Nat.reduceBEq, wAs, wA, wC, zipW, noDupN, grpE, grpC, en0, dc_en0]))
    all_goals (repeat (replace h := And.right h))
    all_goals first
      | (refine eA_wk (wk_norm (ks := [0, 1, 5]) (ls := []) ?_) (eA_cast ?_ (ih _ _ _ _ h h0 h1)); (simp only [normOk, optIn, blkIn, nameIn,
      need_iff, h, grpA, vsliceS, grpS, grpD, grpF, grpL, eop, vop, bop, uop, fltop, convop, endOk, newE, new1, freshL, Md.isNew, outV, pureV, pureX, pure1, AV.cells, AV.one,
            storable, laid, refless, refless1, vload, loadC, storeC, vnil, vfaddr, vextract, flatT, flatE, flatC, vconv, vmm, vidxA, viaddrA, vfield, vlen, elemsOf, dF32, dF64,
            dI64, dU8, dBool, dStr, esOk, elemsS, vsliceX, bnd, ownV, ownC, own1, ownT, isSl, nSl, endL, Md.isOwn, purge, purgeH, purgeB, purgeE, hasName, name1, List.any_cons,
            List.any_nil, Md.isWr, pureV.pureP, Option.map, reduceIte, Nat.reduceEqDiff, Nat.reduceAdd, Nat.reduceMul, Nat.reduceLT, Nat.reduceLeDiff, List.mapM_cons, List.mapM_nil,
            Option.pure_def, Option.bind_eq_bind, Option.bind_some, implies_true, forall_const, beq_self_eq_true, decide_true, decide_false, eq_self, Int.reduceEq, Int.reduceLE,
            Int.reduceLT, if_true, if_false, fc64_0, fc64_1, fc64_2, fc64_3, fc64_4, Int.reduceAdd, Int.reduceSub, Int.reduceMul, Int.reduceNeg, Int.reducePow, Nat.reducePow,
            Int.reduceToNat, Nat.reduceSub, List.replicate, Nat.reduceBEq, wAs, wA, wC, zipW, noDupN, grpE, grpC, en0, dc_en0] <;> rfl); (simp only [normS, List.map_append, List.length_append, List.map_set, List.length_set, List.map_replicate, List.length_replicate, List.map_nil, List.map_cons,
      need_iff, h, grpA, vsliceS, grpS, grpD, grpF, grpL, eop, vop, bop, uop, fltop, convop, endOk, newE, new1, freshL, Md.isNew, outV, pureV, pureX, pure1, AV.cells, AV.one,
            storable, laid, refless, refless1, vload, loadC, storeC, vnil, vfaddr, vextract, flatT, flatE, flatC, vconv, vmm, vidxA, viaddrA, vfield, vlen, elemsOf, dF32, dF64,
            dI64, dU8, dBool, dStr, esOk, elemsS, vsliceX, bnd, ownV, ownC, own1, ownT, isSl, nSl, endL, Md.isOwn, purge, purgeH, purgeB, purgeE, hasName, name1, List.any_cons,
            List.any_nil, Md.isWr, pureV.pureP, Option.map, reduceIte, Nat.reduceEqDiff, Nat.reduceAdd, Nat.reduceMul, Nat.reduceLT, Nat.reduceLeDiff, List.mapM_cons, List.mapM_nil,
            Option.pure_def, Option.bind_eq_bind, Option.bind_some, implies_true, forall_const, beq_self_eq_true, decide_true, decide_false, eq_self, Int.reduceEq, Int.reduceLE,
            Int.reduceLT, if_true, if_false, fc64_0, fc64_1, fc64_2, fc64_3, fc64_4, Int.reduceAdd, Int.reduceSub, Int.reduceMul, Int.reduceNeg, Int.reducePow, Nat.reducePow,
            Int.reduceToNat, Nat.reduceSub, List.replicate, Nat.reduceBEq, wAs, wA, wC, zipW, noDupN, grpE, grpC, en0, dc_en0] <;> first | rfl | (simp only [Nat.add_comm]; done)))
      | (cases h; refine h0 _ rfl ?_; simp only [
      grpA, vsliceS, grpS, grpD, grpF, grpL, eop, vop, bop, uop, fltop, convop, endOk, newE, new1, freshL, Md.isNew, outV, pureV, pureX, pure1, AV.cells, AV.one, storable, laid,
            refless, refless1, vload, loadC, storeC, vnil, vfaddr, vextract, flatT, flatE, flatC, vconv, vmm, vidxA, viaddrA, vfield, vlen, elemsOf, dF32, dF64, dI64, dU8, dBool,
            dStr, esOk, elemsS, vsliceX, bnd, ownV, ownC, own1, ownT, isSl, nSl, endL, Md.isOwn, purge, purgeH, purgeB, purgeE, hasName, name1, List.any_cons, List.any_nil, Md.isWr,
            pureV.pureP, Option.map, reduceIte, Nat.reduceEqDiff, Nat.reduceAdd, Nat.reduceMul, Nat.reduceLT, Nat.reduceLeDiff, List.mapM_cons, List.mapM_nil, Option.pure_def,
            Option.bind_eq_bind, Option.bind_some, implies_true, forall_const, beq_self_eq_true, decide_true, decide_false, eq_self, Int.reduceEq, Int.reduceLE, Int.reduceLT,
            if_true, if_false, fc64_0, fc64_1, fc64_2, fc64_3, fc64_4, Int.reduceAdd, Int.reduceSub, Int.reduceMul, Int.reduceNeg, Int.reducePow, Nat.reducePow, Int.reduceToNat,
            Nat.reduceSub, List.replicate, Nat.reduceBEq, wAs, wA, wC, zipW, noDupN, grpE, grpC, en0, dc_en0])
      | (cases h; refine h1 _ rfl (Wk.cast (wk_norm (ks := [1]) (ls := []) ?_) ?_); (simp only [normOk, optIn, blkIn, nameIn,
      grpA, vsliceS, grpS, grpD, grpF, grpL, eop, vop, bop, uop, fltop, convop, endOk, newE, new1, freshL, Md.isNew, outV, pureV, pureX, pure1, AV.cells, AV.one, storable, laid,
            refless, refless1, vload, loadC, storeC, vnil, vfaddr, vextract, flatT, flatE, flatC, vconv, vmm, vidxA, viaddrA, vfield, vlen, elemsOf, dF32, dF64, dI64, dU8, dBool,
            dStr, esOk, elemsS, vsliceX, bnd, ownV, ownC, own1, ownT, isSl, nSl, endL, Md.isOwn, purge, purgeH, purgeB, purgeE, hasName, name1, List.any_cons, List.any_nil, Md.isWr,
            pureV.pureP, Option.map, reduceIte, Nat.reduceEqDiff, Nat.reduceAdd, Nat.reduceMul, Nat.reduceLT, Nat.reduceLeDiff, List.mapM_cons, List.mapM_nil, Option.pure_def,
            Option.bind_eq_bind, Option.bind_some, implies_true, forall_const, beq_self_eq_true, decide_true, decide_false, eq_self, Int.reduceEq, Int.reduceLE, Int.reduceLT,
            if_true, if_false, fc64_0, fc64_1, fc64_2, fc64_3, fc64_4, Int.reduceAdd, Int.reduceSub, Int.reduceMul, Int.reduceNeg, Int.reducePow, Nat.reducePow, Int.reduceToNat,
            Nat.reduceSub, List.replicate, Nat.reduceBEq, wAs, wA, wC, zipW, noDupN, grpE, grpC, en0, dc_en0] <;> rfl); (simp only [normS, List.map_append, List.length_append, List.map_set, List.length_set, List.map_replicate, List.length_replicate,
      grpA, vsliceS, grpS, grpD, grpF, grpL, eop, vop, bop, uop, fltop, convop, endOk, newE, new1, freshL, Md.isNew, outV, pureV, pureX, pure1, AV.cells, AV.one, storable, laid,
            refless, refless1, vload, loadC, storeC, vnil, vfaddr, vextract, flatT, flatE, flatC, vconv, vmm, vidxA, viaddrA, vfield, vlen, elemsOf, dF32, dF64, dI64, dU8, dBool,
            dStr, esOk, elemsS, vsliceX, bnd, ownV, ownC, own1, ownT, isSl, nSl, endL, Md.isOwn, purge, purgeH, purgeB, purgeE, hasName, name1, List.any_cons, List.any_nil, Md.isWr,
            pureV.pureP, Option.map, reduceIte, Nat.reduceEqDiff, Nat.reduceAdd, Nat.reduceMul, Nat.reduceLT, Nat.reduceLeDiff, List.mapM_cons, List.mapM_nil, Option.pure_def,
            Option.bind_eq_bind, Option.bind_some, implies_true, forall_const, beq_self_eq_true, decide_true, decide_false, eq_self, Int.reduceEq, Int.reduceLE, Int.reduceLT,
            if_true, if_false, fc64_0, fc64_1, fc64_2, fc64_3, fc64_4, Int.reduceAdd, Int.reduceSub, Int.reduceMul, Int.reduceNeg, Int.reducePow, Nat.reducePow, Int.reduceToNat,
            Nat.reduceSub, List.replicate, Nat.reduceBEq, wAs, wA, wC, zipW, noDupN, grpE, grpC, en0, dc_en0] <;> first | rfl | (simp only [Nat.add_comm]; done)))
theorem s64 : ∀ vs r, g_laws_heldBoneS vs = some r → SaysM Try.prog .any 64 vs r := by
  intro vs r h
  unfold g_laws_heldBoneS at h
  split at h
  · rename_i w0 y1
    cases hd_y0 : decL dc_en0 w0 with
    | none => rw [hd_y0] at h; cases h
    | some y0 =>
    rw [hd_y0] at h
    obtain rfl := decL_inv dc_en0_inv hd_y0
    clear hd_y0
    dsimp only at h
    split at h
    · rename_i hp
      cases h
      refine spec_of (m := .any) (tab := tabOf []) (cp := cp64) (ic := ic64) (rvl := [(.t 4)]) hm tabOk_nil Try.func64 rfl rfl rfl (by kernel_rfl) rfl (Nat.le_of_ble_eq_true rfl) (Nat.le_of_ble_eq_true rfl) ?_
      show eA _ _ _ _
      unfold ic64
      simp only [p_laws_heldBoneS, Bool.and_eq_true, Bool.or_eq_true, decide_eq_true_eq, Bool.not_eq_true', decide_eq_false_iff_not] at hp
      simp only [
          hp, grpA, vsliceS, grpS, grpD, grpF, grpL, eop, vop, bop, uop, fltop, convop, endOk, newE, new1, freshL, Md.isNew, outV, pureV, pureX, pure1, AV.cells, AV.one, storable,
                laid, refless, refless1, vload, loadC, storeC, vnil, vfaddr, vextract, flatT, flatE, flatC, vconv, vmm, vidxA, viaddrA, vfield, vlen, elemsOf, dF32, dF64, dI64, dU8,
                dBool, dStr, esOk, elemsS, vsliceX, bnd, ownV, ownC, own1, ownT, isSl, nSl, endL, Md.isOwn, purge, purgeH, purgeB, purgeE, hasName, name1, List.any_cons,
                List.any_nil, Md.isWr, pureV.pureP, Option.map, reduceIte, Nat.reduceEqDiff, Nat.reduceAdd, Nat.reduceMul, Nat.reduceLT, Nat.reduceLeDiff, List.mapM_cons,
                List.mapM_nil, Option.pure_def, Option.bind_eq_bind, Option.bind_some, implies_true, forall_const, beq_self_eq_true, decide_true, decide_false, eq_self,
                Int.reduceEq, Int.reduceLE, Int.reduceLT, if_true, if_false, fc64_0, fc64_1, fc64_2, fc64_3, fc64_4, Int.reduceAdd, Int.reduceSub, Int.reduceMul, Int.reduceNeg,
                Int.reducePow, Nat.reducePow, Int.reduceToNat, Nat.reduceSub, List.replicate, Nat.reduceBEq, wAs, wA, wC, zipW, noDupN, grpE, grpC, en0, dc_en0]
      repeat' (first
        | ((first | (refine eGI_of (fun h => ?_) (fun h => ?_)) | (refine eCc_of (fun h => ?_) (fun h => ?_)) | (have h := True.intro; refine KW_refl ?_)) <;> (try simp only [Bool.not_eq_true', Bool.not_eq_false'] at h) <;> (try simp only [h, reduceCtorEq, Bool.not_eq_true', decide_eq_false_iff_not, Bool.not_true, Bool.not_false, Bool.false_or, Bool.true_or, Bool.true_and, Bool.false_and, Bool.and_eq_true, Bool.or_eq_true, if_true, if_false, reduceIte, Bool.false_eq_true, and_true, true_and, false_or, or_false, decide_eq_true_eq, not_false_eq_true, not_true_eq_false] at hp) <;> (try (have h2 := h; simp only [decide_eq_true_eq, decide_eq_false_iff_not] at h2; (first | (replace h2 := eq_false h2) | (replace h2 := eq_true h2)); simp only [h2, if_true, if_false, false_or, true_or, or_true, or_false, and_true, true_and, not_false_eq_true, not_true_eq_false] at hp)) <;> simp only [h,
          hp, grpA, vsliceS, grpS, grpD, grpF, grpL, eop, vop, bop, uop, fltop, convop, endOk, newE, new1, freshL, Md.isNew, outV, pureV, pureX, pure1, AV.cells, AV.one, storable,
                laid, refless, refless1, vload, loadC, storeC, vnil, vfaddr, vextract, flatT, flatE, flatC, vconv, vmm, vidxA, viaddrA, vfield, vlen, elemsOf, dF32, dF64, dI64, dU8,
                dBool, dStr, esOk, elemsS, vsliceX, bnd, ownV, ownC, own1, ownT, isSl, nSl, endL, Md.isOwn, purge, purgeH, purgeB, purgeE, hasName, name1, List.any_cons,
                List.any_nil, Md.isWr, pureV.pureP, Option.map, reduceIte, Nat.reduceEqDiff, Nat.reduceAdd, Nat.reduceMul, Nat.reduceLT, Nat.reduceLeDiff, List.mapM_cons,
                List.mapM_nil, Option.pure_def, Option.bind_eq_bind, Option.bind_some, implies_true, forall_const, beq_self_eq_true, decide_true, decide_false, eq_self,
                Int.reduceEq, Int.reduceLE, Int.reduceLT, if_true, if_false, fc64_0, fc64_1, fc64_2, fc64_3, fc64_4, Int.reduceAdd, Int.reduceSub, Int.reduceMul, Int.reduceNeg,
                Int.reducePow, Nat.reducePow, Int.reduceToNat, Nat.reduceSub, List.replicate, Nat.reduceBEq, wAs, wA, wC, zipW, noDupN, grpE, grpC, en0, dc_en0])
        | (refine eA_wk (wk_norm (ks := [0, 1, 5]) (ls := []) ?_) (eA_cast ?_ (sl64_0 y0 _ _ _ _ _ (getD_some (d := default) (x := (l_laws_heldBoneS_0 y0 (Int.toNat (((List.length y0 : Nat) : Int) - 0) + 2) y1 0)) ?_) ?_ ?_)); (simp only [nilS, nilV, normOk, optIn, blkIn, nameIn, 
          hp, grpA, vsliceS, grpS, grpD, grpF, grpL, eop, vop, bop, uop, fltop, convop, endOk, newE, new1, freshL, Md.isNew, outV, pureV, pureX, pure1, AV.cells, AV.one, storable,
                laid, refless, refless1, vload, loadC, storeC, vnil, vfaddr, vextract, flatT, flatE, flatC, vconv, vmm, vidxA, viaddrA, vfield, vlen, elemsOf, dF32, dF64, dI64, dU8,
                dBool, dStr, esOk, elemsS, vsliceX, bnd, ownV, ownC, own1, ownT, isSl, nSl, endL, Md.isOwn, purge, purgeH, purgeB, purgeE, hasName, name1, List.any_cons,
                List.any_nil, Md.isWr, pureV.pureP, Option.map, reduceIte, Nat.reduceEqDiff, Nat.reduceAdd, Nat.reduceMul, Nat.reduceLT, Nat.reduceLeDiff, List.mapM_cons,
                List.mapM_nil, Option.pure_def, Option.bind_eq_bind, Option.bind_some, implies_true, forall_const, beq_self_eq_true, decide_true, decide_false, eq_self,
                Int.reduceEq, Int.reduceLE, Int.reduceLT, if_true, if_false, fc64_0, fc64_1, fc64_2, fc64_3, fc64_4, Int.reduceAdd, Int.reduceSub, Int.reduceMul, Int.reduceNeg,
                Int.reducePow, Nat.reducePow, Int.reduceToNat, Nat.reduceSub, List.replicate, Nat.reduceBEq, wAs, wA, wC, zipW, noDupN, grpE, grpC, en0, dc_en0] <;> rfl); (simp only [nilS, nilV, normS,  List.map_append, List.length_append, List.map_set, List.length_set, List.map_replicate, List.length_replicate, List.map_nil, List.map_cons,
          hp, grpA, vsliceS, grpS, grpD, grpF, grpL, eop, vop, bop, uop, fltop, convop, endOk, newE, new1, freshL, Md.isNew, outV, pureV, pureX, pure1, AV.cells, AV.one, storable,
                laid, refless, refless1, vload, loadC, storeC, vnil, vfaddr, vextract, flatT, flatE, flatC, vconv, vmm, vidxA, viaddrA, vfield, vlen, elemsOf, dF32, dF64, dI64, dU8,
                dBool, dStr, esOk, elemsS, vsliceX, bnd, ownV, ownC, own1, ownT, isSl, nSl, endL, Md.isOwn, purge, purgeH, purgeB, purgeE, hasName, name1, List.any_cons,
                List.any_nil, Md.isWr, pureV.pureP, Option.map, reduceIte, Nat.reduceEqDiff, Nat.reduceAdd, Nat.reduceMul, Nat.reduceLT, Nat.reduceLeDiff, List.mapM_cons,
                List.mapM_nil, Option.pure_def, Option.bind_eq_bind, Option.bind_some, implies_true, forall_const, beq_self_eq_true, decide_true, decide_false, eq_self,
                Int.reduceEq, Int.reduceLE, Int.reduceLT, if_true, if_false, fc64_0, fc64_1, fc64_2, fc64_3, fc64_4, Int.reduceAdd, Int.reduceSub, Int.reduceMul, Int.reduceNeg,
                Int.reducePow, Nat.reducePow, Int.reduceToNat, Nat.reduceSub, List.replicate, Nat.reduceBEq, wAs, wA, wC, zipW, noDupN, grpE, grpC, en0, dc_en0] <;> first | rfl | (simp only [Nat.add_comm]; done)); (simp only [hp]); (
        intro st2 ht hw; simp only [Kq_ret, Kb_ret, Kl_ret, ret_ok]; first | exact h0 _ hw | exact h0 _ rfl hw | exact h1 _ rfl hw | exact h0 _ ht hw | exact h1 _ ht hw | refine ⟨_, hw, ?_⟩); rotate_left; (
        intro st2 ht hw; (try simp only [ht, reduceCtorEq, Bool.not_eq_true', decide_eq_false_iff_not, Bool.not_true, Bool.not_false, Bool.false_or, Bool.true_or, Bool.true_and, Bool.false_and, Bool.and_eq_true, Bool.or_eq_true, if_true, if_false, reduceIte, Bool.false_eq_true, and_true, true_and, false_or, or_false, decide_eq_true_eq, not_false_eq_true, not_true_eq_false] at hp); simp only [
          hp, grpA, vsliceS, grpS, grpD, grpF, grpL, eop, vop, bop, uop, fltop, convop, endOk, newE, new1, freshL, Md.isNew, outV, pureV, pureX, pure1, AV.cells, AV.one, storable,
                laid, refless, refless1, vload, loadC, storeC, vnil, vfaddr, vextract, flatT, flatE, flatC, vconv, vmm, vidxA, viaddrA, vfield, vlen, elemsOf, dF32, dF64, dI64, dU8,
                dBool, dStr, esOk, elemsS, vsliceX, bnd, ownV, ownC, own1, ownT, isSl, nSl, endL, Md.isOwn, purge, purgeH, purgeB, purgeE, hasName, name1, List.any_cons,
                List.any_nil, Md.isWr, pureV.pureP, Option.map, reduceIte, Nat.reduceEqDiff, Nat.reduceAdd, Nat.reduceMul, Nat.reduceLT, Nat.reduceLeDiff, List.mapM_cons,
                List.mapM_nil, Option.pure_def, Option.bind_eq_bind, Option.bind_some, implies_true, forall_const, beq_self_eq_true, decide_true, decide_false, eq_self,
                Int.reduceEq, Int.reduceLE, Int.reduceLT, if_true, if_false, fc64_0, fc64_1, fc64_2, fc64_3, fc64_4, Int.reduceAdd, Int.reduceSub, Int.reduceMul, Int.reduceNeg,
                Int.reducePow, Nat.reducePow, Int.reduceToNat, Nat.reduceSub, List.replicate, Nat.reduceBEq, wAs, wA, wC, zipW, noDupN, grpE, grpC, en0, dc_en0]; refine KW_of hw ?_; simp only [ht, 
          hp, grpA, vsliceS, grpS, grpD, grpF, grpL, eop, vop, bop, uop, fltop, convop, endOk, newE, new1, freshL, Md.isNew, outV, pureV, pureX, pure1, AV.cells, AV.one, storable,
                laid, refless, refless1, vload, loadC, storeC, vnil, vfaddr, vextract, flatT, flatE, flatC, vconv, vmm, vidxA, viaddrA, vfield, vlen, elemsOf, dF32, dF64, dI64, dU8,
                dBool, dStr, esOk, elemsS, vsliceX, bnd, ownV, ownC, own1, ownT, isSl, nSl, endL, Md.isOwn, purge, purgeH, purgeB, purgeE, hasName, name1, List.any_cons,
                List.any_nil, Md.isWr, pureV.pureP, Option.map, reduceIte, Nat.reduceEqDiff, Nat.reduceAdd, Nat.reduceMul, Nat.reduceLT, Nat.reduceLeDiff, List.mapM_cons,
                List.mapM_nil, Option.pure_def, Option.bind_eq_bind, Option.bind_some, implies_true, forall_const, beq_self_eq_true, decide_true, decide_false, eq_self,
                Int.reduceEq, Int.reduceLE, Int.reduceLT, if_true, if_false, fc64_0, fc64_1, fc64_2, fc64_3, fc64_4, Int.reduceAdd, Int.reduceSub, Int.reduceMul, Int.reduceNeg,
                Int.reducePow, Nat.reducePow, Int.reduceToNat, Nat.reduceSub, List.replicate, Nat.reduceBEq, wAs, wA, wC, zipW, noDupN, grpE, grpC, en0, dc_en0])))
      all_goals (try simp only [*, m_laws_heldBoneS, Bool.and_true, Bool.true_and, Bool.and_false, Bool.false_and, Bool.or_true, Bool.true_or, Bool.or_false, Bool.false_or, Bool.not_true, Bool.not_false, Bool.false_eq_true, if_true, if_false, reduceIte, decide_true, decide_false])
      all_goals (try (simp_all; done))
    · cases h
  · cases h
def m_laws_heldSkeleton (x0 : (List (Int × Nat × Nat × Nat))) (x1 : Int) : Int := (if (decide ((m_laws_heldBoneS x0 x1) < 0)) = true then (-1) else (m_laws_heldBoneS x0 x1))
def p_laws_heldSkeleton (x0 : (List (Int × Nat × Nat × Nat))) (x1 : Int) : Bool := (p_laws_heldBoneS x0 x1)
def g_laws_heldSkeleton : List AV → Option AV
  | [.agg [.sl w0], .int .i64 y1] => (match decL dc_en0 w0 with | some y0 => (if p_laws_heldSkeleton y0 y1 = true then some (.int .i64 (m_laws_heldSkeleton y0 y1)) else none) | none => none)
  | _ => none
def ic22 : ICode := (.seq (.reg [⟨(some 2), none, (.box 1 (.t 0))⟩, ⟨(some 4), none, (.mov (.c (.int .i64 0)))⟩] [1, 2]) (.seq (.reg [⟨(some 5), none, (.faddr 0 (.t 2))⟩, ⟨(some 6),
      none, (.load none (.t 5))⟩, ⟨(some 7), none, (.mov (.t 1))⟩, ⟨(some 8), none, (.call (.fn 64) [(.t 6), (.t 7)] [])⟩, ⟨(some 1), none, (.mov (.t 8))⟩] [1]) (.seq (.seq (.reg
      [⟨(some 9), none, (.mov (.t 1))⟩, ⟨(some 10), none, (.bin .lss false (.t 9) (.c (.int .i64 0)))⟩] [1, 10]) (.cond (.t 10) (.seq (.reg [⟨(some 4), none, (.mov (.c (.int .i64
      (-1))))⟩] [4]) .ret) .skip)) (.seq (.reg [⟨(some 11), none, (.mov (.t 1))⟩, ⟨(some 4), none, (.mov (.t 11))⟩] [4]) .ret))))
def cp22 : CP := CP.mk [] [] [[1, 2], [1], [1, 10], [4], [4]] 12 [] []
theorem fc22_0 : IntKind.wrap .i64 0 = 0 := by decide
theorem fc22_1 : IntKind.wrap .i64 1 = 1 := by decide
theorem fc22_2 : IntKind.wrap .i64 2 = 2 := by decide
theorem fc22_3 : IntKind.wrap .i64 3 = 3 := by decide
theorem fc22_4 : IntKind.wrap .i64 4 = 4 := by decide
theorem s22 : ∀ vs r, g_laws_heldSkeleton vs = some r → SaysM Try.prog .any 22 vs r := by
  intro vs r h
  unfold g_laws_heldSkeleton at h
  split at h
  · rename_i w0 y1
    cases hd_y0 : decL dc_en0 w0 with
    | none => rw [hd_y0] at h; cases h
    | some y0 =>
    rw [hd_y0] at h
    obtain rfl := decL_inv dc_en0_inv hd_y0
    clear hd_y0
    dsimp only at h
    split at h
    · rename_i hp
      cases h
      refine spec_of (m := .any) (tab := tabOf [(64, wM .any g_laws_heldBoneS)]) (cp := cp22) (ic := ic22) (rvl := [(.t 4)]) hm (tabOk_cons (m := .any) s64 tabOk_nil) Try.func22 rfl rfl rfl (by kernel_rfl) rfl (Nat.le_of_ble_eq_true rfl) (Nat.le_of_ble_eq_true rfl) ?_
      show eA _ _ _ _
      unfold ic22
      simp only [p_laws_heldSkeleton, Bool.and_eq_true, Bool.or_eq_true, decide_eq_true_eq, Bool.not_eq_true', decide_eq_false_iff_not] at hp
      simp only [
          hp, grpA, vsliceS, grpS, grpD, grpF, grpL, eop, vop, bop, uop, fltop, convop, endOk, newE, new1, freshL, Md.isNew, outV, pureV, pureX, pure1, AV.cells, AV.one, storable,
                laid, refless, refless1, vload, loadC, storeC, vnil, vfaddr, vextract, flatT, flatE, flatC, vconv, vmm, vidxA, viaddrA, vfield, vlen, elemsOf, dF32, dF64, dI64, dU8,
                dBool, dStr, esOk, elemsS, vsliceX, bnd, ownV, ownC, own1, ownT, isSl, nSl, endL, Md.isOwn, purge, purgeH, purgeB, purgeE, hasName, name1, List.any_cons,
                List.any_nil, Md.isWr, pureV.pureP, Option.map, reduceIte, Nat.reduceEqDiff, Nat.reduceAdd, Nat.reduceMul, Nat.reduceLT, Nat.reduceLeDiff, List.mapM_cons,
                List.mapM_nil, Option.pure_def, Option.bind_eq_bind, Option.bind_some, implies_true, forall_const, beq_self_eq_true, decide_true, decide_false, eq_self,
                Int.reduceEq, Int.reduceLE, Int.reduceLT, if_true, if_false, fc22_0, fc22_1, fc22_2, fc22_3, fc22_4, Int.reduceAdd, Int.reduceSub, Int.reduceMul, Int.reduceNeg,
                Int.reducePow, Nat.reducePow, Int.reduceToNat, Nat.reduceSub, List.replicate, Nat.reduceBEq, wAs, wA, wC, zipW, noDupN, grpE, g_laws_heldBoneS, grpC, en0, dc_en0]
      repeat' (first
        | ((first | (refine eGI_of (fun h => ?_) (fun h => ?_)) | (refine eCc_of (fun h => ?_) (fun h => ?_))) <;> (try simp only [Bool.not_eq_true', Bool.not_eq_false'] at h) <;> (try simp only [h, reduceCtorEq, Bool.not_eq_true', decide_eq_false_iff_not, Bool.not_true, Bool.not_false, Bool.false_or, Bool.true_or, Bool.true_and, Bool.false_and, Bool.and_eq_true, Bool.or_eq_true, if_true, if_false, reduceIte, Bool.false_eq_true, and_true, true_and, false_or, or_false, decide_eq_true_eq, not_false_eq_true, not_true_eq_false] at hp) <;> (try (have h2 := h; simp only [decide_eq_true_eq, decide_eq_false_iff_not] at h2; (first | (replace h2 := eq_false h2) | (replace h2 := eq_true h2)); simp only [h2, if_true, if_false, false_or, true_or, or_true, or_false, and_true, true_and, not_false_eq_true, not_true_eq_false] at hp)) <;> simp only [h,
          hp, grpA, vsliceS, grpS, grpD, grpF, grpL, eop, vop, bop, uop, fltop, convop, endOk, newE, new1, freshL, Md.isNew, outV, pureV, pureX, pure1, AV.cells, AV.one, storable,
                laid, refless, refless1, vload, loadC, storeC, vnil, vfaddr, vextract, flatT, flatE, flatC, vconv, vmm, vidxA, viaddrA, vfield, vlen, elemsOf, dF32, dF64, dI64, dU8,
                dBool, dStr, esOk, elemsS, vsliceX, bnd, ownV, ownC, own1, ownT, isSl, nSl, endL, Md.isOwn, purge, purgeH, purgeB, purgeE, hasName, name1, List.any_cons,
                List.any_nil, Md.isWr, pureV.pureP, Option.map, reduceIte, Nat.reduceEqDiff, Nat.reduceAdd, Nat.reduceMul, Nat.reduceLT, Nat.reduceLeDiff, List.mapM_cons,
                List.mapM_nil, Option.pure_def, Option.bind_eq_bind, Option.bind_some, implies_true, forall_const, beq_self_eq_true, decide_true, decide_false, eq_self,
                Int.reduceEq, Int.reduceLE, Int.reduceLT, if_true, if_false, fc22_0, fc22_1, fc22_2, fc22_3, fc22_4, Int.reduceAdd, Int.reduceSub, Int.reduceMul, Int.reduceNeg,
                Int.reducePow, Nat.reducePow, Int.reduceToNat, Nat.reduceSub, List.replicate, Nat.reduceBEq, wAs, wA, wC, zipW, noDupN, grpE, g_laws_heldBoneS, grpC, en0, dc_en0]))
      all_goals (try simp only [*, m_laws_heldSkeleton, Bool.and_true, Bool.true_and, Bool.and_false, Bool.false_and, Bool.or_true, Bool.true_or, Bool.or_false, Bool.false_or, Bool.not_true, Bool.not_false, Bool.false_eq_true, if_true, if_false, reduceIte, decide_true, decide_false])
      all_goals (try (simp_all; done))
    · cases h
  · cases h
def v_laws_FnExactMirrorSkeleton_0 (x0 : (List (Int × Nat × Nat × Nat))) (x1 : (List Int)) : Bool := (!(m_laws_eqSkeleton (m_impl_MirrorSkeleton (m_laws_toSkeleton x0)
      (m_laws_toInt64S x1)).1 (m_spec_MirrorSkeleton (m_laws_toSkeleton x0) (m_laws_toInt64S x1)).1))
def v_laws_FnExactMirrorSkeleton_1 (x0 : (List (Int × Nat × Nat × Nat))) (x1 : (List Int)) : Bool := (!(decide ((m_laws_heldSkeleton (m_laws_markSkeleton (m_impl_MirrorSkeleton
      (m_laws_toSkeleton x0) (m_laws_toInt64S x1)).1 1).2 1) = (m_laws_markSkeleton (m_impl_MirrorSkeleton (m_laws_toSkeleton x0) (m_laws_toInt64S x1)).1 1).1)))
def m_laws_FnExactMirrorSkeleton (x0 : (List (Int × Nat × Nat × Nat))) (x1 : (List Int)) : Bool := (if (decide (1048576 < ((List.length x1 : Nat) : Int))) = true then true else (if
      (decide ((m_laws_szSkeleton x0 1048576) < 0)) = true then true else (if (v_laws_FnExactMirrorSkeleton_0 x0 x1) = true then false else (if ((m_impl_MirrorSkeleton
      (m_laws_toSkeleton x0) (m_laws_toInt64S x1)).2 == (m_spec_MirrorSkeleton (m_laws_toSkeleton x0) (m_laws_toInt64S x1)).2) = true then (if (m_laws_eqSkeleton (m_laws_toSkeleton
      x0) (m_laws_toSkeleton x0)) = true then (if (m_laws_eqInt64S (m_laws_toInt64S x1) (m_laws_toInt64S x1)) = true then (if (decide ((m_laws_markInt64S (m_laws_toInt64S x1)
      (m_laws_markSkeleton (m_laws_toSkeleton x0) 1).1).1 < 0)) = true then false else (if (decide ((m_laws_heldSkeleton (m_laws_markSkeleton (m_impl_MirrorSkeleton
      (m_laws_toSkeleton x0) (m_laws_toInt64S x1)).1 1).2 1) < 0)) = true then false else (if (v_laws_FnExactMirrorSkeleton_1 x0 x1) = true then false else true))) else false) else
      false) else false))))
def p_laws_FnExactMirrorSkeleton (x0 : (List (Int × Nat × Nat × Nat))) (x1 : (List Int)) : Bool := ((decide (1048576 < ((List.length x1 : Nat) : Int))) || ((decide
      ((m_laws_szSkeleton x0 1048576) < 0)) || ((p_laws_toSkeleton x0) && ((p_laws_toInt64S x1) && ((p_spec_MirrorSkeleton (m_laws_toSkeleton x0) (m_laws_toInt64S x1)) &&
      ((p_impl_MirrorSkeleton (m_laws_toSkeleton x0) (m_laws_toInt64S x1)) && ((p_laws_eqSkeleton (m_impl_MirrorSkeleton (m_laws_toSkeleton x0) (m_laws_toInt64S x1)).1
      (m_spec_MirrorSkeleton (m_laws_toSkeleton x0) (m_laws_toInt64S x1)).1) && ((v_laws_FnExactMirrorSkeleton_0 x0 x1) || (!((m_impl_MirrorSkeleton (m_laws_toSkeleton x0)
      (m_laws_toInt64S x1)).2 == (m_spec_MirrorSkeleton (m_laws_toSkeleton x0) (m_laws_toInt64S x1)).2) || ((p_laws_eqSkeleton (m_laws_toSkeleton x0) (m_laws_toSkeleton x0)) &&
      (!(m_laws_eqSkeleton (m_laws_toSkeleton x0) (m_laws_toSkeleton x0)) || ((p_laws_eqInt64S (m_laws_toInt64S x1) (m_laws_toInt64S x1)) && (!(m_laws_eqInt64S (m_laws_toInt64S x1)
      (m_laws_toInt64S x1)) || ((p_laws_markSkeleton (m_laws_toSkeleton x0) 1) && ((decide (List.length (m_laws_markSkeleton (m_laws_toSkeleton x0) 1).2 = (List.length
      (m_laws_toSkeleton x0)))) && ((p_laws_markInt64S (m_laws_toInt64S x1) (m_laws_markSkeleton (m_laws_toSkeleton x0) 1).1) && ((decide (List.length (m_laws_markInt64S
      (m_laws_toInt64S x1) (m_laws_markSkeleton (m_laws_toSkeleton x0) 1).1).2 = (List.length (m_laws_toInt64S x1)))) && ((decide ((m_laws_markInt64S (m_laws_toInt64S x1)
      (m_laws_markSkeleton (m_laws_toSkeleton x0) 1).1).1 < 0)) || ((p_laws_markSkeleton (m_impl_MirrorSkeleton (m_laws_toSkeleton x0) (m_laws_toInt64S x1)).1 1) && ((decide
      (List.length (m_laws_markSkeleton (m_impl_MirrorSkeleton (m_laws_toSkeleton x0) (m_laws_toInt64S x1)).1 1).2 = (List.length (m_impl_MirrorSkeleton (m_laws_toSkeleton x0)
      (m_laws_toInt64S x1)).1))) && (p_laws_heldSkeleton (m_laws_markSkeleton (m_impl_MirrorSkeleton (m_laws_toSkeleton x0) (m_laws_toInt64S x1)).1 1).2 1)))))))))))))))))))))
def g_laws_FnExactMirrorSkeleton : List AV → Option AV
  | [.agg [.sl w0], .sl w1] => (match decL dc_en0 w0 with | some y0 => ((match decL dI64 w1 with | some y1 => (if p_laws_FnExactMirrorSkeleton y0 y1 = true then some (.bool (m_laws_FnExactMirrorSkeleton y0 y1)) else none) | none => none)) | none => none)
  | _ => none
def ic4 : ICode := (.seq (.reg [⟨(some 2), none, (.box 1 (.t 0))⟩, ⟨(some 4), none, (.mov (.c (.bool false)))⟩] [1, 2]) (.seq (.seq (.reg [⟨(some 17), none, (.mov (.t 1))⟩, ⟨(some
      18), none, (.len false (.t 17))⟩, ⟨(some 19), none, (.bin .gtr false (.t 18) (.c (.int .i64 1048576)))⟩] [1, 2, 19]) (.cond (.t 19) (.seq (.reg [⟨(some 4), none, (.mov (.c
      (.bool true)))⟩] [4]) .ret) .skip)) (.seq (.reg [⟨(some 5), none, (.mov (.c (.int .i64 1048576)))⟩] [1, 2, 5]) (.seq (.reg [⟨(some 20), none, (.load (some 1) (.t 2))⟩, ⟨(some
      21), none, (.mov (.t 5))⟩, ⟨(some 22), none, (.call (.fn 11) [(.t 20), (.t 21)] [])⟩, ⟨(some 5), none, (.mov (.t 22))⟩] [1, 2, 5]) (.seq (.seq (.reg [⟨(some 23), none, (.mov
      (.t 5))⟩, ⟨(some 24), none, (.bin .lss false (.t 23) (.c (.int .i64 0)))⟩] [1, 2, 24]) (.cond (.t 24) (.seq (.reg [⟨(some 4), none, (.mov (.c (.bool true)))⟩] [4]) .ret)
      .skip)) (.seq (.reg [⟨(some 26), none, (.load (some 1) (.t 2))⟩, ⟨(some 27), none, (.call (.fn 13) [(.t 26)] [])⟩, ⟨(some 28), none, (.mov (.t 1))⟩, ⟨(some 29), none, (.call
      (.fn 14) [(.t 28)] [])⟩, ⟨(some 30), none, (.call (.fn 18) [(.t 27), (.t 29)] [])⟩, ⟨(some 25), none, (.mov (.t 30))⟩, ⟨(some 31), none, (.extract (.t 25) 0)⟩, ⟨(some 32),
      none, (.extract (.t 25) 1)⟩, ⟨(some 6), none, (.alloc (.agg [.snil]))⟩, ⟨none, none, (.store 1 (.t 6) (.t 31))⟩, ⟨(some 7), none, (.mov (.t 32))⟩] [1, 2, 6, 7]) (.seq (.reg
      [⟨(some 33), none, (.load (some 1) (.t 2))⟩, ⟨(some 34), none, (.call (.fn 13) [(.t 33)] [4])⟩, ⟨(some 8), none, (.alloc (.agg [.snil]))⟩, ⟨none, none, (.store 1 (.t 8) (.t
      34))⟩] [1, 2, 6, 7, 8]) (.seq (.reg [⟨(some 35), none, (.mov (.t 1))⟩, ⟨(some 36), none, (.call (.fn 14) [(.t 35)] [1])⟩, ⟨(some 9), none, (.mov (.t 36))⟩] [1, 2, 6, 7, 8, 9])
      (.seq (.reg [⟨(some 38), none, (.load (some 1) (.t 8))⟩, ⟨(some 39), none, (.mov (.t 9))⟩, ⟨(some 40), none, (.call (.fn 19) [(.t 38), (.t 39)] [4])⟩, ⟨(some 37), none, (.mov
      (.t 40))⟩, ⟨(some 41), none, (.extract (.t 37) 0)⟩, ⟨(some 42), none, (.extract (.t 37) 1)⟩, ⟨(some 10), none, (.alloc (.agg [.snil]))⟩, ⟨none, none, (.store 1 (.t 10) (.t
      41))⟩, ⟨(some 11), none, (.mov (.t 42))⟩] [1, 2, 6, 7, 8, 9, 10, 11]) (.seq (.seq (.reg [⟨(some 43), none, (.load (some 1) (.t 10))⟩, ⟨(some 44), none, (.load (some 1) (.t
      6))⟩, ⟨(some 45), none, (.call (.fn 16) [(.t 43), (.t 44)] [])⟩, ⟨(some 46), none, (.un .not (.t 45))⟩, ⟨(some 47), none, (.mov (.t 46))⟩, ⟨(some 48), (some (47, false)),
      (.mov (.t 11))⟩, ⟨(some 49), (some (47, false)), (.mov (.t 7))⟩, ⟨(some 50), (some (47, false)), (.bin .neq true (.t 48) (.t 49))⟩, ⟨(some 51), none, (.pick (.t 47) (.c (.bool
      true)) (.t 50))⟩] [1, 2, 6, 7, 8, 9, 10, 11, 51]) (.cond (.t 51) (.seq (.reg [⟨(some 4), none, (.mov (.c (.bool false)))⟩] [4]) .ret) .skip)) (.seq (.seq (.reg [⟨(some 52),
      none, (.load (some 1) (.t 8))⟩, ⟨(some 53), none, (.load (some 1) (.t 2))⟩, ⟨(some 54), none, (.call (.fn 13) [(.t 53)] [])⟩, ⟨(some 55), none, (.call (.fn 16) [(.t 52), (.t
      54)] [])⟩, ⟨(some 56), none, (.un .not (.t 55))⟩] [1, 2, 6, 7, 8, 9, 10, 11, 56]) (.cond (.t 56) (.seq (.reg [⟨(some 4), none, (.mov (.c (.bool false)))⟩] [4]) .ret) .skip))
      (.seq (.seq (.reg [⟨(some 57), none, (.mov (.t 9))⟩, ⟨(some 58), none, (.mov (.t 1))⟩, ⟨(some 59), none, (.call (.fn 14) [(.t 58)] [])⟩, ⟨(some 60), none, (.call (.fn 17) [(.t
      57), (.t 59)] [])⟩, ⟨(some 61), none, (.un .not (.t 60))⟩] [1, 2, 6, 7, 8, 9, 10, 11, 61]) (.cond (.t 61) (.seq (.reg [⟨(some 4), none, (.mov (.c (.bool false)))⟩] [4]) .ret)
      .skip)) (.seq (.reg [⟨(some 12), none, (.mov (.c (.int .i64 1)))⟩] [1, 2, 6, 7, 8, 9, 10, 11, 12]) (.seq (.reg [⟨(some 62), none, (.load (some 1) (.t 8))⟩, ⟨(some 63), none,
      (.mov (.t 12))⟩, ⟨(some 64), none, (.callM 20 [(.t 62), (.t 63)])⟩, ⟨(some 12), none, (.mov (.t 64))⟩] [1, 2, 6, 7, 9, 10, 11, 12]) (.seq (.reg [⟨(some 65), none, (.mov (.t
      9))⟩, ⟨(some 66), none, (.mov (.t 12))⟩, ⟨(some 67), none, (.callM 21 [(.t 65), (.t 66)])⟩, ⟨(some 12), none, (.mov (.t 67))⟩] [1, 2, 6, 7, 10, 11, 12]) (.seq (.seq (.reg
      [⟨(some 68), none, (.mov (.t 12))⟩, ⟨(some 69), none, (.bin .lss false (.t 68) (.c (.int .i64 0)))⟩, ⟨(some 70), none, (.mov (.t 69))⟩, ⟨(some 71), (some (70, false)), (.load
      (some 1) (.t 10))⟩, ⟨(some 72), (some (70, false)), (.load (some 1) (.t 6))⟩, ⟨(some 73), (some (70, false)), (.call (.fn 16) [(.t 71), (.t 72)] [])⟩, ⟨(some 74), (some (70,
      false)), (.un .not (.t 73))⟩, ⟨(some 75), none, (.pick (.t 70) (.c (.bool true)) (.t 74))⟩, ⟨(some 76), none, (.mov (.t 75))⟩, ⟨(some 77), (some (76, false)), (.mov (.t 11))⟩,
      ⟨(some 78), (some (76, false)), (.mov (.t 7))⟩, ⟨(some 79), (some (76, false)), (.bin .neq true (.t 77) (.t 78))⟩, ⟨(some 80), none, (.pick (.t 76) (.c (.bool true)) (.t
      79))⟩] [1, 2, 6, 7, 10, 80]) (.cond (.t 80) (.seq (.reg [⟨(some 4), none, (.mov (.c (.bool false)))⟩] [4]) .ret) .skip)) (.seq (.reg [⟨(some 13), none, (.mov (.c (.int .i64
      1)))⟩] [1, 2, 6, 7, 10, 13]) (.seq (.reg [⟨(some 81), none, (.load (some 1) (.t 10))⟩, ⟨(some 82), none, (.mov (.t 13))⟩, ⟨(some 83), none, (.callM 20 [(.t 81), (.t 82)])⟩,
      ⟨(some 13), none, (.mov (.t 83))⟩] [1, 2, 6, 7, 10, 13]) (.seq (.reg [⟨(some 14), none, (.mov (.c (.int .i64 1)))⟩] [1, 2, 6, 7, 10, 13, 14]) (.seq (.reg [⟨(some 84), none,
      (.load (some 1) (.t 10))⟩, ⟨(some 85), none, (.mov (.t 14))⟩, ⟨(some 86), none, (.call (.fn 22) [(.t 84), (.t 85)] [])⟩, ⟨(some 14), none, (.mov (.t 86))⟩] [1, 2, 6, 7, 10,
      13, 14]) (.seq (.seq (.reg [⟨(some 87), none, (.mov (.t 14))⟩, ⟨(some 88), none, (.bin .lss false (.t 87) (.c (.int .i64 0)))⟩] [1, 2, 6, 7, 10, 13, 14, 88]) (.cond (.t 88)
      (.seq (.reg [⟨(some 4), none, (.mov (.c (.bool false)))⟩] [4]) .ret) .skip)) (.seq (.seq (.reg [⟨(some 89), none, (.mov (.t 14))⟩, ⟨(some 90), none, (.mov (.t 13))⟩, ⟨(some
      91), none, (.bin .neq false (.t 89) (.t 90))⟩] [1, 2, 6, 7, 10, 13, 91]) (.cond (.t 91) (.seq (.reg [⟨(some 4), none, (.mov (.c (.bool false)))⟩] [4]) .ret) .skip)) (.seq
      (.reg [⟨(some 93), none, (.load (some 1) (.t 2))⟩, ⟨(some 94), none, (.call (.fn 13) [(.t 93)] [])⟩, ⟨(some 95), none, (.mov (.t 1))⟩, ⟨(some 96), none, (.call (.fn 14) [(.t
      95)] [])⟩, ⟨(some 97), none, (.call (.fn 19) [(.t 94), (.t 96)] [])⟩, ⟨(some 92), none, (.mov (.t 97))⟩, ⟨(some 98), none, (.extract (.t 92) 0)⟩, ⟨(some 99), none, (.extract
      (.t 92) 1)⟩, ⟨(some 15), none, (.alloc (.agg [.snil]))⟩, ⟨none, none, (.store 1 (.t 15) (.t 98))⟩, ⟨(some 16), none, (.mov (.t 99))⟩] [6, 7, 10, 13, 15, 16]) (.seq (.seq (.reg
      [⟨(some 100), none, (.load (some 1) (.t 15))⟩, ⟨(some 101), none, (.load (some 1) (.t 6))⟩, ⟨(some 102), none, (.call (.fn 16) [(.t 100), (.t 101)] [])⟩, ⟨(some 103), none,
      (.un .not (.t 102))⟩, ⟨(some 104), none, (.mov (.t 103))⟩, ⟨(some 105), (some (104, false)), (.mov (.t 16))⟩, ⟨(some 106), (some (104, false)), (.mov (.t 7))⟩, ⟨(some 107),
      (some (104, false)), (.bin .neq true (.t 105) (.t 106))⟩, ⟨(some 108), none, (.pick (.t 104) (.c (.bool true)) (.t 107))⟩] [10, 13, 108]) (.cond (.t 108) (.seq (.reg [⟨(some
      4), none, (.mov (.c (.bool false)))⟩] [4]) .ret) .skip)) (.seq (.reg [⟨(some 14), none, (.mov (.c (.int .i64 1)))⟩] [10, 13, 14]) (.seq (.reg [⟨(some 109), none, (.load (some
      1) (.t 10))⟩, ⟨(some 110), none, (.mov (.t 14))⟩, ⟨(some 111), none, (.call (.fn 22) [(.t 109), (.t 110)] [])⟩, ⟨(some 14), none, (.mov (.t 111))⟩] [13, 14]) (.seq (.seq (.reg
      [⟨(some 112), none, (.mov (.t 14))⟩, ⟨(some 113), none, (.bin .lss false (.t 112) (.c (.int .i64 0)))⟩] [13, 14, 113]) (.cond (.t 113) (.seq (.reg [⟨(some 4), none, (.mov (.c
      (.bool false)))⟩] [4]) .ret) .skip)) (.seq (.seq (.reg [⟨(some 114), none, (.mov (.t 14))⟩, ⟨(some 115), none, (.mov (.t 13))⟩, ⟨(some 116), none, (.bin .neq false (.t 114)
      (.t 115))⟩] [116]) (.cond (.t 116) (.seq (.reg [⟨(some 4), none, (.mov (.c (.bool false)))⟩] [4]) .ret) .skip)) (.seq (.reg [⟨(some 4), none, (.mov (.c (.bool true)))⟩] [4])
      .ret)))))))))))))))))))))))))))))
def cp4 : CP := CP.mk [(34, [4]), (36, [1]), (40, [4])] [20, 21] [[1, 2], [1, 2, 19], [4], [1, 2, 5], [1, 2, 5], [1, 2, 24], [4], [1, 2, 6, 7], [1, 2, 6, 7, 8], [1, 2, 6, 7, 8, 9],
      [1, 2, 6, 7, 8, 9, 10, 11], [1, 2, 6, 7, 8, 9, 10, 11, 51], [4], [1, 2, 6, 7, 8, 9, 10, 11, 56], [4], [1, 2, 6, 7, 8, 9, 10, 11, 61], [4], [1, 2, 6, 7, 8, 9, 10, 11, 12], [1,
      2, 6, 7, 9, 10, 11, 12], [1, 2, 6, 7, 10, 11, 12], [1, 2, 6, 7, 10, 80], [4], [1, 2, 6, 7, 10, 13], [1, 2, 6, 7, 10, 13], [1, 2, 6, 7, 10, 13, 14], [1, 2, 6, 7, 10, 13, 14],
      [1, 2, 6, 7, 10, 13, 14, 88], [4], [1, 2, 6, 7, 10, 13, 91], [4], [6, 7, 10, 13, 15, 16], [10, 13, 108], [4], [10, 13, 14], [13, 14], [13, 14, 113], [4], [116], [4], [4]] 117
      [] []
theorem fc4_0 : IntKind.wrap .i64 0 = 0 := by decide
theorem fc4_1 : IntKind.wrap .i64 1 = 1 := by decide
theorem fc4_2 : IntKind.wrap .i64 2 = 2 := by decide
theorem fc4_3 : IntKind.wrap .i64 3 = 3 := by decide
theorem fc4_4 : IntKind.wrap .i64 4 = 4 := by decide
theorem s4 : ∀ vs r, g_laws_FnExactMirrorSkeleton vs = some r → SaysM Try.prog .any 4 vs r := by
  intro vs r h
  unfold g_laws_FnExactMirrorSkeleton at h
  split at h
  · rename_i w0 w1
    cases hd_y0 : decL dc_en0 w0 with
    | none => rw [hd_y0] at h; cases h
    | some y0 =>
    rw [hd_y0] at h
    obtain rfl := decL_inv dc_en0_inv hd_y0
    clear hd_y0
    dsimp only at h
    cases hd_y1 : decL dI64 w1 with
    | none => rw [hd_y1] at h; cases h
    | some y1 =>
    rw [hd_y1] at h
    obtain rfl := decL_inv dI64_inv hd_y1
    clear hd_y1
    dsimp only at h
    split at h
    · rename_i hp
      cases h
      refine spec_of (m := .any) (tab := tabOf [(11, wM .any g_laws_szSkeleton), (13, wM (.own [4]) g_laws_toSkeleton), (14, wM (.own [1]) g_laws_toInt64S), (16, wM .any g_laws_eqSkeleton), (17, wM .any g_laws_eqInt64S), (18, wM (.own [4]) g_spec_MirrorSkeleton), (19, wM (.own [4]) g_impl_MirrorSkeleton), (20, g_laws_markSkeleton), (21, g_laws_markInt64S), (22, wM .any g_laws_heldSkeleton)]) (cp := cp4) (ic := ic4) (rvl := [(.t 4)]) hm (tabOk_cons (m := .any) s11 (tabOk_cons (m := (.own [4])) s13 (tabOk_cons (m := (.own [1])) s14 (tabOk_cons (m := .any) s16 (tabOk_cons (m := .any) s17 (tabOk_cons (m := (.own [4])) s18 (tabOk_cons (m := (.own [4])) s19 (tabOk_consW s20 (tabOk_consW s21 (tabOk_cons (m := .any) s22 tabOk_nil)))))))))) Try.func4 rfl rfl rfl (by kernel_rfl) rfl (Nat.le_of_ble_eq_true rfl) (Nat.le_of_ble_eq_true rfl) ?_
      show eA _ _ _ _
      unfold ic4
      simp only [p_laws_FnExactMirrorSkeleton, v_laws_FnExactMirrorSkeleton_0, v_laws_FnExactMirrorSkeleton_1, Bool.and_eq_true, Bool.or_eq_true, decide_eq_true_eq, Bool.not_eq_true', decide_eq_false_iff_not] at hp
      simp only [
          hp, grpA, vsliceS, grpS, grpD, grpF, grpL, eop, vop, bop, uop, fltop, convop, endOk, newE, new1, freshL, Md.isNew, outV, pureV, pureX, pure1, AV.cells, AV.one, storable,
                laid, refless, refless1, vload, loadC, storeC, vnil, vfaddr, vextract, flatT, flatE, flatC, vconv, vmm, vidxA, viaddrA, vfield, vlen, elemsOf, dF32, dF64, dI64, dU8,
                dBool, dStr, esOk, elemsS, vsliceX, bnd, ownV, ownC, own1, ownT, isSl, nSl, endL, Md.isOwn, purge, purgeH, purgeB, purgeE, hasName, name1, List.any_cons,
                List.any_nil, Md.isWr, pureV.pureP, Option.map, reduceIte, Nat.reduceEqDiff, Nat.reduceAdd, Nat.reduceMul, Nat.reduceLT, Nat.reduceLeDiff, List.mapM_cons,
                List.mapM_nil, Option.pure_def, Option.bind_eq_bind, Option.bind_some, implies_true, forall_const, beq_self_eq_true, decide_true, decide_false, eq_self,
                Int.reduceEq, Int.reduceLE, Int.reduceLT, if_true, if_false, fc4_0, fc4_1, fc4_2, fc4_3, fc4_4, Int.reduceAdd, Int.reduceSub, Int.reduceMul, Int.reduceNeg,
                Int.reducePow, Nat.reducePow, Int.reduceToNat, Nat.reduceSub, List.replicate, Nat.reduceBEq, wAs, wA, wC, zipW, noDupN, grpE, g_laws_szSkeleton, g_laws_toSkeleton,
                g_laws_toInt64S, g_laws_eqSkeleton, g_laws_eqInt64S, g_spec_MirrorSkeleton, g_impl_MirrorSkeleton, g_laws_markSkeleton, g_laws_markInt64S, g_laws_heldSkeleton, grpC,
                en0, dc_en0, ↓b_pick, ePk_true, ePk_false]
      repeat' (first
        | ((first | (refine eGI_of (fun h => ?_) (fun h => ?_)) | (refine eCc_of (fun h => ?_) (fun h => ?_)) | (refine ePk_of (fun h => ?_) (fun h => ?_))) <;> (try simp only [Bool.not_eq_true', Bool.not_eq_false'] at h) <;> (try simp only [h, reduceCtorEq, Bool.not_eq_true', decide_eq_false_iff_not, Bool.not_true, Bool.not_false, Bool.false_or, Bool.true_or, Bool.true_and, Bool.false_and, Bool.and_eq_true, Bool.or_eq_true, if_true, if_false, reduceIte, Bool.false_eq_true, and_true, true_and, false_or, or_false, decide_eq_true_eq, not_false_eq_true, not_true_eq_false] at hp) <;> (try (have h2 := h; simp only [decide_eq_true_eq, decide_eq_false_iff_not] at h2; (first | (replace h2 := eq_false h2) | (replace h2 := eq_true h2)); simp only [h2, if_true, if_false, false_or, true_or, or_true, or_false, and_true, true_and, not_false_eq_true, not_true_eq_false] at hp)) <;> simp only [h,
          hp, grpA, vsliceS, grpS, grpD, grpF, grpL, eop, vop, bop, uop, fltop, convop, endOk, newE, new1, freshL, Md.isNew, outV, pureV, pureX, pure1, AV.cells, AV.one, storable,
                laid, refless, refless1, vload, loadC, storeC, vnil, vfaddr, vextract, flatT, flatE, flatC, vconv, vmm, vidxA, viaddrA, vfield, vlen, elemsOf, dF32, dF64, dI64, dU8,
                dBool, dStr, esOk, elemsS, vsliceX, bnd, ownV, ownC, own1, ownT, isSl, nSl, endL, Md.isOwn, purge, purgeH, purgeB, purgeE, hasName, name1, List.any_cons,
                List.any_nil, Md.isWr, pureV.pureP, Option.map, reduceIte, Nat.reduceEqDiff, Nat.reduceAdd, Nat.reduceMul, Nat.reduceLT, Nat.reduceLeDiff, List.mapM_cons,
                List.mapM_nil, Option.pure_def, Option.bind_eq_bind, Option.bind_some, implies_true, forall_const, beq_self_eq_true, decide_true, decide_false, eq_self,
                Int.reduceEq, Int.reduceLE, Int.reduceLT, if_true, if_false, fc4_0, fc4_1, fc4_2, fc4_3, fc4_4, Int.reduceAdd, Int.reduceSub, Int.reduceMul, Int.reduceNeg,
                Int.reducePow, Nat.reducePow, Int.reduceToNat, Nat.reduceSub, List.replicate, Nat.reduceBEq, wAs, wA, wC, zipW, noDupN, grpE, g_laws_szSkeleton, g_laws_toSkeleton,
                g_laws_toInt64S, g_laws_eqSkeleton, g_laws_eqInt64S, g_spec_MirrorSkeleton, g_impl_MirrorSkeleton, g_laws_markSkeleton, g_laws_markInt64S, g_laws_heldSkeleton, grpC,
                en0, dc_en0, ↓b_pick, ePk_true, ePk_false]))
      all_goals (try simp only [*, m_laws_FnExactMirrorSkeleton, v_laws_FnExactMirrorSkeleton_0, v_laws_FnExactMirrorSkeleton_1, Bool.and_true, Bool.true_and, Bool.and_false, Bool.false_and, Bool.or_true, Bool.true_or, Bool.or_false, Bool.false_or, Bool.not_true, Bool.not_false, Bool.false_eq_true, if_true, if_false, reduceIte, decide_true, decide_false])
      all_goals (try (simp_all; done))
    · cases h
  · cases h
end Go.Proofs
namespace Go.Ab
/-- a list of known length is filled, an element a round -/
theorem fill_loop {β : Type} (l : Nat → List β → Int → Option (List β)) (len : Nat) (F : Nat → β) (hlen : len < 2 ^ 62)
    (H : ∀ (n : Nat) (z : List β) (k : Nat), k < len → z.length = len → l (n + 1) z (k : Int) = l n (z.set k (F k)) (IntKind.wrap .i64 ((k : Int) + 1)))
    (H' : ∀ (n : Nat) (z : List β) (k : Nat), ¬ k < len → l (n + 1) z (k : Int) = some z) :
    ∀ (n : Nat) (z : List β) (k : Nat), k ≤ len → z.length = len → len - k < n → l n z (k : Int) = some (z.take k ++ (List.range' k (len - k)).map F)
  | 0, z, k, _, _, h => by omega
  | n + 1, z, k, hk, hz, h => by
    by_cases hlt : k < len
    · rw [H n z k hlt hz, wrapS (by omega), fill_loop l len F hlen H H' n _ (k + 1) (by omega) (by rw [List.length_set]; exact hz) (by omega), show len - k = (len - (k + 1)) + 1 by omega, List.range'_succ, List.map_cons]
      congr 1
      rw [List.take_succ_eq_append_getElem (by rw [List.length_set]; omega), List.take_set_of_le (Nat.le_refl _), List.getElem_set_self, List.append_assoc, List.singleton_append]
    · rw [H' n z k hlt, show len - k = 0 by omega]
      have : k = z.length := by omega
      subst this
      simp
/-- elements are put at the end, one a round -/
theorem app_loop {β : Type} (l : Nat → List β → Int → Option (List β)) (len : Nat) (F : Nat → β) (hlen : len < 2 ^ 62) (P : Nat → Nat → Prop)
    (H : ∀ (n : Nat) (z : List β) (k : Nat), k < len → P k z.length → l (n + 1) z (k : Int) = l n (z ++ [F k]) (IntKind.wrap .i64 ((k : Int) + 1)))
    (H' : ∀ (n : Nat) (z : List β) (k : Nat), ¬ k < len → l (n + 1) z (k : Int) = some z) (hP : ∀ k j, k < len → P k j → P (k + 1) (j + 1)) :
    ∀ (n : Nat) (z : List β) (k : Nat), k ≤ len → P k z.length → len - k < n → l n z (k : Int) = some (z ++ (List.range' k (len - k)).map F)
  | 0, z, k, _, _, h => by omega
  | n + 1, z, k, hk, hp, h => by
    by_cases hlt : k < len
    · rw [H n z k hlt hp, wrapS (by omega), app_loop l len F hlen P H H' hP n _ (k + 1) (by omega) (by rw [List.length_append]; exact hP _ _ hlt hp) (by omega), show len - k = (len - (k + 1)) + 1 by omega, List.range'_succ, List.map_cons]
      simp
    · rw [H' n z k hlt, show len - k = 0 by omega]
      simp
theorem map_range_shift {β : Type} {F G : Nat → β} {k j m : Nat} (h : ∀ i, i < m → F (k + i) = G (j + i)) : (List.range' k m).map F = (List.range' j m).map G := by
  induction m generalizing k j with
  | zero => rfl
  | succ m ih =>
    have h0 := h 0 (by omega)
    rw [Nat.add_zero, Nat.add_zero] at h0
    rw [List.range'_succ, List.range'_succ, List.map_cons, List.map_cons, h0, ih fun i hi => by
      have := h (i + 1) (by omega)
      rw [show k + (i + 1) = k + 1 + i by omega, show j + (i + 1) = j + 1 + i by omega] at this
      exact this]
/-- marks -/
def marks {α : Type} (f : Int → α) (g : Int → Int) : Int → Nat → List α
  | _, 0 => []
  | m, n + 1 => f m :: marks f g (g m) n
def iter (g : Int → Int) : Nat → Int → Int
  | 0, m => m
  | n + 1, m => iter g n (g m)
theorem marks_len {α : Type} (f : Int → α) (g : Int → Int) : ∀ (n : Nat) (m : Int), (marks f g m n).length = n
  | 0, _ => rfl
  | n + 1, m => by rw [marks, List.length_cons, marks_len f g n]
theorem marks_get {α : Type} [Inhabited α] (f : Int → α) (g : Int → Int) : ∀ (n : Nat) (m : Int) (i : Nat), i < n → (marks f g m n).getD i default = f (iter g i m)
  | 0, _, _, h => by omega
  | n + 1, m, 0, _ => rfl
  | n + 1, m, i + 1, h => by
    rw [marks, List.getD_cons_succ, marks_get f g n (g m) i (by omega)]; rfl
theorem iter_succ (g : Int → Int) : ∀ (i : Nat) (m : Int), g (iter g i m) = iter g (i + 1) m
  | 0, _ => rfl
  | i + 1, m => by rw [iter, iter_succ g i (g m)]; rfl
theorem iter_add {g : Int → Int} {c : Nat} (hg : ∀ m : Int, 0 ≤ m → m ≤ 2 ^ 60 → g m = m + c) : ∀ (n : Nat) (m : Int), 0 ≤ m → m + ((c * n : Nat) : Int) ≤ 2 ^ 60 → iter g n m = m + ((c * n : Nat) : Int)
  | 0, m, _, _ => by simp [iter]
  | n + 1, m, h0, h => by
    rw [Nat.mul_succ] at h ⊢
    rw [iter, hg m h0 (by omega), iter_add hg n _ (by omega) (by omega)]
    omega
theorem mark_loop {α : Type} (l : Nat → List α → Int → Int → Option (Int × List α)) (f : Int → α) (g : Int → Int)
    (H : ∀ n z m k, l (n + 1) z m k = if (decide (k < ((z.length : Nat) : Int))) = true then need (inB k z.length) (l n (z.set k.toNat (f m)) (g m) (IntKind.wrap .i64 (k + 1))) else some (m, z)) :
    ∀ (n : Nat) (z : List α) (m : Int) (k : Nat), z.length < 2 ^ 62 → k ≤ z.length → z.length - k < n → l n z m (k : Int) = some (iter g (z.length - k) m, z.take k ++ marks f g m (z.length - k))
  | 0, z, m, k, _, _, h => by omega
  | n + 1, z, m, k, hz, hk, h => by
    rw [H]
    by_cases hlt : k < z.length
    · rw [if_pos (by simp; omega), inB_nat]
      unfold need
      rw [if_pos (by simpa using hlt), wrapS (by omega), Int.toNat_natCast, mark_loop l f g H n _ (g m) (k + 1) (by rw [List.length_set]; exact hz) (by rw [List.length_set]; omega) (by rw [List.length_set]; omega), List.length_set,
        show z.length - k = (z.length - (k + 1)) + 1 by omega]
      congr 2
      rw [List.take_succ_eq_append_getElem (by rw [List.length_set]; omega), List.take_set_of_le (Nat.le_refl _), List.getElem_set_self, List.append_assoc, List.singleton_append]
      rfl
    · rw [if_neg (by simp; omega), show z.length - k = 0 by omega]
      have : k = z.length := by omega
      subst this
      simp [iter, marks]
theorem mark_all {α : Type} (l : Nat → List α → Int → Int → Option (Int × List α)) (f : Int → α) (g : Int → Int) (x : List α) (m : Int) (hx : x.length < 2 ^ 62)
    (H : ∀ n z m k, l (n + 1) z m k = if (decide (k < ((z.length : Nat) : Int))) = true then need (inB k z.length) (l n (z.set k.toNat (f m)) (g m) (IntKind.wrap .i64 (k + 1))) else some (m, z)) :
    l (Int.toNat (((x.length : Nat) : Int) - 0) + 2) x m 0 = some (iter g x.length m, marks f g m x.length) := by
  have := mark_loop l f g H (Int.toNat (((x.length : Nat) : Int) - 0) + 2) x m 0 hx (Nat.zero_le _) (by omega)
  simpa using this
theorem held_all {α : Type} [Inhabited α] (l : Nat → Int → Int → Option (Bool × Int × Int)) (f : Int → α) (g : Int → Int) (e : α → Int → Bool) (x : List α) (m : Int) (len : Nat) (hx : x = marks f g m len) (hl : len < 2 ^ 62) (he : ∀ m, e (f m) m = true)
    (H : ∀ n m k, l (n + 1) m k = if (decide (k < ((x.length : Nat) : Int))) = true then need (inB k x.length) (if e (atI x k) m = true then l n (g m) (IntKind.wrap .i64 (k + 1)) else some (true, -1, default)) else some (false, default, m)) :
    l (Int.toNat (((x.length : Nat) : Int) - 0) + 2) m 0 = some (false, default, iter g len m) := by
  have hlen : x.length = len := by rw [hx, marks_len]
  have key : ∀ (n k : Nat), k ≤ len → len - k < n → l n (iter g k m) (k : Int) = some (false, default, iter g len m) := by
    intro n
    induction n with
    | zero => intro k _ h; omega
    | succ n ih =>
      intro k hk h
      rw [H, hlen]
      by_cases hlt : k < len
      · rw [if_pos (by simp; omega), inB_nat]
        unfold need
        rw [if_pos (by simpa using hlt), atI_nat, hx, marks_get f g len m k hlt, if_pos (he _), wrapS (by omega), iter_succ g, ih (k + 1) (by omega) (by omega)]
      · rw [if_neg (by simp; omega), show k = len by omega]
  have := key (Int.toNat (((x.length : Nat) : Int) - 0) + 2) 0 (Nat.zero_le _) (by omega)
  exact this
/-- a whole number made a float is itself -/
theorem feq_ofInt (n : Int) : feq .f32 (ofInt .f32 n) (ofInt .f32 n) = true := by
  rw [feq_self_iff]
  have h : isNaN .f32 (ofInt .f32 n) = false := by
    unfold isNaN ofInt
    show (FloatKind.f32.format.read (FloatKind.f32.nearest n)).isNaN = false
    rcases read_nearest .f32 (decide (n < 0)) n.natAbs 0 with ⟨m', e', h, _⟩ | h
    all_goals
      have h2 : FloatKind.f32.format.read (FloatKind.f32.nearest n) = _ := h
      rw [h2]; rfl
  rw [h]; rfl
end Go.Ab
namespace Go.Ab
theorem getD_set_ne {α : Type} [Inhabited α] (z : List α) (k i : Nat) (v : α) (h : k ≠ i) : (z.set k v).getD i default = z.getD i default := by
  simp [List.getD_eq_getElem?_getD, List.getElem?_set, h]
theorem set_self {α : Type} [Inhabited α] (z : List α) (k : Nat) (v : α) (h : z.getD k default = v) : z.set k v = z := by
  by_cases hk : k < z.length
  · apply List.ext_getElem (by simp)
    intro i h1 h2
    by_cases e : k = i
    · subst e; rw [List.getElem_set_self]; rw [← h, ← atI_nat, atI_lt z hk]
    · rw [List.getElem_set_ne e]
  · rw [List.set_eq_of_length_le (by omega)]
/-- a list is written over, an element a round, each from what stood there -/
theorem over_loop {β : Type} [Inhabited β] (l : Nat → List β → Int → Option (List β)) (x : List β) (F : Nat → β) (hlen : x.length < 2 ^ 62)
    (H : ∀ (n : Nat) (z : List β) (k : Nat), k < x.length → z.length = x.length → z.getD k default = x.getD k default → l (n + 1) z (k : Int) = l n (z.set k (F k)) (IntKind.wrap .i64 ((k : Int) + 1)))
    (H' : ∀ (n : Nat) (z : List β) (k : Nat), ¬ k < x.length → z.length = x.length → l (n + 1) z (k : Int) = some z) :
    ∀ (n : Nat) (z : List β) (k : Nat), k ≤ x.length → z.length = x.length → (∀ i, k ≤ i → z.getD i default = x.getD i default) → x.length - k < n → l n z (k : Int) = some (z.take k ++ (List.range' k (x.length - k)).map F)
  | 0, z, k, _, _, _, h => by omega
  | n + 1, z, k, hk, hz, hg, h => by
    by_cases hlt : k < x.length
    · rw [H n z k hlt hz (hg k (Nat.le_refl _)), wrapS (by omega), over_loop l x F hlen H H' n _ (k + 1) (by omega) (by rw [List.length_set]; exact hz) (fun i hi => by rw [getD_set_ne _ _ _ _ (by omega)]; exact hg i (by omega)) (by omega),
        show x.length - k = (x.length - (k + 1)) + 1 by omega, List.range'_succ, List.map_cons]
      congr 1
      rw [List.take_succ_eq_append_getElem (by rw [List.length_set]; omega), List.take_set_of_le (Nat.le_refl _), List.getElem_set_self, List.append_assoc, List.singleton_append]
    · rw [H' n z k hlt hz, show x.length - k = 0 by omega]
      have : k = z.length := by omega
      subst this
      simp
end Go.Ab
namespace Go.Proofs
open Go.Ab
theorem sameFloat_refl (x : Nat) : m_laws_sameFloat x x = true := by
  unfold m_laws_sameFloat
  by_cases h : feq .f64 x x = true
  · simp [h]
  · simp [h]
end Go.Proofs
namespace Go.Proofs
open Go.Ab
theorem eq_Vector (a : Nat × Nat × Nat) : m_laws_eqVector a a = true := by unfold m_laws_eqVector; simp [sameFloat_refl]
end Go.Proofs
namespace Go.Proofs
open Go.Ab
theorem eq_Bone (a : Int × Nat × Nat × Nat) : m_laws_eqBone a a = true := by unfold m_laws_eqBone; simp [eq_Vector]
theorem loop_eqBoneS (x : List (Int × Nat × Nat × Nat)) (h : x.length ≤ 1048576) : l_laws_eqBoneS_0 x x (Int.toNat (((List.length x : Nat) : Int) - 0) + 2) 0 = some (false, default, ()) :=
  eq_loop _ x m_laws_eqBone eq_Bone (by omega) fun _ _ => rfl
theorem eq_BoneS (x : List (Int × Nat × Nat × Nat)) (h : x.length ≤ 1048576) : m_laws_eqBoneS x x = true ∧ p_laws_eqBoneS x x = true := by
  unfold m_laws_eqBoneS p_laws_eqBoneS
  rw [loop_eqBoneS x h]; simp
theorem eq_Skeleton (x : List (Int × Nat × Nat × Nat)) (h : x.length ≤ 1048576) : m_laws_eqSkeleton x x = true ∧ p_laws_eqSkeleton x x = true := by
  unfold m_laws_eqSkeleton p_laws_eqSkeleton
  simp [eq_BoneS x h]
theorem loop_toBoneS (x : List (Int × Nat × Nat × Nat)) (h : x.length ≤ 1048576) : l_laws_toBoneS_0 x (Int.toNat (((List.length x : Nat) : Int) - 0) + 2) (List.replicate (Int.toNat ((List.length x : Nat) : Int)) (0, 0, 0, 0)) 0 = some x := by
  rw [copy_all (l_laws_toBoneS_0 x) x m_laws_toBone _ (by omega) fun _ _ _ => rfl]
  congr 1
  exact List.map_id x
theorem to_BoneS (x : List (Int × Nat × Nat × Nat)) (h : x.length ≤ 1048576) : m_laws_toBoneS x = x ∧ p_laws_toBoneS x = true := by
  unfold m_laws_toBoneS p_laws_toBoneS
  rw [loop_toBoneS x h]
  refine ⟨rfl, ?_⟩
  simp; omega
theorem to_Skeleton (x : List (Int × Nat × Nat × Nat)) (h : x.length ≤ 1048576) : m_laws_toSkeleton x = x ∧ p_laws_toSkeleton x = true := by
  unfold m_laws_toSkeleton p_laws_toSkeleton
  exact to_BoneS x h
theorem sz_Skeleton (x : List (Int × Nat × Nat × Nat)) (n : Int) (hx : x.length ≤ maxLen) (h0 : 0 ≤ n) (hn : n ≤ 1048576) (hs : ¬ (m_laws_szSkeleton x n < 0)) : x.length ≤ 1048576 ∧ 0 ≤ m_laws_szSkeleton x n ∧ m_laws_szSkeleton x n ≤ 1048576 := by
  unfold m_laws_szSkeleton m_laws_szBoneS at hs ⊢
  have hx' : x.length ≤ 9223372036854775807 := by unfold maxLen at hx; omega
  rw [wrapI (by omega) (by omega)] at hs ⊢
  by_cases h : n - ((List.length x : Nat) : Int) < 0
  · simp [h] at hs
  · simp [h]; omega
end Go.Proofs
namespace Go.Proofs
open Go.Ab
theorem l00In_iff (a b c : Int) : m_spec_l00In a b c = (decide (b ≤ a) && decide (a ≤ c)) := by
  unfold m_spec_l00In; cases decide (b ≤ a) <;> simp
theorem spec_loop (x : List (Int × Nat × Nat × Nat)) (h : x.length ≤ 12) (h1 : 1 ≤ x.length) : l_spec_l03Is_0 x (Int.toNat (((List.length x : Nat) : Int) - 1) + 2) 1 =
    some (if (List.range' 1 (x.length - 1)).all (fun k => decide (0 ≤ (x.getD k default).1) && decide ((x.getD k default).1 ≤ (k : Int) - 1)) = true then (false, default, ()) else (true, false, default)) := by
  have := all_loop (l_spec_l03Is_0 x) x.length (fun k => decide (0 ≤ (x.getD k default).1) && decide ((x.getD k default).1 ≤ (k : Int) - 1)) (by omega) (fun n k hk => by
      show (if (decide ((k : Int) < ((List.length x : Nat) : Int))) = true then _ else _) = _
      rw [if_pos (by simp; omega), inB_nat]
      unfold need
      rw [if_pos (by simpa using hk), atI_nat, wrapI (by omega) (by omega), l00In_iff]) (fun n k hk => by
      show (if (decide ((k : Int) < ((List.length x : Nat) : Int))) = true then _ else _) = _
      rw [if_neg (by simp; omega)]) (Int.toNat (((List.length x : Nat) : Int) - 1) + 2) 1 h1 (by omega)
  exact this
theorem impl_loop (x : List (Int × Nat × Nat × Nat)) (h : x.length ≤ 12) (h1 : 1 ≤ x.length) : l_impl_ValidSkeleton_0 x (Int.toNat (((List.length (List.drop 1 x) : Nat) : Int) - 0) + 2) 0 =
    some (if (List.range' 0 (x.length - 1)).all (fun k => decide (0 ≤ (x.getD (1 + k) default).1) && decide ((x.getD (1 + k) default).1 ≤ (k : Int))) = true then (false, default, ()) else (true, false, default)) := by
  have hl : (List.drop 1 x).length = x.length - 1 := List.length_drop
  have := all_loop (l_impl_ValidSkeleton_0 x) (x.length - 1) (fun k => decide (0 ≤ (x.getD (1 + k) default).1) && decide ((x.getD (1 + k) default).1 ≤ (k : Int))) (by omega) (fun n k hk => by
      show (if (decide ((k : Int) < ((List.length (List.drop 1 x) : Nat) : Int))) = true then _ else _) = _
      rw [if_pos (by simp; omega), inB_nat]
      unfold need
      have hg : atI (List.drop 1 x) (k : Int) = x.getD (1 + k) default := by rw [atI_nat]; simp [List.getD_eq_getElem?_getD, List.getElem?_drop, Nat.add_comm]
      rw [if_pos (by simp; omega), hg]
      generalize (x.getD (1 + k) default).1 = v
      by_cases hv : v < 0
      · simp [hv]; omega
      · by_cases hv2 : (k : Int) < v
        · have : ¬ v ≤ (k : Int) := by omega
          simp [hv, hv2, this]
        · have h3 : v ≤ (k : Int) := by omega
          have h4 : 0 ≤ v := by omega
          simp [hv, hv2, h3, h4]) (fun n k hk => by
      show (if (decide ((k : Int) < ((List.length (List.drop 1 x) : Nat) : Int))) = true then _ else _) = _
      rw [if_neg (by simp; omega)]) (Int.toNat (((List.length (List.drop 1 x) : Nat) : Int) - 0) + 2) 0 (Nat.zero_le _) (by omega)
  exact this
theorem core_sk (x : List (Int × Nat × Nat × Nat)) : p_impl_ValidSkeleton x = true ∧ p_spec_l03Is x = true ∧ m_impl_ValidSkeleton x = m_spec_l03Is x := by
  by_cases hn : 1 ≤ x.length ∧ x.length ≤ 12
  · obtain ⟨h1, h2⟩ := hn
    have e1 : decide (((List.length x : Nat) : Int) < 1) = false := by simp; omega
    have e2 : decide (12 < ((List.length x : Nat) : Int)) = false := by simp; omega
    have e3 : m_spec_l00In ((List.length x : Nat) : Int) 1 12 = true := by rw [l00In_iff]; simp; omega
    have e4 : inB 0 x.length = true := by simp [inB]; omega
    unfold p_impl_ValidSkeleton p_spec_l03Is m_impl_ValidSkeleton m_spec_l03Is
    rw [spec_loop x h2 h1, impl_loop x h2 h1, e1, e2, e3, e4]
    refine ⟨by simp; omega, by simp, ?_⟩
    rw [all_range_shift (c := fun k => decide (0 ≤ (x.getD (1 + k) default).1) && decide ((x.getD (1 + k) default).1 ≤ (k : Int))) (d := fun k => decide (0 ≤ (x.getD k default).1) && decide ((x.getD k default).1 ≤ (k : Int) - 1)) (k := 0) (j := 1) (fun i _ => by
      rw [Nat.zero_add]
      have : (((1 + i : Nat) : Int) - 1) = (i : Int) := by omega
      rw [this])]
    simp
  · have e3 : m_spec_l00In ((List.length x : Nat) : Int) 1 12 = false := by rw [l00In_iff]; simp; omega
    unfold p_impl_ValidSkeleton p_spec_l03Is m_impl_ValidSkeleton m_spec_l03Is
    rw [e3]
    by_cases h1 : ((List.length x : Nat) : Int) < 1
    · simp [h1]
    · have h2 : (12 : Int) < ((List.length x : Nat) : Int) := by omega
      simp [h1, h2]
end Go.Proofs
namespace Go.Proofs
open Go.Ab
/-- what a skeleton that is one has -/
theorem valid_of {x : List (Int × Nat × Nat × Nat)} (h : m_spec_l03Is x = true) : 1 ≤ x.length ∧ x.length ≤ 12 ∧ ∀ k, k < x.length → -1 ≤ (x.getD k default).1 ∧ (x.getD k default).1 < k := by
  unfold m_spec_l03Is at h
  by_cases hn : 1 ≤ x.length ∧ x.length ≤ 12
  · obtain ⟨h1, h2⟩ := hn
    refine ⟨h1, h2, ?_⟩
    have e3 : m_spec_l00In ((List.length x : Nat) : Int) 1 12 = true := by rw [l00In_iff]; simp; omega
    rw [e3, spec_loop x h2 h1] at h
    rw [if_pos rfl] at h
    by_cases h0 : (atI x 0).1 = -1
    · rw [if_pos (by simpa using h0)] at h
      have h3 : (List.range' 1 (x.length - 1)).all (fun k => decide (0 ≤ (x.getD k default).1) && decide ((x.getD k default).1 ≤ (k : Int) - 1)) = true := by
        cases hq : (List.range' 1 (x.length - 1)).all (fun k => decide (0 ≤ (x.getD k default).1) && decide ((x.getD k default).1 ≤ (k : Int) - 1)) with
        | true => rfl
        | false => rw [hq] at h; simp at h
      intro k hk
      by_cases hk0 : k = 0
      · subst hk0
        have : x.getD 0 default = atI x 0 := by rw [← atI_nat]; rfl
        rw [this, h0]; omega
      · have := List.all_eq_true.1 h3 k (by simp; omega)
        simp only [Bool.and_eq_true, decide_eq_true_eq] at this
        omega
    · rw [if_neg (by simpa using h0)] at h; cases h
  · have e3 : m_spec_l00In ((List.length x : Nat) : Int) 1 12 = false := by rw [l00In_iff]; simp; omega
    rw [e3] at h; cases h
end Go.Proofs
namespace Go.Proofs
open Go.Ab
theorem any_loop {γ δ : Type} [Inhabited γ] [Inhabited δ] (l : Nat → Int → Option (Bool × γ × δ)) (len : Nat) (c : Nat → Bool) (out : Nat → γ) (d : δ) (hlen : len < 2 ^ 62)
    (H : ∀ (n k : Nat), k < len → l (n + 1) (k : Int) = if c k = true then some (true, out k, default) else l n (IntKind.wrap .i64 ((k : Int) + 1))) (H' : ∀ (n k : Nat), ¬ k < len → l (n + 1) (k : Int) = some (false, default, d)) :
    ∀ (n k : Nat), k ≤ len → len - k < n → ∃ o, l n (k : Int) = some o ∧ o.1 = (List.range' k (len - k)).any c ∧ (o.1 = true → ∃ j, o.2.1 = out j)
  | 0, k, _, h => by omega
  | n + 1, k, hk, h => by
    by_cases hlt : k < len
    · rw [H n k hlt, show len - k = (len - (k + 1)) + 1 by omega, List.range'_succ, List.any_cons]
      by_cases hc : c k = true
      · rw [if_pos hc, hc]; exact ⟨_, rfl, rfl, fun _ => ⟨k, rfl⟩⟩
      · rw [if_neg hc, wrapS (by omega)]
        obtain ⟨o, h1, h2, h3⟩ := any_loop l len c out d hlen H H' n (k + 1) (by omega) (by omega)
        have : c k = false := by simpa using hc
        exact ⟨o, h1, by rw [h2, this, Bool.false_or], h3⟩
    · rw [H' n k hlt, show len - k = 0 by omega]
      exact ⟨_, rfl, rfl, fun e => by cases e⟩
end Go.Proofs
namespace Go.Proofs
open Go.Ab
abbrev BoneT : Type := Int × Nat × Nat × Nat
theorem outside_eq (y : List Int) (n : Int) (h : y.length ≤ 1048576) : m_slices_ContainsFunc_int64_int64 y n = (List.range' 0 y.length).any (fun k => m_impl_IsPairing_1 (y.getD k default) n) ∧ p_slices_ContainsFunc_int64_int64 y n = true := by
  obtain ⟨o, h1, h2, h3⟩ := any_loop (l_slices_IndexFunc_int64_int64_0 y n) y.length (fun k => m_impl_IsPairing_1 (y.getD k default) n) (fun j => (j : Int)) () (by omega) (fun n k hk => by
    show (if (decide ((k : Int) < ((List.length y : Nat) : Int))) = true then _ else _) = _
    rw [if_pos (by simp; omega), inB_nat, atI_nat]
    unfold need
    rw [if_pos (by simp; omega)]) (fun n k hk => by
    show (if (decide ((k : Int) < ((List.length y : Nat) : Int))) = true then _ else _) = _
    rw [if_neg (by simp; omega)]) (Int.toNat (((List.length y : Nat) : Int) - 0) + 2) 0 (Nat.zero_le _) (by omega)
  rw [show ((0 : Nat) : Int) = 0 from rfl] at h1
  unfold m_slices_ContainsFunc_int64_int64 p_slices_ContainsFunc_int64_int64 m_slices_IndexFunc_int64_int64 p_slices_IndexFunc_int64_int64
  rw [h1]
  refine ⟨?_, rfl⟩
  rw [Nat.sub_zero] at h2
  rw [Option.getD_some, ← h2]
  cases hd : o.1 with
  | false => simp
  | true =>
    obtain ⟨j, e⟩ := h3 hd
    simp [e]
theorem inB_of {v : Int} {n : Nat} (h0 : 0 ≤ v) (h1 : v < n) : inB v n = true := by simp [inB]; omega
/-- what is asked of a bone's mate, beyond that it is one of the bones -/
def mateQ (x : List BoneT) (y : List Int) (k : Nat) : Bool := decide (atI y (y.getD k default) = (k : Int)) && (!(decide (0 < k)) || decide ((atI x (y.getD k default)).1 = atI y (x.getD k default).1))
def mateR (x : List BoneT) (y : List Int) (k : Nat) : Bool := decide (0 ≤ y.getD k default) && decide (y.getD k default ≤ (x.length : Int) - 1)
def mateP (x : List BoneT) (y : List Int) (k : Nat) : Bool := mateR x y k && (mateQ x y k && (!(decide (k = 0)) || decide (y.getD k default = 0)))
section
variable {x : List BoneT} {y : List Int} (hv : ∀ k, k < x.length → -1 ≤ (x.getD k default).1 ∧ (x.getD k default).1 < k) (hp : ∀ k, 0 < k → k < x.length → 0 ≤ (x.getD k default).1) (hx : x.length ≤ 12) (hl : y.length = x.length)
include hv hp hx hl
theorem spec_pairs : l_spec_l03Pairs_0 x y (Int.toNat (((List.length x : Nat) : Int) - 0) + 2) 0 = some (if (List.range' 0 x.length).all (mateP x y) = true then (false, default, ()) else (true, false, default)) := by
  have := all_loop (l_spec_l03Pairs_0 x y) x.length (mateP x y) (by omega) (fun n k hk => by
    have hw : IntKind.wrap .i64 (((List.length x : Nat) : Int) - 1) = (x.length : Int) - 1 := wrapI (by omega) (by omega)
    conv => lhs; unfold l_spec_l03Pairs_0
    have d1 : decide ((k : Int) < ((List.length x : Nat) : Int)) = true := by simp; omega
    have d2 : decide (k < y.length) = true := by simp; omega
    have d3 : decide (k < x.length) = true := by simpa using hk
    have d4 : decide ((k : Int) = 0) = decide (k = 0) := decide_eq_decide.2 (by omega)
    have d5 : decide ((0 : Int) < (k : Int)) = decide (0 < k) := decide_eq_decide.2 (by omega)
    rw [hw, d1, inB_nat, inB_nat, d2, d3, d4, d5, atI_nat, atI_nat, l00In_iff]
    unfold mateP mateQ
    have hRd : mateR x y k = (decide (0 ≤ y.getD k default) && decide (y.getD k default ≤ (x.length : Int) - 1)) := rfl
    rw [hRd]
    have b3 : 0 < k → inB (x.getD k default).1 y.length = true := fun hk0 => by
      have h3 := hp k hk0 hk; have h4 := hv k hk
      exact inB_of h3 (by omega)
    have b12 : (decide (0 ≤ y.getD k default) && decide (y.getD k default ≤ (x.length : Int) - 1)) = true → inB (y.getD k default) y.length = true ∧ inB (y.getD k default) x.length = true := fun h => by
      simp only [Bool.and_eq_true, decide_eq_true_eq] at h
      exact ⟨inB_of h.1 (by omega), inB_of h.1 (by omega)⟩
    generalize (decide (0 ≤ y.getD k default) && decide (y.getD k default ≤ (x.length : Int) - 1)) = r at *
    generalize inB (y.getD k default) y.length = i1 at *
    generalize inB (y.getD k default) x.length = i2 at *
    generalize inB (x.getD k default).1 y.length = i3 at *
    generalize decide (atI y (y.getD k default) = (k : Int)) = c1 at *
    generalize decide (y.getD k default = 0) = c2 at *
    generalize decide ((atI x (y.getD k default)).1 = atI y (x.getD k default).1) = c5 at *
    by_cases h0 : k = 0
    · have e3 : decide (k = 0) = true := by simpa using h0
      have e4 : decide (0 < k) = false := by simp; omega
      rw [e3, e4]
      cases r
      · rfl
      · obtain ⟨rfl, rfl⟩ := b12 rfl
        cases c1 <;> cases c2 <;> rfl
    · have e3 : decide (k = 0) = false := by simpa using h0
      have e4 : decide (0 < k) = true := by simp; omega
      have := b3 (by omega)
      subst this
      rw [e3, e4]
      cases r
      · rfl
      · obtain ⟨rfl, rfl⟩ := b12 rfl
        cases c1 <;> cases c5 <;> rfl) (fun n k hk => by
    show (if (decide ((k : Int) < ((List.length x : Nat) : Int))) = true then _ else _) = _
    rw [if_neg (by simp; omega)]) (Int.toNat (((List.length x : Nat) : Int) - 0) + 2) 0 (Nat.zero_le _) (by omega)
  exact this
theorem impl_pairs (hR : ∀ k, k < x.length → mateR x y k = true) : l_impl_IsPairing_0 x y (Int.toNat (((List.length y : Nat) : Int) - 0) + 2) 0 = some (if (List.range' 0 x.length).all (mateQ x y) = true then (false, default, ()) else (true, false, default)) := by
  have := all_loop (l_impl_IsPairing_0 x y) x.length (mateQ x y) (by omega) (fun n k hk => by
    conv => lhs; unfold l_impl_IsPairing_0
    have d1 : decide ((k : Int) < ((List.length y : Nat) : Int)) = true := by simp; omega
    have d2 : decide (k < y.length) = true := by simp; omega
    have d3 : decide (k < x.length) = true := by simpa using hk
    have d5 : decide ((0 : Int) < (k : Int)) = decide (0 < k) := decide_eq_decide.2 (by omega)
    have hr2 := hR k hk
    unfold mateR at hr2
    simp only [Bool.and_eq_true, decide_eq_true_eq] at hr2
    have b1 : inB (y.getD k default) y.length = true := inB_of hr2.1 (by omega)
    have b2 : inB (y.getD k default) x.length = true := inB_of hr2.1 (by omega)
    rw [d1, inB_nat, inB_nat, d2, d3, d5, atI_nat, atI_nat, b1, b2]
    unfold mateQ
    have b3 : 0 < k → inB (x.getD k default).1 y.length = true := fun hk0 => by
      have h3 := hp k hk0 hk; have h4 := hv k hk
      exact inB_of h3 (by omega)
    generalize inB (x.getD k default).1 y.length = i3 at *
    generalize decide (atI y (y.getD k default) = (k : Int)) = c1 at *
    generalize decide ((atI x (y.getD k default)).1 = atI y (x.getD k default).1) = c5 at *
    by_cases h0 : k = 0
    · have e4 : decide (0 < k) = false := by simp; omega
      rw [e4]
      cases c1 <;> rfl
    · have e4 : decide (0 < k) = true := by simp; omega
      have := b3 (by omega)
      subst this
      rw [e4]
      cases c1 <;> cases c5 <;> rfl) (fun n k hk => by
    show (if (decide ((k : Int) < ((List.length y : Nat) : Int))) = true then _ else _) = _
    rw [if_neg (by simp; omega)]) (Int.toNat (((List.length y : Nat) : Int) - 0) + 2) 0 (Nat.zero_le _) (by omega)
  exact this
end
end Go.Proofs
namespace Go.Proofs
open Go.Ab
theorem atI_of {α : Type} [Inhabited α] (xs : List α) (v : Int) (h : 0 ≤ v) : atI xs v = xs.getD v.toNat default := by
  rw [← atI_nat, Int.toNat_of_nonneg h]
theorem mates_same {x : List BoneT} {y : List Int} (hv : ∀ k, k < x.length → -1 ≤ (x.getD k default).1 ∧ (x.getD k default).1 < k) (hp : ∀ k, 0 < k → k < x.length → 0 ≤ (x.getD k default).1) (h1 : 1 ≤ x.length) (hl : y.length = x.length) :
    (List.range' 0 x.length).all (mateP x y) = ((List.range' 0 x.length).all (mateR x y) && (List.range' 0 x.length).all (mateQ x y)) := by
  rw [Bool.eq_iff_iff, Bool.and_eq_true, List.all_eq_true, List.all_eq_true, List.all_eq_true]
  have mem : ∀ k, k ∈ List.range' 0 x.length ↔ k < x.length := fun k => by
    rw [List.mem_range']
    constructor
    · rintro ⟨i, hi, e⟩; omega
    · intro h; exact ⟨k, h, by omega⟩
  constructor
  · intro h
    refine ⟨fun k hk => ?_, fun k hk => ?_⟩
    · have := h k hk; unfold mateP at this; simp only [Bool.and_eq_true] at this; exact this.1
    · have := h k hk; unfold mateP at this; simp only [Bool.and_eq_true] at this; exact this.2.1
  · rintro ⟨hR, hQ⟩ k hk
    unfold mateP
    rw [hR k hk, hQ k hk, Bool.true_and, Bool.true_and]
    by_cases h0 : k = 0
    · subst h0
      have r0 := hR 0 hk
      have q0 := hQ 0 hk
      unfold mateR at r0
      unfold mateQ at q0
      simp only [Bool.and_eq_true, decide_eq_true_eq] at r0 q0
      have : y.getD 0 default = 0 := by
        obtain ⟨j, hj⟩ : ∃ j : Nat, y.getD 0 default = (j : Int) := ⟨(y.getD 0 default).toNat, by omega⟩
        by_cases hj0 : j = 0
        · subst hj0; exact hj
        · exfalso
          rw [hj] at r0 q0
          have hjl : j < x.length := by omega
          have qj := hQ j ((mem j).2 hjl)
          unfold mateQ at qj
          simp only [Bool.and_eq_true, decide_eq_true_eq, Bool.or_eq_true, Bool.not_eq_true', decide_eq_false_iff_not] at qj
          have e1 : y.getD j default = 0 := by have := q0.1; rw [atI_nat] at this; simpa using this
          have e2 := qj.2.resolve_left (by omega)
          rw [e1, show atI x 0 = x.getD 0 default from atI_of x 0 (by omega)] at e2
          have p0 := hv 0 (by omega)
          have pj := hp j (by omega) hjl
          have pj2 := hv j hjl
          rw [atI_of y _ pj] at e2
          have rr := hR (x.getD j default).1.toNat ((mem _).2 (by omega))
          unfold mateR at rr
          simp only [Bool.and_eq_true, decide_eq_true_eq] at rr
          omega
      rw [decide_eq_true this, Bool.or_true]
    · simp [h0]
theorem outside_not {x : List BoneT} {y : List Int} (hl : y.length = x.length) : (List.range' 0 y.length).any (fun k => m_impl_IsPairing_1 (y.getD k default) ((List.length x : Nat) : Int)) = !((List.range' 0 x.length).all (mateR x y)) := by
  rw [hl, List.not_all_eq_any_not]
  congr 1
  funext k
  unfold m_impl_IsPairing_1 mateR
  generalize y.getD k default = v
  by_cases h1 : v < 0
  · have : ¬ 0 ≤ v := by omega
    simp [h1, this]
  · by_cases h2 : ((List.length x : Nat) : Int) ≤ v
    · have : ¬ v ≤ ((List.length x : Nat) : Int) - 1 := by omega
      simp [h1, h2, this]
    · have : v ≤ ((List.length x : Nat) : Int) - 1 := by omega
      have h3 : 0 ≤ v := by omega
      simp [h1, h2, this, h3]
theorem core_pairs (x : List BoneT) (y : List Int) (hy : y.length ≤ 1048576) : p_impl_IsPairing x y = true ∧ (p_spec_l03Is x = true ∧ (m_spec_l03Is x = true → p_spec_l03Pairs x y = true)) ∧ m_impl_IsPairing x y = (if m_spec_l03Is x = true then m_spec_l03Pairs x y else false) := by
  obtain ⟨c1, c2, c3⟩ := core_sk x
  unfold p_impl_IsPairing m_impl_IsPairing
  rw [c1, c2, c3]
  cases hs : m_spec_l03Is x with
  | false => simp
  | true =>
    obtain ⟨h1, h2, hv⟩ := valid_of hs
    have hp : ∀ k, 0 < k → k < x.length → 0 ≤ (x.getD k default).1 := by
      intro k hk hkl
      unfold m_spec_l03Is at hs
      have e3 : m_spec_l00In ((List.length x : Nat) : Int) 1 12 = true := by rw [l00In_iff]; simp; omega
      rw [e3, spec_loop x h2 h1, if_pos rfl] at hs
      have h3 : (List.range' 1 (x.length - 1)).all (fun k => decide (0 ≤ (x.getD k default).1) && decide ((x.getD k default).1 ≤ (k : Int) - 1)) = true := by
        cases hq : (List.range' 1 (x.length - 1)).all (fun k => decide (0 ≤ (x.getD k default).1) && decide ((x.getD k default).1 ≤ (k : Int) - 1)) with
        | true => rfl
        | false => rw [hq] at hs; simp at hs
      have := List.all_eq_true.1 h3 k (by rw [List.mem_range']; exact ⟨k - 1, by omega, by omega⟩)
      simp only [Bool.and_eq_true, decide_eq_true_eq] at this
      exact this.1
    unfold m_spec_l03Pairs p_spec_l03Pairs
    by_cases hl : y.length = x.length
    · have hl' : ((List.length y : Nat) : Int) = ((List.length x : Nat) : Int) := by omega
      rw [spec_pairs hv hp h2 hl, (outside_eq y _ hy).1, (outside_eq y _ hy).2, outside_not hl, mates_same hv hp h1 hl]
      cases hR : (List.range' 0 x.length).all (mateR x y) with
      | false => simp [hl']
      | true =>
        rw [impl_pairs hv hp h2 hl fun k hk => List.all_eq_true.1 hR k (by rw [List.mem_range']; exact ⟨k, hk, by omega⟩)]
        simp [hl']
    · have hl' : ¬ ((List.length y : Nat) : Int) = ((List.length x : Nat) : Int) := by omega
      simp [hl']
end Go.Proofs
namespace Go.Proofs
open Go.Ab
theorem par_nonneg {x : List BoneT} (hs : m_spec_l03Is x = true) : ∀ k, 0 < k → k < x.length → 0 ≤ (x.getD k default).1 := by
  obtain ⟨h1, h2, hv⟩ := valid_of hs
  intro k hk hkl
  unfold m_spec_l03Is at hs
  have e3 : m_spec_l00In ((List.length x : Nat) : Int) 1 12 = true := by rw [l00In_iff]; simp; omega
  rw [e3, spec_loop x h2 h1, if_pos rfl] at hs
  have h3 : (List.range' 1 (x.length - 1)).all (fun k => decide (0 ≤ (x.getD k default).1) && decide ((x.getD k default).1 ≤ (k : Int) - 1)) = true := by
    cases hq : (List.range' 1 (x.length - 1)).all (fun k => decide (0 ≤ (x.getD k default).1) && decide ((x.getD k default).1 ≤ (k : Int) - 1)) with
    | true => rfl
    | false => rw [hq] at hs; simp at hs
  have := List.all_eq_true.1 h3 k (by rw [List.mem_range']; exact ⟨k - 1, by omega, by omega⟩)
  simp only [Bool.and_eq_true, decide_eq_true_eq] at this
  exact this.1
theorem pairs_have {x : List BoneT} {y : List Int} (hs : m_spec_l03Is x = true) (hq : m_spec_l03Pairs x y = true) : y.length = x.length ∧ x.length ≤ 12 ∧ ∀ k, k < x.length → inB (y.getD k default) x.length = true := by
  obtain ⟨h1, h2, hv⟩ := valid_of hs
  unfold m_spec_l03Pairs at hq
  by_cases hl : y.length = x.length
  · refine ⟨hl, h2, fun k hk => ?_⟩
    have hl' : ((List.length y : Nat) : Int) = ((List.length x : Nat) : Int) := by omega
    rw [spec_pairs hv (par_nonneg hs) h2 hl, if_pos (by simpa using hl')] at hq
    have h3 : (List.range' 0 x.length).all (mateP x y) = true := by
      cases hr : (List.range' 0 x.length).all (mateP x y) with
      | true => rfl
      | false => rw [hr] at hq; simp at hq
    have := List.all_eq_true.1 h3 k (by rw [List.mem_range']; exact ⟨k, hk, by omega⟩)
    unfold mateP mateR at this
    simp only [Bool.and_eq_true, decide_eq_true_eq] at this
    exact inB_of this.1.1 (by omega)
  · have hl' : ¬ ((List.length y : Nat) : Int) = ((List.length x : Nat) : Int) := by omega
    rw [if_neg (by simpa using hl')] at hq; cases hq
end Go.Proofs
namespace Go.Proofs
open Go.Ab
theorem to_Int64S (x : List Int) (h : x.length ≤ 1048576) : m_laws_toInt64S x = x ∧ p_laws_toInt64S x = true := by
  unfold m_laws_toInt64S p_laws_toInt64S
  rw [show l_laws_toInt64S_0 x (Int.toNat (((List.length x : Nat) : Int) - 0) + 2) (List.replicate (Int.toNat ((List.length x : Nat) : Int)) 0) 0 = some x by
    rw [copy_all (l_laws_toInt64S_0 x) x id _ (by omega) fun _ _ _ => rfl]
    congr 1
    exact List.map_id x]
  refine ⟨rfl, ?_⟩
  simp; omega
end Go.Proofs
namespace Go.Proofs
open Go.Ab
theorem eq_Int64S (x : List Int) (h : x.length ≤ 1048576) : m_laws_eqInt64S x x = true ∧ p_laws_eqInt64S x x = true := by
  unfold m_laws_eqInt64S p_laws_eqInt64S
  rw [show l_laws_eqInt64S_0 x x (Int.toNat (((List.length x : Nat) : Int) - 0) + 2) 0 = some (false, default, ()) from eq_loop _ x (fun a b => decide (a = b)) (fun _ => by simp) (by omega) fun _ _ => rfl]; simp
end Go.Proofs
namespace Go.Proofs
open Go.Ab
def gB (m : Int) : Int := IntKind.wrap .i64 ((IntKind.wrap .i64 ((IntKind.wrap .i64 ((IntKind.wrap .i64 (m + 1)) + 1)) + 1)) + 1)
theorem gB_add (m : Int) (h0 : 0 ≤ m) (h : m ≤ 2 ^ 60) : gB m = m + (4 : Nat) := by
  unfold gB
  rw [wrapI (n := m + 1) (by omega) (by omega), wrapI (n := m + 1 + 1) (by omega) (by omega), wrapI (n := m + 1 + 1 + 1) (by omega) (by omega), wrapI (by omega) (by omega)]
  omega
def fB (m : Int) : Int × Nat × Nat × Nat := (m, ofInt .f32 (IntKind.wrap .i64 (m + 1)), ofInt .f32 (IntKind.wrap .i64 ((IntKind.wrap .i64 (m + 1)) + 1)), ofInt .f32 (IntKind.wrap .i64 ((IntKind.wrap .i64 ((IntKind.wrap .i64 (m + 1)) + 1)) + 1)))
theorem mark_BoneS (x : List (Int × Nat × Nat × Nat)) (m : Int) (h : x.length ≤ 1048576) : m_laws_markBoneS x m = (iter gB x.length m, marks fB gB m x.length) ∧ p_laws_markBoneS x m = true := by
  unfold m_laws_markBoneS p_laws_markBoneS
  rw [show l_laws_markBoneS_0 (Int.toNat (((List.length x : Nat) : Int) - 0) + 2) x m 0 = some (iter gB x.length m, marks fB gB m x.length) from mark_all _ fB gB x m (by omega) fun _ _ _ _ => rfl]
  exact ⟨rfl, by simp [marks_len]⟩
theorem mark_Skeleton (x : List (Int × Nat × Nat × Nat)) (m : Int) (h : x.length ≤ 1048576) : m_laws_markSkeleton x m = (iter gB x.length m, marks fB gB m x.length) ∧ p_laws_markSkeleton x m = true := by
  unfold m_laws_markSkeleton p_laws_markSkeleton
  simp [mark_BoneS x m h, marks_len]
end Go.Proofs
namespace Go.Proofs
open Go.Ab
def gI (m : Int) : Int := IntKind.wrap .i64 (m + 1)
theorem gI_add (m : Int) (h0 : 0 ≤ m) (h : m ≤ 2 ^ 60) : gI m = m + (1 : Nat) := wrapI (by omega) (by omega)
theorem mark_Int64S (x : List Int) (m : Int) (h : x.length ≤ 1048576) : m_laws_markInt64S x m = (iter gI x.length m, marks id gI m x.length) ∧ p_laws_markInt64S x m = true := by
  unfold m_laws_markInt64S p_laws_markInt64S
  rw [show l_laws_markInt64S_0 (Int.toNat (((List.length x : Nat) : Int) - 0) + 2) x m 0 = some (iter gI x.length m, marks id gI m x.length) from mark_all _ id gI x m (by omega) fun _ _ _ _ => rfl]
  exact ⟨rfl, by simp [marks_len]⟩
end Go.Proofs
namespace Go.Proofs
open Go.Ab
theorem held_BoneS (n : Nat) (m : Int) (h : n ≤ 1048576) : m_laws_heldBoneS (marks fB gB m n) m = iter gB n m ∧ p_laws_heldBoneS (marks fB gB m n) m = true := by
  unfold m_laws_heldBoneS p_laws_heldBoneS
  rw [show l_laws_heldBoneS_0 (marks fB gB m n) (Int.toNat (((List.length (marks fB gB m n) : Nat) : Int) - 0) + 2) m 0 = some (false, default, iter gB n m) from
    held_all _ fB gB (fun a m => decide (a.1 = m) && (feq .f32 a.2.1 (ofInt .f32 (IntKind.wrap .i64 (m + 1))) && (feq .f32 a.2.2.1 (ofInt .f32 (IntKind.wrap .i64 ((IntKind.wrap .i64 (m + 1)) + 1))) && feq .f32 a.2.2.2 (ofInt .f32 (IntKind.wrap .i64 ((IntKind.wrap .i64 ((IntKind.wrap .i64 (m + 1)) + 1)) + 1)))))) _ m n rfl (by omega) (fun m => by
      simp [fB, feq_ofInt]) fun n m k => by
      show (if (decide (k < _)) = true then _ else _) = _
      split
      · congr 1
        split
        · rename_i h1; rw [h1]
          split
          · rename_i h2; rw [h2]
            split
            · rename_i h3; rw [h3]
              split
              · rename_i h4; rw [h4]; rfl
              · rename_i h4; rw [(Bool.not_eq_true _).mp h4]; first | rfl | (simp; done)
            · rename_i h3; rw [(Bool.not_eq_true _).mp h3]; first | rfl | (simp; done)
          · rename_i h2; rw [(Bool.not_eq_true _).mp h2]; first | rfl | (simp; done)
        · rename_i h1; rw [(Bool.not_eq_true _).mp h1]; first | rfl | (simp; done)
      · rfl]
  exact ⟨by simp, rfl⟩
theorem held_Skeleton (n : Nat) (m : Int) (h : n ≤ 1048576) (h0 : 0 ≤ m) (h1 : m ≤ 2 ^ 30) : m_laws_heldSkeleton (marks fB gB m n) m = iter gB n m ∧ p_laws_heldSkeleton (marks fB gB m n) m = true := by
  unfold m_laws_heldSkeleton p_laws_heldSkeleton
  rw [(held_BoneS n m h).1, (held_BoneS n m h).2]
  have : ¬ iter gB n m < 0 := by rw [iter_add (g := gB) (c := 4) gB_add _ _ h0 (by omega)]; omega
  exact ⟨by simp [this], rfl⟩
end Go.Proofs
namespace Go.Proofs
open Go.Ab
def mirB (x : List BoneT) (y : List Int) (k : Nat) : BoneT := ((x.getD k default).1, (m_spec_l03Mirror (atI x (y.getD k default)).2).1, (m_spec_l03Mirror (atI x (y.getD k default)).2).2.1, (m_spec_l03Mirror (atI x (y.getD k default)).2).2.2)
section
variable {x : List BoneT} {y : List Int} (hx : x.length ≤ 12) (hl : y.length = x.length) (hr : ∀ k, k < x.length → inB (y.getD k default) x.length = true)
include hx hl hr
theorem spec_mir : l_spec_MirrorSkeleton_0 x y (Int.toNat (((List.length y : Nat) : Int) - 0) + 2) [] 0 = some ((List.range' 0 x.length).map (mirB x y)) := by
  have := app_loop (l_spec_MirrorSkeleton_0 x y) x.length (mirB x y) (by omega) (fun k j => k = j) (fun n z k hk hp => by
      show (if (decide ((k : Int) < ((List.length y : Nat) : Int))) = true then _ else _) = _
      rw [if_pos (by simp; omega), inB_nat, inB_nat, atI_nat, atI_nat, hr k hk]
      unfold need
      rw [if_pos (by simp; omega), if_pos (by simp; omega), if_pos rfl, if_pos (by simp; omega), if_pos (by simp; omega)]
      rfl) (fun n z k hk => by
      show (if (decide ((k : Int) < ((List.length y : Nat) : Int))) = true then _ else _) = _
      rw [if_neg (by simp; omega)]) (fun k j _ h => by omega) (Int.toNat (((List.length y : Nat) : Int) - 0) + 2) [] 0 (Nat.zero_le _) (by simp) (by omega)
  exact this
theorem impl_mir : l_impl_MirrorSkeleton_0 x y (Int.toNat (((List.length y : Nat) : Int) - 0) + 2) x 0 = some ((List.range' 0 x.length).map (mirB x y)) := by
  have := over_loop (l_impl_MirrorSkeleton_0 x y) x (mirB x y) (by omega) (fun n z k hk hz hg => by
      show (if (decide ((k : Int) < ((List.length y : Nat) : Int))) = true then _ else _) = _
      rw [if_pos (by simp; omega), inB_nat, inB_nat, atI_nat, atI_nat, hr k hk, hg, Int.toNat_natCast]
      unfold need
      rw [if_pos (by simp; omega), if_pos rfl, if_pos (by simp; omega)]
      rfl) (fun n z k hk hz => by
      show (if (decide ((k : Int) < ((List.length y : Nat) : Int))) = true then _ else _) = _
      rw [if_neg (by simp; omega)]) (Int.toNat (((List.length y : Nat) : Int) - 0) + 2) x 0 (Nat.zero_le _) rfl (fun _ _ => rfl) (by omega)
  exact this
end
theorem core_MirrorSkeleton (x : List BoneT) (y : List Int) (hy : y.length ≤ 1048576) : p_impl_MirrorSkeleton x y = true ∧ p_spec_MirrorSkeleton x y = true ∧ m_impl_MirrorSkeleton x y = m_spec_MirrorSkeleton x y ∧ (m_spec_MirrorSkeleton x y).1.length ≤ 1048576 := by
  obtain ⟨c1, ⟨c2, c3⟩, c4⟩ := core_pairs x y hy
  unfold p_impl_MirrorSkeleton p_spec_MirrorSkeleton m_impl_MirrorSkeleton m_spec_MirrorSkeleton p_impl_Bone m_impl_Bone
  rw [c1, c2, c4]
  cases hs : m_spec_l03Is x with
  | false => simp
  | true =>
    rw [c3 hs]
    cases hq : m_spec_l03Pairs x y with
    | false => simp
    | true =>
      obtain ⟨hl, h12, hr⟩ := pairs_have hs hq
      rw [spec_mir h12 hl hr, impl_mir h12 hl hr]
      simp
      omega
theorem law_MirrorSkeleton (x : List BoneT) (h : x.length ≤ maxLen) (_ : ∀ q ∈ x, (Lit.int .i64 q.1).wf = true ∧ Canon .f32 q.2.1 ∧ Canon .f32 q.2.2.1 ∧ Canon .f32 q.2.2.2) (y : List Int) (_ : y.length ≤ maxLen) (_ : ∀ q ∈ y, (Lit.int .i64 q).wf = true) :
    g_laws_FnExactMirrorSkeleton [.agg [.sl (List.map en0 x)], .sl (List.map (AV.int .i64) y)] = some (.bool true) := by
  have key : p_laws_FnExactMirrorSkeleton x y = true ∧ m_laws_FnExactMirrorSkeleton x y = true := by
    unfold p_laws_FnExactMirrorSkeleton m_laws_FnExactMirrorSkeleton v_laws_FnExactMirrorSkeleton_0 v_laws_FnExactMirrorSkeleton_1
    by_cases hy : (1048576 : Int) < ((List.length y : Nat) : Int)
    · simp [hy]
    · by_cases hs : m_laws_szSkeleton x 1048576 < 0
      · simp [hs, hy]
      · obtain ⟨k1, k2, k3⟩ := sz_Skeleton x 1048576 h (by omega) (by omega) hs
        have ky : y.length ≤ 1048576 := by omega
        obtain ⟨c1, c2, c3, c4⟩ := core_MirrorSkeleton x y ky
        rw [(to_Skeleton x k1).1, (to_Int64S y ky).1, c3]
        generalize (m_spec_MirrorSkeleton x y) = r at *
        have i0 : iter gB x.length 1 = 1 + ((4 * x.length : Nat) : Int) := iter_add (g := gB) (c := 4) gB_add _ _ (by omega) (by omega)
        have i1 : ¬ iter gI y.length (iter gB x.length 1) < 0 := by rw [i0, iter_add (g := gI) (c := 1) gI_add _ _ (by omega) (by omega)]; omega
        have i2 : ¬ iter gB r.1.length 1 < 0 := by rw [iter_add (g := gB) (c := 4) gB_add _ _ (by omega) (by omega)]; omega
        simp [hs, hy, to_Skeleton x k1, to_Int64S y ky, c1, c2, eq_Skeleton x k1, eq_Skeleton r.1 c4, eq_Int64S y ky, mark_Skeleton x _ k1, mark_Int64S y _ ky, mark_Skeleton r.1 1 c4, held_Skeleton _ 1 c4, marks_len, i1, i2]
  unfold g_laws_FnExactMirrorSkeleton
  simp only [dc_en0_map, dI64_map, key.1, key.2, if_true]
end Go.Proofs
