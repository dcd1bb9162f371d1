/- What functions that FnExactReachFor reaches compute, and that the program's and the reference's answers are the same. No conditions. -/
import Derived.Test.YtpoghajdcdfhbadReachForY0
set_option maxRecDepth 100000
set_option maxHeartbeats 4000000
set_option linter.all false
namespace Go.Proofs
open Go.Ab
def g_impl_AddVectors : List AV → Option AV
  | [.agg [.flt .f32 y0, .flt .f32 y1, .flt .f32 y2], .agg [.flt .f32 y3, .flt .f32 y4, .flt .f32 y5]] => some (AV.agg [(.flt .f32
      (m_impl_AddVectors (y0, y1, y2) (y3, y4, y5)).1), (.flt .f32 (m_impl_AddVectors (y0, y1, y2) (y3, y4, y5)).2.1), (.flt .f32 (m_impl_AddVectors (y0, y1, y2) (y3, y4,
      y5)).2.2)])
  | _ => none
def ic67 : ICode := (.seq (.reg [⟨(some 2), none, (.box 3 (.t 0))⟩, ⟨(some 3), none, (.box 3 (.t 1))⟩, ⟨(some 4), none, (.alloc (.agg [(.flt .f32 0), (.flt .f32 0), (.flt .f32
      0)]))⟩] [2, 3, 4]) (.seq (.reg [⟨(some 5), none, (.faddr 0 (.t 2))⟩, ⟨(some 6), none, (.load none (.t 5))⟩, ⟨(some 7), none, (.faddr 0 (.t 3))⟩, ⟨(some 8), none, (.load none
      (.t 7))⟩, ⟨(some 9), none, (.bin .add false (.t 6) (.t 8))⟩, ⟨(some 10), none, (.faddr 1 (.t 2))⟩, ⟨(some 11), none, (.load none (.t 10))⟩, ⟨(some 12), none, (.faddr 1 (.t
      3))⟩, ⟨(some 13), none, (.load none (.t 12))⟩, ⟨(some 14), none, (.bin .add false (.t 11) (.t 13))⟩, ⟨(some 15), none, (.faddr 2 (.t 2))⟩, ⟨(some 16), none, (.load none (.t
      15))⟩, ⟨(some 17), none, (.faddr 2 (.t 3))⟩, ⟨(some 18), none, (.load none (.t 17))⟩, ⟨(some 19), none, (.bin .add false (.t 16) (.t 18))⟩, ⟨(some 20), none, (.build [(.flt
      .f32 0), (.flt .f32 0), (.flt .f32 0)] [(0, 1, (.t 9)), (1, 1, (.t 14)), (2, 1, (.t 19))])⟩, ⟨none, none, (.store 3 (.t 4) (.t 20))⟩] [4]) .ret))
def cp67 : CP := CP.mk [] [] [[2, 3, 4], [4]] 21
theorem fc67_0 : IntKind.wrap .i64 0 = 0 := by decide
theorem fc67_1 : IntKind.wrap .i64 1 = 1 := by decide
theorem fc67_2 : IntKind.wrap .i64 2 = 2 := by decide
theorem fc67_3 : IntKind.wrap .i64 3 = 3 := by decide
theorem fc67_4 : IntKind.wrap .i64 4 = 4 := by decide
theorem fc67_5 : IntKind.wrap .i64 5 = 5 := by decide
theorem fc67_6 : IntKind.wrap .i64 6 = 6 := by decide
theorem fc67_7 : IntKind.wrap .i64 7 = 7 := by decide
theorem s67 : ∀ vs r, g_impl_AddVectors vs = some r → SaysM Try.prog .any 67 vs r := by
  intro vs r h
  unfold g_impl_AddVectors at h
  split at h
  · rename_i y0 y1 y2 y3 y4 y5
    cases h
    refine spec_of (m := .any) (tab := tabOf []) (cp := cp67) (ic := ic67) (rvl := [(.c 4 (some 3))]) hm tabOk_nil Try.func67 rfl rfl rfl (by kernel_rfl) rfl (Nat.le_of_ble_eq_true rfl) (Nat.le_of_ble_eq_true rfl) ?_
    show eA _ _ _ _
    unfold ic67
    simp only [
        grpS, grpD, grpF, grpL, eop, vop, bop, uop, fltop, convop, endOk, newE, new1, freshL, Md.isNew, outV, pureV, pureX, pure1, AV.cells, AV.one, storable, laid, refless,
              refless1, vload, loadC, storeC, vnil, vfaddr, vextract, flatT, flatE, flatC, vconv, vmm, vidxA, viaddrA, vfield, vlen, elemsOf, dF32, dF64, dI64, dU8, dBool, dStr,
              esOk, elemsS, vsliceX, bnd, ownV, ownC, own1, ownT, isSl, nSl, endL, Md.isOwn, purge, purgeH, purgeB, purgeE, hasName, name1, List.any_cons, List.any_nil, Md.isWr,
              pureV.pureP, Option.map, reduceIte, Nat.reduceEqDiff, Nat.reduceAdd, Nat.reduceMul, Nat.reduceLT, Nat.reduceLeDiff, List.mapM_cons, List.mapM_nil, Option.pure_def,
              Option.bind_eq_bind, Option.bind_some, implies_true, forall_const, beq_self_eq_true, decide_true, decide_false, eq_self, Int.reduceEq, Int.reduceLE, Int.reduceLT,
              if_true, if_false, fc67_0, fc67_1, fc67_2, fc67_3, fc67_4, fc67_5, fc67_6, fc67_7, Int.reduceAdd, Int.reduceSub, Int.reduceMul, Int.reduceNeg, Int.reducePow,
              Nat.reducePow, Int.reduceToNat, Nat.reduceSub, List.replicate, Nat.reduceBEq, wAs, wA, wC, zipW, noDupN, grpE, grpC, en0, dc_en0]
    repeat' (first
      | ((first | (refine eGI_of (fun h => ?_) (fun h => ?_)) | (refine eCc_of (fun h => ?_) (fun h => ?_))) <;> (try simp only [Bool.not_eq_true', Bool.not_eq_false'] at h) <;> simp only [h,
        grpS, grpD, grpF, grpL, eop, vop, bop, uop, fltop, convop, endOk, newE, new1, freshL, Md.isNew, outV, pureV, pureX, pure1, AV.cells, AV.one, storable, laid, refless,
              refless1, vload, loadC, storeC, vnil, vfaddr, vextract, flatT, flatE, flatC, vconv, vmm, vidxA, viaddrA, vfield, vlen, elemsOf, dF32, dF64, dI64, dU8, dBool, dStr,
              esOk, elemsS, vsliceX, bnd, ownV, ownC, own1, ownT, isSl, nSl, endL, Md.isOwn, purge, purgeH, purgeB, purgeE, hasName, name1, List.any_cons, List.any_nil, Md.isWr,
              pureV.pureP, Option.map, reduceIte, Nat.reduceEqDiff, Nat.reduceAdd, Nat.reduceMul, Nat.reduceLT, Nat.reduceLeDiff, List.mapM_cons, List.mapM_nil, Option.pure_def,
              Option.bind_eq_bind, Option.bind_some, implies_true, forall_const, beq_self_eq_true, decide_true, decide_false, eq_self, Int.reduceEq, Int.reduceLE, Int.reduceLT,
              if_true, if_false, fc67_0, fc67_1, fc67_2, fc67_3, fc67_4, fc67_5, fc67_6, fc67_7, Int.reduceAdd, Int.reduceSub, Int.reduceMul, Int.reduceNeg, Int.reducePow,
              Nat.reducePow, Int.reduceToNat, Nat.reduceSub, List.replicate, Nat.reduceBEq, wAs, wA, wC, zipW, noDupN, grpE, grpC, en0, dc_en0]))
    all_goals (try simp only [*, m_impl_AddVectors, Bool.and_true, Bool.true_and, Bool.and_false, Bool.false_and, Bool.or_true, Bool.true_or, Bool.or_false, Bool.false_or, Bool.not_true, Bool.not_false, Bool.false_eq_true, if_true, if_false, reduceIte, decide_true, decide_false])
    all_goals (try (simp_all; done))
  · cases h
def m_impl_PlaceAt (x0 : (Nat × Nat × Nat)) (x1 : (Nat × Nat × Nat)) (x2 : Nat) : (Nat × Nat × Nat) := (if (m_impl_isLength (m_impl_LongOf (m_impl_LessVectors x1 x0))) = true then
      (m_impl_AddVectors x0 (m_impl_ScaleVector (m_impl_LessVectors x1 x0) (fdiv .f32 x2 (m_impl_LongOf (m_impl_LessVectors x1 x0))))) else ((fadd .f32 x0.1 x2), x0.2.1, x0.2.2))
def p_impl_PlaceAt (x0 : (Nat × Nat × Nat)) (x1 : (Nat × Nat × Nat)) (x2 : Nat) : Bool := (p_impl_LongOf (m_impl_LessVectors x1 x0))
def g_impl_PlaceAt : List AV → Option AV
  | [.agg [.flt .f32 y0, .flt .f32 y1, .flt .f32 y2], .agg [.flt .f32 y3, .flt .f32 y4, .flt .f32 y5], .flt .f32 y6] => if p_impl_PlaceAt
      (y0, y1, y2) (y3, y4, y5) y6 = true then some (AV.agg [(.flt .f32 (m_impl_PlaceAt (y0, y1, y2) (y3, y4, y5) y6).1), (.flt .f32 (m_impl_PlaceAt (y0, y1, y2) (y3, y4, y5)
      y6).2.1), (.flt .f32 (m_impl_PlaceAt (y0, y1, y2) (y3, y4, y5) y6).2.2)]) else none
  | _ => none
def ic39 : ICode := (.seq (.reg [⟨(some 3), none, (.box 3 (.t 0))⟩, ⟨(some 4), none, (.box 3 (.t 1))⟩, ⟨(some 6), none, (.alloc (.agg [(.flt .f32 0), (.flt .f32 0), (.flt .f32
      0)]))⟩] [2, 3, 4, 6]) (.seq (.reg [⟨(some 9), none, (.load (some 3) (.t 4))⟩, ⟨(some 10), none, (.load (some 3) (.t 3))⟩, ⟨(some 11), none, (.call (.fn 64) [(.t 9), (.t 10)]
      [])⟩, ⟨(some 7), none, (.alloc (.agg [(.flt .f32 0), (.flt .f32 0), (.flt .f32 0)]))⟩, ⟨none, none, (.store 3 (.t 7) (.t 11))⟩] [2, 3, 6, 7]) (.seq (.reg [⟨(some 12), none,
      (.load (some 3) (.t 7))⟩, ⟨(some 13), none, (.call (.fn 65) [(.t 12)] [])⟩, ⟨(some 8), none, (.mov (.t 13))⟩] [2, 3, 6, 7, 8]) (.seq (.seq (.reg [⟨(some 14), none, (.mov (.t
      8))⟩, ⟨(some 15), none, (.call (.fn 66) [(.t 14)] [])⟩, ⟨(some 16), none, (.un .not (.t 15))⟩] [2, 3, 6, 7, 8, 16]) (.cond (.t 16) (.seq (.reg [⟨(some 17), none, (.faddr 0 (.t
      3))⟩, ⟨(some 18), none, (.load none (.t 17))⟩, ⟨(some 19), none, (.mov (.t 2))⟩, ⟨(some 20), none, (.bin .add false (.t 18) (.t 19))⟩, ⟨(some 21), none, (.faddr 0 (.t 3))⟩,
      ⟨none, none, (.store 1 (.t 21) (.t 20))⟩] [3, 6]) (.seq (.reg [⟨(some 22), none, (.load (some 3) (.t 3))⟩, ⟨none, none, (.store 3 (.t 6) (.t 22))⟩] [6]) .ret)) .skip)) (.seq
      (.reg [⟨(some 23), none, (.load (some 3) (.t 3))⟩, ⟨(some 24), none, (.load (some 3) (.t 7))⟩, ⟨(some 25), none, (.mov (.t 2))⟩, ⟨(some 26), none, (.mov (.t 8))⟩, ⟨(some 27),
      none, (.bin .quo false (.t 25) (.t 26))⟩, ⟨(some 28), none, (.call (.fn 68) [(.t 24), (.t 27)] [])⟩, ⟨(some 29), none, (.call (.fn 67) [(.t 23), (.t 28)] [])⟩, ⟨none, none,
      (.store 3 (.t 6) (.t 29))⟩] [6]) .ret)))))
def cp39 : CP := CP.mk [] [] [[2, 3, 4, 6], [2, 3, 6, 7], [2, 3, 6, 7, 8], [2, 3, 6, 7, 8, 16], [3, 6], [6], [6]] 30
theorem fc39_0 : IntKind.wrap .i64 0 = 0 := by decide
theorem fc39_1 : IntKind.wrap .i64 1 = 1 := by decide
theorem fc39_2 : IntKind.wrap .i64 2 = 2 := by decide
theorem fc39_3 : IntKind.wrap .i64 3 = 3 := by decide
theorem fc39_4 : IntKind.wrap .i64 4 = 4 := by decide
theorem fc39_5 : IntKind.wrap .i64 5 = 5 := by decide
theorem fc39_6 : IntKind.wrap .i64 6 = 6 := by decide
theorem fc39_7 : IntKind.wrap .i64 7 = 7 := by decide
theorem s39 : ∀ vs r, g_impl_PlaceAt vs = some r → SaysM Try.prog .any 39 vs r := by
  intro vs r h
  unfold g_impl_PlaceAt at h
  split at h
  · rename_i y0 y1 y2 y3 y4 y5 y6
    split at h
    · rename_i hp
      cases h
      refine spec_of (m := .any) (tab := tabOf [(64, wM .any g_impl_LessVectors), (65, wM .any g_impl_LongOf), (66, wM .any g_impl_isLength), (67, wM .any g_impl_AddVectors), (68, wM .any g_impl_ScaleVector)]) (cp := cp39) (ic := ic39) (rvl := [(.c 6 (some 3))]) hm (tabOk_cons (m := .any) s64 (tabOk_cons (m := .any) s65 (tabOk_cons (m := .any) s66 (tabOk_cons (m := .any) s67 (tabOk_cons (m := .any) s68 tabOk_nil))))) Try.func39 rfl rfl rfl (by kernel_rfl) rfl (Nat.le_of_ble_eq_true rfl) (Nat.le_of_ble_eq_true rfl) ?_
      show eA _ _ _ _
      unfold ic39
      simp only [p_impl_PlaceAt, Bool.and_eq_true, Bool.or_eq_true, decide_eq_true_eq, Bool.not_eq_true', decide_eq_false_iff_not] at hp
      simp only [
          hp, grpS, grpD, grpF, grpL, eop, vop, bop, uop, fltop, convop, endOk, newE, new1, freshL, Md.isNew, outV, pureV, pureX, pure1, AV.cells, AV.one, storable, laid, refless,
                refless1, vload, loadC, storeC, vnil, vfaddr, vextract, flatT, flatE, flatC, vconv, vmm, vidxA, viaddrA, vfield, vlen, elemsOf, dF32, dF64, dI64, dU8, dBool, dStr,
                esOk, elemsS, vsliceX, bnd, ownV, ownC, own1, ownT, isSl, nSl, endL, Md.isOwn, purge, purgeH, purgeB, purgeE, hasName, name1, List.any_cons, List.any_nil, Md.isWr,
                pureV.pureP, Option.map, reduceIte, Nat.reduceEqDiff, Nat.reduceAdd, Nat.reduceMul, Nat.reduceLT, Nat.reduceLeDiff, List.mapM_cons, List.mapM_nil, Option.pure_def,
                Option.bind_eq_bind, Option.bind_some, implies_true, forall_const, beq_self_eq_true, decide_true, decide_false, eq_self, Int.reduceEq, Int.reduceLE, Int.reduceLT,
                if_true, if_false, fc39_0, fc39_1, fc39_2, fc39_3, fc39_4, fc39_5, fc39_6, fc39_7, Int.reduceAdd, Int.reduceSub, Int.reduceMul, Int.reduceNeg, Int.reducePow,
                Nat.reducePow, Int.reduceToNat, Nat.reduceSub, List.replicate, Nat.reduceBEq, wAs, wA, wC, zipW, noDupN, grpE, g_impl_LessVectors, g_impl_LongOf, g_impl_isLength,
                g_impl_AddVectors, g_impl_ScaleVector, grpC, en0, dc_en0]
      repeat' (first
        | ((first | (refine eGI_of (fun h => ?_) (fun h => ?_)) | (refine eCc_of (fun h => ?_) (fun h => ?_))) <;> (try simp only [Bool.not_eq_true', Bool.not_eq_false'] at h) <;> (try simp only [h, reduceCtorEq, Bool.not_eq_true', decide_eq_false_iff_not, Bool.not_true, Bool.not_false, Bool.false_or, Bool.true_or, Bool.true_and, Bool.false_and, Bool.and_eq_true, Bool.or_eq_true, if_true, if_false, reduceIte, Bool.false_eq_true, and_true, true_and, false_or, or_false, decide_eq_true_eq, not_false_eq_true, not_true_eq_false] at hp) <;> (try (have h2 := h; simp only [decide_eq_true_eq, decide_eq_false_iff_not] at h2; (first | (replace h2 := eq_false h2) | (replace h2 := eq_true h2)); simp only [h2, if_true, if_false, false_or, true_or, or_true, or_false, and_true, true_and, not_false_eq_true, not_true_eq_false] at hp)) <;> simp only [h,
          hp, grpS, grpD, grpF, grpL, eop, vop, bop, uop, fltop, convop, endOk, newE, new1, freshL, Md.isNew, outV, pureV, pureX, pure1, AV.cells, AV.one, storable, laid, refless,
                refless1, vload, loadC, storeC, vnil, vfaddr, vextract, flatT, flatE, flatC, vconv, vmm, vidxA, viaddrA, vfield, vlen, elemsOf, dF32, dF64, dI64, dU8, dBool, dStr,
                esOk, elemsS, vsliceX, bnd, ownV, ownC, own1, ownT, isSl, nSl, endL, Md.isOwn, purge, purgeH, purgeB, purgeE, hasName, name1, List.any_cons, List.any_nil, Md.isWr,
                pureV.pureP, Option.map, reduceIte, Nat.reduceEqDiff, Nat.reduceAdd, Nat.reduceMul, Nat.reduceLT, Nat.reduceLeDiff, List.mapM_cons, List.mapM_nil, Option.pure_def,
                Option.bind_eq_bind, Option.bind_some, implies_true, forall_const, beq_self_eq_true, decide_true, decide_false, eq_self, Int.reduceEq, Int.reduceLE, Int.reduceLT,
                if_true, if_false, fc39_0, fc39_1, fc39_2, fc39_3, fc39_4, fc39_5, fc39_6, fc39_7, Int.reduceAdd, Int.reduceSub, Int.reduceMul, Int.reduceNeg, Int.reducePow,
                Nat.reducePow, Int.reduceToNat, Nat.reduceSub, List.replicate, Nat.reduceBEq, wAs, wA, wC, zipW, noDupN, grpE, g_impl_LessVectors, g_impl_LongOf, g_impl_isLength,
                g_impl_AddVectors, g_impl_ScaleVector, grpC, en0, dc_en0]))
      all_goals (try simp only [*, m_impl_PlaceAt, Bool.and_true, Bool.true_and, Bool.and_false, Bool.false_and, Bool.or_true, Bool.true_or, Bool.or_false, Bool.false_or, Bool.not_true, Bool.not_false, Bool.false_eq_true, if_true, if_false, reduceIte, decide_true, decide_false])
      all_goals (try (simp_all; done))
    · cases h
  · cases h
def l_impl_ReachFor_0 (x0 : (List (Nat × Nat × Nat))) (x2 : Int) (z2_0 : (Nat × Nat × Nat)) (z2_2 : Int) : Nat → (List (Nat × Nat × Nat)) → Int → Option ((Nat × Nat × Nat) × (List
      (Nat × Nat × Nat)))
  | 0, _, _ => none
  | n + 1, z0_0, z0_1 => (if (decide (0 ≤ z0_1)) = true then (need (inB (IntKind.wrap .i64 (z0_1 + 1)) (List.length z0_0)) (need (inB z0_1 (List.length z0_0)) (need (inB z0_1
        (List.length (m_impl_distances x0))) (need (p_impl_PlaceAt (atI z0_0 (IntKind.wrap .i64 (z0_1 + 1))) (atI z0_0 z0_1) (atI (m_impl_distances x0) z0_1)) (l_impl_ReachFor_0 x0
        x2 z2_0 z2_2 n (List.set z0_0 (Int.toNat z0_1) (m_impl_PlaceAt (atI z0_0 (IntKind.wrap .i64 (z0_1 + 1))) (atI z0_0 z0_1) (atI (m_impl_distances x0) z0_1))) (IntKind.wrap
        .i64 (z0_1 - 1))))))) else (some (z2_0, z0_0)))
def l_impl_ReachFor_1 (x0 : (List (Nat × Nat × Nat))) (x2 : Int) (z2_0 : (Nat × Nat × Nat)) (z2_1 : (List (Nat × Nat × Nat))) (z2_2 : Int) : Nat → (List (Nat × Nat × Nat)) → Int →
      Option ((Nat × Nat × Nat) × (List (Nat × Nat × Nat)))
  | 0, _, _ => none
  | n + 1, z1_0, z1_1 => (if (decide (z1_1 < (((List.length z1_0) : Nat) : Int))) = true then (need (inB (IntKind.wrap .i64 (z1_1 - 1)) (List.length z1_0)) (need (inB z1_1
        (List.length z1_0)) (need (inB (IntKind.wrap .i64 (z1_1 - 1)) (List.length (m_impl_distances x0))) (need (p_impl_PlaceAt (atI z1_0 (IntKind.wrap .i64 (z1_1 - 1))) (atI z1_0
        z1_1) (atI (m_impl_distances x0) (IntKind.wrap .i64 (z1_1 - 1)))) (l_impl_ReachFor_1 x0 x2 z2_0 z2_1 z2_2 n (List.set z1_0 (Int.toNat z1_1) (m_impl_PlaceAt (atI z1_0
        (IntKind.wrap .i64 (z1_1 - 1))) (atI z1_0 z1_1) (atI (m_impl_distances x0) (IntKind.wrap .i64 (z1_1 - 1))))) (IntKind.wrap .i64 (z1_1 + 1))))))) else (some ((Option.getD
        (l_impl_ReachFor_0 x0 x2 z2_0 z2_2 (Int.toNat (IntKind.wrap .i64 ((((List.length z2_1) : Nat) : Int) - 2)) + 2) (List.set z2_1 (Int.toNat (IntKind.wrap .i64 ((((List.length
        z2_1) : Nat) : Int) - 1))) z2_0) (IntKind.wrap .i64 ((((List.length z2_1) : Nat) : Int) - 2))) default).1, z1_0)))
def l_impl_ReachFor_2 (x0 : (List (Nat × Nat × Nat))) (x2 : Int) : Nat → (Nat × Nat × Nat) → (List (Nat × Nat × Nat)) → Int → Option (List (Nat × Nat × Nat))
  | 0, _, _, _ => none
  | n + 1, z2_0, z2_1, z2_2 => (if (decide (z2_2 < x2)) = true then (need (inB (IntKind.wrap .i64 ((((List.length z2_1) : Nat) : Int) - 1)) (List.length z2_1)) (need (Option.isSome
        (l_impl_ReachFor_0 x0 x2 z2_0 z2_2 (Int.toNat (IntKind.wrap .i64 ((((List.length z2_1) : Nat) : Int) - 2)) + 2) (List.set z2_1 (Int.toNat (IntKind.wrap .i64 ((((List.length
        z2_1) : Nat) : Int) - 1))) z2_0) (IntKind.wrap .i64 ((((List.length z2_1) : Nat) : Int) - 2)))) (need (inB 0 (List.length x0)) (need (inB 0 (List.length (Option.getD
        (l_impl_ReachFor_0 x0 x2 z2_0 z2_2 (Int.toNat (IntKind.wrap .i64 ((((List.length z2_1) : Nat) : Int) - 2)) + 2) (List.set z2_1 (Int.toNat (IntKind.wrap .i64 ((((List.length
        z2_1) : Nat) : Int) - 1))) z2_0) (IntKind.wrap .i64 ((((List.length z2_1) : Nat) : Int) - 2))) default).2)) (need (Option.isSome (l_impl_ReachFor_1 x0 x2 z2_0 z2_1 z2_2
        (Int.toNat ((((List.length (List.set (Option.getD (l_impl_ReachFor_0 x0 x2 z2_0 z2_2 (Int.toNat (IntKind.wrap .i64 ((((List.length z2_1) : Nat) : Int) - 2)) + 2) (List.set
        z2_1 (Int.toNat (IntKind.wrap .i64 ((((List.length z2_1) : Nat) : Int) - 1))) z2_0) (IntKind.wrap .i64 ((((List.length z2_1) : Nat) : Int) - 2))) default).2 (Int.toNat 0)
        (atI x0 0))) : Nat) : Int) - 1) + 2) (List.set (Option.getD (l_impl_ReachFor_0 x0 x2 z2_0 z2_2 (Int.toNat (IntKind.wrap .i64 ((((List.length z2_1) : Nat) : Int) - 2)) + 2)
        (List.set z2_1 (Int.toNat (IntKind.wrap .i64 ((((List.length z2_1) : Nat) : Int) - 1))) z2_0) (IntKind.wrap .i64 ((((List.length z2_1) : Nat) : Int) - 2))) default).2
        (Int.toNat 0) (atI x0 0)) 1)) (l_impl_ReachFor_2 x0 x2 n (Option.getD (l_impl_ReachFor_1 x0 x2 z2_0 z2_1 z2_2 (Int.toNat ((((List.length (List.set (Option.getD
        (l_impl_ReachFor_0 x0 x2 z2_0 z2_2 (Int.toNat (IntKind.wrap .i64 ((((List.length z2_1) : Nat) : Int) - 2)) + 2) (List.set z2_1 (Int.toNat (IntKind.wrap .i64 ((((List.length
        z2_1) : Nat) : Int) - 1))) z2_0) (IntKind.wrap .i64 ((((List.length z2_1) : Nat) : Int) - 2))) default).2 (Int.toNat 0) (atI x0 0))) : Nat) : Int) - 1) + 2) (List.set
        (Option.getD (l_impl_ReachFor_0 x0 x2 z2_0 z2_2 (Int.toNat (IntKind.wrap .i64 ((((List.length z2_1) : Nat) : Int) - 2)) + 2) (List.set z2_1 (Int.toNat (IntKind.wrap .i64
        ((((List.length z2_1) : Nat) : Int) - 1))) z2_0) (IntKind.wrap .i64 ((((List.length z2_1) : Nat) : Int) - 2))) default).2 (Int.toNat 0) (atI x0 0)) 1) default).1
        (Option.getD (l_impl_ReachFor_1 x0 x2 z2_0 z2_1 z2_2 (Int.toNat ((((List.length (List.set (Option.getD (l_impl_ReachFor_0 x0 x2 z2_0 z2_2 (Int.toNat (IntKind.wrap .i64
        ((((List.length z2_1) : Nat) : Int) - 2)) + 2) (List.set z2_1 (Int.toNat (IntKind.wrap .i64 ((((List.length z2_1) : Nat) : Int) - 1))) z2_0) (IntKind.wrap .i64
        ((((List.length z2_1) : Nat) : Int) - 2))) default).2 (Int.toNat 0) (atI x0 0))) : Nat) : Int) - 1) + 2) (List.set (Option.getD (l_impl_ReachFor_0 x0 x2 z2_0 z2_2 (Int.toNat
        (IntKind.wrap .i64 ((((List.length z2_1) : Nat) : Int) - 2)) + 2) (List.set z2_1 (Int.toNat (IntKind.wrap .i64 ((((List.length z2_1) : Nat) : Int) - 1))) z2_0) (IntKind.wrap
        .i64 ((((List.length z2_1) : Nat) : Int) - 2))) default).2 (Int.toNat 0) (atI x0 0)) 1) default).2 (IntKind.wrap .i64 (z2_2 + 1)))))))) else (some z2_1))
def m_impl_ReachFor (x0 : (List (Nat × Nat × Nat))) (x1 : (Nat × Nat × Nat)) (x2 : Int) : ((List (Nat × Nat × Nat)) × Bool) := (if (m_impl_arePoints x0) = true then (if (decide (x2
      < 0)) = true then ([], false) else (if (decide (40 < x2)) = true then ([], false) else ((Option.getD (l_impl_ReachFor_2 x0 x2 (Int.toNat (x2 - 0) + 2) x1 (m_impl_Vector x0) 0)
      default), true))) else ([], false))
def p_impl_ReachFor (x0 : (List (Nat × Nat × Nat))) (x1 : (Nat × Nat × Nat)) (x2 : Int) : Bool := (!(m_impl_arePoints x0) || ((decide (x2 < 0)) || ((decide (40 < x2)) ||
      ((p_impl_distances x0) && ((p_impl_Vector x0) && (Option.isSome (l_impl_ReachFor_2 x0 x2 (Int.toNat (x2 - 0) + 2) x1 (m_impl_Vector x0) 0)))))))
def g_impl_ReachFor : List AV → Option AV
  | [.sl w0, .agg [.flt .f32 y1, .flt .f32 y2, .flt .f32 y3], .int .i64 y4] => (match decL dc_en0 w0 with | some y0 => (if p_impl_ReachFor y0 (y1, y2, y3) y4 = true then some (AV.tup [(.sl (List.map en0 (m_impl_ReachFor y0 (y1, y2, y3) y4).1)), (.bool (m_impl_ReachFor y0 (y1, y2, y3) y4).2)]) else none) | none => none)
  | _ => none
def lb48_0 : ICode := (.seq (.seq (.reg [⟨(some 39), none, (.mov (.t 10))⟩, ⟨(some 40), none, (.bin .geq false (.t 39) (.c (.int .i64 0)))⟩] [0, 4, 8, 9, 10, 27, 28, 40]) (.cond (.t
      40) .skip (.exit 2))) (.seq (.block 3 (.reg [⟨(some 43), none, (.mov (.t 9))⟩, ⟨(some 44), none, (.mov (.t 10))⟩, ⟨(some 45), none, (.mov (.t 9))⟩, ⟨(some 46), none, (.mov (.t
      10))⟩, ⟨(some 47), none, (.bin .add false (.t 46) (.c (.int .i64 1)))⟩, ⟨(some 48), none, (.iaddrS 3 (.t 45) (.t 47))⟩, ⟨(some 49), none, (.load (some 3) (.t 48))⟩, ⟨(some
      50), none, (.mov (.t 9))⟩, ⟨(some 51), none, (.mov (.t 10))⟩, ⟨(some 52), none, (.iaddrS 3 (.t 50) (.t 51))⟩, ⟨(some 53), none, (.load (some 3) (.t 52))⟩, ⟨(some 54), none,
      (.mov (.t 8))⟩, ⟨(some 55), none, (.mov (.t 10))⟩, ⟨(some 56), none, (.iaddrS 1 (.t 54) (.t 55))⟩, ⟨(some 57), none, (.load none (.t 56))⟩, ⟨(some 58), none, (.call (.fn 39)
      [(.t 49), (.t 53), (.t 57)] [])⟩, ⟨(some 59), none, (.iaddrS 3 (.t 43) (.t 44))⟩, ⟨none, none, (.store 3 (.t 59) (.t 58))⟩] [0, 4, 8, 9, 10, 27, 28])) (.reg [⟨(some 41), none,
      (.mov (.t 10))⟩, ⟨(some 42), none, (.bin .sub false (.t 41) (.c (.int .i64 1)))⟩, ⟨(some 10), none, (.mov (.t 42))⟩] [0, 4, 8, 9, 10, 27, 28])))
def lb48_1 : ICode := (.seq (.seq (.reg [⟨(some 65), none, (.mov (.t 11))⟩, ⟨(some 66), none, (.mov (.t 9))⟩, ⟨(some 67), none, (.len false (.t 66))⟩, ⟨(some 68), none, (.bin .lss
      false (.t 65) (.t 67))⟩] [0, 4, 8, 9, 11, 27, 28, 68]) (.cond (.t 68) .skip (.exit 4))) (.seq (.block 5 (.reg [⟨(some 71), none, (.mov (.t 9))⟩, ⟨(some 72), none, (.mov (.t
      11))⟩, ⟨(some 73), none, (.mov (.t 9))⟩, ⟨(some 74), none, (.mov (.t 11))⟩, ⟨(some 75), none, (.bin .sub false (.t 74) (.c (.int .i64 1)))⟩, ⟨(some 76), none, (.iaddrS 3 (.t
      73) (.t 75))⟩, ⟨(some 77), none, (.load (some 3) (.t 76))⟩, ⟨(some 78), none, (.mov (.t 9))⟩, ⟨(some 79), none, (.mov (.t 11))⟩, ⟨(some 80), none, (.iaddrS 3 (.t 78) (.t
      79))⟩, ⟨(some 81), none, (.load (some 3) (.t 80))⟩, ⟨(some 82), none, (.mov (.t 8))⟩, ⟨(some 83), none, (.mov (.t 11))⟩, ⟨(some 84), none, (.bin .sub false (.t 83) (.c (.int
      .i64 1)))⟩, ⟨(some 85), none, (.iaddrS 1 (.t 82) (.t 84))⟩, ⟨(some 86), none, (.load none (.t 85))⟩, ⟨(some 87), none, (.call (.fn 39) [(.t 77), (.t 81), (.t 86)] [])⟩, ⟨(some
      88), none, (.iaddrS 3 (.t 71) (.t 72))⟩, ⟨none, none, (.store 3 (.t 88) (.t 87))⟩] [0, 4, 8, 9, 11, 27, 28])) (.reg [⟨(some 69), none, (.mov (.t 11))⟩, ⟨(some 70), none, (.bin
      .add false (.t 69) (.c (.int .i64 1)))⟩, ⟨(some 11), none, (.mov (.t 70))⟩] [0, 4, 8, 9, 11, 27, 28])))
def lb48_2 : ICode := (.seq (.reg [⟨(some 29), none, (.bin .lss false (.t 28) (.t 27))⟩] [0, 4, 8, 9, 27, 28, 29]) (.seq (.cond (.t 29) .skip (.exit 0)) (.seq (.block 1 (.seq (.reg
      [⟨(some 30), none, (.mov (.t 9))⟩, ⟨(some 31), none, (.mov (.t 9))⟩, ⟨(some 32), none, (.len false (.t 31))⟩, ⟨(some 33), none, (.bin .sub false (.t 32) (.c (.int .i64 1)))⟩,
      ⟨(some 34), none, (.load (some 3) (.t 4))⟩, ⟨(some 35), none, (.iaddrS 3 (.t 30) (.t 33))⟩, ⟨none, none, (.store 3 (.t 35) (.t 34))⟩] [0, 4, 8, 9, 27, 28]) (.seq (.seq (.reg
      [⟨(some 36), none, (.mov (.t 9))⟩, ⟨(some 37), none, (.len false (.t 36))⟩, ⟨(some 38), none, (.bin .sub false (.t 37) (.c (.int .i64 2)))⟩, ⟨(some 10), none, (.mov (.t 38))⟩]
      [0, 4, 8, 9, 10, 27, 28]) (.block 2 (.loop lb48_0))) (.seq (.reg [⟨(some 60), none, (.mov (.t 9))⟩, ⟨(some 61), none, (.mov (.t 0))⟩, ⟨(some 62), none, (.iaddrS 3 (.t 61) (.c
      (.int .i64 0)))⟩, ⟨(some 63), none, (.load (some 3) (.t 62))⟩, ⟨(some 64), none, (.iaddrS 3 (.t 60) (.c (.int .i64 0)))⟩, ⟨none, none, (.store 3 (.t 64) (.t 63))⟩] [0, 4, 8,
      9, 27, 28]) (.seq (.reg [⟨(some 11), none, (.mov (.c (.int .i64 1)))⟩] [0, 4, 8, 9, 11, 27, 28]) (.block 4 (.loop lb48_1))))))) (.reg [⟨(some 89), none, (.bin .add false (.t
      28) (.c (.int .i64 1)))⟩, ⟨(some 28), none, (.mov (.t 89))⟩] [0, 4, 8, 9, 27, 28]))))
def ic48 : ICode := (.seq (.reg [⟨(some 4), none, (.box 3 (.t 1))⟩, ⟨(some 6), none, (.mov (.c .snil))⟩, ⟨(some 7), none, (.mov (.c (.bool false)))⟩] [0, 2, 4]) (.seq (.seq (.reg
      [⟨(some 12), none, (.mov (.t 0))⟩, ⟨(some 13), none, (.call (.fn 73) [(.t 12)] [])⟩, ⟨(some 14), none, (.un .not (.t 13))⟩, ⟨(some 15), none, (.mov (.t 14))⟩, ⟨(some 16),
      (some (15, false)), (.mov (.t 2))⟩, ⟨(some 17), (some (15, false)), (.bin .lss false (.t 16) (.c (.int .i64 0)))⟩, ⟨(some 18), none, (.pick (.t 15) (.c (.bool true)) (.t
      17))⟩, ⟨(some 19), none, (.mov (.t 18))⟩, ⟨(some 20), (some (19, false)), (.mov (.t 2))⟩, ⟨(some 21), (some (19, false)), (.bin .gtr false (.t 20) (.c (.int .i64 40)))⟩,
      ⟨(some 22), none, (.pick (.t 19) (.c (.bool true)) (.t 21))⟩] [0, 2, 4, 22]) (.cond (.t 22) (.seq (.reg [⟨(some 6), none, (.mov (.c .snil))⟩, ⟨(some 7), none, (.mov (.c (.bool
      false)))⟩] [6, 7]) .ret) .skip)) (.seq (.reg [⟨(some 23), none, (.mov (.t 0))⟩, ⟨(some 24), none, (.call (.fn 74) [(.t 23)] [])⟩, ⟨(some 8), none, (.mov (.t 24))⟩] [0, 2, 4,
      8]) (.seq (.reg [⟨(some 25), none, (.mov (.t 0))⟩, ⟨(some 26), none, (.call (.fn 62) [(.t 25)] [3])⟩, ⟨(some 9), none, (.mov (.t 26))⟩] [0, 2, 4, 8, 9]) (.seq (.seq (.reg
      [⟨(some 27), none, (.mov (.t 2))⟩, ⟨(some 28), none, (.mov (.c (.int .i64 0)))⟩] [0, 4, 8, 9, 27, 28]) (.block 0 (.loop lb48_2))) (.seq (.reg [⟨(some 90), none, (.mov (.t
      9))⟩, ⟨(some 6), none, (.mov (.t 90))⟩, ⟨(some 7), none, (.mov (.c (.bool true)))⟩] [6, 7]) .ret))))))
def cp48 : CP := CP.mk [(26, [3])] [] [[0, 2, 4], [0, 2, 4, 22], [6, 7], [0, 2, 4, 8], [0, 2, 4, 8, 9], [0, 4, 8, 9, 27, 28], [0, 4, 8, 9, 27, 28, 29], [0, 4, 8, 9, 27, 28], [0, 4,
      8, 9, 10, 27, 28], [0, 4, 8, 9, 10, 27, 28, 40], [0, 4, 8, 9, 10, 27, 28], [0, 4, 8, 9, 10, 27, 28], [0, 4, 8, 9, 27, 28], [0, 4, 8, 9, 11, 27, 28], [0, 4, 8, 9, 11, 27, 28,
      68], [0, 4, 8, 9, 11, 27, 28], [0, 4, 8, 9, 11, 27, 28], [0, 4, 8, 9, 27, 28], [6, 7]] 91
theorem fc48_0 : IntKind.wrap .i64 0 = 0 := by decide
theorem fc48_1 : IntKind.wrap .i64 1 = 1 := by decide
theorem fc48_2 : IntKind.wrap .i64 2 = 2 := by decide
theorem fc48_3 : IntKind.wrap .i64 3 = 3 := by decide
theorem fc48_4 : IntKind.wrap .i64 4 = 4 := by decide
theorem fc48_5 : IntKind.wrap .i64 5 = 5 := by decide
theorem fc48_6 : IntKind.wrap .i64 6 = 6 := by decide
theorem fc48_7 : IntKind.wrap .i64 7 = 7 := by decide
theorem sl48_0 (x0 : (List (Nat × Nat × Nat))) (x2 : Int) (z2_0 : (Nat × Nat × Nat)) (z2_2 : Int) : ∀ (n : Nat) (z0_0 : (List (Nat × Nat × Nat))) (z0_1 : Int) (o : ((Nat × Nat ×
      Nat) × (List (Nat × Nat × Nat)))) (K : IExit → St → Prop), l_impl_ReachFor_0 x0 x2 z2_0 z2_2 n z0_0 z0_1 = some o → (∀ st, Wk st (⟨[(0, (.sl (List.map en0 x0))), (4, (.lptr 4
      0 0)), (8, (.sl (List.map (AV.flt .f32) (m_impl_distances x0)))), (9, (.lsl 26 0 (List.length o.2))), (27, (.int .i64 x2)), (28, (.int .i64 z2_2))], [(4, (some ⟨3, false,
      [(AV.agg [(.flt .f32 o.1.1), (.flt .f32 o.1.2.1), (.flt .f32 o.1.2.2)])]⟩)), (26, (some ⟨3, true, (List.map en0 o.2)⟩))]⟩ : St) → K (.exit 2) st) → eA (tabOf [(39, wM .any
      g_impl_PlaceAt), (62, wM (.own [3]) g_impl_Vector), (73, wM .any g_impl_arePoints), (74, wM (.own [1]) g_impl_distances)]) (.loop lb48_0) (⟨[(0, (.sl (List.map en0 x0))), (4,
      (.lptr 4 0 0)), (8, (.sl (List.map (AV.flt .f32) (m_impl_distances x0)))), (9, (.lsl 26 0 (List.length z0_0))), (10, (.int .i64 z0_1)), (27, (.int .i64 x2)), (28, (.int .i64
      z2_2))], [(4, (some ⟨3, false, [(AV.agg [(.flt .f32 z2_0.1), (.flt .f32 z2_0.2.1), (.flt .f32 z2_0.2.2)])]⟩)), (26, (some ⟨3, true, (List.map en0 z0_0)⟩))]⟩ : St) K := by
  intro n
  induction n with
  | zero =>
    intro z0_0 z0_1 o K h h0
    simp only [l_impl_ReachFor_0, reduceCtorEq] at h
  | succ n ih =>
    intro z0_0 z0_1 o K h h0
    refine eA_loop ?_
    unfold lb48_0
    unfold l_impl_ReachFor_0 at h
    (try simp only [need_iff] at h)
    simp only [
      need_iff, h, grpS, grpD, grpF, grpL, eop, vop, bop, uop, fltop, convop, endOk, newE, new1, freshL, Md.isNew, outV, pureV, pureX, pure1, AV.cells, AV.one, storable, laid,
            refless, refless1, vload, loadC, storeC, vnil, vfaddr, vextract, flatT, flatE, flatC, vconv, vmm, vidxA, viaddrA, vfield, vlen, elemsOf, dF32, dF64, dI64, dU8, dBool,
            dStr, esOk, elemsS, vsliceX, bnd, ownV, ownC, own1, ownT, isSl, nSl, endL, Md.isOwn, purge, purgeH, purgeB, purgeE, hasName, name1, List.any_cons, List.any_nil, Md.isWr,
            pureV.pureP, Option.map, reduceIte, Nat.reduceEqDiff, Nat.reduceAdd, Nat.reduceMul, Nat.reduceLT, Nat.reduceLeDiff, List.mapM_cons, List.mapM_nil, Option.pure_def,
            Option.bind_eq_bind, Option.bind_some, implies_true, forall_const, beq_self_eq_true, decide_true, decide_false, eq_self, Int.reduceEq, Int.reduceLE, Int.reduceLT,
            if_true, if_false, fc48_0, fc48_1, fc48_2, fc48_3, fc48_4, fc48_5, fc48_6, fc48_7, Int.reduceAdd, Int.reduceSub, Int.reduceMul, Int.reduceNeg, Int.reducePow,
            Nat.reducePow, Int.reduceToNat, Nat.reduceSub, List.replicate, Nat.reduceBEq, wAs, wA, wC, zipW, noDupN, grpE, g_impl_PlaceAt, g_impl_Vector, g_impl_arePoints,
            g_impl_distances, grpC, en0, dc_en0, ↓b_pick, ePk_true, ePk_false]
    repeat' (first
      | ((first | (refine eGI_of (fun hc => ?_) (fun hc => ?_)) | (refine eCc_of (fun hc => ?_) (fun hc => ?_)) | (refine ePk_of (fun hc => ?_) (fun hc => ?_)) | (have hc := True.intro; refine KW_refl ?_)) <;> (try simp only [Bool.not_eq_true', Bool.not_eq_false'] at hc) <;> (try simp only [hc, need_iff, reduceCtorEq, Bool.not_eq_true', decide_eq_false_iff_not, Bool.not_true, Bool.not_false, Bool.false_or, Bool.true_or, Bool.true_and, Bool.false_and, Bool.and_eq_true, Bool.or_eq_true, if_true, if_false, reduceIte, Bool.false_eq_true, and_true, true_and, false_or, or_false, decide_eq_true_eq, not_false_eq_true, not_true_eq_false] at h) <;> (try (have hc2 := hc; simp only [decide_eq_true_eq, decide_eq_false_iff_not] at hc2; simp only [hc2, if_true, if_false, reduceCtorEq, Bool.not_eq_true', decide_eq_false_iff_not, Bool.not_true, Bool.not_false, Bool.false_or, Bool.true_or, Bool.true_and, Bool.false_and, Bool.and_eq_true, Bool.or_eq_true, if_true, if_false, reduceIte, Bool.false_eq_true, and_true, true_and, false_or, or_false, decide_eq_true_eq, not_false_eq_true, not_true_eq_false] at h)) <;> simp only [hc,
      need_iff, h, grpS, grpD, grpF, grpL, eop, vop, bop, uop, fltop, convop, endOk, newE, new1, freshL, Md.isNew, outV, pureV, pureX, pure1, AV.cells, AV.one, storable, laid,
            refless, refless1, vload, loadC, storeC, vnil, vfaddr, vextract, flatT, flatE, flatC, vconv, vmm, vidxA, viaddrA, vfield, vlen, elemsOf, dF32, dF64, dI64, dU8, dBool,
            dStr, esOk, elemsS, vsliceX, bnd, ownV, ownC, own1, ownT, isSl, nSl, endL, Md.isOwn, purge, purgeH, purgeB, purgeE, hasName, name1, List.any_cons, List.any_nil, Md.isWr,
            pureV.pureP, Option.map, reduceIte, Nat.reduceEqDiff, Nat.reduceAdd, Nat.reduceMul, Nat.reduceLT, Nat.reduceLeDiff, List.mapM_cons, List.mapM_nil, Option.pure_def,
            Option.bind_eq_bind, Option.bind_some, implies_true, forall_const, beq_self_eq_true, decide_true, decide_false, eq_self, Int.reduceEq, Int.reduceLE, Int.reduceLT,
            if_true, if_false, fc48_0, fc48_1, fc48_2, fc48_3, fc48_4, fc48_5, fc48_6, fc48_7, Int.reduceAdd, Int.reduceSub, Int.reduceMul, Int.reduceNeg, Int.reducePow,
            Nat.reducePow, Int.reduceToNat, Nat.reduceSub, List.replicate, Nat.reduceBEq, wAs, wA, wC, zipW, noDupN, grpE, g_impl_PlaceAt, g_impl_Vector, g_impl_arePoints,
            g_impl_distances, grpC, en0, dc_en0, ↓b_pick, ePk_true, ePk_false]))
    all_goals (repeat (replace h := And.right h))
    all_goals first
      | (refine eA_wk (wk_norm (ks := [0, 4, 8, 9, 10, 27, 28]) (ls := [4, 26]) ?_) (eA_cast ?_ (ih _ _ _ _ h h0)); (simp only [normOk, optIn, blkIn, nameIn,
      need_iff, h, grpS, grpD, grpF, grpL, eop, vop, bop, uop, fltop, convop, endOk, newE, new1, freshL, Md.isNew, outV, pureV, pureX, pure1, AV.cells, AV.one, storable, laid,
            refless, refless1, vload, loadC, storeC, vnil, vfaddr, vextract, flatT, flatE, flatC, vconv, vmm, vidxA, viaddrA, vfield, vlen, elemsOf, dF32, dF64, dI64, dU8, dBool,
            dStr, esOk, elemsS, vsliceX, bnd, ownV, ownC, own1, ownT, isSl, nSl, endL, Md.isOwn, purge, purgeH, purgeB, purgeE, hasName, name1, List.any_cons, List.any_nil, Md.isWr,
            pureV.pureP, Option.map, reduceIte, Nat.reduceEqDiff, Nat.reduceAdd, Nat.reduceMul, Nat.reduceLT, Nat.reduceLeDiff, List.mapM_cons, List.mapM_nil, Option.pure_def,
            Option.bind_eq_bind, Option.bind_some, implies_true, forall_const, beq_self_eq_true, decide_true, decide_false, eq_self, Int.reduceEq, Int.reduceLE, Int.reduceLT,
            if_true, if_false, fc48_0, fc48_1, fc48_2, fc48_3, fc48_4, fc48_5, fc48_6, fc48_7, Int.reduceAdd, Int.reduceSub, Int.reduceMul, Int.reduceNeg, Int.reducePow,
            Nat.reducePow, Int.reduceToNat, Nat.reduceSub, List.replicate, Nat.reduceBEq, wAs, wA, wC, zipW, noDupN, grpE, g_impl_PlaceAt, g_impl_Vector, g_impl_arePoints,
            g_impl_distances, grpC, en0, dc_en0, ↓b_pick, ePk_true, ePk_false] <;> rfl); (simp only [normS, List.map_append, List.length_append, List.map_set, List.length_set, List.map_replicate, List.length_replicate, List.map_nil, List.map_cons,
      need_iff, h, grpS, grpD, grpF, grpL, eop, vop, bop, uop, fltop, convop, endOk, newE, new1, freshL, Md.isNew, outV, pureV, pureX, pure1, AV.cells, AV.one, storable, laid,
            refless, refless1, vload, loadC, storeC, vnil, vfaddr, vextract, flatT, flatE, flatC, vconv, vmm, vidxA, viaddrA, vfield, vlen, elemsOf, dF32, dF64, dI64, dU8, dBool,
            dStr, esOk, elemsS, vsliceX, bnd, ownV, ownC, own1, ownT, isSl, nSl, endL, Md.isOwn, purge, purgeH, purgeB, purgeE, hasName, name1, List.any_cons, List.any_nil, Md.isWr,
            pureV.pureP, Option.map, reduceIte, Nat.reduceEqDiff, Nat.reduceAdd, Nat.reduceMul, Nat.reduceLT, Nat.reduceLeDiff, List.mapM_cons, List.mapM_nil, Option.pure_def,
            Option.bind_eq_bind, Option.bind_some, implies_true, forall_const, beq_self_eq_true, decide_true, decide_false, eq_self, Int.reduceEq, Int.reduceLE, Int.reduceLT,
            if_true, if_false, fc48_0, fc48_1, fc48_2, fc48_3, fc48_4, fc48_5, fc48_6, fc48_7, Int.reduceAdd, Int.reduceSub, Int.reduceMul, Int.reduceNeg, Int.reducePow,
            Nat.reducePow, Int.reduceToNat, Nat.reduceSub, List.replicate, Nat.reduceBEq, wAs, wA, wC, zipW, noDupN, grpE, g_impl_PlaceAt, g_impl_Vector, g_impl_arePoints,
            g_impl_distances, grpC, en0, dc_en0, ↓b_pick, ePk_true, ePk_false] <;> rfl))
      | (cases h; refine h0 _ (Wk.cast (wk_norm (ks := [0, 4, 8, 9, 27, 28]) (ls := [4, 26]) ?_) ?_); (simp only [normOk, optIn, blkIn, nameIn,
      grpS, grpD, grpF, grpL, eop, vop, bop, uop, fltop, convop, endOk, newE, new1, freshL, Md.isNew, outV, pureV, pureX, pure1, AV.cells, AV.one, storable, laid, refless, refless1,
            vload, loadC, storeC, vnil, vfaddr, vextract, flatT, flatE, flatC, vconv, vmm, vidxA, viaddrA, vfield, vlen, elemsOf, dF32, dF64, dI64, dU8, dBool, dStr, esOk, elemsS,
            vsliceX, bnd, ownV, ownC, own1, ownT, isSl, nSl, endL, Md.isOwn, purge, purgeH, purgeB, purgeE, hasName, name1, List.any_cons, List.any_nil, Md.isWr, pureV.pureP,
            Option.map, reduceIte, Nat.reduceEqDiff, Nat.reduceAdd, Nat.reduceMul, Nat.reduceLT, Nat.reduceLeDiff, List.mapM_cons, List.mapM_nil, Option.pure_def,
            Option.bind_eq_bind, Option.bind_some, implies_true, forall_const, beq_self_eq_true, decide_true, decide_false, eq_self, Int.reduceEq, Int.reduceLE, Int.reduceLT,
            if_true, if_false, fc48_0, fc48_1, fc48_2, fc48_3, fc48_4, fc48_5, fc48_6, fc48_7, Int.reduceAdd, Int.reduceSub, Int.reduceMul, Int.reduceNeg, Int.reducePow,
            Nat.reducePow, Int.reduceToNat, Nat.reduceSub, List.replicate, Nat.reduceBEq, wAs, wA, wC, zipW, noDupN, grpE, g_impl_PlaceAt, g_impl_Vector, g_impl_arePoints,
            g_impl_distances, grpC, en0, dc_en0, ↓b_pick, ePk_true, ePk_false] <;> rfl); (simp only [normS, List.map_append, List.length_append, List.map_set, List.length_set, List.map_replicate, List.length_replicate,
      grpS, grpD, grpF, grpL, eop, vop, bop, uop, fltop, convop, endOk, newE, new1, freshL, Md.isNew, outV, pureV, pureX, pure1, AV.cells, AV.one, storable, laid, refless, refless1,
            vload, loadC, storeC, vnil, vfaddr, vextract, flatT, flatE, flatC, vconv, vmm, vidxA, viaddrA, vfield, vlen, elemsOf, dF32, dF64, dI64, dU8, dBool, dStr, esOk, elemsS,
            vsliceX, bnd, ownV, ownC, own1, ownT, isSl, nSl, endL, Md.isOwn, purge, purgeH, purgeB, purgeE, hasName, name1, List.any_cons, List.any_nil, Md.isWr, pureV.pureP,
            Option.map, reduceIte, Nat.reduceEqDiff, Nat.reduceAdd, Nat.reduceMul, Nat.reduceLT, Nat.reduceLeDiff, List.mapM_cons, List.mapM_nil, Option.pure_def,
            Option.bind_eq_bind, Option.bind_some, implies_true, forall_const, beq_self_eq_true, decide_true, decide_false, eq_self, Int.reduceEq, Int.reduceLE, Int.reduceLT,
            if_true, if_false, fc48_0, fc48_1, fc48_2, fc48_3, fc48_4, fc48_5, fc48_6, fc48_7, Int.reduceAdd, Int.reduceSub, Int.reduceMul, Int.reduceNeg, Int.reducePow,
            Nat.reducePow, Int.reduceToNat, Nat.reduceSub, List.replicate, Nat.reduceBEq, wAs, wA, wC, zipW, noDupN, grpE, g_impl_PlaceAt, g_impl_Vector, g_impl_arePoints,
            g_impl_distances, grpC, en0, dc_en0, ↓b_pick, ePk_true, ePk_false] <;> rfl))
theorem sl48_1 (x0 : (List (Nat × Nat × Nat))) (x2 : Int) (z2_0 : (Nat × Nat × Nat)) (z2_1 : (List (Nat × Nat × Nat))) (z2_2 : Int) : ∀ (n : Nat) (z1_0 : (List (Nat × Nat × Nat)))
      (z1_1 : Int) (o : ((Nat × Nat × Nat) × (List (Nat × Nat × Nat)))) (K : IExit → St → Prop), l_impl_ReachFor_1 x0 x2 z2_0 z2_1 z2_2 n z1_0 z1_1 = some o → (∀ st, Wk st (⟨[(0,
      (.sl (List.map en0 x0))), (4, (.lptr 4 0 0)), (8, (.sl (List.map (AV.flt .f32) (m_impl_distances x0)))), (9, (.lsl 26 0 (List.length o.2))), (27, (.int .i64 x2)), (28, (.int
      .i64 z2_2))], [(4, (some ⟨3, false, [(AV.agg [(.flt .f32 o.1.1), (.flt .f32 o.1.2.1), (.flt .f32 o.1.2.2)])]⟩)), (26, (some ⟨3, true, (List.map en0 o.2)⟩))]⟩ : St) → K (.exit
      4) st) → eA (tabOf [(39, wM .any g_impl_PlaceAt), (62, wM (.own [3]) g_impl_Vector), (73, wM .any g_impl_arePoints), (74, wM (.own [1]) g_impl_distances)]) (.loop lb48_1)
      (⟨[(0, (.sl (List.map en0 x0))), (4, (.lptr 4 0 0)), (8, (.sl (List.map (AV.flt .f32) (m_impl_distances x0)))), (9, (.lsl 26 0 (List.length z1_0))), (11, (.int .i64 z1_1)),
      (27, (.int .i64 x2)), (28, (.int .i64 z2_2))], [(4, (some ⟨3, false, [(AV.agg [(.flt .f32 (Option.getD (l_impl_ReachFor_0 x0 x2 z2_0 z2_2 (Int.toNat (IntKind.wrap .i64
      ((((List.length z2_1) : Nat) : Int) - 2)) + 2) (List.set z2_1 (Int.toNat (IntKind.wrap .i64 ((((List.length z2_1) : Nat) : Int) - 1))) z2_0) (IntKind.wrap .i64 ((((List.length
      z2_1) : Nat) : Int) - 2))) default).1.1), (.flt .f32 (Option.getD (l_impl_ReachFor_0 x0 x2 z2_0 z2_2 (Int.toNat (IntKind.wrap .i64 ((((List.length z2_1) : Nat) : Int) - 2)) +
      2) (List.set z2_1 (Int.toNat (IntKind.wrap .i64 ((((List.length z2_1) : Nat) : Int) - 1))) z2_0) (IntKind.wrap .i64 ((((List.length z2_1) : Nat) : Int) - 2))) default).1.2.1),
      (.flt .f32 (Option.getD (l_impl_ReachFor_0 x0 x2 z2_0 z2_2 (Int.toNat (IntKind.wrap .i64 ((((List.length z2_1) : Nat) : Int) - 2)) + 2) (List.set z2_1 (Int.toNat (IntKind.wrap
      .i64 ((((List.length z2_1) : Nat) : Int) - 1))) z2_0) (IntKind.wrap .i64 ((((List.length z2_1) : Nat) : Int) - 2))) default).1.2.2)])]⟩)), (26, (some ⟨3, true, (List.map en0
      z1_0)⟩))]⟩ : St) K := by
  intro n
  induction n with
  | zero =>
    intro z1_0 z1_1 o K h h0
    simp only [l_impl_ReachFor_1, reduceCtorEq] at h
  | succ n ih =>
    intro z1_0 z1_1 o K h h0
    refine eA_loop ?_
    unfold lb48_1
    unfold l_impl_ReachFor_1 at h
    (try simp only [need_iff] at h)
    simp only [
      need_iff, h, grpS, grpD, grpF, grpL, eop, vop, bop, uop, fltop, convop, endOk, newE, new1, freshL, Md.isNew, outV, pureV, pureX, pure1, AV.cells, AV.one, storable, laid,
            refless, refless1, vload, loadC, storeC, vnil, vfaddr, vextract, flatT, flatE, flatC, vconv, vmm, vidxA, viaddrA, vfield, vlen, elemsOf, dF32, dF64, dI64, dU8, dBool,
            dStr, esOk, elemsS, vsliceX, bnd, ownV, ownC, own1, ownT, isSl, nSl, endL, Md.isOwn, purge, purgeH, purgeB, purgeE, hasName, name1, List.any_cons, List.any_nil, Md.isWr,
            pureV.pureP, Option.map, reduceIte, Nat.reduceEqDiff, Nat.reduceAdd, Nat.reduceMul, Nat.reduceLT, Nat.reduceLeDiff, List.mapM_cons, List.mapM_nil, Option.pure_def,
            Option.bind_eq_bind, Option.bind_some, implies_true, forall_const, beq_self_eq_true, decide_true, decide_false, eq_self, Int.reduceEq, Int.reduceLE, Int.reduceLT,
            if_true, if_false, fc48_0, fc48_1, fc48_2, fc48_3, fc48_4, fc48_5, fc48_6, fc48_7, Int.reduceAdd, Int.reduceSub, Int.reduceMul, Int.reduceNeg, Int.reducePow,
            Nat.reducePow, Int.reduceToNat, Nat.reduceSub, List.replicate, Nat.reduceBEq, wAs, wA, wC, zipW, noDupN, grpE, g_impl_PlaceAt, g_impl_Vector, g_impl_arePoints,
            g_impl_distances, grpC, en0, dc_en0, ↓b_pick, ePk_true, ePk_false]
    repeat' (first
      | ((first | (refine eGI_of (fun hc => ?_) (fun hc => ?_)) | (refine eCc_of (fun hc => ?_) (fun hc => ?_)) | (refine ePk_of (fun hc => ?_) (fun hc => ?_)) | (have hc := True.intro; refine KW_refl ?_)) <;> (try simp only [Bool.not_eq_true', Bool.not_eq_false'] at hc) <;> (try simp only [hc, need_iff, reduceCtorEq, Bool.not_eq_true', decide_eq_false_iff_not, Bool.not_true, Bool.not_false, Bool.false_or, Bool.true_or, Bool.true_and, Bool.false_and, Bool.and_eq_true, Bool.or_eq_true, if_true, if_false, reduceIte, Bool.false_eq_true, and_true, true_and, false_or, or_false, decide_eq_true_eq, not_false_eq_true, not_true_eq_false] at h) <;> (try (have hc2 := hc; simp only [decide_eq_true_eq, decide_eq_false_iff_not] at hc2; simp only [hc2, if_true, if_false, reduceCtorEq, Bool.not_eq_true', decide_eq_false_iff_not, Bool.not_true, Bool.not_false, Bool.false_or, Bool.true_or, Bool.true_and, Bool.false_and, Bool.and_eq_true, Bool.or_eq_true, if_true, if_false, reduceIte, Bool.false_eq_true, and_true, true_and, false_or, or_false, decide_eq_true_eq, not_false_eq_true, not_true_eq_false] at h)) <;> simp only [hc,
      need_iff, h, grpS, grpD, grpF, grpL, eop, vop, bop, uop, fltop, convop, endOk, newE, new1, freshL, Md.isNew, outV, pureV, pureX, pure1, AV.cells, AV.one, storable, laid,
            refless, refless1, vload, loadC, storeC, vnil, vfaddr, vextract, flatT, flatE, flatC, vconv, vmm, vidxA, viaddrA, vfield, vlen, elemsOf, dF32, dF64, dI64, dU8, dBool,
            dStr, esOk, elemsS, vsliceX, bnd, ownV, ownC, own1, ownT, isSl, nSl, endL, Md.isOwn, purge, purgeH, purgeB, purgeE, hasName, name1, List.any_cons, List.any_nil, Md.isWr,
            pureV.pureP, Option.map, reduceIte, Nat.reduceEqDiff, Nat.reduceAdd, Nat.reduceMul, Nat.reduceLT, Nat.reduceLeDiff, List.mapM_cons, List.mapM_nil, Option.pure_def,
            Option.bind_eq_bind, Option.bind_some, implies_true, forall_const, beq_self_eq_true, decide_true, decide_false, eq_self, Int.reduceEq, Int.reduceLE, Int.reduceLT,
            if_true, if_false, fc48_0, fc48_1, fc48_2, fc48_3, fc48_4, fc48_5, fc48_6, fc48_7, Int.reduceAdd, Int.reduceSub, Int.reduceMul, Int.reduceNeg, Int.reducePow,
            Nat.reducePow, Int.reduceToNat, Nat.reduceSub, List.replicate, Nat.reduceBEq, wAs, wA, wC, zipW, noDupN, grpE, g_impl_PlaceAt, g_impl_Vector, g_impl_arePoints,
            g_impl_distances, grpC, en0, dc_en0, ↓b_pick, ePk_true, ePk_false]))
    all_goals (repeat (replace h := And.right h))
    all_goals first
      | (refine eA_wk (wk_norm (ks := [0, 4, 8, 9, 11, 27, 28]) (ls := [4, 26]) ?_) (eA_cast ?_ (ih _ _ _ _ h h0)); (simp only [normOk, optIn, blkIn, nameIn,
      need_iff, h, grpS, grpD, grpF, grpL, eop, vop, bop, uop, fltop, convop, endOk, newE, new1, freshL, Md.isNew, outV, pureV, pureX, pure1, AV.cells, AV.one, storable, laid,
            refless, refless1, vload, loadC, storeC, vnil, vfaddr, vextract, flatT, flatE, flatC, vconv, vmm, vidxA, viaddrA, vfield, vlen, elemsOf, dF32, dF64, dI64, dU8, dBool,
            dStr, esOk, elemsS, vsliceX, bnd, ownV, ownC, own1, ownT, isSl, nSl, endL, Md.isOwn, purge, purgeH, purgeB, purgeE, hasName, name1, List.any_cons, List.any_nil, Md.isWr,
            pureV.pureP, Option.map, reduceIte, Nat.reduceEqDiff, Nat.reduceAdd, Nat.reduceMul, Nat.reduceLT, Nat.reduceLeDiff, List.mapM_cons, List.mapM_nil, Option.pure_def,
            Option.bind_eq_bind, Option.bind_some, implies_true, forall_const, beq_self_eq_true, decide_true, decide_false, eq_self, Int.reduceEq, Int.reduceLE, Int.reduceLT,
            if_true, if_false, fc48_0, fc48_1, fc48_2, fc48_3, fc48_4, fc48_5, fc48_6, fc48_7, Int.reduceAdd, Int.reduceSub, Int.reduceMul, Int.reduceNeg, Int.reducePow,
            Nat.reducePow, Int.reduceToNat, Nat.reduceSub, List.replicate, Nat.reduceBEq, wAs, wA, wC, zipW, noDupN, grpE, g_impl_PlaceAt, g_impl_Vector, g_impl_arePoints,
            g_impl_distances, grpC, en0, dc_en0, ↓b_pick, ePk_true, ePk_false] <;> rfl); (simp only [normS, List.map_append, List.length_append, List.map_set, List.length_set, List.map_replicate, List.length_replicate, List.map_nil, List.map_cons,
      need_iff, h, grpS, grpD, grpF, grpL, eop, vop, bop, uop, fltop, convop, endOk, newE, new1, freshL, Md.isNew, outV, pureV, pureX, pure1, AV.cells, AV.one, storable, laid,
            refless, refless1, vload, loadC, storeC, vnil, vfaddr, vextract, flatT, flatE, flatC, vconv, vmm, vidxA, viaddrA, vfield, vlen, elemsOf, dF32, dF64, dI64, dU8, dBool,
            dStr, esOk, elemsS, vsliceX, bnd, ownV, ownC, own1, ownT, isSl, nSl, endL, Md.isOwn, purge, purgeH, purgeB, purgeE, hasName, name1, List.any_cons, List.any_nil, Md.isWr,
            pureV.pureP, Option.map, reduceIte, Nat.reduceEqDiff, Nat.reduceAdd, Nat.reduceMul, Nat.reduceLT, Nat.reduceLeDiff, List.mapM_cons, List.mapM_nil, Option.pure_def,
            Option.bind_eq_bind, Option.bind_some, implies_true, forall_const, beq_self_eq_true, decide_true, decide_false, eq_self, Int.reduceEq, Int.reduceLE, Int.reduceLT,
            if_true, if_false, fc48_0, fc48_1, fc48_2, fc48_3, fc48_4, fc48_5, fc48_6, fc48_7, Int.reduceAdd, Int.reduceSub, Int.reduceMul, Int.reduceNeg, Int.reducePow,
            Nat.reducePow, Int.reduceToNat, Nat.reduceSub, List.replicate, Nat.reduceBEq, wAs, wA, wC, zipW, noDupN, grpE, g_impl_PlaceAt, g_impl_Vector, g_impl_arePoints,
            g_impl_distances, grpC, en0, dc_en0, ↓b_pick, ePk_true, ePk_false] <;> rfl))
      | (cases h; refine h0 _ (Wk.cast (wk_norm (ks := [0, 4, 8, 9, 27, 28]) (ls := [4, 26]) ?_) ?_); (simp only [normOk, optIn, blkIn, nameIn,
      grpS, grpD, grpF, grpL, eop, vop, bop, uop, fltop, convop, endOk, newE, new1, freshL, Md.isNew, outV, pureV, pureX, pure1, AV.cells, AV.one, storable, laid, refless, refless1,
            vload, loadC, storeC, vnil, vfaddr, vextract, flatT, flatE, flatC, vconv, vmm, vidxA, viaddrA, vfield, vlen, elemsOf, dF32, dF64, dI64, dU8, dBool, dStr, esOk, elemsS,
            vsliceX, bnd, ownV, ownC, own1, ownT, isSl, nSl, endL, Md.isOwn, purge, purgeH, purgeB, purgeE, hasName, name1, List.any_cons, List.any_nil, Md.isWr, pureV.pureP,
            Option.map, reduceIte, Nat.reduceEqDiff, Nat.reduceAdd, Nat.reduceMul, Nat.reduceLT, Nat.reduceLeDiff, List.mapM_cons, List.mapM_nil, Option.pure_def,
            Option.bind_eq_bind, Option.bind_some, implies_true, forall_const, beq_self_eq_true, decide_true, decide_false, eq_self, Int.reduceEq, Int.reduceLE, Int.reduceLT,
            if_true, if_false, fc48_0, fc48_1, fc48_2, fc48_3, fc48_4, fc48_5, fc48_6, fc48_7, Int.reduceAdd, Int.reduceSub, Int.reduceMul, Int.reduceNeg, Int.reducePow,
            Nat.reducePow, Int.reduceToNat, Nat.reduceSub, List.replicate, Nat.reduceBEq, wAs, wA, wC, zipW, noDupN, grpE, g_impl_PlaceAt, g_impl_Vector, g_impl_arePoints,
            g_impl_distances, grpC, en0, dc_en0, ↓b_pick, ePk_true, ePk_false] <;> rfl); (simp only [normS, List.map_append, List.length_append, List.map_set, List.length_set, List.map_replicate, List.length_replicate,
      grpS, grpD, grpF, grpL, eop, vop, bop, uop, fltop, convop, endOk, newE, new1, freshL, Md.isNew, outV, pureV, pureX, pure1, AV.cells, AV.one, storable, laid, refless, refless1,
            vload, loadC, storeC, vnil, vfaddr, vextract, flatT, flatE, flatC, vconv, vmm, vidxA, viaddrA, vfield, vlen, elemsOf, dF32, dF64, dI64, dU8, dBool, dStr, esOk, elemsS,
            vsliceX, bnd, ownV, ownC, own1, ownT, isSl, nSl, endL, Md.isOwn, purge, purgeH, purgeB, purgeE, hasName, name1, List.any_cons, List.any_nil, Md.isWr, pureV.pureP,
            Option.map, reduceIte, Nat.reduceEqDiff, Nat.reduceAdd, Nat.reduceMul, Nat.reduceLT, Nat.reduceLeDiff, List.mapM_cons, List.mapM_nil, Option.pure_def,
            Option.bind_eq_bind, Option.bind_some, implies_true, forall_const, beq_self_eq_true, decide_true, decide_false, eq_self, Int.reduceEq, Int.reduceLE, Int.reduceLT,
            if_true, if_false, fc48_0, fc48_1, fc48_2, fc48_3, fc48_4, fc48_5, fc48_6, fc48_7, Int.reduceAdd, Int.reduceSub, Int.reduceMul, Int.reduceNeg, Int.reducePow,
            Nat.reducePow, Int.reduceToNat, Nat.reduceSub, List.replicate, Nat.reduceBEq, wAs, wA, wC, zipW, noDupN, grpE, g_impl_PlaceAt, g_impl_Vector, g_impl_arePoints,
            g_impl_distances, grpC, en0, dc_en0, ↓b_pick, ePk_true, ePk_false] <;> rfl))
theorem sl48_2 (x0 : (List (Nat × Nat × Nat))) (x2 : Int) : ∀ (n : Nat) (z2_0 : (Nat × Nat × Nat)) (z2_1 : (List (Nat × Nat × Nat))) (z2_2 : Int) (o : (List (Nat × Nat × Nat))) (K :
      IExit → St → Prop), l_impl_ReachFor_2 x0 x2 n z2_0 z2_1 z2_2 = some o → (∀ st, Wk st (⟨[(9, (.lsl 26 0 (List.length o)))], [(26, (some ⟨3, true, (List.map en0 o)⟩))]⟩ : St) →
      K (.exit 0) st) → eA (tabOf [(39, wM .any g_impl_PlaceAt), (62, wM (.own [3]) g_impl_Vector), (73, wM .any g_impl_arePoints), (74, wM (.own [1]) g_impl_distances)]) (.loop
      lb48_2) (⟨[(0, (.sl (List.map en0 x0))), (4, (.lptr 4 0 0)), (8, (.sl (List.map (AV.flt .f32) (m_impl_distances x0)))), (9, (.lsl 26 0 (List.length z2_1))), (27, (.int .i64
      x2)), (28, (.int .i64 z2_2))], [(4, (some ⟨3, false, [(AV.agg [(.flt .f32 z2_0.1), (.flt .f32 z2_0.2.1), (.flt .f32 z2_0.2.2)])]⟩)), (26, (some ⟨3, true, (List.map en0
      z2_1)⟩))]⟩ : St) K := by
  intro n
  induction n with
  | zero =>
    intro z2_0 z2_1 z2_2 o K h h0
    simp only [l_impl_ReachFor_2, reduceCtorEq] at h
  | succ n ih =>
    intro z2_0 z2_1 z2_2 o K h h0
    refine eA_loop ?_
    unfold lb48_2
    unfold l_impl_ReachFor_2 at h
    (try simp only [need_iff] at h)
    simp only [
      need_iff, h, grpS, grpD, grpF, grpL, eop, vop, bop, uop, fltop, convop, endOk, newE, new1, freshL, Md.isNew, outV, pureV, pureX, pure1, AV.cells, AV.one, storable, laid,
            refless, refless1, vload, loadC, storeC, vnil, vfaddr, vextract, flatT, flatE, flatC, vconv, vmm, vidxA, viaddrA, vfield, vlen, elemsOf, dF32, dF64, dI64, dU8, dBool,
            dStr, esOk, elemsS, vsliceX, bnd, ownV, ownC, own1, ownT, isSl, nSl, endL, Md.isOwn, purge, purgeH, purgeB, purgeE, hasName, name1, List.any_cons, List.any_nil, Md.isWr,
            pureV.pureP, Option.map, reduceIte, Nat.reduceEqDiff, Nat.reduceAdd, Nat.reduceMul, Nat.reduceLT, Nat.reduceLeDiff, List.mapM_cons, List.mapM_nil, Option.pure_def,
            Option.bind_eq_bind, Option.bind_some, implies_true, forall_const, beq_self_eq_true, decide_true, decide_false, eq_self, Int.reduceEq, Int.reduceLE, Int.reduceLT,
            if_true, if_false, fc48_0, fc48_1, fc48_2, fc48_3, fc48_4, fc48_5, fc48_6, fc48_7, Int.reduceAdd, Int.reduceSub, Int.reduceMul, Int.reduceNeg, Int.reducePow,
            Nat.reducePow, Int.reduceToNat, Nat.reduceSub, List.replicate, Nat.reduceBEq, wAs, wA, wC, zipW, noDupN, grpE, g_impl_PlaceAt, g_impl_Vector, g_impl_arePoints,
            g_impl_distances, grpC, en0, dc_en0, ↓b_pick, ePk_true, ePk_false]
    repeat' (first
      | ((first | (refine eGI_of (fun hc => ?_) (fun hc => ?_)) | (refine eCc_of (fun hc => ?_) (fun hc => ?_)) | (refine ePk_of (fun hc => ?_) (fun hc => ?_)) | (have hc := True.intro; refine KW_refl ?_)) <;> (try simp only [Bool.not_eq_true', Bool.not_eq_false'] at hc) <;> (try simp only [hc, need_iff, reduceCtorEq, Bool.not_eq_true', decide_eq_false_iff_not, Bool.not_true, Bool.not_false, Bool.false_or, Bool.true_or, Bool.true_and, Bool.false_and, Bool.and_eq_true, Bool.or_eq_true, if_true, if_false, reduceIte, Bool.false_eq_true, and_true, true_and, false_or, or_false, decide_eq_true_eq, not_false_eq_true, not_true_eq_false] at h) <;> (try (have hc2 := hc; simp only [decide_eq_true_eq, decide_eq_false_iff_not] at hc2; simp only [hc2, if_true, if_false, reduceCtorEq, Bool.not_eq_true', decide_eq_false_iff_not, Bool.not_true, Bool.not_false, Bool.false_or, Bool.true_or, Bool.true_and, Bool.false_and, Bool.and_eq_true, Bool.or_eq_true, if_true, if_false, reduceIte, Bool.false_eq_true, and_true, true_and, false_or, or_false, decide_eq_true_eq, not_false_eq_true, not_true_eq_false] at h)) <;> simp only [hc,
      need_iff, h, grpS, grpD, grpF, grpL, eop, vop, bop, uop, fltop, convop, endOk, newE, new1, freshL, Md.isNew, outV, pureV, pureX, pure1, AV.cells, AV.one, storable, laid,
            refless, refless1, vload, loadC, storeC, vnil, vfaddr, vextract, flatT, flatE, flatC, vconv, vmm, vidxA, viaddrA, vfield, vlen, elemsOf, dF32, dF64, dI64, dU8, dBool,
            dStr, esOk, elemsS, vsliceX, bnd, ownV, ownC, own1, ownT, isSl, nSl, endL, Md.isOwn, purge, purgeH, purgeB, purgeE, hasName, name1, List.any_cons, List.any_nil, Md.isWr,
            pureV.pureP, Option.map, reduceIte, Nat.reduceEqDiff, Nat.reduceAdd, Nat.reduceMul, Nat.reduceLT, Nat.reduceLeDiff, List.mapM_cons, List.mapM_nil, Option.pure_def,
            Option.bind_eq_bind, Option.bind_some, implies_true, forall_const, beq_self_eq_true, decide_true, decide_false, eq_self, Int.reduceEq, Int.reduceLE, Int.reduceLT,
            if_true, if_false, fc48_0, fc48_1, fc48_2, fc48_3, fc48_4, fc48_5, fc48_6, fc48_7, Int.reduceAdd, Int.reduceSub, Int.reduceMul, Int.reduceNeg, Int.reducePow,
            Nat.reducePow, Int.reduceToNat, Nat.reduceSub, List.replicate, Nat.reduceBEq, wAs, wA, wC, zipW, noDupN, grpE, g_impl_PlaceAt, g_impl_Vector, g_impl_arePoints,
            g_impl_distances, grpC, en0, dc_en0, ↓b_pick, ePk_true, ePk_false])
      | (refine eA_wk (wk_norm (ks := [0, 4, 8, 9, 10, 27, 28]) (ls := [4, 26]) ?_) (eA_cast ?_ (sl48_0 x0 x2 z2_0 z2_2 _ _ _ _ _ (getD_some (d := default) (x := (l_impl_ReachFor_0 x0 x2 z2_0 z2_2 (Int.toNat (IntKind.wrap .i64 ((((List.length z2_1) : Nat) : Int) - 2)) + 2) (List.set z2_1 (Int.toNat (IntKind.wrap .i64 ((((List.length z2_1) : Nat) : Int) - 1))) z2_0) (IntKind.wrap .i64 ((((List.length z2_1) : Nat) : Int) - 2)))) ?_) ?_)); (simp only [nilS, nilV, normOk, optIn, blkIn, nameIn, 
      need_iff, h, grpS, grpD, grpF, grpL, eop, vop, bop, uop, fltop, convop, endOk, newE, new1, freshL, Md.isNew, outV, pureV, pureX, pure1, AV.cells, AV.one, storable, laid,
            refless, refless1, vload, loadC, storeC, vnil, vfaddr, vextract, flatT, flatE, flatC, vconv, vmm, vidxA, viaddrA, vfield, vlen, elemsOf, dF32, dF64, dI64, dU8, dBool,
            dStr, esOk, elemsS, vsliceX, bnd, ownV, ownC, own1, ownT, isSl, nSl, endL, Md.isOwn, purge, purgeH, purgeB, purgeE, hasName, name1, List.any_cons, List.any_nil, Md.isWr,
            pureV.pureP, Option.map, reduceIte, Nat.reduceEqDiff, Nat.reduceAdd, Nat.reduceMul, Nat.reduceLT, Nat.reduceLeDiff, List.mapM_cons, List.mapM_nil, Option.pure_def,
            Option.bind_eq_bind, Option.bind_some, implies_true, forall_const, beq_self_eq_true, decide_true, decide_false, eq_self, Int.reduceEq, Int.reduceLE, Int.reduceLT,
            if_true, if_false, fc48_0, fc48_1, fc48_2, fc48_3, fc48_4, fc48_5, fc48_6, fc48_7, Int.reduceAdd, Int.reduceSub, Int.reduceMul, Int.reduceNeg, Int.reducePow,
            Nat.reducePow, Int.reduceToNat, Nat.reduceSub, List.replicate, Nat.reduceBEq, wAs, wA, wC, zipW, noDupN, grpE, g_impl_PlaceAt, g_impl_Vector, g_impl_arePoints,
            g_impl_distances, grpC, en0, dc_en0, ↓b_pick, ePk_true, ePk_false] <;> rfl); (simp only [nilS, nilV, normS,  List.map_append, List.length_append, List.map_set, List.length_set, List.map_replicate, List.length_replicate, List.map_nil, List.map_cons,
      need_iff, h, grpS, grpD, grpF, grpL, eop, vop, bop, uop, fltop, convop, endOk, newE, new1, freshL, Md.isNew, outV, pureV, pureX, pure1, AV.cells, AV.one, storable, laid,
            refless, refless1, vload, loadC, storeC, vnil, vfaddr, vextract, flatT, flatE, flatC, vconv, vmm, vidxA, viaddrA, vfield, vlen, elemsOf, dF32, dF64, dI64, dU8, dBool,
            dStr, esOk, elemsS, vsliceX, bnd, ownV, ownC, own1, ownT, isSl, nSl, endL, Md.isOwn, purge, purgeH, purgeB, purgeE, hasName, name1, List.any_cons, List.any_nil, Md.isWr,
            pureV.pureP, Option.map, reduceIte, Nat.reduceEqDiff, Nat.reduceAdd, Nat.reduceMul, Nat.reduceLT, Nat.reduceLeDiff, List.mapM_cons, List.mapM_nil, Option.pure_def,
            Option.bind_eq_bind, Option.bind_some, implies_true, forall_const, beq_self_eq_true, decide_true, decide_false, eq_self, Int.reduceEq, Int.reduceLE, Int.reduceLT,
            if_true, if_false, fc48_0, fc48_1, fc48_2, fc48_3, fc48_4, fc48_5, fc48_6, fc48_7, Int.reduceAdd, Int.reduceSub, Int.reduceMul, Int.reduceNeg, Int.reducePow,
            Nat.reducePow, Int.reduceToNat, Nat.reduceSub, List.replicate, Nat.reduceBEq, wAs, wA, wC, zipW, noDupN, grpE, g_impl_PlaceAt, g_impl_Vector, g_impl_arePoints,
            g_impl_distances, grpC, en0, dc_en0, ↓b_pick, ePk_true, ePk_false] <;> rfl); (simp only [h]); (
        intro st2 hw; (try simp only [reduceCtorEq, Bool.not_eq_true', decide_eq_false_iff_not, Bool.not_true, Bool.not_false, Bool.false_or, Bool.true_or, Bool.true_and, Bool.false_and, Bool.and_eq_true, Bool.or_eq_true, if_true, if_false, reduceIte, Bool.false_eq_true, and_true, true_and, false_or, or_false, decide_eq_true_eq, not_false_eq_true, not_true_eq_false] at hp); simp only [
      need_iff, h, grpS, grpD, grpF, grpL, eop, vop, bop, uop, fltop, convop, endOk, newE, new1, freshL, Md.isNew, outV, pureV, pureX, pure1, AV.cells, AV.one, storable, laid,
            refless, refless1, vload, loadC, storeC, vnil, vfaddr, vextract, flatT, flatE, flatC, vconv, vmm, vidxA, viaddrA, vfield, vlen, elemsOf, dF32, dF64, dI64, dU8, dBool,
            dStr, esOk, elemsS, vsliceX, bnd, ownV, ownC, own1, ownT, isSl, nSl, endL, Md.isOwn, purge, purgeH, purgeB, purgeE, hasName, name1, List.any_cons, List.any_nil, Md.isWr,
            pureV.pureP, Option.map, reduceIte, Nat.reduceEqDiff, Nat.reduceAdd, Nat.reduceMul, Nat.reduceLT, Nat.reduceLeDiff, List.mapM_cons, List.mapM_nil, Option.pure_def,
            Option.bind_eq_bind, Option.bind_some, implies_true, forall_const, beq_self_eq_true, decide_true, decide_false, eq_self, Int.reduceEq, Int.reduceLE, Int.reduceLT,
            if_true, if_false, fc48_0, fc48_1, fc48_2, fc48_3, fc48_4, fc48_5, fc48_6, fc48_7, Int.reduceAdd, Int.reduceSub, Int.reduceMul, Int.reduceNeg, Int.reducePow,
            Nat.reducePow, Int.reduceToNat, Nat.reduceSub, List.replicate, Nat.reduceBEq, wAs, wA, wC, zipW, noDupN, grpE, g_impl_PlaceAt, g_impl_Vector, g_impl_arePoints,
            g_impl_distances, grpC, en0, dc_en0, ↓b_pick, ePk_true, ePk_false]; refine KW_of hw ?_; simp only [
      need_iff, h, grpS, grpD, grpF, grpL, eop, vop, bop, uop, fltop, convop, endOk, newE, new1, freshL, Md.isNew, outV, pureV, pureX, pure1, AV.cells, AV.one, storable, laid,
            refless, refless1, vload, loadC, storeC, vnil, vfaddr, vextract, flatT, flatE, flatC, vconv, vmm, vidxA, viaddrA, vfield, vlen, elemsOf, dF32, dF64, dI64, dU8, dBool,
            dStr, esOk, elemsS, vsliceX, bnd, ownV, ownC, own1, ownT, isSl, nSl, endL, Md.isOwn, purge, purgeH, purgeB, purgeE, hasName, name1, List.any_cons, List.any_nil, Md.isWr,
            pureV.pureP, Option.map, reduceIte, Nat.reduceEqDiff, Nat.reduceAdd, Nat.reduceMul, Nat.reduceLT, Nat.reduceLeDiff, List.mapM_cons, List.mapM_nil, Option.pure_def,
            Option.bind_eq_bind, Option.bind_some, implies_true, forall_const, beq_self_eq_true, decide_true, decide_false, eq_self, Int.reduceEq, Int.reduceLE, Int.reduceLT,
            if_true, if_false, fc48_0, fc48_1, fc48_2, fc48_3, fc48_4, fc48_5, fc48_6, fc48_7, Int.reduceAdd, Int.reduceSub, Int.reduceMul, Int.reduceNeg, Int.reducePow,
            Nat.reducePow, Int.reduceToNat, Nat.reduceSub, List.replicate, Nat.reduceBEq, wAs, wA, wC, zipW, noDupN, grpE, g_impl_PlaceAt, g_impl_Vector, g_impl_arePoints,
            g_impl_distances, grpC, en0, dc_en0, ↓b_pick, ePk_true, ePk_false]))
      | (refine eA_wk (wk_norm (ks := [0, 4, 8, 9, 11, 27, 28]) (ls := [4, 26]) ?_) (eA_cast ?_ (sl48_1 x0 x2 z2_0 z2_1 z2_2 _ _ _ _ _ (getD_some (d := default) (x := (l_impl_ReachFor_1 x0 x2 z2_0 z2_1 z2_2 (Int.toNat ((((List.length (List.set (Option.getD (l_impl_ReachFor_0 x0 x2 z2_0 z2_2 (Int.toNat (IntKind.wrap .i64 ((((List.length z2_1) : Nat) : Int) - 2)) + 2) (List.set z2_1 (Int.toNat (IntKind.wrap .i64 ((((List.length z2_1) : Nat) : Int) - 1))) z2_0) (IntKind.wrap .i64 ((((List.length z2_1) : Nat) : Int) - 2))) default).2 (Int.toNat 0) (atI x0 0))) : Nat) : Int) - 1) + 2) (List.set (Option.getD (l_impl_ReachFor_0 x0 x2 z2_0 z2_2 (Int.toNat (IntKind.wrap .i64 ((((List.length z2_1) : Nat) : Int) - 2)) + 2) (List.set z2_1 (Int.toNat (IntKind.wrap .i64 ((((List.length z2_1) : Nat) : Int) - 1))) z2_0) (IntKind.wrap .i64 ((((List.length z2_1) : Nat) : Int) - 2))) default).2 (Int.toNat 0) (atI x0 0)) 1)) ?_) ?_)); (simp only [nilS, nilV, normOk, optIn, blkIn, nameIn, 
      need_iff, h, grpS, grpD, grpF, grpL, eop, vop, bop, uop, fltop, convop, endOk, newE, new1, freshL, Md.isNew, outV, pureV, pureX, pure1, AV.cells, AV.one, storable, laid,
            refless, refless1, vload, loadC, storeC, vnil, vfaddr, vextract, flatT, flatE, flatC, vconv, vmm, vidxA, viaddrA, vfield, vlen, elemsOf, dF32, dF64, dI64, dU8, dBool,
            dStr, esOk, elemsS, vsliceX, bnd, ownV, ownC, own1, ownT, isSl, nSl, endL, Md.isOwn, purge, purgeH, purgeB, purgeE, hasName, name1, List.any_cons, List.any_nil, Md.isWr,
            pureV.pureP, Option.map, reduceIte, Nat.reduceEqDiff, Nat.reduceAdd, Nat.reduceMul, Nat.reduceLT, Nat.reduceLeDiff, List.mapM_cons, List.mapM_nil, Option.pure_def,
            Option.bind_eq_bind, Option.bind_some, implies_true, forall_const, beq_self_eq_true, decide_true, decide_false, eq_self, Int.reduceEq, Int.reduceLE, Int.reduceLT,
            if_true, if_false, fc48_0, fc48_1, fc48_2, fc48_3, fc48_4, fc48_5, fc48_6, fc48_7, Int.reduceAdd, Int.reduceSub, Int.reduceMul, Int.reduceNeg, Int.reducePow,
            Nat.reducePow, Int.reduceToNat, Nat.reduceSub, List.replicate, Nat.reduceBEq, wAs, wA, wC, zipW, noDupN, grpE, g_impl_PlaceAt, g_impl_Vector, g_impl_arePoints,
            g_impl_distances, grpC, en0, dc_en0, ↓b_pick, ePk_true, ePk_false] <;> rfl); (simp only [nilS, nilV, normS,  List.map_append, List.length_append, List.map_set, List.length_set, List.map_replicate, List.length_replicate, List.map_nil, List.map_cons,
      need_iff, h, grpS, grpD, grpF, grpL, eop, vop, bop, uop, fltop, convop, endOk, newE, new1, freshL, Md.isNew, outV, pureV, pureX, pure1, AV.cells, AV.one, storable, laid,
            refless, refless1, vload, loadC, storeC, vnil, vfaddr, vextract, flatT, flatE, flatC, vconv, vmm, vidxA, viaddrA, vfield, vlen, elemsOf, dF32, dF64, dI64, dU8, dBool,
            dStr, esOk, elemsS, vsliceX, bnd, ownV, ownC, own1, ownT, isSl, nSl, endL, Md.isOwn, purge, purgeH, purgeB, purgeE, hasName, name1, List.any_cons, List.any_nil, Md.isWr,
            pureV.pureP, Option.map, reduceIte, Nat.reduceEqDiff, Nat.reduceAdd, Nat.reduceMul, Nat.reduceLT, Nat.reduceLeDiff, List.mapM_cons, List.mapM_nil, Option.pure_def,
            Option.bind_eq_bind, Option.bind_some, implies_true, forall_const, beq_self_eq_true, decide_true, decide_false, eq_self, Int.reduceEq, Int.reduceLE, Int.reduceLT,
            if_true, if_false, fc48_0, fc48_1, fc48_2, fc48_3, fc48_4, fc48_5, fc48_6, fc48_7, Int.reduceAdd, Int.reduceSub, Int.reduceMul, Int.reduceNeg, Int.reducePow,
            Nat.reducePow, Int.reduceToNat, Nat.reduceSub, List.replicate, Nat.reduceBEq, wAs, wA, wC, zipW, noDupN, grpE, g_impl_PlaceAt, g_impl_Vector, g_impl_arePoints,
            g_impl_distances, grpC, en0, dc_en0, ↓b_pick, ePk_true, ePk_false] <;> rfl); (simp only [h]); (
        intro st2 hw; (try simp only [reduceCtorEq, Bool.not_eq_true', decide_eq_false_iff_not, Bool.not_true, Bool.not_false, Bool.false_or, Bool.true_or, Bool.true_and, Bool.false_and, Bool.and_eq_true, Bool.or_eq_true, if_true, if_false, reduceIte, Bool.false_eq_true, and_true, true_and, false_or, or_false, decide_eq_true_eq, not_false_eq_true, not_true_eq_false] at hp); simp only [
      need_iff, h, grpS, grpD, grpF, grpL, eop, vop, bop, uop, fltop, convop, endOk, newE, new1, freshL, Md.isNew, outV, pureV, pureX, pure1, AV.cells, AV.one, storable, laid,
            refless, refless1, vload, loadC, storeC, vnil, vfaddr, vextract, flatT, flatE, flatC, vconv, vmm, vidxA, viaddrA, vfield, vlen, elemsOf, dF32, dF64, dI64, dU8, dBool,
            dStr, esOk, elemsS, vsliceX, bnd, ownV, ownC, own1, ownT, isSl, nSl, endL, Md.isOwn, purge, purgeH, purgeB, purgeE, hasName, name1, List.any_cons, List.any_nil, Md.isWr,
            pureV.pureP, Option.map, reduceIte, Nat.reduceEqDiff, Nat.reduceAdd, Nat.reduceMul, Nat.reduceLT, Nat.reduceLeDiff, List.mapM_cons, List.mapM_nil, Option.pure_def,
            Option.bind_eq_bind, Option.bind_some, implies_true, forall_const, beq_self_eq_true, decide_true, decide_false, eq_self, Int.reduceEq, Int.reduceLE, Int.reduceLT,
            if_true, if_false, fc48_0, fc48_1, fc48_2, fc48_3, fc48_4, fc48_5, fc48_6, fc48_7, Int.reduceAdd, Int.reduceSub, Int.reduceMul, Int.reduceNeg, Int.reducePow,
            Nat.reducePow, Int.reduceToNat, Nat.reduceSub, List.replicate, Nat.reduceBEq, wAs, wA, wC, zipW, noDupN, grpE, g_impl_PlaceAt, g_impl_Vector, g_impl_arePoints,
            g_impl_distances, grpC, en0, dc_en0, ↓b_pick, ePk_true, ePk_false]; refine KW_of hw ?_; simp only [
      need_iff, h, grpS, grpD, grpF, grpL, eop, vop, bop, uop, fltop, convop, endOk, newE, new1, freshL, Md.isNew, outV, pureV, pureX, pure1, AV.cells, AV.one, storable, laid,
            refless, refless1, vload, loadC, storeC, vnil, vfaddr, vextract, flatT, flatE, flatC, vconv, vmm, vidxA, viaddrA, vfield, vlen, elemsOf, dF32, dF64, dI64, dU8, dBool,
            dStr, esOk, elemsS, vsliceX, bnd, ownV, ownC, own1, ownT, isSl, nSl, endL, Md.isOwn, purge, purgeH, purgeB, purgeE, hasName, name1, List.any_cons, List.any_nil, Md.isWr,
            pureV.pureP, Option.map, reduceIte, Nat.reduceEqDiff, Nat.reduceAdd, Nat.reduceMul, Nat.reduceLT, Nat.reduceLeDiff, List.mapM_cons, List.mapM_nil, Option.pure_def,
            Option.bind_eq_bind, Option.bind_some, implies_true, forall_const, beq_self_eq_true, decide_true, decide_false, eq_self, Int.reduceEq, Int.reduceLE, Int.reduceLT,
            if_true, if_false, fc48_0, fc48_1, fc48_2, fc48_3, fc48_4, fc48_5, fc48_6, fc48_7, Int.reduceAdd, Int.reduceSub, Int.reduceMul, Int.reduceNeg, Int.reducePow,
            Nat.reducePow, Int.reduceToNat, Nat.reduceSub, List.replicate, Nat.reduceBEq, wAs, wA, wC, zipW, noDupN, grpE, g_impl_PlaceAt, g_impl_Vector, g_impl_arePoints,
            g_impl_distances, grpC, en0, dc_en0, ↓b_pick, ePk_true, ePk_false])))
    all_goals (repeat (replace h := And.right h))
    all_goals first
      | (refine eA_wk (wk_norm (ks := [0, 4, 8, 9, 27, 28]) (ls := [4, 26]) ?_) (eA_cast ?_ (ih _ _ _ _ _ h h0)); (simp only [normOk, optIn, blkIn, nameIn,
      need_iff, h, grpS, grpD, grpF, grpL, eop, vop, bop, uop, fltop, convop, endOk, newE, new1, freshL, Md.isNew, outV, pureV, pureX, pure1, AV.cells, AV.one, storable, laid,
            refless, refless1, vload, loadC, storeC, vnil, vfaddr, vextract, flatT, flatE, flatC, vconv, vmm, vidxA, viaddrA, vfield, vlen, elemsOf, dF32, dF64, dI64, dU8, dBool,
            dStr, esOk, elemsS, vsliceX, bnd, ownV, ownC, own1, ownT, isSl, nSl, endL, Md.isOwn, purge, purgeH, purgeB, purgeE, hasName, name1, List.any_cons, List.any_nil, Md.isWr,
            pureV.pureP, Option.map, reduceIte, Nat.reduceEqDiff, Nat.reduceAdd, Nat.reduceMul, Nat.reduceLT, Nat.reduceLeDiff, List.mapM_cons, List.mapM_nil, Option.pure_def,
            Option.bind_eq_bind, Option.bind_some, implies_true, forall_const, beq_self_eq_true, decide_true, decide_false, eq_self, Int.reduceEq, Int.reduceLE, Int.reduceLT,
            if_true, if_false, fc48_0, fc48_1, fc48_2, fc48_3, fc48_4, fc48_5, fc48_6, fc48_7, Int.reduceAdd, Int.reduceSub, Int.reduceMul, Int.reduceNeg, Int.reducePow,
            Nat.reducePow, Int.reduceToNat, Nat.reduceSub, List.replicate, Nat.reduceBEq, wAs, wA, wC, zipW, noDupN, grpE, g_impl_PlaceAt, g_impl_Vector, g_impl_arePoints,
            g_impl_distances, grpC, en0, dc_en0, ↓b_pick, ePk_true, ePk_false] <;> rfl); (simp only [normS, List.map_append, List.length_append, List.map_set, List.length_set, List.map_replicate, List.length_replicate, List.map_nil, List.map_cons,
      need_iff, h, grpS, grpD, grpF, grpL, eop, vop, bop, uop, fltop, convop, endOk, newE, new1, freshL, Md.isNew, outV, pureV, pureX, pure1, AV.cells, AV.one, storable, laid,
            refless, refless1, vload, loadC, storeC, vnil, vfaddr, vextract, flatT, flatE, flatC, vconv, vmm, vidxA, viaddrA, vfield, vlen, elemsOf, dF32, dF64, dI64, dU8, dBool,
            dStr, esOk, elemsS, vsliceX, bnd, ownV, ownC, own1, ownT, isSl, nSl, endL, Md.isOwn, purge, purgeH, purgeB, purgeE, hasName, name1, List.any_cons, List.any_nil, Md.isWr,
            pureV.pureP, Option.map, reduceIte, Nat.reduceEqDiff, Nat.reduceAdd, Nat.reduceMul, Nat.reduceLT, Nat.reduceLeDiff, List.mapM_cons, List.mapM_nil, Option.pure_def,
            Option.bind_eq_bind, Option.bind_some, implies_true, forall_const, beq_self_eq_true, decide_true, decide_false, eq_self, Int.reduceEq, Int.reduceLE, Int.reduceLT,
            if_true, if_false, fc48_0, fc48_1, fc48_2, fc48_3, fc48_4, fc48_5, fc48_6, fc48_7, Int.reduceAdd, Int.reduceSub, Int.reduceMul, Int.reduceNeg, Int.reducePow,
            Nat.reducePow, Int.reduceToNat, Nat.reduceSub, List.replicate, Nat.reduceBEq, wAs, wA, wC, zipW, noDupN, grpE, g_impl_PlaceAt, g_impl_Vector, g_impl_arePoints,
            g_impl_distances, grpC, en0, dc_en0, ↓b_pick, ePk_true, ePk_false] <;> rfl))
      | (cases h; refine h0 _ (Wk.cast (wk_norm (ks := [9]) (ls := [26]) ?_) ?_); (simp only [normOk, optIn, blkIn, nameIn,
      grpS, grpD, grpF, grpL, eop, vop, bop, uop, fltop, convop, endOk, newE, new1, freshL, Md.isNew, outV, pureV, pureX, pure1, AV.cells, AV.one, storable, laid, refless, refless1,
            vload, loadC, storeC, vnil, vfaddr, vextract, flatT, flatE, flatC, vconv, vmm, vidxA, viaddrA, vfield, vlen, elemsOf, dF32, dF64, dI64, dU8, dBool, dStr, esOk, elemsS,
            vsliceX, bnd, ownV, ownC, own1, ownT, isSl, nSl, endL, Md.isOwn, purge, purgeH, purgeB, purgeE, hasName, name1, List.any_cons, List.any_nil, Md.isWr, pureV.pureP,
            Option.map, reduceIte, Nat.reduceEqDiff, Nat.reduceAdd, Nat.reduceMul, Nat.reduceLT, Nat.reduceLeDiff, List.mapM_cons, List.mapM_nil, Option.pure_def,
            Option.bind_eq_bind, Option.bind_some, implies_true, forall_const, beq_self_eq_true, decide_true, decide_false, eq_self, Int.reduceEq, Int.reduceLE, Int.reduceLT,
            if_true, if_false, fc48_0, fc48_1, fc48_2, fc48_3, fc48_4, fc48_5, fc48_6, fc48_7, Int.reduceAdd, Int.reduceSub, Int.reduceMul, Int.reduceNeg, Int.reducePow,
            Nat.reducePow, Int.reduceToNat, Nat.reduceSub, List.replicate, Nat.reduceBEq, wAs, wA, wC, zipW, noDupN, grpE, g_impl_PlaceAt, g_impl_Vector, g_impl_arePoints,
            g_impl_distances, grpC, en0, dc_en0, ↓b_pick, ePk_true, ePk_false] <;> rfl); (simp only [normS, List.map_append, List.length_append, List.map_set, List.length_set, List.map_replicate, List.length_replicate,
      grpS, grpD, grpF, grpL, eop, vop, bop, uop, fltop, convop, endOk, newE, new1, freshL, Md.isNew, outV, pureV, pureX, pure1, AV.cells, AV.one, storable, laid, refless, refless1,
            vload, loadC, storeC, vnil, vfaddr, vextract, flatT, flatE, flatC, vconv, vmm, vidxA, viaddrA, vfield, vlen, elemsOf, dF32, dF64, dI64, dU8, dBool, dStr, esOk, elemsS,
            vsliceX, bnd, ownV, ownC, own1, ownT, isSl, nSl, endL, Md.isOwn, purge, purgeH, purgeB, purgeE, hasName, name1, List.any_cons, List.any_nil, Md.isWr, pureV.pureP,
            Option.map, reduceIte, Nat.reduceEqDiff, Nat.reduceAdd, Nat.reduceMul, Nat.reduceLT, Nat.reduceLeDiff, List.mapM_cons, List.mapM_nil, Option.pure_def,
            Option.bind_eq_bind, Option.bind_some, implies_true, forall_const, beq_self_eq_true, decide_true, decide_false, eq_self, Int.reduceEq, Int.reduceLE, Int.reduceLT,
            if_true, if_false, fc48_0, fc48_1, fc48_2, fc48_3, fc48_4, fc48_5, fc48_6, fc48_7, Int.reduceAdd, Int.reduceSub, Int.reduceMul, Int.reduceNeg, Int.reducePow,
            Nat.reducePow, Int.reduceToNat, Nat.reduceSub, List.replicate, Nat.reduceBEq, wAs, wA, wC, zipW, noDupN, grpE, g_impl_PlaceAt, g_impl_Vector, g_impl_arePoints,
            g_impl_distances, grpC, en0, dc_en0, ↓b_pick, ePk_true, ePk_false] <;> rfl))
theorem s48 : ∀ vs r, g_impl_ReachFor vs = some r → SaysM Try.prog (.own [3]) 48 vs r := by
  intro vs r h
  unfold g_impl_ReachFor at h
  split at h
  · rename_i w0 y1 y2 y3 y4
    cases hd_y0 : decL dc_en0 w0 with
    | none => rw [hd_y0] at h; cases h
    | some y0 =>
    rw [hd_y0] at h
    obtain rfl := decL_inv dc_en0_inv hd_y0
    clear hd_y0
    dsimp only at h
    split at h
    · rename_i hp
      cases h
      refine spec_of (m := (.own [3])) (tab := tabOf [(39, wM .any g_impl_PlaceAt), (62, wM (.own [3]) g_impl_Vector), (73, wM .any g_impl_arePoints), (74, wM (.own [1]) g_impl_distances)]) (cp := cp48) (ic := ic48) (rvl := [(.t 6), (.t 7)]) hm (tabOk_cons (m := .any) s39 (tabOk_cons (m := (.own [3])) s62 (tabOk_cons (m := .any) s73 (tabOk_cons (m := (.own [1])) s74 tabOk_nil)))) Try.func48 rfl rfl rfl (by kernel_rfl) rfl (Nat.le_of_ble_eq_true rfl) (Nat.le_of_ble_eq_true rfl) ?_
      show eA _ _ _ _
      unfold ic48
      simp only [p_impl_ReachFor, Bool.and_eq_true, Bool.or_eq_true, decide_eq_true_eq, Bool.not_eq_true', decide_eq_false_iff_not] at hp
      simp only [
          hp, grpS, grpD, grpF, grpL, eop, vop, bop, uop, fltop, convop, endOk, newE, new1, freshL, Md.isNew, outV, pureV, pureX, pure1, AV.cells, AV.one, storable, laid, refless,
                refless1, vload, loadC, storeC, vnil, vfaddr, vextract, flatT, flatE, flatC, vconv, vmm, vidxA, viaddrA, vfield, vlen, elemsOf, dF32, dF64, dI64, dU8, dBool, dStr,
                esOk, elemsS, vsliceX, bnd, ownV, ownC, own1, ownT, isSl, nSl, endL, Md.isOwn, purge, purgeH, purgeB, purgeE, hasName, name1, List.any_cons, List.any_nil, Md.isWr,
                pureV.pureP, Option.map, reduceIte, Nat.reduceEqDiff, Nat.reduceAdd, Nat.reduceMul, Nat.reduceLT, Nat.reduceLeDiff, List.mapM_cons, List.mapM_nil, Option.pure_def,
                Option.bind_eq_bind, Option.bind_some, implies_true, forall_const, beq_self_eq_true, decide_true, decide_false, eq_self, Int.reduceEq, Int.reduceLE, Int.reduceLT,
                if_true, if_false, fc48_0, fc48_1, fc48_2, fc48_3, fc48_4, fc48_5, fc48_6, fc48_7, Int.reduceAdd, Int.reduceSub, Int.reduceMul, Int.reduceNeg, Int.reducePow,
                Nat.reducePow, Int.reduceToNat, Nat.reduceSub, List.replicate, Nat.reduceBEq, wAs, wA, wC, zipW, noDupN, grpE, g_impl_PlaceAt, g_impl_Vector, g_impl_arePoints,
                g_impl_distances, grpC, en0, dc_en0, ↓b_pick, ePk_true, ePk_false]
      repeat' (first
        | ((first | (refine eGI_of (fun h => ?_) (fun h => ?_)) | (refine eCc_of (fun h => ?_) (fun h => ?_)) | (refine ePk_of (fun h => ?_) (fun h => ?_)) | (have h := True.intro; refine KW_refl ?_)) <;> (try simp only [Bool.not_eq_true', Bool.not_eq_false'] at h) <;> (try simp only [h, reduceCtorEq, Bool.not_eq_true', decide_eq_false_iff_not, Bool.not_true, Bool.not_false, Bool.false_or, Bool.true_or, Bool.true_and, Bool.false_and, Bool.and_eq_true, Bool.or_eq_true, if_true, if_false, reduceIte, Bool.false_eq_true, and_true, true_and, false_or, or_false, decide_eq_true_eq, not_false_eq_true, not_true_eq_false] at hp) <;> (try (have h2 := h; simp only [decide_eq_true_eq, decide_eq_false_iff_not] at h2; (first | (replace h2 := eq_false h2) | (replace h2 := eq_true h2)); simp only [h2, if_true, if_false, false_or, true_or, or_true, or_false, and_true, true_and, not_false_eq_true, not_true_eq_false] at hp)) <;> simp only [h,
          hp, grpS, grpD, grpF, grpL, eop, vop, bop, uop, fltop, convop, endOk, newE, new1, freshL, Md.isNew, outV, pureV, pureX, pure1, AV.cells, AV.one, storable, laid, refless,
                refless1, vload, loadC, storeC, vnil, vfaddr, vextract, flatT, flatE, flatC, vconv, vmm, vidxA, viaddrA, vfield, vlen, elemsOf, dF32, dF64, dI64, dU8, dBool, dStr,
                esOk, elemsS, vsliceX, bnd, ownV, ownC, own1, ownT, isSl, nSl, endL, Md.isOwn, purge, purgeH, purgeB, purgeE, hasName, name1, List.any_cons, List.any_nil, Md.isWr,
                pureV.pureP, Option.map, reduceIte, Nat.reduceEqDiff, Nat.reduceAdd, Nat.reduceMul, Nat.reduceLT, Nat.reduceLeDiff, List.mapM_cons, List.mapM_nil, Option.pure_def,
                Option.bind_eq_bind, Option.bind_some, implies_true, forall_const, beq_self_eq_true, decide_true, decide_false, eq_self, Int.reduceEq, Int.reduceLE, Int.reduceLT,
                if_true, if_false, fc48_0, fc48_1, fc48_2, fc48_3, fc48_4, fc48_5, fc48_6, fc48_7, Int.reduceAdd, Int.reduceSub, Int.reduceMul, Int.reduceNeg, Int.reducePow,
                Nat.reducePow, Int.reduceToNat, Nat.reduceSub, List.replicate, Nat.reduceBEq, wAs, wA, wC, zipW, noDupN, grpE, g_impl_PlaceAt, g_impl_Vector, g_impl_arePoints,
                g_impl_distances, grpC, en0, dc_en0, ↓b_pick, ePk_true, ePk_false])
        | (refine eA_wk (wk_norm (ks := [0, 4, 8, 9, 27, 28]) (ls := [4, 26]) ?_) (eA_cast ?_ (sl48_2 y0 y4 _ _ _ _ _ _ (getD_some (d := default) (x := (l_impl_ReachFor_2 y0 y4 (Int.toNat (y4 - 0) + 2) (y1, y2, y3) (m_impl_Vector y0) 0)) ?_) ?_)); (simp only [nilS, nilV, normOk, optIn, blkIn, nameIn, 
          hp, grpS, grpD, grpF, grpL, eop, vop, bop, uop, fltop, convop, endOk, newE, new1, freshL, Md.isNew, outV, pureV, pureX, pure1, AV.cells, AV.one, storable, laid, refless,
                refless1, vload, loadC, storeC, vnil, vfaddr, vextract, flatT, flatE, flatC, vconv, vmm, vidxA, viaddrA, vfield, vlen, elemsOf, dF32, dF64, dI64, dU8, dBool, dStr,
                esOk, elemsS, vsliceX, bnd, ownV, ownC, own1, ownT, isSl, nSl, endL, Md.isOwn, purge, purgeH, purgeB, purgeE, hasName, name1, List.any_cons, List.any_nil, Md.isWr,
                pureV.pureP, Option.map, reduceIte, Nat.reduceEqDiff, Nat.reduceAdd, Nat.reduceMul, Nat.reduceLT, Nat.reduceLeDiff, List.mapM_cons, List.mapM_nil, Option.pure_def,
                Option.bind_eq_bind, Option.bind_some, implies_true, forall_const, beq_self_eq_true, decide_true, decide_false, eq_self, Int.reduceEq, Int.reduceLE, Int.reduceLT,
                if_true, if_false, fc48_0, fc48_1, fc48_2, fc48_3, fc48_4, fc48_5, fc48_6, fc48_7, Int.reduceAdd, Int.reduceSub, Int.reduceMul, Int.reduceNeg, Int.reducePow,
                Nat.reducePow, Int.reduceToNat, Nat.reduceSub, List.replicate, Nat.reduceBEq, wAs, wA, wC, zipW, noDupN, grpE, g_impl_PlaceAt, g_impl_Vector, g_impl_arePoints,
                g_impl_distances, grpC, en0, dc_en0, ↓b_pick, ePk_true, ePk_false] <;> rfl); (simp only [nilS, nilV, normS,  List.map_append, List.length_append, List.map_set, List.length_set, List.map_replicate, List.length_replicate, List.map_nil, List.map_cons,
          hp, grpS, grpD, grpF, grpL, eop, vop, bop, uop, fltop, convop, endOk, newE, new1, freshL, Md.isNew, outV, pureV, pureX, pure1, AV.cells, AV.one, storable, laid, refless,
                refless1, vload, loadC, storeC, vnil, vfaddr, vextract, flatT, flatE, flatC, vconv, vmm, vidxA, viaddrA, vfield, vlen, elemsOf, dF32, dF64, dI64, dU8, dBool, dStr,
                esOk, elemsS, vsliceX, bnd, ownV, ownC, own1, ownT, isSl, nSl, endL, Md.isOwn, purge, purgeH, purgeB, purgeE, hasName, name1, List.any_cons, List.any_nil, Md.isWr,
                pureV.pureP, Option.map, reduceIte, Nat.reduceEqDiff, Nat.reduceAdd, Nat.reduceMul, Nat.reduceLT, Nat.reduceLeDiff, List.mapM_cons, List.mapM_nil, Option.pure_def,
                Option.bind_eq_bind, Option.bind_some, implies_true, forall_const, beq_self_eq_true, decide_true, decide_false, eq_self, Int.reduceEq, Int.reduceLE, Int.reduceLT,
                if_true, if_false, fc48_0, fc48_1, fc48_2, fc48_3, fc48_4, fc48_5, fc48_6, fc48_7, Int.reduceAdd, Int.reduceSub, Int.reduceMul, Int.reduceNeg, Int.reducePow,
                Nat.reducePow, Int.reduceToNat, Nat.reduceSub, List.replicate, Nat.reduceBEq, wAs, wA, wC, zipW, noDupN, grpE, g_impl_PlaceAt, g_impl_Vector, g_impl_arePoints,
                g_impl_distances, grpC, en0, dc_en0, ↓b_pick, ePk_true, ePk_false] <;> rfl); (simp only [hp]); (
        intro st2 hw; (try simp only [reduceCtorEq, Bool.not_eq_true', decide_eq_false_iff_not, Bool.not_true, Bool.not_false, Bool.false_or, Bool.true_or, Bool.true_and, Bool.false_and, Bool.and_eq_true, Bool.or_eq_true, if_true, if_false, reduceIte, Bool.false_eq_true, and_true, true_and, false_or, or_false, decide_eq_true_eq, not_false_eq_true, not_true_eq_false] at hp); simp only [
          hp, grpS, grpD, grpF, grpL, eop, vop, bop, uop, fltop, convop, endOk, newE, new1, freshL, Md.isNew, outV, pureV, pureX, pure1, AV.cells, AV.one, storable, laid, refless,
                refless1, vload, loadC, storeC, vnil, vfaddr, vextract, flatT, flatE, flatC, vconv, vmm, vidxA, viaddrA, vfield, vlen, elemsOf, dF32, dF64, dI64, dU8, dBool, dStr,
                esOk, elemsS, vsliceX, bnd, ownV, ownC, own1, ownT, isSl, nSl, endL, Md.isOwn, purge, purgeH, purgeB, purgeE, hasName, name1, List.any_cons, List.any_nil, Md.isWr,
                pureV.pureP, Option.map, reduceIte, Nat.reduceEqDiff, Nat.reduceAdd, Nat.reduceMul, Nat.reduceLT, Nat.reduceLeDiff, List.mapM_cons, List.mapM_nil, Option.pure_def,
                Option.bind_eq_bind, Option.bind_some, implies_true, forall_const, beq_self_eq_true, decide_true, decide_false, eq_self, Int.reduceEq, Int.reduceLE, Int.reduceLT,
                if_true, if_false, fc48_0, fc48_1, fc48_2, fc48_3, fc48_4, fc48_5, fc48_6, fc48_7, Int.reduceAdd, Int.reduceSub, Int.reduceMul, Int.reduceNeg, Int.reducePow,
                Nat.reducePow, Int.reduceToNat, Nat.reduceSub, List.replicate, Nat.reduceBEq, wAs, wA, wC, zipW, noDupN, grpE, g_impl_PlaceAt, g_impl_Vector, g_impl_arePoints,
                g_impl_distances, grpC, en0, dc_en0, ↓b_pick, ePk_true, ePk_false]; refine KW_of hw ?_; simp only [
          hp, grpS, grpD, grpF, grpL, eop, vop, bop, uop, fltop, convop, endOk, newE, new1, freshL, Md.isNew, outV, pureV, pureX, pure1, AV.cells, AV.one, storable, laid, refless,
                refless1, vload, loadC, storeC, vnil, vfaddr, vextract, flatT, flatE, flatC, vconv, vmm, vidxA, viaddrA, vfield, vlen, elemsOf, dF32, dF64, dI64, dU8, dBool, dStr,
                esOk, elemsS, vsliceX, bnd, ownV, ownC, own1, ownT, isSl, nSl, endL, Md.isOwn, purge, purgeH, purgeB, purgeE, hasName, name1, List.any_cons, List.any_nil, Md.isWr,
                pureV.pureP, Option.map, reduceIte, Nat.reduceEqDiff, Nat.reduceAdd, Nat.reduceMul, Nat.reduceLT, Nat.reduceLeDiff, List.mapM_cons, List.mapM_nil, Option.pure_def,
                Option.bind_eq_bind, Option.bind_some, implies_true, forall_const, beq_self_eq_true, decide_true, decide_false, eq_self, Int.reduceEq, Int.reduceLE, Int.reduceLT,
                if_true, if_false, fc48_0, fc48_1, fc48_2, fc48_3, fc48_4, fc48_5, fc48_6, fc48_7, Int.reduceAdd, Int.reduceSub, Int.reduceMul, Int.reduceNeg, Int.reducePow,
                Nat.reducePow, Int.reduceToNat, Nat.reduceSub, List.replicate, Nat.reduceBEq, wAs, wA, wC, zipW, noDupN, grpE, g_impl_PlaceAt, g_impl_Vector, g_impl_arePoints,
                g_impl_distances, grpC, en0, dc_en0, ↓b_pick, ePk_true, ePk_false])))
      all_goals (try simp only [*, m_impl_ReachFor, Bool.and_true, Bool.true_and, Bool.and_false, Bool.false_and, Bool.or_true, Bool.true_or, Bool.or_false, Bool.false_or, Bool.not_true, Bool.not_false, Bool.false_eq_true, if_true, if_false, reduceIte, decide_true, decide_false])
      all_goals (try (simp_all; done))
    · cases h
  · cases h
def m_laws_sameFloat (x0 : Nat) (x1 : Nat) : Bool := (if (feq .f64 x0 x0) = true then (if (feq .f64 x1 x1) = true then (if (feq .f64 x0 0) = true then (if (feq .f64 x1 0) = true
      then ((flt .f64 0 (fdiv .f64 4607182418800017408 x0)) == (flt .f64 0 (fdiv .f64 4607182418800017408 x1))) else (feq .f64 x0 x1)) else (feq .f64 x0 x1)) else false) else (!(feq
      .f64 x1 x1)))
def g_laws_sameFloat : List AV → Option AV
  | [.flt .f64 y0, .flt .f64 y1] => some (.bool (m_laws_sameFloat y0 y1))
  | _ => none
def ic61 : ICode := (.seq (.reg [⟨(some 4), none, (.mov (.c (.bool false)))⟩] [0, 1]) (.seq (.seq (.reg [⟨(some 5), none, (.mov (.t 0))⟩, ⟨(some 6), none, (.mov (.t 0))⟩, ⟨(some 7),
      none, (.bin .neq false (.t 5) (.t 6))⟩, ⟨(some 8), none, (.mov (.t 7))⟩, ⟨(some 9), (some (8, false)), (.mov (.t 1))⟩, ⟨(some 10), (some (8, false)), (.mov (.t 1))⟩, ⟨(some
      11), (some (8, false)), (.bin .neq false (.t 9) (.t 10))⟩, ⟨(some 12), none, (.pick (.t 8) (.c (.bool true)) (.t 11))⟩] [0, 1, 12]) (.cond (.t 12) (.seq (.reg [⟨(some 13),
      none, (.mov (.t 0))⟩, ⟨(some 14), none, (.mov (.t 0))⟩, ⟨(some 15), none, (.bin .neq false (.t 13) (.t 14))⟩, ⟨(some 16), none, (.mov (.t 15))⟩, ⟨(some 17), (some (16, true)),
      (.mov (.t 1))⟩, ⟨(some 18), (some (16, true)), (.mov (.t 1))⟩, ⟨(some 19), (some (16, true)), (.bin .neq false (.t 17) (.t 18))⟩, ⟨(some 20), none, (.pick (.t 16) (.t 19) (.c
      (.bool false)))⟩, ⟨(some 4), none, (.mov (.t 20))⟩] [4]) .ret) .skip)) (.seq (.seq (.reg [⟨(some 21), none, (.mov (.t 0))⟩, ⟨(some 22), none, (.bin .eql false (.t 21) (.c
      (.flt .f64 0)))⟩, ⟨(some 23), none, (.mov (.t 22))⟩, ⟨(some 24), (some (23, true)), (.mov (.t 1))⟩, ⟨(some 25), (some (23, true)), (.bin .eql false (.t 24) (.c (.flt .f64
      0)))⟩, ⟨(some 26), none, (.pick (.t 23) (.t 25) (.c (.bool false)))⟩] [0, 1, 26]) (.cond (.t 26) (.seq (.reg [⟨(some 27), none, (.mov (.t 0))⟩, ⟨(some 28), none, (.bin .quo
      false (.c (.flt .f64 4607182418800017408)) (.t 27))⟩, ⟨(some 29), none, (.bin .gtr false (.t 28) (.c (.flt .f64 0)))⟩, ⟨(some 30), none, (.mov (.t 1))⟩, ⟨(some 31), none,
      (.bin .quo false (.c (.flt .f64 4607182418800017408)) (.t 30))⟩, ⟨(some 32), none, (.bin .gtr false (.t 31) (.c (.flt .f64 0)))⟩, ⟨(some 33), none, (.bin .eql true (.t 29) (.t
      32))⟩, ⟨(some 4), none, (.mov (.t 33))⟩] [4]) .ret) .skip)) (.seq (.reg [⟨(some 34), none, (.mov (.t 0))⟩, ⟨(some 35), none, (.mov (.t 1))⟩, ⟨(some 36), none, (.bin .eql false
      (.t 34) (.t 35))⟩, ⟨(some 4), none, (.mov (.t 36))⟩] [4]) .ret))))
def cp61 : CP := CP.mk [] [] [[0, 1], [0, 1, 12], [4], [0, 1, 26], [4], [4]] 37
theorem fc61_0 : IntKind.wrap .i64 0 = 0 := by decide
theorem fc61_1 : IntKind.wrap .i64 1 = 1 := by decide
theorem fc61_2 : IntKind.wrap .i64 2 = 2 := by decide
theorem fc61_3 : IntKind.wrap .i64 3 = 3 := by decide
theorem fc61_4 : IntKind.wrap .i64 4 = 4 := by decide
theorem fc61_5 : IntKind.wrap .i64 5 = 5 := by decide
theorem fc61_6 : IntKind.wrap .i64 6 = 6 := by decide
theorem fc61_7 : IntKind.wrap .i64 7 = 7 := by decide
theorem s61 : ∀ vs r, g_laws_sameFloat vs = some r → SaysM Try.prog .any 61 vs r := by
  intro vs r h
  unfold g_laws_sameFloat at h
  split at h
  · rename_i y0 y1
    cases h
    refine spec_of (m := .any) (tab := tabOf []) (cp := cp61) (ic := ic61) (rvl := [(.t 4)]) hm tabOk_nil Try.func61 rfl rfl rfl (by kernel_rfl) rfl (Nat.le_of_ble_eq_true rfl) (Nat.le_of_ble_eq_true rfl) ?_
    show eA _ _ _ _
    unfold ic61
    simp only [
        grpS, grpD, grpF, grpL, eop, vop, bop, uop, fltop, convop, endOk, newE, new1, freshL, Md.isNew, outV, pureV, pureX, pure1, AV.cells, AV.one, storable, laid, refless,
              refless1, vload, loadC, storeC, vnil, vfaddr, vextract, flatT, flatE, flatC, vconv, vmm, vidxA, viaddrA, vfield, vlen, elemsOf, dF32, dF64, dI64, dU8, dBool, dStr,
              esOk, elemsS, vsliceX, bnd, ownV, ownC, own1, ownT, isSl, nSl, endL, Md.isOwn, purge, purgeH, purgeB, purgeE, hasName, name1, List.any_cons, List.any_nil, Md.isWr,
              pureV.pureP, Option.map, reduceIte, Nat.reduceEqDiff, Nat.reduceAdd, Nat.reduceMul, Nat.reduceLT, Nat.reduceLeDiff, List.mapM_cons, List.mapM_nil, Option.pure_def,
              Option.bind_eq_bind, Option.bind_some, implies_true, forall_const, beq_self_eq_true, decide_true, decide_false, eq_self, Int.reduceEq, Int.reduceLE, Int.reduceLT,
              if_true, if_false, fc61_0, fc61_1, fc61_2, fc61_3, fc61_4, fc61_5, fc61_6, fc61_7, Int.reduceAdd, Int.reduceSub, Int.reduceMul, Int.reduceNeg, Int.reducePow,
              Nat.reducePow, Int.reduceToNat, Nat.reduceSub, List.replicate, Nat.reduceBEq, wAs, wA, wC, zipW, noDupN, grpE, grpC, en0, dc_en0, ↓b_pick, ePk_true, ePk_false]
    repeat' (first
      | ((first | (refine eGI_of (fun h => ?_) (fun h => ?_)) | (refine eCc_of (fun h => ?_) (fun h => ?_)) | (refine ePk_of (fun h => ?_) (fun h => ?_))) <;> (try simp only [Bool.not_eq_true', Bool.not_eq_false'] at h) <;> simp only [h,
        grpS, grpD, grpF, grpL, eop, vop, bop, uop, fltop, convop, endOk, newE, new1, freshL, Md.isNew, outV, pureV, pureX, pure1, AV.cells, AV.one, storable, laid, refless,
              refless1, vload, loadC, storeC, vnil, vfaddr, vextract, flatT, flatE, flatC, vconv, vmm, vidxA, viaddrA, vfield, vlen, elemsOf, dF32, dF64, dI64, dU8, dBool, dStr,
              esOk, elemsS, vsliceX, bnd, ownV, ownC, own1, ownT, isSl, nSl, endL, Md.isOwn, purge, purgeH, purgeB, purgeE, hasName, name1, List.any_cons, List.any_nil, Md.isWr,
              pureV.pureP, Option.map, reduceIte, Nat.reduceEqDiff, Nat.reduceAdd, Nat.reduceMul, Nat.reduceLT, Nat.reduceLeDiff, List.mapM_cons, List.mapM_nil, Option.pure_def,
              Option.bind_eq_bind, Option.bind_some, implies_true, forall_const, beq_self_eq_true, decide_true, decide_false, eq_self, Int.reduceEq, Int.reduceLE, Int.reduceLT,
              if_true, if_false, fc61_0, fc61_1, fc61_2, fc61_3, fc61_4, fc61_5, fc61_6, fc61_7, Int.reduceAdd, Int.reduceSub, Int.reduceMul, Int.reduceNeg, Int.reducePow,
              Nat.reducePow, Int.reduceToNat, Nat.reduceSub, List.replicate, Nat.reduceBEq, wAs, wA, wC, zipW, noDupN, grpE, grpC, en0, dc_en0, ↓b_pick, ePk_true, ePk_false]))
    all_goals (try simp only [*, m_laws_sameFloat, Bool.and_true, Bool.true_and, Bool.and_false, Bool.false_and, Bool.or_true, Bool.true_or, Bool.or_false, Bool.false_or, Bool.not_true, Bool.not_false, Bool.false_eq_true, if_true, if_false, reduceIte, decide_true, decide_false])
    all_goals (try (simp_all; done))
  · cases h
def m_laws_eqVector (x0 : (Nat × Nat × Nat)) (x1 : (Nat × Nat × Nat)) : Bool := (if (m_laws_sameFloat (widen x0.1) (widen x1.1)) = true then (if (m_laws_sameFloat (widen x0.2.1)
      (widen x1.2.1)) = true then (if (m_laws_sameFloat (widen x0.2.2) (widen x1.2.2)) = true then true else false) else false) else false)
def g_laws_eqVector : List AV → Option AV
  | [.agg [.flt .f32 y0, .flt .f32 y1, .flt .f32 y2], .agg [.flt .f32 y3, .flt .f32 y4, .flt .f32 y5]] => some (.bool (m_laws_eqVector (y0,
      y1, y2) (y3, y4, y5)))
  | _ => none
def ic40 : ICode := (.seq (.reg [⟨(some 2), none, (.box 3 (.t 0))⟩, ⟨(some 3), none, (.box 3 (.t 1))⟩, ⟨(some 4), none, (.mov (.c (.bool false)))⟩] [2, 3]) (.seq (.seq (.reg [⟨(some
      5), none, (.faddr 0 (.t 2))⟩, ⟨(some 6), none, (.load none (.t 5))⟩, ⟨(some 7), none, (.conv (.flt .f64) (.t 6))⟩, ⟨(some 8), none, (.faddr 0 (.t 3))⟩, ⟨(some 9), none, (.load
      none (.t 8))⟩, ⟨(some 10), none, (.conv (.flt .f64) (.t 9))⟩, ⟨(some 11), none, (.call (.fn 61) [(.t 7), (.t 10)] [])⟩, ⟨(some 12), none, (.un .not (.t 11))⟩] [2, 3, 12])
      (.cond (.t 12) (.seq (.reg [⟨(some 4), none, (.mov (.c (.bool false)))⟩] [4]) .ret) .skip)) (.seq (.seq (.reg [⟨(some 13), none, (.faddr 1 (.t 2))⟩, ⟨(some 14), none, (.load
      none (.t 13))⟩, ⟨(some 15), none, (.conv (.flt .f64) (.t 14))⟩, ⟨(some 16), none, (.faddr 1 (.t 3))⟩, ⟨(some 17), none, (.load none (.t 16))⟩, ⟨(some 18), none, (.conv (.flt
      .f64) (.t 17))⟩, ⟨(some 19), none, (.call (.fn 61) [(.t 15), (.t 18)] [])⟩, ⟨(some 20), none, (.un .not (.t 19))⟩] [2, 3, 20]) (.cond (.t 20) (.seq (.reg [⟨(some 4), none,
      (.mov (.c (.bool false)))⟩] [4]) .ret) .skip)) (.seq (.seq (.reg [⟨(some 21), none, (.faddr 2 (.t 2))⟩, ⟨(some 22), none, (.load none (.t 21))⟩, ⟨(some 23), none, (.conv (.flt
      .f64) (.t 22))⟩, ⟨(some 24), none, (.faddr 2 (.t 3))⟩, ⟨(some 25), none, (.load none (.t 24))⟩, ⟨(some 26), none, (.conv (.flt .f64) (.t 25))⟩, ⟨(some 27), none, (.call (.fn
      61) [(.t 23), (.t 26)] [])⟩, ⟨(some 28), none, (.un .not (.t 27))⟩] [28]) (.cond (.t 28) (.seq (.reg [⟨(some 4), none, (.mov (.c (.bool false)))⟩] [4]) .ret) .skip)) (.seq
      (.reg [⟨(some 4), none, (.mov (.c (.bool true)))⟩] [4]) .ret)))))
def cp40 : CP := CP.mk [] [] [[2, 3], [2, 3, 12], [4], [2, 3, 20], [4], [28], [4], [4]] 29
theorem fc40_0 : IntKind.wrap .i64 0 = 0 := by decide
theorem fc40_1 : IntKind.wrap .i64 1 = 1 := by decide
theorem fc40_2 : IntKind.wrap .i64 2 = 2 := by decide
theorem fc40_3 : IntKind.wrap .i64 3 = 3 := by decide
theorem fc40_4 : IntKind.wrap .i64 4 = 4 := by decide
theorem fc40_5 : IntKind.wrap .i64 5 = 5 := by decide
theorem fc40_6 : IntKind.wrap .i64 6 = 6 := by decide
theorem fc40_7 : IntKind.wrap .i64 7 = 7 := by decide
theorem s40 : ∀ vs r, g_laws_eqVector vs = some r → SaysM Try.prog .any 40 vs r := by
  intro vs r h
  unfold g_laws_eqVector at h
  split at h
  · rename_i y0 y1 y2 y3 y4 y5
    cases h
    refine spec_of (m := .any) (tab := tabOf [(61, wM .any g_laws_sameFloat)]) (cp := cp40) (ic := ic40) (rvl := [(.t 4)]) hm (tabOk_cons (m := .any) s61 tabOk_nil) Try.func40 rfl rfl rfl (by kernel_rfl) rfl (Nat.le_of_ble_eq_true rfl) (Nat.le_of_ble_eq_true rfl) ?_
    show eA _ _ _ _
    unfold ic40
    simp only [
        grpS, grpD, grpF, grpL, eop, vop, bop, uop, fltop, convop, endOk, newE, new1, freshL, Md.isNew, outV, pureV, pureX, pure1, AV.cells, AV.one, storable, laid, refless,
              refless1, vload, loadC, storeC, vnil, vfaddr, vextract, flatT, flatE, flatC, vconv, vmm, vidxA, viaddrA, vfield, vlen, elemsOf, dF32, dF64, dI64, dU8, dBool, dStr,
              esOk, elemsS, vsliceX, bnd, ownV, ownC, own1, ownT, isSl, nSl, endL, Md.isOwn, purge, purgeH, purgeB, purgeE, hasName, name1, List.any_cons, List.any_nil, Md.isWr,
              pureV.pureP, Option.map, reduceIte, Nat.reduceEqDiff, Nat.reduceAdd, Nat.reduceMul, Nat.reduceLT, Nat.reduceLeDiff, List.mapM_cons, List.mapM_nil, Option.pure_def,
              Option.bind_eq_bind, Option.bind_some, implies_true, forall_const, beq_self_eq_true, decide_true, decide_false, eq_self, Int.reduceEq, Int.reduceLE, Int.reduceLT,
              if_true, if_false, fc40_0, fc40_1, fc40_2, fc40_3, fc40_4, fc40_5, fc40_6, fc40_7, Int.reduceAdd, Int.reduceSub, Int.reduceMul, Int.reduceNeg, Int.reducePow,
              Nat.reducePow, Int.reduceToNat, Nat.reduceSub, List.replicate, Nat.reduceBEq, wAs, wA, wC, zipW, noDupN, grpE, g_laws_sameFloat, grpC, en0, dc_en0]
    repeat' (first
      | ((first | (refine eGI_of (fun h => ?_) (fun h => ?_)) | (refine eCc_of (fun h => ?_) (fun h => ?_))) <;> (try simp only [Bool.not_eq_true', Bool.not_eq_false'] at h) <;> simp only [h,
        grpS, grpD, grpF, grpL, eop, vop, bop, uop, fltop, convop, endOk, newE, new1, freshL, Md.isNew, outV, pureV, pureX, pure1, AV.cells, AV.one, storable, laid, refless,
              refless1, vload, loadC, storeC, vnil, vfaddr, vextract, flatT, flatE, flatC, vconv, vmm, vidxA, viaddrA, vfield, vlen, elemsOf, dF32, dF64, dI64, dU8, dBool, dStr,
              esOk, elemsS, vsliceX, bnd, ownV, ownC, own1, ownT, isSl, nSl, endL, Md.isOwn, purge, purgeH, purgeB, purgeE, hasName, name1, List.any_cons, List.any_nil, Md.isWr,
              pureV.pureP, Option.map, reduceIte, Nat.reduceEqDiff, Nat.reduceAdd, Nat.reduceMul, Nat.reduceLT, Nat.reduceLeDiff, List.mapM_cons, List.mapM_nil, Option.pure_def,
              Option.bind_eq_bind, Option.bind_some, implies_true, forall_const, beq_self_eq_true, decide_true, decide_false, eq_self, Int.reduceEq, Int.reduceLE, Int.reduceLT,
              if_true, if_false, fc40_0, fc40_1, fc40_2, fc40_3, fc40_4, fc40_5, fc40_6, fc40_7, Int.reduceAdd, Int.reduceSub, Int.reduceMul, Int.reduceNeg, Int.reducePow,
              Nat.reducePow, Int.reduceToNat, Nat.reduceSub, List.replicate, Nat.reduceBEq, wAs, wA, wC, zipW, noDupN, grpE, g_laws_sameFloat, grpC, en0, dc_en0]))
    all_goals (try simp only [*, m_laws_eqVector, Bool.and_true, Bool.true_and, Bool.and_false, Bool.false_and, Bool.or_true, Bool.true_or, Bool.or_false, Bool.false_or, Bool.not_true, Bool.not_false, Bool.false_eq_true, if_true, if_false, reduceIte, decide_true, decide_false])
    all_goals (try (simp_all; done))
  · cases h
def l_laws_eqVectorS_0 (x0 : (List (Nat × Nat × Nat))) (x1 : (List (Nat × Nat × Nat))) : Nat → Int → Option (Bool × Bool × Unit)
  | 0, _ => none
  | n + 1, z0_0 => (if (decide (z0_0 < ((List.length x0 : Nat) : Int))) = true then (need (inB z0_0 (List.length x0)) (need (inB z0_0 (List.length x1)) (if (m_laws_eqVector (atI x0
        z0_0) (atI x1 z0_0)) = true then (l_laws_eqVectorS_0 x0 x1 n (IntKind.wrap .i64 (z0_0 + 1))) else (some (true, false, default))))) else (some (false, default, ())))
def m_laws_eqVectorS (x0 : (List (Nat × Nat × Nat))) (x1 : (List (Nat × Nat × Nat))) : Bool := (if (decide (((List.length x0 : Nat) : Int) = ((List.length x1 : Nat) : Int))) = true
      then (if (Option.getD (l_laws_eqVectorS_0 x0 x1 (Int.toNat (((List.length x0 : Nat) : Int) - 0) + 2) 0) default).1 = true then (Option.getD (l_laws_eqVectorS_0 x0 x1
      (Int.toNat (((List.length x0 : Nat) : Int) - 0) + 2) 0) default).2.1 else true) else false)
def p_laws_eqVectorS (x0 : (List (Nat × Nat × Nat))) (x1 : (List (Nat × Nat × Nat))) : Bool := (!(decide (((List.length x0 : Nat) : Int) = ((List.length x1 : Nat) : Int))) ||
      (Option.isSome (l_laws_eqVectorS_0 x0 x1 (Int.toNat (((List.length x0 : Nat) : Int) - 0) + 2) 0)))
def g_laws_eqVectorS : List AV → Option AV
  | [.sl w0, .sl w1] => (match decL dc_en0 w0 with | some y0 => ((match decL dc_en0 w1 with | some y1 => (if p_laws_eqVectorS y0 y1 = true then some (.bool (m_laws_eqVectorS y0 y1)) else none) | none => none)) | none => none)
  | _ => none
def lb17_0 : ICode := (.seq (.seq (.reg [⟨(some 11), none, (.mov (.t 5))⟩, ⟨(some 12), none, (.mov (.t 0))⟩, ⟨(some 13), none, (.len false (.t 12))⟩, ⟨(some 14), none, (.bin .lss
      false (.t 11) (.t 13))⟩] [0, 1, 5, 14]) (.cond (.t 14) .skip (.exit 0))) (.seq (.block 1 (.seq (.reg [⟨(some 17), none, (.mov (.t 0))⟩, ⟨(some 18), none, (.mov (.t 5))⟩,
      ⟨(some 19), none, (.iaddrS 3 (.t 17) (.t 18))⟩, ⟨(some 20), none, (.load (some 3) (.t 19))⟩, ⟨(some 21), none, (.mov (.t 1))⟩, ⟨(some 22), none, (.mov (.t 5))⟩, ⟨(some 23),
      none, (.iaddrS 3 (.t 21) (.t 22))⟩, ⟨(some 24), none, (.load (some 3) (.t 23))⟩, ⟨(some 25), none, (.call (.fn 40) [(.t 20), (.t 24)] [])⟩, ⟨(some 26), none, (.un .not (.t
      25))⟩] [0, 1, 5, 26]) (.cond (.t 26) (.seq (.reg [⟨(some 4), none, (.mov (.c (.bool false)))⟩] [4]) .ret) .skip))) (.reg [⟨(some 15), none, (.mov (.t 5))⟩, ⟨(some 16), none,
      (.bin .add false (.t 15) (.c (.int .i64 1)))⟩, ⟨(some 5), none, (.mov (.t 16))⟩] [0, 1, 5])))
def ic17 : ICode := (.seq (.reg [⟨(some 4), none, (.mov (.c (.bool false)))⟩] [0, 1]) (.seq (.seq (.reg [⟨(some 6), none, (.mov (.t 0))⟩, ⟨(some 7), none, (.len false (.t 6))⟩,
      ⟨(some 8), none, (.mov (.t 1))⟩, ⟨(some 9), none, (.len false (.t 8))⟩, ⟨(some 10), none, (.bin .neq false (.t 7) (.t 9))⟩] [0, 1, 10]) (.cond (.t 10) (.seq (.reg [⟨(some 4),
      none, (.mov (.c (.bool false)))⟩] [4]) .ret) .skip)) (.seq (.seq (.reg [⟨(some 5), none, (.mov (.c (.int .i64 0)))⟩] [0, 1, 5]) (.block 0 (.loop lb17_0))) (.seq (.reg [⟨(some
      4), none, (.mov (.c (.bool true)))⟩] [4]) .ret))))
def cp17 : CP := CP.mk [] [] [[0, 1], [0, 1, 10], [4], [0, 1, 5], [0, 1, 5, 14], [0, 1, 5], [0, 1, 5, 26], [4], [4]] 27
theorem fc17_0 : IntKind.wrap .i64 0 = 0 := by decide
theorem fc17_1 : IntKind.wrap .i64 1 = 1 := by decide
theorem fc17_2 : IntKind.wrap .i64 2 = 2 := by decide
theorem fc17_3 : IntKind.wrap .i64 3 = 3 := by decide
theorem fc17_4 : IntKind.wrap .i64 4 = 4 := by decide
theorem fc17_5 : IntKind.wrap .i64 5 = 5 := by decide
theorem fc17_6 : IntKind.wrap .i64 6 = 6 := by decide
theorem fc17_7 : IntKind.wrap .i64 7 = 7 := by decide
theorem sl17_0 (x0 : (List (Nat × Nat × Nat))) (x1 : (List (Nat × Nat × Nat))) : ∀ (n : Nat) (z0_0 : Int) (o : (Bool × Bool × Unit)) (K : IExit → St → Prop), l_laws_eqVectorS_0 x0
      x1 n z0_0 = some o → (∀ st, o.1 = true → outM .any st [(.t 4)] = some (.bool o.2.1) → K .ret st) → (∀ st, o.1 = false → Wk st (⟨[], []⟩ : St) → K (.exit 0) st) → eA (tabOf
      [(40, wM .any g_laws_eqVector)]) (.loop lb17_0) (⟨[(0, (.sl (List.map en0 x0))), (1, (.sl (List.map en0 x1))), (5, (.int .i64 z0_0))], []⟩ : St) K := by
  intro n
  induction n with
  | zero =>
    intro z0_0 o K h h0 h1
    simp only [l_laws_eqVectorS_0, reduceCtorEq] at h
  | succ n ih =>
    intro z0_0 o K h h0 h1
    refine eA_loop ?_
    unfold lb17_0
    unfold l_laws_eqVectorS_0 at h
    (try simp only [need_iff] at h)
    simp only [
      need_iff, h, grpS, grpD, grpF, grpL, eop, vop, bop, uop, fltop, convop, endOk, newE, new1, freshL, Md.isNew, outV, pureV, pureX, pure1, AV.cells, AV.one, storable, laid,
            refless, refless1, vload, loadC, storeC, vnil, vfaddr, vextract, flatT, flatE, flatC, vconv, vmm, vidxA, viaddrA, vfield, vlen, elemsOf, dF32, dF64, dI64, dU8, dBool,
            dStr, esOk, elemsS, vsliceX, bnd, ownV, ownC, own1, ownT, isSl, nSl, endL, Md.isOwn, purge, purgeH, purgeB, purgeE, hasName, name1, List.any_cons, List.any_nil, Md.isWr,
            pureV.pureP, Option.map, reduceIte, Nat.reduceEqDiff, Nat.reduceAdd, Nat.reduceMul, Nat.reduceLT, Nat.reduceLeDiff, List.mapM_cons, List.mapM_nil, Option.pure_def,
            Option.bind_eq_bind, Option.bind_some, implies_true, forall_const, beq_self_eq_true, decide_true, decide_false, eq_self, Int.reduceEq, Int.reduceLE, Int.reduceLT,
            if_true, if_false, fc17_0, fc17_1, fc17_2, fc17_3, fc17_4, fc17_5, fc17_6, fc17_7, Int.reduceAdd, Int.reduceSub, Int.reduceMul, Int.reduceNeg, Int.reducePow,
            Nat.reducePow, Int.reduceToNat, Nat.reduceSub, List.replicate, Nat.reduceBEq, wAs, wA, wC, zipW, noDupN, grpE, g_laws_eqVector, grpC, en0, dc_en0]
    repeat' (first
      | ((first | (refine eGI_of (fun hc => ?_) (fun hc => ?_)) | (refine eCc_of (fun hc => ?_) (fun hc => ?_)) | (have hc := True.intro; refine KW_refl ?_)) <;> (try simp only [Bool.not_eq_true', Bool.not_eq_false'] at hc) <;> (try simp only [hc, need_iff, reduceCtorEq, Bool.not_eq_true', decide_eq_false_iff_not, Bool.not_true, Bool.not_false, Bool.false_or, Bool.true_or, Bool.true_and, Bool.false_and, Bool.and_eq_true, Bool.or_eq_true, if_true, if_false, reduceIte, Bool.false_eq_true, and_true, true_and, false_or, or_false, decide_eq_true_eq, not_false_eq_true, not_true_eq_false] at h) <;> (try (have hc2 := hc; simp only [decide_eq_true_eq, decide_eq_false_iff_not] at hc2; simp only [hc2, if_true, if_false, reduceCtorEq, Bool.not_eq_true', decide_eq_false_iff_not, Bool.not_true, Bool.not_false, Bool.false_or, Bool.true_or, Bool.true_and, Bool.false_and, Bool.and_eq_true, Bool.or_eq_true, if_true, if_false, reduceIte, Bool.false_eq_true, and_true, true_and, false_or, or_false, decide_eq_true_eq, not_false_eq_true, not_true_eq_false] at h)) <;> simp only [hc,
      need_iff, h, grpS, grpD, grpF, grpL, eop, vop, bop, uop, fltop, convop, endOk, newE, new1, freshL, Md.isNew, outV, pureV, pureX, pure1, AV.cells, AV.one, storable, laid,
            refless, refless1, vload, loadC, storeC, vnil, vfaddr, vextract, flatT, flatE, flatC, vconv, vmm, vidxA, viaddrA, vfield, vlen, elemsOf, dF32, dF64, dI64, dU8, dBool,
            dStr, esOk, elemsS, vsliceX, bnd, ownV, ownC, own1, ownT, isSl, nSl, endL, Md.isOwn, purge, purgeH, purgeB, purgeE, hasName, name1, List.any_cons, List.any_nil, Md.isWr,
            pureV.pureP, Option.map, reduceIte, Nat.reduceEqDiff, Nat.reduceAdd, Nat.reduceMul, Nat.reduceLT, Nat.reduceLeDiff, List.mapM_cons, List.mapM_nil, Option.pure_def,
            Option.bind_eq_bind, Option.bind_some, implies_true, forall_const, beq_self_eq_true, decide_true, decide_false, eq_self, Int.reduceEq, Int.reduceLE, Int.reduceLT,
            if_true, if_false, fc17_0, fc17_1, fc17_2, fc17_3, fc17_4, fc17_5, fc17_6, fc17_7, Int.reduceAdd, Int.reduceSub, Int.reduceMul, Int.reduceNeg, Int.reducePow,
            Nat.reducePow, Int.reduceToNat, Nat.reduceSub, List.replicate, Nat.reduceBEq, wAs, wA, wC, zipW, noDupN, grpE, g_laws_eqVector, grpC, en0, dc_en0]))
    all_goals (repeat (replace h := And.right h))
    all_goals first
      | (refine eA_wk (wk_norm (ks := [0, 1, 5]) (ls := []) ?_) (eA_cast ?_ (ih _ _ _ h h0 h1)); (simp only [normOk, optIn, blkIn, nameIn,
      need_iff, h, grpS, grpD, grpF, grpL, eop, vop, bop, uop, fltop, convop, endOk, newE, new1, freshL, Md.isNew, outV, pureV, pureX, pure1, AV.cells, AV.one, storable, laid,
            refless, refless1, vload, loadC, storeC, vnil, vfaddr, vextract, flatT, flatE, flatC, vconv, vmm, vidxA, viaddrA, vfield, vlen, elemsOf, dF32, dF64, dI64, dU8, dBool,
            dStr, esOk, elemsS, vsliceX, bnd, ownV, ownC, own1, ownT, isSl, nSl, endL, Md.isOwn, purge, purgeH, purgeB, purgeE, hasName, name1, List.any_cons, List.any_nil, Md.isWr,
            pureV.pureP, Option.map, reduceIte, Nat.reduceEqDiff, Nat.reduceAdd, Nat.reduceMul, Nat.reduceLT, Nat.reduceLeDiff, List.mapM_cons, List.mapM_nil, Option.pure_def,
            Option.bind_eq_bind, Option.bind_some, implies_true, forall_const, beq_self_eq_true, decide_true, decide_false, eq_self, Int.reduceEq, Int.reduceLE, Int.reduceLT,
            if_true, if_false, fc17_0, fc17_1, fc17_2, fc17_3, fc17_4, fc17_5, fc17_6, fc17_7, Int.reduceAdd, Int.reduceSub, Int.reduceMul, Int.reduceNeg, Int.reducePow,
            Nat.reducePow, Int.reduceToNat, Nat.reduceSub, List.replicate, Nat.reduceBEq, wAs, wA, wC, zipW, noDupN, grpE, g_laws_eqVector, grpC, en0, dc_en0] <;> rfl); (simp only [normS, List.map_append, List.length_append, List.map_set, List.length_set, List.map_replicate, List.length_replicate, List.map_nil, List.map_cons,
      need_iff, h, grpS, grpD, grpF, grpL, eop, vop, bop, uop, fltop, convop, endOk, newE, new1, freshL, Md.isNew, outV, pureV, pureX, pure1, AV.cells, AV.one, storable, laid,
            refless, refless1, vload, loadC, storeC, vnil, vfaddr, vextract, flatT, flatE, flatC, vconv, vmm, vidxA, viaddrA, vfield, vlen, elemsOf, dF32, dF64, dI64, dU8, dBool,
            dStr, esOk, elemsS, vsliceX, bnd, ownV, ownC, own1, ownT, isSl, nSl, endL, Md.isOwn, purge, purgeH, purgeB, purgeE, hasName, name1, List.any_cons, List.any_nil, Md.isWr,
            pureV.pureP, Option.map, reduceIte, Nat.reduceEqDiff, Nat.reduceAdd, Nat.reduceMul, Nat.reduceLT, Nat.reduceLeDiff, List.mapM_cons, List.mapM_nil, Option.pure_def,
            Option.bind_eq_bind, Option.bind_some, implies_true, forall_const, beq_self_eq_true, decide_true, decide_false, eq_self, Int.reduceEq, Int.reduceLE, Int.reduceLT,
            if_true, if_false, fc17_0, fc17_1, fc17_2, fc17_3, fc17_4, fc17_5, fc17_6, fc17_7, Int.reduceAdd, Int.reduceSub, Int.reduceMul, Int.reduceNeg, Int.reducePow,
            Nat.reducePow, Int.reduceToNat, Nat.reduceSub, List.replicate, Nat.reduceBEq, wAs, wA, wC, zipW, noDupN, grpE, g_laws_eqVector, grpC, en0, dc_en0] <;> rfl))
      | (cases h; refine h0 _ rfl ?_; simp only [
      grpS, grpD, grpF, grpL, eop, vop, bop, uop, fltop, convop, endOk, newE, new1, freshL, Md.isNew, outV, pureV, pureX, pure1, AV.cells, AV.one, storable, laid, refless, refless1,
            vload, loadC, storeC, vnil, vfaddr, vextract, flatT, flatE, flatC, vconv, vmm, vidxA, viaddrA, vfield, vlen, elemsOf, dF32, dF64, dI64, dU8, dBool, dStr, esOk, elemsS,
            vsliceX, bnd, ownV, ownC, own1, ownT, isSl, nSl, endL, Md.isOwn, purge, purgeH, purgeB, purgeE, hasName, name1, List.any_cons, List.any_nil, Md.isWr, pureV.pureP,
            Option.map, reduceIte, Nat.reduceEqDiff, Nat.reduceAdd, Nat.reduceMul, Nat.reduceLT, Nat.reduceLeDiff, List.mapM_cons, List.mapM_nil, Option.pure_def,
            Option.bind_eq_bind, Option.bind_some, implies_true, forall_const, beq_self_eq_true, decide_true, decide_false, eq_self, Int.reduceEq, Int.reduceLE, Int.reduceLT,
            if_true, if_false, fc17_0, fc17_1, fc17_2, fc17_3, fc17_4, fc17_5, fc17_6, fc17_7, Int.reduceAdd, Int.reduceSub, Int.reduceMul, Int.reduceNeg, Int.reducePow,
            Nat.reducePow, Int.reduceToNat, Nat.reduceSub, List.replicate, Nat.reduceBEq, wAs, wA, wC, zipW, noDupN, grpE, g_laws_eqVector, grpC, en0, dc_en0])
      | (cases h; refine h1 _ rfl (Wk.cast (wk_norm (ks := []) (ls := []) ?_) ?_); (simp only [normOk, optIn, blkIn, nameIn,
      grpS, grpD, grpF, grpL, eop, vop, bop, uop, fltop, convop, endOk, newE, new1, freshL, Md.isNew, outV, pureV, pureX, pure1, AV.cells, AV.one, storable, laid, refless, refless1,
            vload, loadC, storeC, vnil, vfaddr, vextract, flatT, flatE, flatC, vconv, vmm, vidxA, viaddrA, vfield, vlen, elemsOf, dF32, dF64, dI64, dU8, dBool, dStr, esOk, elemsS,
            vsliceX, bnd, ownV, ownC, own1, ownT, isSl, nSl, endL, Md.isOwn, purge, purgeH, purgeB, purgeE, hasName, name1, List.any_cons, List.any_nil, Md.isWr, pureV.pureP,
            Option.map, reduceIte, Nat.reduceEqDiff, Nat.reduceAdd, Nat.reduceMul, Nat.reduceLT, Nat.reduceLeDiff, List.mapM_cons, List.mapM_nil, Option.pure_def,
            Option.bind_eq_bind, Option.bind_some, implies_true, forall_const, beq_self_eq_true, decide_true, decide_false, eq_self, Int.reduceEq, Int.reduceLE, Int.reduceLT,
            if_true, if_false, fc17_0, fc17_1, fc17_2, fc17_3, fc17_4, fc17_5, fc17_6, fc17_7, Int.reduceAdd, Int.reduceSub, Int.reduceMul, Int.reduceNeg, Int.reducePow,
            Nat.reducePow, Int.reduceToNat, Nat.reduceSub, List.replicate, Nat.reduceBEq, wAs, wA, wC, zipW, noDupN, grpE, g_laws_eqVector, grpC, en0, dc_en0] <;> rfl); (simp only [normS, List.map_append, List.length_append, List.map_set, List.length_set, List.map_replicate, List.length_replicate,
      grpS, grpD, grpF, grpL, eop, vop, bop, uop, fltop, convop, endOk, newE, new1, freshL, Md.isNew, outV, pureV, pureX, pure1, AV.cells, AV.one, storable, laid, refless, refless1,
            vload, loadC, storeC, vnil, vfaddr, vextract, flatT, flatE, flatC, vconv, vmm, vidxA, viaddrA, vfield, vlen, elemsOf, dF32, dF64, dI64, dU8, dBool, dStr, esOk, elemsS,
            vsliceX, bnd, ownV, ownC, own1, ownT, isSl, nSl, endL, Md.isOwn, purge, purgeH, purgeB, purgeE, hasName, name1, List.any_cons, List.any_nil, Md.isWr, pureV.pureP,
            Option.map, reduceIte, Nat.reduceEqDiff, Nat.reduceAdd, Nat.reduceMul, Nat.reduceLT, Nat.reduceLeDiff, List.mapM_cons, List.mapM_nil, Option.pure_def,
            Option.bind_eq_bind, Option.bind_some, implies_true, forall_const, beq_self_eq_true, decide_true, decide_false, eq_self, Int.reduceEq, Int.reduceLE, Int.reduceLT,
            if_true, if_false, fc17_0, fc17_1, fc17_2, fc17_3, fc17_4, fc17_5, fc17_6, fc17_7, Int.reduceAdd, Int.reduceSub, Int.reduceMul, Int.reduceNeg, Int.reducePow,
            Nat.reducePow, Int.reduceToNat, Nat.reduceSub, List.replicate, Nat.reduceBEq, wAs, wA, wC, zipW, noDupN, grpE, g_laws_eqVector, grpC, en0, dc_en0] <;> rfl))
theorem s17 : ∀ vs r, g_laws_eqVectorS vs = some r → SaysM Try.prog .any 17 vs r := by
  intro vs r h
  unfold g_laws_eqVectorS at h
  split at h
  · rename_i w0 w1
    cases hd_y0 : decL dc_en0 w0 with
    | none => rw [hd_y0] at h; cases h
    | some y0 =>
    rw [hd_y0] at h
    obtain rfl := decL_inv dc_en0_inv hd_y0
    clear hd_y0
    dsimp only at h
    cases hd_y1 : decL dc_en0 w1 with
    | none => rw [hd_y1] at h; cases h
    | some y1 =>
    rw [hd_y1] at h
    obtain rfl := decL_inv dc_en0_inv hd_y1
    clear hd_y1
    dsimp only at h
    split at h
    · rename_i hp
      cases h
      refine spec_of (m := .any) (tab := tabOf [(40, wM .any g_laws_eqVector)]) (cp := cp17) (ic := ic17) (rvl := [(.t 4)]) hm (tabOk_cons (m := .any) s40 tabOk_nil) Try.func17 rfl rfl rfl (by kernel_rfl) rfl (Nat.le_of_ble_eq_true rfl) (Nat.le_of_ble_eq_true rfl) ?_
      show eA _ _ _ _
      unfold ic17
      simp only [p_laws_eqVectorS, Bool.and_eq_true, Bool.or_eq_true, decide_eq_true_eq, Bool.not_eq_true', decide_eq_false_iff_not] at hp
      simp only [
          hp, grpS, grpD, grpF, grpL, eop, vop, bop, uop, fltop, convop, endOk, newE, new1, freshL, Md.isNew, outV, pureV, pureX, pure1, AV.cells, AV.one, storable, laid, refless,
                refless1, vload, loadC, storeC, vnil, vfaddr, vextract, flatT, flatE, flatC, vconv, vmm, vidxA, viaddrA, vfield, vlen, elemsOf, dF32, dF64, dI64, dU8, dBool, dStr,
                esOk, elemsS, vsliceX, bnd, ownV, ownC, own1, ownT, isSl, nSl, endL, Md.isOwn, purge, purgeH, purgeB, purgeE, hasName, name1, List.any_cons, List.any_nil, Md.isWr,
                pureV.pureP, Option.map, reduceIte, Nat.reduceEqDiff, Nat.reduceAdd, Nat.reduceMul, Nat.reduceLT, Nat.reduceLeDiff, List.mapM_cons, List.mapM_nil, Option.pure_def,
                Option.bind_eq_bind, Option.bind_some, implies_true, forall_const, beq_self_eq_true, decide_true, decide_false, eq_self, Int.reduceEq, Int.reduceLE, Int.reduceLT,
                if_true, if_false, fc17_0, fc17_1, fc17_2, fc17_3, fc17_4, fc17_5, fc17_6, fc17_7, Int.reduceAdd, Int.reduceSub, Int.reduceMul, Int.reduceNeg, Int.reducePow,
                Nat.reducePow, Int.reduceToNat, Nat.reduceSub, List.replicate, Nat.reduceBEq, wAs, wA, wC, zipW, noDupN, grpE, g_laws_eqVector, grpC, en0, dc_en0]
      repeat' (first
        | ((first | (refine eGI_of (fun h => ?_) (fun h => ?_)) | (refine eCc_of (fun h => ?_) (fun h => ?_)) | (have h := True.intro; refine KW_refl ?_)) <;> (try simp only [Bool.not_eq_true', Bool.not_eq_false'] at h) <;> (try simp only [h, reduceCtorEq, Bool.not_eq_true', decide_eq_false_iff_not, Bool.not_true, Bool.not_false, Bool.false_or, Bool.true_or, Bool.true_and, Bool.false_and, Bool.and_eq_true, Bool.or_eq_true, if_true, if_false, reduceIte, Bool.false_eq_true, and_true, true_and, false_or, or_false, decide_eq_true_eq, not_false_eq_true, not_true_eq_false] at hp) <;> (try (have h2 := h; simp only [decide_eq_true_eq, decide_eq_false_iff_not] at h2; (first | (replace h2 := eq_false h2) | (replace h2 := eq_true h2)); simp only [h2, if_true, if_false, false_or, true_or, or_true, or_false, and_true, true_and, not_false_eq_true, not_true_eq_false] at hp)) <;> simp only [h,
          hp, grpS, grpD, grpF, grpL, eop, vop, bop, uop, fltop, convop, endOk, newE, new1, freshL, Md.isNew, outV, pureV, pureX, pure1, AV.cells, AV.one, storable, laid, refless,
                refless1, vload, loadC, storeC, vnil, vfaddr, vextract, flatT, flatE, flatC, vconv, vmm, vidxA, viaddrA, vfield, vlen, elemsOf, dF32, dF64, dI64, dU8, dBool, dStr,
                esOk, elemsS, vsliceX, bnd, ownV, ownC, own1, ownT, isSl, nSl, endL, Md.isOwn, purge, purgeH, purgeB, purgeE, hasName, name1, List.any_cons, List.any_nil, Md.isWr,
                pureV.pureP, Option.map, reduceIte, Nat.reduceEqDiff, Nat.reduceAdd, Nat.reduceMul, Nat.reduceLT, Nat.reduceLeDiff, List.mapM_cons, List.mapM_nil, Option.pure_def,
                Option.bind_eq_bind, Option.bind_some, implies_true, forall_const, beq_self_eq_true, decide_true, decide_false, eq_self, Int.reduceEq, Int.reduceLE, Int.reduceLT,
                if_true, if_false, fc17_0, fc17_1, fc17_2, fc17_3, fc17_4, fc17_5, fc17_6, fc17_7, Int.reduceAdd, Int.reduceSub, Int.reduceMul, Int.reduceNeg, Int.reducePow,
                Nat.reducePow, Int.reduceToNat, Nat.reduceSub, List.replicate, Nat.reduceBEq, wAs, wA, wC, zipW, noDupN, grpE, g_laws_eqVector, grpC, en0, dc_en0])
        | (refine eA_wk (wk_norm (ks := [0, 1, 5]) (ls := []) ?_) (eA_cast ?_ (sl17_0 y0 y1 _ _ _ _ (getD_some (d := default) (x := (l_laws_eqVectorS_0 y0 y1 (Int.toNat (((List.length y0 : Nat) : Int) - 0) + 2) 0)) ?_) ?_ ?_)); (simp only [nilS, nilV, normOk, optIn, blkIn, nameIn, 
          hp, grpS, grpD, grpF, grpL, eop, vop, bop, uop, fltop, convop, endOk, newE, new1, freshL, Md.isNew, outV, pureV, pureX, pure1, AV.cells, AV.one, storable, laid, refless,
                refless1, vload, loadC, storeC, vnil, vfaddr, vextract, flatT, flatE, flatC, vconv, vmm, vidxA, viaddrA, vfield, vlen, elemsOf, dF32, dF64, dI64, dU8, dBool, dStr,
                esOk, elemsS, vsliceX, bnd, ownV, ownC, own1, ownT, isSl, nSl, endL, Md.isOwn, purge, purgeH, purgeB, purgeE, hasName, name1, List.any_cons, List.any_nil, Md.isWr,
                pureV.pureP, Option.map, reduceIte, Nat.reduceEqDiff, Nat.reduceAdd, Nat.reduceMul, Nat.reduceLT, Nat.reduceLeDiff, List.mapM_cons, List.mapM_nil, Option.pure_def,
                Option.bind_eq_bind, Option.bind_some, implies_true, forall_const, beq_self_eq_true, decide_true, decide_false, eq_self, Int.reduceEq, Int.reduceLE, Int.reduceLT,
                if_true, if_false, fc17_0, fc17_1, fc17_2, fc17_3, fc17_4, fc17_5, fc17_6, fc17_7, Int.reduceAdd, Int.reduceSub, Int.reduceMul, Int.reduceNeg, Int.reducePow,
                Nat.reducePow, Int.reduceToNat, Nat.reduceSub, List.replicate, Nat.reduceBEq, wAs, wA, wC, zipW, noDupN, grpE, g_laws_eqVector, grpC, en0, dc_en0] <;> rfl); (simp only [nilS, nilV, normS,  List.map_append, List.length_append, List.map_set, List.length_set, List.map_replicate, List.length_replicate, List.map_nil, List.map_cons,
          hp, grpS, grpD, grpF, grpL, eop, vop, bop, uop, fltop, convop, endOk, newE, new1, freshL, Md.isNew, outV, pureV, pureX, pure1, AV.cells, AV.one, storable, laid, refless,
                refless1, vload, loadC, storeC, vnil, vfaddr, vextract, flatT, flatE, flatC, vconv, vmm, vidxA, viaddrA, vfield, vlen, elemsOf, dF32, dF64, dI64, dU8, dBool, dStr,
                esOk, elemsS, vsliceX, bnd, ownV, ownC, own1, ownT, isSl, nSl, endL, Md.isOwn, purge, purgeH, purgeB, purgeE, hasName, name1, List.any_cons, List.any_nil, Md.isWr,
                pureV.pureP, Option.map, reduceIte, Nat.reduceEqDiff, Nat.reduceAdd, Nat.reduceMul, Nat.reduceLT, Nat.reduceLeDiff, List.mapM_cons, List.mapM_nil, Option.pure_def,
                Option.bind_eq_bind, Option.bind_some, implies_true, forall_const, beq_self_eq_true, decide_true, decide_false, eq_self, Int.reduceEq, Int.reduceLE, Int.reduceLT,
                if_true, if_false, fc17_0, fc17_1, fc17_2, fc17_3, fc17_4, fc17_5, fc17_6, fc17_7, Int.reduceAdd, Int.reduceSub, Int.reduceMul, Int.reduceNeg, Int.reducePow,
                Nat.reducePow, Int.reduceToNat, Nat.reduceSub, List.replicate, Nat.reduceBEq, wAs, wA, wC, zipW, noDupN, grpE, g_laws_eqVector, grpC, en0, dc_en0] <;> rfl); (simp only [hp]); (
        intro st2 ht hw; simp only [Kq_ret, Kb_ret, Kl_ret, ret_ok]; first | exact h0 _ hw | exact h0 _ rfl hw | exact h1 _ rfl hw | exact h0 _ ht hw | exact h1 _ ht hw | refine ⟨_, hw, ?_⟩); rotate_left; (
        intro st2 ht hw; (try simp only [ht, reduceCtorEq, Bool.not_eq_true', decide_eq_false_iff_not, Bool.not_true, Bool.not_false, Bool.false_or, Bool.true_or, Bool.true_and, Bool.false_and, Bool.and_eq_true, Bool.or_eq_true, if_true, if_false, reduceIte, Bool.false_eq_true, and_true, true_and, false_or, or_false, decide_eq_true_eq, not_false_eq_true, not_true_eq_false] at hp); simp only [
          hp, grpS, grpD, grpF, grpL, eop, vop, bop, uop, fltop, convop, endOk, newE, new1, freshL, Md.isNew, outV, pureV, pureX, pure1, AV.cells, AV.one, storable, laid, refless,
                refless1, vload, loadC, storeC, vnil, vfaddr, vextract, flatT, flatE, flatC, vconv, vmm, vidxA, viaddrA, vfield, vlen, elemsOf, dF32, dF64, dI64, dU8, dBool, dStr,
                esOk, elemsS, vsliceX, bnd, ownV, ownC, own1, ownT, isSl, nSl, endL, Md.isOwn, purge, purgeH, purgeB, purgeE, hasName, name1, List.any_cons, List.any_nil, Md.isWr,
                pureV.pureP, Option.map, reduceIte, Nat.reduceEqDiff, Nat.reduceAdd, Nat.reduceMul, Nat.reduceLT, Nat.reduceLeDiff, List.mapM_cons, List.mapM_nil, Option.pure_def,
                Option.bind_eq_bind, Option.bind_some, implies_true, forall_const, beq_self_eq_true, decide_true, decide_false, eq_self, Int.reduceEq, Int.reduceLE, Int.reduceLT,
                if_true, if_false, fc17_0, fc17_1, fc17_2, fc17_3, fc17_4, fc17_5, fc17_6, fc17_7, Int.reduceAdd, Int.reduceSub, Int.reduceMul, Int.reduceNeg, Int.reducePow,
                Nat.reducePow, Int.reduceToNat, Nat.reduceSub, List.replicate, Nat.reduceBEq, wAs, wA, wC, zipW, noDupN, grpE, g_laws_eqVector, grpC, en0, dc_en0]; refine KW_of hw ?_; simp only [ht, 
          hp, grpS, grpD, grpF, grpL, eop, vop, bop, uop, fltop, convop, endOk, newE, new1, freshL, Md.isNew, outV, pureV, pureX, pure1, AV.cells, AV.one, storable, laid, refless,
                refless1, vload, loadC, storeC, vnil, vfaddr, vextract, flatT, flatE, flatC, vconv, vmm, vidxA, viaddrA, vfield, vlen, elemsOf, dF32, dF64, dI64, dU8, dBool, dStr,
                esOk, elemsS, vsliceX, bnd, ownV, ownC, own1, ownT, isSl, nSl, endL, Md.isOwn, purge, purgeH, purgeB, purgeE, hasName, name1, List.any_cons, List.any_nil, Md.isWr,
                pureV.pureP, Option.map, reduceIte, Nat.reduceEqDiff, Nat.reduceAdd, Nat.reduceMul, Nat.reduceLT, Nat.reduceLeDiff, List.mapM_cons, List.mapM_nil, Option.pure_def,
                Option.bind_eq_bind, Option.bind_some, implies_true, forall_const, beq_self_eq_true, decide_true, decide_false, eq_self, Int.reduceEq, Int.reduceLE, Int.reduceLT,
                if_true, if_false, fc17_0, fc17_1, fc17_2, fc17_3, fc17_4, fc17_5, fc17_6, fc17_7, Int.reduceAdd, Int.reduceSub, Int.reduceMul, Int.reduceNeg, Int.reducePow,
                Nat.reducePow, Int.reduceToNat, Nat.reduceSub, List.replicate, Nat.reduceBEq, wAs, wA, wC, zipW, noDupN, grpE, g_laws_eqVector, grpC, en0, dc_en0])))
      all_goals (try simp only [*, m_laws_eqVectorS, Bool.and_true, Bool.true_and, Bool.and_false, Bool.false_and, Bool.or_true, Bool.true_or, Bool.or_false, Bool.false_or, Bool.not_true, Bool.not_false, Bool.false_eq_true, if_true, if_false, reduceIte, decide_true, decide_false])
      all_goals (try (simp_all; done))
    · cases h
  · cases h
def l_laws_markVectorS_0 : Nat → (List (Nat × Nat × Nat)) → Int → Int → Option (Int × (List (Nat × Nat × Nat)))
  | 0, _, _, _ => none
  | n + 1, z0_0, z0_1, z0_2 => (if (decide (z0_2 < (((List.length z0_0) : Nat) : Int))) = true then (need (inB z0_2 (List.length z0_0)) (l_laws_markVectorS_0 n (List.set z0_0
        (Int.toNat z0_2) ((ofInt .f32 z0_1), (ofInt .f32 (IntKind.wrap .i64 (z0_1 + 1))), (ofInt .f32 (IntKind.wrap .i64 ((IntKind.wrap .i64 (z0_1 + 1)) + 1))))) (IntKind.wrap .i64
        ((IntKind.wrap .i64 ((IntKind.wrap .i64 (z0_1 + 1)) + 1)) + 1)) (IntKind.wrap .i64 (z0_2 + 1)))) else (some (z0_1, z0_0)))
def m_laws_markVectorS (x0 : (List (Nat × Nat × Nat))) (x1 : Int) : (Int × (List (Nat × Nat × Nat))) := ((Option.getD (l_laws_markVectorS_0 (Int.toNat ((((List.length x0) : Nat) :
      Int) - 0) + 2) x0 x1 0) default).1, (Option.getD (l_laws_markVectorS_0 (Int.toNat ((((List.length x0) : Nat) : Int) - 0) + 2) x0 x1 0) default).2)
def p_laws_markVectorS (x0 : (List (Nat × Nat × Nat))) (x1 : Int) : Bool := ((Option.isSome (l_laws_markVectorS_0 (Int.toNat ((((List.length x0) : Nat) : Int) - 0) + 2) x0 x1 0)) &&
      (decide (List.length (Option.getD (l_laws_markVectorS_0 (Int.toNat ((((List.length x0) : Nat) : Int) - 0) + 2) x0 x1 0) default).2 = List.length x0)))
def g_laws_markVectorS : List AV → Option (AV × Md)
  | [.sl w0, .int .i64 y1] => (match decL dc_en0 w0 with | some y0 => (if p_laws_markVectorS y0 y1 = true then some ((.int .i64 (m_laws_markVectorS y0 y1).1), .wr [3] [List.map en0 (m_laws_markVectorS y0 y1).2]) else none) | none => none)
  | _ => none
def lb23_0 : ICode := (.seq (.seq (.reg [⟨(some 6), none, (.mov (.t 5))⟩, ⟨(some 7), none, (.mov (.t 0))⟩, ⟨(some 8), none, (.len false (.t 7))⟩, ⟨(some 9), none, (.bin .lss false
      (.t 6) (.t 8))⟩] [0, 1, 5, 9]) (.cond (.t 9) .skip (.exit 0))) (.seq (.block 1 (.seq (.reg [⟨(some 12), none, (.mov (.t 0))⟩, ⟨(some 13), none, (.mov (.t 5))⟩, ⟨(some 14),
      none, (.mov (.t 1))⟩, ⟨(some 15), none, (.conv (.flt .f32) (.t 14))⟩, ⟨(some 16), none, (.iaddrS 3 (.t 12) (.t 13))⟩, ⟨(some 17), none, (.faddr 0 (.t 16))⟩, ⟨none, none,
      (.store 1 (.t 17) (.t 15))⟩] [0, 1, 5]) (.seq (.reg [⟨(some 18), none, (.mov (.t 1))⟩, ⟨(some 19), none, (.bin .add false (.t 18) (.c (.int .i64 1)))⟩, ⟨(some 1), none, (.mov
      (.t 19))⟩] [0, 1, 5]) (.seq (.reg [⟨(some 20), none, (.mov (.t 0))⟩, ⟨(some 21), none, (.mov (.t 5))⟩, ⟨(some 22), none, (.mov (.t 1))⟩, ⟨(some 23), none, (.conv (.flt .f32)
      (.t 22))⟩, ⟨(some 24), none, (.iaddrS 3 (.t 20) (.t 21))⟩, ⟨(some 25), none, (.faddr 1 (.t 24))⟩, ⟨none, none, (.store 1 (.t 25) (.t 23))⟩] [0, 1, 5]) (.seq (.reg [⟨(some 26),
      none, (.mov (.t 1))⟩, ⟨(some 27), none, (.bin .add false (.t 26) (.c (.int .i64 1)))⟩, ⟨(some 1), none, (.mov (.t 27))⟩] [0, 1, 5]) (.seq (.reg [⟨(some 28), none, (.mov (.t
      0))⟩, ⟨(some 29), none, (.mov (.t 5))⟩, ⟨(some 30), none, (.mov (.t 1))⟩, ⟨(some 31), none, (.conv (.flt .f32) (.t 30))⟩, ⟨(some 32), none, (.iaddrS 3 (.t 28) (.t 29))⟩,
      ⟨(some 33), none, (.faddr 2 (.t 32))⟩, ⟨none, none, (.store 1 (.t 33) (.t 31))⟩] [0, 1, 5]) (.reg [⟨(some 34), none, (.mov (.t 1))⟩, ⟨(some 35), none, (.bin .add false (.t 34)
      (.c (.int .i64 1)))⟩, ⟨(some 1), none, (.mov (.t 35))⟩] [0, 1, 5]))))))) (.reg [⟨(some 10), none, (.mov (.t 5))⟩, ⟨(some 11), none, (.bin .add false (.t 10) (.c (.int .i64
      1)))⟩, ⟨(some 5), none, (.mov (.t 11))⟩] [0, 1, 5])))
def ic23 : ICode := (.seq (.reg [⟨(some 4), none, (.mov (.c (.int .i64 0)))⟩] [0, 1]) (.seq (.seq (.reg [⟨(some 5), none, (.mov (.c (.int .i64 0)))⟩] [0, 1, 5]) (.block 0 (.loop
      lb23_0))) (.seq (.reg [⟨(some 36), none, (.mov (.t 1))⟩, ⟨(some 4), none, (.mov (.t 36))⟩] [0, 4]) .ret)))
def cp23 : CP := CP.mk [] [] [[0, 1], [0, 1, 5], [0, 1, 5, 9], [0, 1, 5], [0, 1, 5], [0, 1, 5], [0, 1, 5], [0, 1, 5], [0, 1, 5], [0, 1, 5], [0, 4]] 37
theorem fc23_0 : IntKind.wrap .i64 0 = 0 := by decide
theorem fc23_1 : IntKind.wrap .i64 1 = 1 := by decide
theorem fc23_2 : IntKind.wrap .i64 2 = 2 := by decide
theorem fc23_3 : IntKind.wrap .i64 3 = 3 := by decide
theorem fc23_4 : IntKind.wrap .i64 4 = 4 := by decide
theorem fc23_5 : IntKind.wrap .i64 5 = 5 := by decide
theorem fc23_6 : IntKind.wrap .i64 6 = 6 := by decide
theorem fc23_7 : IntKind.wrap .i64 7 = 7 := by decide
theorem sl23_0 : ∀ (n : Nat) (z0_0 : (List (Nat × Nat × Nat))) (z0_1 : Int) (z0_2 : Int) (o : (Int × (List (Nat × Nat × Nat)))) (K : IExit → St → Prop), l_laws_markVectorS_0 n z0_0
      z0_1 z0_2 = some o → (∀ st, Wk st (⟨[(0, (.lsl 1000000 0 (List.length o.2))), (1, (.int .i64 o.1))], [(1000000, (some ⟨3, true, (List.map en0 o.2)⟩))]⟩ : St) → K (.exit 0) st)
      → eA (tabOf []) (.loop lb23_0) (⟨[(0, (.lsl 1000000 0 (List.length z0_0))), (1, (.int .i64 z0_1)), (5, (.int .i64 z0_2))], [(1000000, (some ⟨3, true, (List.map en0 z0_0)⟩))]⟩
      : St) K := by
  intro n
  induction n with
  | zero =>
    intro z0_0 z0_1 z0_2 o K h h0
    simp only [l_laws_markVectorS_0, reduceCtorEq] at h
  | succ n ih =>
    intro z0_0 z0_1 z0_2 o K h h0
    refine eA_loop ?_
    unfold lb23_0
    unfold l_laws_markVectorS_0 at h
    (try simp only [need_iff] at h)
    simp only [
      need_iff, h, grpS, grpD, grpF, grpL, eop, vop, bop, uop, fltop, convop, endOk, newE, new1, freshL, Md.isNew, outV, pureV, pureX, pure1, AV.cells, AV.one, storable, laid,
            refless, refless1, vload, loadC, storeC, vnil, vfaddr, vextract, flatT, flatE, flatC, vconv, vmm, vidxA, viaddrA, vfield, vlen, elemsOf, dF32, dF64, dI64, dU8, dBool,
            dStr, esOk, elemsS, vsliceX, bnd, ownV, ownC, own1, ownT, isSl, nSl, endL, Md.isOwn, purge, purgeH, purgeB, purgeE, hasName, name1, List.any_cons, List.any_nil, Md.isWr,
            pureV.pureP, Option.map, reduceIte, Nat.reduceEqDiff, Nat.reduceAdd, Nat.reduceMul, Nat.reduceLT, Nat.reduceLeDiff, List.mapM_cons, List.mapM_nil, Option.pure_def,
            Option.bind_eq_bind, Option.bind_some, implies_true, forall_const, beq_self_eq_true, decide_true, decide_false, eq_self, Int.reduceEq, Int.reduceLE, Int.reduceLT,
            if_true, if_false, fc23_0, fc23_1, fc23_2, fc23_3, fc23_4, fc23_5, fc23_6, fc23_7, Int.reduceAdd, Int.reduceSub, Int.reduceMul, Int.reduceNeg, Int.reducePow,
            Nat.reducePow, Int.reduceToNat, Nat.reduceSub, List.replicate, Nat.reduceBEq, wAs, wA, wC, zipW, noDupN, grpE, grpC, en0, dc_en0]
    repeat' (first
      | ((first | (refine eGI_of (fun hc => ?_) (fun hc => ?_)) | (refine eCc_of (fun hc => ?_) (fun hc => ?_)) | (have hc := True.intro; refine KW_refl ?_)) <;> (try simp only [Bool.not_eq_true', Bool.not_eq_false'] at hc) <;> (try simp only [hc, need_iff, reduceCtorEq, Bool.not_eq_true', decide_eq_false_iff_not, Bool.not_true, Bool.not_false, Bool.false_or, Bool.true_or, Bool.true_and, Bool.false_and, Bool.and_eq_true, Bool.or_eq_true, if_true, if_false, reduceIte, Bool.false_eq_true, and_true, true_and, false_or, or_false, decide_eq_true_eq, not_false_eq_true, not_true_eq_false] at h) <;> (try (have hc2 := hc; simp only [decide_eq_true_eq, decide_eq_false_iff_not] at hc2; simp only [hc2, if_true, if_false, reduceCtorEq, Bool.not_eq_true', decide_eq_false_iff_not, Bool.not_true, Bool.not_false, Bool.false_or, Bool.true_or, Bool.true_and, Bool.false_and, Bool.and_eq_true, Bool.or_eq_true, if_true, if_false, reduceIte, Bool.false_eq_true, and_true, true_and, false_or, or_false, decide_eq_true_eq, not_false_eq_true, not_true_eq_false] at h)) <;> simp only [hc,
      need_iff, h, grpS, grpD, grpF, grpL, eop, vop, bop, uop, fltop, convop, endOk, newE, new1, freshL, Md.isNew, outV, pureV, pureX, pure1, AV.cells, AV.one, storable, laid,
            refless, refless1, vload, loadC, storeC, vnil, vfaddr, vextract, flatT, flatE, flatC, vconv, vmm, vidxA, viaddrA, vfield, vlen, elemsOf, dF32, dF64, dI64, dU8, dBool,
            dStr, esOk, elemsS, vsliceX, bnd, ownV, ownC, own1, ownT, isSl, nSl, endL, Md.isOwn, purge, purgeH, purgeB, purgeE, hasName, name1, List.any_cons, List.any_nil, Md.isWr,
            pureV.pureP, Option.map, reduceIte, Nat.reduceEqDiff, Nat.reduceAdd, Nat.reduceMul, Nat.reduceLT, Nat.reduceLeDiff, List.mapM_cons, List.mapM_nil, Option.pure_def,
            Option.bind_eq_bind, Option.bind_some, implies_true, forall_const, beq_self_eq_true, decide_true, decide_false, eq_self, Int.reduceEq, Int.reduceLE, Int.reduceLT,
            if_true, if_false, fc23_0, fc23_1, fc23_2, fc23_3, fc23_4, fc23_5, fc23_6, fc23_7, Int.reduceAdd, Int.reduceSub, Int.reduceMul, Int.reduceNeg, Int.reducePow,
            Nat.reducePow, Int.reduceToNat, Nat.reduceSub, List.replicate, Nat.reduceBEq, wAs, wA, wC, zipW, noDupN, grpE, grpC, en0, dc_en0]))
    all_goals (repeat (replace h := And.right h))
    all_goals first
      | (refine eA_wk (wk_norm (ks := [0, 1, 5]) (ls := [1000000]) ?_) (eA_cast ?_ (ih _ _ _ _ _ h h0)); (simp only [normOk, optIn, blkIn, nameIn,
      need_iff, h, grpS, grpD, grpF, grpL, eop, vop, bop, uop, fltop, convop, endOk, newE, new1, freshL, Md.isNew, outV, pureV, pureX, pure1, AV.cells, AV.one, storable, laid,
            refless, refless1, vload, loadC, storeC, vnil, vfaddr, vextract, flatT, flatE, flatC, vconv, vmm, vidxA, viaddrA, vfield, vlen, elemsOf, dF32, dF64, dI64, dU8, dBool,
            dStr, esOk, elemsS, vsliceX, bnd, ownV, ownC, own1, ownT, isSl, nSl, endL, Md.isOwn, purge, purgeH, purgeB, purgeE, hasName, name1, List.any_cons, List.any_nil, Md.isWr,
            pureV.pureP, Option.map, reduceIte, Nat.reduceEqDiff, Nat.reduceAdd, Nat.reduceMul, Nat.reduceLT, Nat.reduceLeDiff, List.mapM_cons, List.mapM_nil, Option.pure_def,
            Option.bind_eq_bind, Option.bind_some, implies_true, forall_const, beq_self_eq_true, decide_true, decide_false, eq_self, Int.reduceEq, Int.reduceLE, Int.reduceLT,
            if_true, if_false, fc23_0, fc23_1, fc23_2, fc23_3, fc23_4, fc23_5, fc23_6, fc23_7, Int.reduceAdd, Int.reduceSub, Int.reduceMul, Int.reduceNeg, Int.reducePow,
            Nat.reducePow, Int.reduceToNat, Nat.reduceSub, List.replicate, Nat.reduceBEq, wAs, wA, wC, zipW, noDupN, grpE, grpC, en0, dc_en0] <;> rfl); (simp only [normS, List.map_append, List.length_append, List.map_set, List.length_set, List.map_replicate, List.length_replicate, List.map_nil, List.map_cons,
      need_iff, h, grpS, grpD, grpF, grpL, eop, vop, bop, uop, fltop, convop, endOk, newE, new1, freshL, Md.isNew, outV, pureV, pureX, pure1, AV.cells, AV.one, storable, laid,
            refless, refless1, vload, loadC, storeC, vnil, vfaddr, vextract, flatT, flatE, flatC, vconv, vmm, vidxA, viaddrA, vfield, vlen, elemsOf, dF32, dF64, dI64, dU8, dBool,
            dStr, esOk, elemsS, vsliceX, bnd, ownV, ownC, own1, ownT, isSl, nSl, endL, Md.isOwn, purge, purgeH, purgeB, purgeE, hasName, name1, List.any_cons, List.any_nil, Md.isWr,
            pureV.pureP, Option.map, reduceIte, Nat.reduceEqDiff, Nat.reduceAdd, Nat.reduceMul, Nat.reduceLT, Nat.reduceLeDiff, List.mapM_cons, List.mapM_nil, Option.pure_def,
            Option.bind_eq_bind, Option.bind_some, implies_true, forall_const, beq_self_eq_true, decide_true, decide_false, eq_self, Int.reduceEq, Int.reduceLE, Int.reduceLT,
            if_true, if_false, fc23_0, fc23_1, fc23_2, fc23_3, fc23_4, fc23_5, fc23_6, fc23_7, Int.reduceAdd, Int.reduceSub, Int.reduceMul, Int.reduceNeg, Int.reducePow,
            Nat.reducePow, Int.reduceToNat, Nat.reduceSub, List.replicate, Nat.reduceBEq, wAs, wA, wC, zipW, noDupN, grpE, grpC, en0, dc_en0] <;> rfl))
      | (cases h; refine h0 _ (Wk.cast (wk_norm (ks := [0, 1]) (ls := [1000000]) ?_) ?_); (simp only [normOk, optIn, blkIn, nameIn,
      grpS, grpD, grpF, grpL, eop, vop, bop, uop, fltop, convop, endOk, newE, new1, freshL, Md.isNew, outV, pureV, pureX, pure1, AV.cells, AV.one, storable, laid, refless, refless1,
            vload, loadC, storeC, vnil, vfaddr, vextract, flatT, flatE, flatC, vconv, vmm, vidxA, viaddrA, vfield, vlen, elemsOf, dF32, dF64, dI64, dU8, dBool, dStr, esOk, elemsS,
            vsliceX, bnd, ownV, ownC, own1, ownT, isSl, nSl, endL, Md.isOwn, purge, purgeH, purgeB, purgeE, hasName, name1, List.any_cons, List.any_nil, Md.isWr, pureV.pureP,
            Option.map, reduceIte, Nat.reduceEqDiff, Nat.reduceAdd, Nat.reduceMul, Nat.reduceLT, Nat.reduceLeDiff, List.mapM_cons, List.mapM_nil, Option.pure_def,
            Option.bind_eq_bind, Option.bind_some, implies_true, forall_const, beq_self_eq_true, decide_true, decide_false, eq_self, Int.reduceEq, Int.reduceLE, Int.reduceLT,
            if_true, if_false, fc23_0, fc23_1, fc23_2, fc23_3, fc23_4, fc23_5, fc23_6, fc23_7, Int.reduceAdd, Int.reduceSub, Int.reduceMul, Int.reduceNeg, Int.reducePow,
            Nat.reducePow, Int.reduceToNat, Nat.reduceSub, List.replicate, Nat.reduceBEq, wAs, wA, wC, zipW, noDupN, grpE, grpC, en0, dc_en0] <;> rfl); (simp only [normS, List.map_append, List.length_append, List.map_set, List.length_set, List.map_replicate, List.length_replicate,
      grpS, grpD, grpF, grpL, eop, vop, bop, uop, fltop, convop, endOk, newE, new1, freshL, Md.isNew, outV, pureV, pureX, pure1, AV.cells, AV.one, storable, laid, refless, refless1,
            vload, loadC, storeC, vnil, vfaddr, vextract, flatT, flatE, flatC, vconv, vmm, vidxA, viaddrA, vfield, vlen, elemsOf, dF32, dF64, dI64, dU8, dBool, dStr, esOk, elemsS,
            vsliceX, bnd, ownV, ownC, own1, ownT, isSl, nSl, endL, Md.isOwn, purge, purgeH, purgeB, purgeE, hasName, name1, List.any_cons, List.any_nil, Md.isWr, pureV.pureP,
            Option.map, reduceIte, Nat.reduceEqDiff, Nat.reduceAdd, Nat.reduceMul, Nat.reduceLT, Nat.reduceLeDiff, List.mapM_cons, List.mapM_nil, Option.pure_def,
            Option.bind_eq_bind, Option.bind_some, implies_true, forall_const, beq_self_eq_true, decide_true, decide_false, eq_self, Int.reduceEq, Int.reduceLE, Int.reduceLT,
            if_true, if_false, fc23_0, fc23_1, fc23_2, fc23_3, fc23_4, fc23_5, fc23_6, fc23_7, Int.reduceAdd, Int.reduceSub, Int.reduceMul, Int.reduceNeg, Int.reducePow,
            Nat.reducePow, Int.reduceToNat, Nat.reduceSub, List.replicate, Nat.reduceBEq, wAs, wA, wC, zipW, noDupN, grpE, grpC, en0, dc_en0] <;> rfl))
theorem s23 : ∀ vs r m, g_laws_markVectorS vs = some (r, m) → SaysX Try.prog m 23 vs r := by
  intro vs r m h
  unfold g_laws_markVectorS at h
  split at h
  · rename_i w0 y1
    cases hd_y0 : decL dc_en0 w0 with
    | none => rw [hd_y0] at h; cases h
    | some y0 =>
    rw [hd_y0] at h
    obtain rfl := decL_inv dc_en0_inv hd_y0
    clear hd_y0
    dsimp only at h
    split at h
    · rename_i hp
      cases h
      have hz : zipW [(1000000, ⟨3, true, List.map en0 y0⟩)] [List.map en0 (m_laws_markVectorS y0 y1).2] = some [(1000000, ⟨3, true, List.map en0 (m_laws_markVectorS y0 y1).2⟩)] := by simp only [zipW, List.map_cons, List.map_nil, List.length_map, m_laws_markVectorS, p_laws_markVectorS, Bool.and_eq_true, decide_eq_true_eq] at hp ⊢; simp only [hp, if_true]
      refine spec_ofW (tab := tabOf []) (cp := cp23) (ic := ic23) (rvl := [(.t 4)]) (H := [(1000000, ⟨3, true, List.map en0 y0⟩)]) (H' := [(1000000, ⟨3, true, List.map en0 (m_laws_markVectorS y0 y1).2⟩)]) hm tabOk_nil Try.func23 rfl rfl rfl (by kernel_rfl) rfl (Nat.le_of_ble_eq_true rfl) (Nat.le_of_ble_eq_true rfl) (by rfl) hz (by rfl) (by rfl) (by rfl) ?_
      show eA _ _ _ _
      unfold ic23
      simp only [p_laws_markVectorS, Bool.and_eq_true, Bool.or_eq_true, decide_eq_true_eq, Bool.not_eq_true', decide_eq_false_iff_not] at hp
      simp only [
          hp, grpS, grpD, grpF, grpL, eop, vop, bop, uop, fltop, convop, endOk, newE, new1, freshL, Md.isNew, outV, pureV, pureX, pure1, AV.cells, AV.one, storable, laid, refless,
                refless1, vload, loadC, storeC, vnil, vfaddr, vextract, flatT, flatE, flatC, vconv, vmm, vidxA, viaddrA, vfield, vlen, elemsOf, dF32, dF64, dI64, dU8, dBool, dStr,
                esOk, elemsS, vsliceX, bnd, ownV, ownC, own1, ownT, isSl, nSl, endL, Md.isOwn, purge, purgeH, purgeB, purgeE, hasName, name1, List.any_cons, List.any_nil, Md.isWr,
                pureV.pureP, Option.map, reduceIte, Nat.reduceEqDiff, Nat.reduceAdd, Nat.reduceMul, Nat.reduceLT, Nat.reduceLeDiff, List.mapM_cons, List.mapM_nil, Option.pure_def,
                Option.bind_eq_bind, Option.bind_some, implies_true, forall_const, beq_self_eq_true, decide_true, decide_false, eq_self, Int.reduceEq, Int.reduceLE, Int.reduceLT,
                if_true, if_false, fc23_0, fc23_1, fc23_2, fc23_3, fc23_4, fc23_5, fc23_6, fc23_7, Int.reduceAdd, Int.reduceSub, Int.reduceMul, Int.reduceNeg, Int.reducePow,
                Nat.reducePow, Int.reduceToNat, Nat.reduceSub, List.replicate, Nat.reduceBEq, wAs, wA, wC, zipW, noDupN, grpE, grpC, en0, dc_en0, startW, hpIs]
      repeat' (first
        | ((first | (refine eGI_of (fun h => ?_) (fun h => ?_)) | (refine eCc_of (fun h => ?_) (fun h => ?_)) | (have h := True.intro; refine KW_refl ?_)) <;> (try simp only [Bool.not_eq_true', Bool.not_eq_false'] at h) <;> (try simp only [h, reduceCtorEq, Bool.not_eq_true', decide_eq_false_iff_not, Bool.not_true, Bool.not_false, Bool.false_or, Bool.true_or, Bool.true_and, Bool.false_and, Bool.and_eq_true, Bool.or_eq_true, if_true, if_false, reduceIte, Bool.false_eq_true, and_true, true_and, false_or, or_false, decide_eq_true_eq, not_false_eq_true, not_true_eq_false] at hp) <;> (try (have h2 := h; simp only [decide_eq_true_eq, decide_eq_false_iff_not] at h2; (first | (replace h2 := eq_false h2) | (replace h2 := eq_true h2)); simp only [h2, if_true, if_false, false_or, true_or, or_true, or_false, and_true, true_and, not_false_eq_true, not_true_eq_false] at hp)) <;> simp only [h,
          hp, grpS, grpD, grpF, grpL, eop, vop, bop, uop, fltop, convop, endOk, newE, new1, freshL, Md.isNew, outV, pureV, pureX, pure1, AV.cells, AV.one, storable, laid, refless,
                refless1, vload, loadC, storeC, vnil, vfaddr, vextract, flatT, flatE, flatC, vconv, vmm, vidxA, viaddrA, vfield, vlen, elemsOf, dF32, dF64, dI64, dU8, dBool, dStr,
                esOk, elemsS, vsliceX, bnd, ownV, ownC, own1, ownT, isSl, nSl, endL, Md.isOwn, purge, purgeH, purgeB, purgeE, hasName, name1, List.any_cons, List.any_nil, Md.isWr,
                pureV.pureP, Option.map, reduceIte, Nat.reduceEqDiff, Nat.reduceAdd, Nat.reduceMul, Nat.reduceLT, Nat.reduceLeDiff, List.mapM_cons, List.mapM_nil, Option.pure_def,
                Option.bind_eq_bind, Option.bind_some, implies_true, forall_const, beq_self_eq_true, decide_true, decide_false, eq_self, Int.reduceEq, Int.reduceLE, Int.reduceLT,
                if_true, if_false, fc23_0, fc23_1, fc23_2, fc23_3, fc23_4, fc23_5, fc23_6, fc23_7, Int.reduceAdd, Int.reduceSub, Int.reduceMul, Int.reduceNeg, Int.reducePow,
                Nat.reducePow, Int.reduceToNat, Nat.reduceSub, List.replicate, Nat.reduceBEq, wAs, wA, wC, zipW, noDupN, grpE, grpC, en0, dc_en0, startW, hpIs])
        | (refine eA_wk (wk_norm (ks := [0, 1, 5]) (ls := [1000000]) ?_) (eA_cast ?_ (sl23_0 _ _ _ _ _ _ (getD_some (d := default) (x := (l_laws_markVectorS_0 (Int.toNat ((((List.length y0) : Nat) : Int) - 0) + 2) y0 y1 0)) ?_) ?_)); (simp only [nilS, nilV, normOk, optIn, blkIn, nameIn, 
          hp, grpS, grpD, grpF, grpL, eop, vop, bop, uop, fltop, convop, endOk, newE, new1, freshL, Md.isNew, outV, pureV, pureX, pure1, AV.cells, AV.one, storable, laid, refless,
                refless1, vload, loadC, storeC, vnil, vfaddr, vextract, flatT, flatE, flatC, vconv, vmm, vidxA, viaddrA, vfield, vlen, elemsOf, dF32, dF64, dI64, dU8, dBool, dStr,
                esOk, elemsS, vsliceX, bnd, ownV, ownC, own1, ownT, isSl, nSl, endL, Md.isOwn, purge, purgeH, purgeB, purgeE, hasName, name1, List.any_cons, List.any_nil, Md.isWr,
                pureV.pureP, Option.map, reduceIte, Nat.reduceEqDiff, Nat.reduceAdd, Nat.reduceMul, Nat.reduceLT, Nat.reduceLeDiff, List.mapM_cons, List.mapM_nil, Option.pure_def,
                Option.bind_eq_bind, Option.bind_some, implies_true, forall_const, beq_self_eq_true, decide_true, decide_false, eq_self, Int.reduceEq, Int.reduceLE, Int.reduceLT,
                if_true, if_false, fc23_0, fc23_1, fc23_2, fc23_3, fc23_4, fc23_5, fc23_6, fc23_7, Int.reduceAdd, Int.reduceSub, Int.reduceMul, Int.reduceNeg, Int.reducePow,
                Nat.reducePow, Int.reduceToNat, Nat.reduceSub, List.replicate, Nat.reduceBEq, wAs, wA, wC, zipW, noDupN, grpE, grpC, en0, dc_en0, startW, hpIs] <;> rfl); (simp only [nilS, nilV, normS,  List.map_append, List.length_append, List.map_set, List.length_set, List.map_replicate, List.length_replicate, List.map_nil, List.map_cons,
          hp, grpS, grpD, grpF, grpL, eop, vop, bop, uop, fltop, convop, endOk, newE, new1, freshL, Md.isNew, outV, pureV, pureX, pure1, AV.cells, AV.one, storable, laid, refless,
                refless1, vload, loadC, storeC, vnil, vfaddr, vextract, flatT, flatE, flatC, vconv, vmm, vidxA, viaddrA, vfield, vlen, elemsOf, dF32, dF64, dI64, dU8, dBool, dStr,
                esOk, elemsS, vsliceX, bnd, ownV, ownC, own1, ownT, isSl, nSl, endL, Md.isOwn, purge, purgeH, purgeB, purgeE, hasName, name1, List.any_cons, List.any_nil, Md.isWr,
                pureV.pureP, Option.map, reduceIte, Nat.reduceEqDiff, Nat.reduceAdd, Nat.reduceMul, Nat.reduceLT, Nat.reduceLeDiff, List.mapM_cons, List.mapM_nil, Option.pure_def,
                Option.bind_eq_bind, Option.bind_some, implies_true, forall_const, beq_self_eq_true, decide_true, decide_false, eq_self, Int.reduceEq, Int.reduceLE, Int.reduceLT,
                if_true, if_false, fc23_0, fc23_1, fc23_2, fc23_3, fc23_4, fc23_5, fc23_6, fc23_7, Int.reduceAdd, Int.reduceSub, Int.reduceMul, Int.reduceNeg, Int.reducePow,
                Nat.reducePow, Int.reduceToNat, Nat.reduceSub, List.replicate, Nat.reduceBEq, wAs, wA, wC, zipW, noDupN, grpE, grpC, en0, dc_en0, startW, hpIs] <;> rfl); (simp only [hp]); (
        intro st2 hw; (try simp only [reduceCtorEq, Bool.not_eq_true', decide_eq_false_iff_not, Bool.not_true, Bool.not_false, Bool.false_or, Bool.true_or, Bool.true_and, Bool.false_and, Bool.and_eq_true, Bool.or_eq_true, if_true, if_false, reduceIte, Bool.false_eq_true, and_true, true_and, false_or, or_false, decide_eq_true_eq, not_false_eq_true, not_true_eq_false] at hp); simp only [
          hp, grpS, grpD, grpF, grpL, eop, vop, bop, uop, fltop, convop, endOk, newE, new1, freshL, Md.isNew, outV, pureV, pureX, pure1, AV.cells, AV.one, storable, laid, refless,
                refless1, vload, loadC, storeC, vnil, vfaddr, vextract, flatT, flatE, flatC, vconv, vmm, vidxA, viaddrA, vfield, vlen, elemsOf, dF32, dF64, dI64, dU8, dBool, dStr,
                esOk, elemsS, vsliceX, bnd, ownV, ownC, own1, ownT, isSl, nSl, endL, Md.isOwn, purge, purgeH, purgeB, purgeE, hasName, name1, List.any_cons, List.any_nil, Md.isWr,
                pureV.pureP, Option.map, reduceIte, Nat.reduceEqDiff, Nat.reduceAdd, Nat.reduceMul, Nat.reduceLT, Nat.reduceLeDiff, List.mapM_cons, List.mapM_nil, Option.pure_def,
                Option.bind_eq_bind, Option.bind_some, implies_true, forall_const, beq_self_eq_true, decide_true, decide_false, eq_self, Int.reduceEq, Int.reduceLE, Int.reduceLT,
                if_true, if_false, fc23_0, fc23_1, fc23_2, fc23_3, fc23_4, fc23_5, fc23_6, fc23_7, Int.reduceAdd, Int.reduceSub, Int.reduceMul, Int.reduceNeg, Int.reducePow,
                Nat.reducePow, Int.reduceToNat, Nat.reduceSub, List.replicate, Nat.reduceBEq, wAs, wA, wC, zipW, noDupN, grpE, grpC, en0, dc_en0, startW, hpIs]; refine KW_of hw ?_; simp only [
          hp, grpS, grpD, grpF, grpL, eop, vop, bop, uop, fltop, convop, endOk, newE, new1, freshL, Md.isNew, outV, pureV, pureX, pure1, AV.cells, AV.one, storable, laid, refless,
                refless1, vload, loadC, storeC, vnil, vfaddr, vextract, flatT, flatE, flatC, vconv, vmm, vidxA, viaddrA, vfield, vlen, elemsOf, dF32, dF64, dI64, dU8, dBool, dStr,
                esOk, elemsS, vsliceX, bnd, ownV, ownC, own1, ownT, isSl, nSl, endL, Md.isOwn, purge, purgeH, purgeB, purgeE, hasName, name1, List.any_cons, List.any_nil, Md.isWr,
                pureV.pureP, Option.map, reduceIte, Nat.reduceEqDiff, Nat.reduceAdd, Nat.reduceMul, Nat.reduceLT, Nat.reduceLeDiff, List.mapM_cons, List.mapM_nil, Option.pure_def,
                Option.bind_eq_bind, Option.bind_some, implies_true, forall_const, beq_self_eq_true, decide_true, decide_false, eq_self, Int.reduceEq, Int.reduceLE, Int.reduceLT,
                if_true, if_false, fc23_0, fc23_1, fc23_2, fc23_3, fc23_4, fc23_5, fc23_6, fc23_7, Int.reduceAdd, Int.reduceSub, Int.reduceMul, Int.reduceNeg, Int.reducePow,
                Nat.reducePow, Int.reduceToNat, Nat.reduceSub, List.replicate, Nat.reduceBEq, wAs, wA, wC, zipW, noDupN, grpE, grpC, en0, dc_en0, startW, hpIs])))
      all_goals (try simp only [*, m_laws_markVectorS, Bool.and_true, Bool.true_and, Bool.and_false, Bool.false_and, Bool.or_true, Bool.true_or, Bool.or_false, Bool.false_or, Bool.not_true, Bool.not_false, Bool.false_eq_true, if_true, if_false, reduceIte, decide_true, decide_false])
      all_goals (try (simp_all; done))
    · cases h
  · cases h
def l_laws_heldVectorS_0 (x0 : (List (Nat × Nat × Nat))) : Nat → Int → Int → Option (Bool × Int × Int)
  | 0, _, _ => none
  | n + 1, z0_0, z0_1 => (if (decide (z0_1 < ((List.length x0 : Nat) : Int))) = true then (need (inB z0_1 (List.length x0)) (if (feq .f32 (atI x0 z0_1).1 (ofInt .f32 z0_0)) = true
        then (if (feq .f32 (atI x0 z0_1).2.1 (ofInt .f32 (IntKind.wrap .i64 (z0_0 + 1)))) = true then (if (feq .f32 (atI x0 z0_1).2.2 (ofInt .f32 (IntKind.wrap .i64 ((IntKind.wrap
        .i64 (z0_0 + 1)) + 1)))) = true then (l_laws_heldVectorS_0 x0 n (IntKind.wrap .i64 ((IntKind.wrap .i64 ((IntKind.wrap .i64 (z0_0 + 1)) + 1)) + 1)) (IntKind.wrap .i64 (z0_1 +
        1))) else (some (true, (-1), default))) else (some (true, (-1), default))) else (some (true, (-1), default)))) else (some (false, default, z0_0)))
def m_laws_heldVectorS (x0 : (List (Nat × Nat × Nat))) (x1 : Int) : Int := (if (Option.getD (l_laws_heldVectorS_0 x0 (Int.toNat (((List.length x0 : Nat) : Int) - 0) + 2) x1 0)
      default).1 = true then (Option.getD (l_laws_heldVectorS_0 x0 (Int.toNat (((List.length x0 : Nat) : Int) - 0) + 2) x1 0) default).2.1 else (Option.getD (l_laws_heldVectorS_0 x0
      (Int.toNat (((List.length x0 : Nat) : Int) - 0) + 2) x1 0) default).2.2)
def p_laws_heldVectorS (x0 : (List (Nat × Nat × Nat))) (x1 : Int) : Bool := (Option.isSome (l_laws_heldVectorS_0 x0 (Int.toNat (((List.length x0 : Nat) : Int) - 0) + 2) x1 0))
def g_laws_heldVectorS : List AV → Option AV
  | [.sl w0, .int .i64 y1] => (match decL dc_en0 w0 with | some y0 => (if p_laws_heldVectorS y0 y1 = true then some (.int .i64 (m_laws_heldVectorS y0 y1)) else none) | none => none)
  | _ => none
def lb25_0 : ICode := (.seq (.seq (.reg [⟨(some 6), none, (.mov (.t 5))⟩, ⟨(some 7), none, (.mov (.t 0))⟩, ⟨(some 8), none, (.len false (.t 7))⟩, ⟨(some 9), none, (.bin .lss false
      (.t 6) (.t 8))⟩] [0, 1, 5, 9]) (.cond (.t 9) .skip (.exit 0))) (.seq (.block 1 (.seq (.seq (.reg [⟨(some 12), none, (.mov (.t 0))⟩, ⟨(some 13), none, (.mov (.t 5))⟩, ⟨(some
      14), none, (.iaddrS 3 (.t 12) (.t 13))⟩, ⟨(some 15), none, (.faddr 0 (.t 14))⟩, ⟨(some 16), none, (.load none (.t 15))⟩, ⟨(some 17), none, (.mov (.t 1))⟩, ⟨(some 18), none,
      (.conv (.flt .f32) (.t 17))⟩, ⟨(some 19), none, (.bin .neq false (.t 16) (.t 18))⟩] [0, 1, 5, 19]) (.cond (.t 19) (.seq (.reg [⟨(some 4), none, (.mov (.c (.int .i64 (-1))))⟩]
      [4]) .ret) .skip)) (.seq (.reg [⟨(some 20), none, (.mov (.t 1))⟩, ⟨(some 21), none, (.bin .add false (.t 20) (.c (.int .i64 1)))⟩, ⟨(some 1), none, (.mov (.t 21))⟩] [0, 1, 5])
      (.seq (.seq (.reg [⟨(some 22), none, (.mov (.t 0))⟩, ⟨(some 23), none, (.mov (.t 5))⟩, ⟨(some 24), none, (.iaddrS 3 (.t 22) (.t 23))⟩, ⟨(some 25), none, (.faddr 1 (.t 24))⟩,
      ⟨(some 26), none, (.load none (.t 25))⟩, ⟨(some 27), none, (.mov (.t 1))⟩, ⟨(some 28), none, (.conv (.flt .f32) (.t 27))⟩, ⟨(some 29), none, (.bin .neq false (.t 26) (.t
      28))⟩] [0, 1, 5, 29]) (.cond (.t 29) (.seq (.reg [⟨(some 4), none, (.mov (.c (.int .i64 (-1))))⟩] [4]) .ret) .skip)) (.seq (.reg [⟨(some 30), none, (.mov (.t 1))⟩, ⟨(some 31),
      none, (.bin .add false (.t 30) (.c (.int .i64 1)))⟩, ⟨(some 1), none, (.mov (.t 31))⟩] [0, 1, 5]) (.seq (.seq (.reg [⟨(some 32), none, (.mov (.t 0))⟩, ⟨(some 33), none, (.mov
      (.t 5))⟩, ⟨(some 34), none, (.iaddrS 3 (.t 32) (.t 33))⟩, ⟨(some 35), none, (.faddr 2 (.t 34))⟩, ⟨(some 36), none, (.load none (.t 35))⟩, ⟨(some 37), none, (.mov (.t 1))⟩,
      ⟨(some 38), none, (.conv (.flt .f32) (.t 37))⟩, ⟨(some 39), none, (.bin .neq false (.t 36) (.t 38))⟩] [0, 1, 5, 39]) (.cond (.t 39) (.seq (.reg [⟨(some 4), none, (.mov (.c
      (.int .i64 (-1))))⟩] [4]) .ret) .skip)) (.reg [⟨(some 40), none, (.mov (.t 1))⟩, ⟨(some 41), none, (.bin .add false (.t 40) (.c (.int .i64 1)))⟩, ⟨(some 1), none, (.mov (.t
      41))⟩] [0, 1, 5]))))))) (.reg [⟨(some 10), none, (.mov (.t 5))⟩, ⟨(some 11), none, (.bin .add false (.t 10) (.c (.int .i64 1)))⟩, ⟨(some 5), none, (.mov (.t 11))⟩] [0, 1,
      5])))
def ic25 : ICode := (.seq (.reg [⟨(some 4), none, (.mov (.c (.int .i64 0)))⟩] [0, 1]) (.seq (.seq (.reg [⟨(some 5), none, (.mov (.c (.int .i64 0)))⟩] [0, 1, 5]) (.block 0 (.loop
      lb25_0))) (.seq (.reg [⟨(some 42), none, (.mov (.t 1))⟩, ⟨(some 4), none, (.mov (.t 42))⟩] [4]) .ret)))
def cp25 : CP := CP.mk [] [] [[0, 1], [0, 1, 5], [0, 1, 5, 9], [0, 1, 5], [0, 1, 5, 19], [4], [0, 1, 5], [0, 1, 5, 29], [4], [0, 1, 5], [0, 1, 5, 39], [4], [0, 1, 5], [4]] 43
theorem fc25_0 : IntKind.wrap .i64 0 = 0 := by decide
theorem fc25_1 : IntKind.wrap .i64 1 = 1 := by decide
theorem fc25_2 : IntKind.wrap .i64 2 = 2 := by decide
theorem fc25_3 : IntKind.wrap .i64 3 = 3 := by decide
theorem fc25_4 : IntKind.wrap .i64 4 = 4 := by decide
theorem fc25_5 : IntKind.wrap .i64 5 = 5 := by decide
theorem fc25_6 : IntKind.wrap .i64 6 = 6 := by decide
theorem fc25_7 : IntKind.wrap .i64 7 = 7 := by decide
theorem sl25_0 (x0 : (List (Nat × Nat × Nat))) : ∀ (n : Nat) (z0_0 : Int) (z0_1 : Int) (o : (Bool × Int × Int)) (K : IExit → St → Prop), l_laws_heldVectorS_0 x0 n z0_0 z0_1 = some o
      → (∀ st, o.1 = true → outM .any st [(.t 4)] = some (.int .i64 o.2.1) → K .ret st) → (∀ st, o.1 = false → Wk st (⟨[(1, (.int .i64 o.2.2))], []⟩ : St) → K (.exit 0) st) → eA
      (tabOf []) (.loop lb25_0) (⟨[(0, (.sl (List.map en0 x0))), (1, (.int .i64 z0_0)), (5, (.int .i64 z0_1))], []⟩ : St) K := by
  intro n
  induction n with
  | zero =>
    intro z0_0 z0_1 o K h h0 h1
    simp only [l_laws_heldVectorS_0, reduceCtorEq] at h
  | succ n ih =>
    intro z0_0 z0_1 o K h h0 h1
    refine eA_loop ?_
    unfold lb25_0
    unfold l_laws_heldVectorS_0 at h
    (try simp only [need_iff] at h)
    simp only [
      need_iff, h, grpS, grpD, grpF, grpL, eop, vop, bop, uop, fltop, convop, endOk, newE, new1, freshL, Md.isNew, outV, pureV, pureX, pure1, AV.cells, AV.one, storable, laid,
            refless, refless1, vload, loadC, storeC, vnil, vfaddr, vextract, flatT, flatE, flatC, vconv, vmm, vidxA, viaddrA, vfield, vlen, elemsOf, dF32, dF64, dI64, dU8, dBool,
            dStr, esOk, elemsS, vsliceX, bnd, ownV, ownC, own1, ownT, isSl, nSl, endL, Md.isOwn, purge, purgeH, purgeB, purgeE, hasName, name1, List.any_cons, List.any_nil, Md.isWr,
            pureV.pureP, Option.map, reduceIte, Nat.reduceEqDiff, Nat.reduceAdd, Nat.reduceMul, Nat.reduceLT, Nat.reduceLeDiff, List.mapM_cons, List.mapM_nil, Option.pure_def,
            Option.bind_eq_bind, Option.bind_some, implies_true, forall_const, beq_self_eq_true, decide_true, decide_false, eq_self, Int.reduceEq, Int.reduceLE, Int.reduceLT,
            if_true, if_false, fc25_0, fc25_1, fc25_2, fc25_3, fc25_4, fc25_5, fc25_6, fc25_7, Int.reduceAdd, Int.reduceSub, Int.reduceMul, Int.reduceNeg, Int.reducePow,
            Nat.reducePow, Int.reduceToNat, Nat.reduceSub, List.replicate, Nat.reduceBEq, wAs, wA, wC, zipW, noDupN, grpE, grpC, en0, dc_en0]
    repeat' (first
      | ((first | (refine eGI_of (fun hc => ?_) (fun hc => ?_)) | (refine eCc_of (fun hc => ?_) (fun hc => ?_)) | (have hc := True.intro; refine KW_refl ?_)) <;> (try simp only [Bool.not_eq_true', Bool.not_eq_false'] at hc) <;> (try simp only [hc, need_iff, reduceCtorEq, Bool.not_eq_true', decide_eq_false_iff_not, Bool.not_true, Bool.not_false, Bool.false_or, Bool.true_or, Bool.true_and, Bool.false_and, Bool.and_eq_true, Bool.or_eq_true, if_true, if_false, reduceIte, Bool.false_eq_true, and_true, true_and, false_or, or_false, decide_eq_true_eq, not_false_eq_true, not_true_eq_false] at h) <;> (try (have hc2 := hc; simp only [decide_eq_true_eq, decide_eq_false_iff_not] at hc2; simp only [hc2, if_true, if_false, reduceCtorEq, Bool.not_eq_true', decide_eq_false_iff_not, Bool.not_true, Bool.not_false, Bool.false_or, Bool.true_or, Bool.true_and, Bool.false_and, Bool.and_eq_true, Bool.or_eq_true, if_true, if_false, reduceIte, Bool.false_eq_true, and_true, true_and, false_or, or_false, decide_eq_true_eq, not_false_eq_true, not_true_eq_false] at h)) <;> simp only [hc,
      need_iff, h, grpS, grpD, grpF, grpL, eop, vop, bop, uop, fltop, convop, endOk, newE, new1, freshL, Md.isNew, outV, pureV, pureX, pure1, AV.cells, AV.one, storable, laid,
            refless, refless1, vload, loadC, storeC, vnil, vfaddr, vextract, flatT, flatE, flatC, vconv, vmm, vidxA, viaddrA, vfield, vlen, elemsOf, dF32, dF64, dI64, dU8, dBool,
            dStr, esOk, elemsS, vsliceX, bnd, ownV, ownC, own1, ownT, isSl, nSl, endL, Md.isOwn, purge, purgeH, purgeB, purgeE, hasName, name1, List.any_cons, List.any_nil, Md.isWr,
            pureV.pureP, Option.map, reduceIte, Nat.reduceEqDiff, Nat.reduceAdd, Nat.reduceMul, Nat.reduceLT, Nat.reduceLeDiff, List.mapM_cons, List.mapM_nil, Option.pure_def,
            Option.bind_eq_bind, Option.bind_some, implies_true, forall_const, beq_self_eq_true, decide_true, decide_false, eq_self, Int.reduceEq, Int.reduceLE, Int.reduceLT,
            if_true, if_false, fc25_0, fc25_1, fc25_2, fc25_3, fc25_4, fc25_5, fc25_6, fc25_7, Int.reduceAdd, Int.reduceSub, Int.reduceMul, Int.reduceNeg, Int.reducePow,
            Nat.reducePow, Int.reduceToNat, Nat.reduceSub, List.replicate, Nat.reduceBEq, wAs, wA, wC, zipW, noDupN, grpE, grpC, en0, dc_en0]))
    all_goals (repeat (replace h := And.right h))
    all_goals first
      | (refine eA_wk (wk_norm (ks := [0, 1, 5]) (ls := []) ?_) (eA_cast ?_ (ih _ _ _ _ h h0 h1)); (simp only [normOk, optIn, blkIn, nameIn,
      need_iff, h, grpS, grpD, grpF, grpL, eop, vop, bop, uop, fltop, convop, endOk, newE, new1, freshL, Md.isNew, outV, pureV, pureX, pure1, AV.cells, AV.one, storable, laid,
            refless, refless1, vload, loadC, storeC, vnil, vfaddr, vextract, flatT, flatE, flatC, vconv, vmm, vidxA, viaddrA, vfield, vlen, elemsOf, dF32, dF64, dI64, dU8, dBool,
            dStr, esOk, elemsS, vsliceX, bnd, ownV, ownC, own1, ownT, isSl, nSl, endL, Md.isOwn, purge, purgeH, purgeB, purgeE, hasName, name1, List.any_cons, List.any_nil, Md.isWr,
            pureV.pureP, Option.map, reduceIte, Nat.reduceEqDiff, Nat.reduceAdd, Nat.reduceMul, Nat.reduceLT, Nat.reduceLeDiff, List.mapM_cons, List.mapM_nil, Option.pure_def,
            Option.bind_eq_bind, Option.bind_some, implies_true, forall_const, beq_self_eq_true, decide_true, decide_false, eq_self, Int.reduceEq, Int.reduceLE, Int.reduceLT,
            if_true, if_false, fc25_0, fc25_1, fc25_2, fc25_3, fc25_4, fc25_5, fc25_6, fc25_7, Int.reduceAdd, Int.reduceSub, Int.reduceMul, Int.reduceNeg, Int.reducePow,
            Nat.reducePow, Int.reduceToNat, Nat.reduceSub, List.replicate, Nat.reduceBEq, wAs, wA, wC, zipW, noDupN, grpE, grpC, en0, dc_en0] <;> rfl); (simp only [normS, List.map_append, List.length_append, List.map_set, List.length_set, List.map_replicate, List.length_replicate, List.map_nil, List.map_cons,
      need_iff, h, grpS, grpD, grpF, grpL, eop, vop, bop, uop, fltop, convop, endOk, newE, new1, freshL, Md.isNew, outV, pureV, pureX, pure1, AV.cells, AV.one, storable, laid,
            refless, refless1, vload, loadC, storeC, vnil, vfaddr, vextract, flatT, flatE, flatC, vconv, vmm, vidxA, viaddrA, vfield, vlen, elemsOf, dF32, dF64, dI64, dU8, dBool,
            dStr, esOk, elemsS, vsliceX, bnd, ownV, ownC, own1, ownT, isSl, nSl, endL, Md.isOwn, purge, purgeH, purgeB, purgeE, hasName, name1, List.any_cons, List.any_nil, Md.isWr,
            pureV.pureP, Option.map, reduceIte, Nat.reduceEqDiff, Nat.reduceAdd, Nat.reduceMul, Nat.reduceLT, Nat.reduceLeDiff, List.mapM_cons, List.mapM_nil, Option.pure_def,
            Option.bind_eq_bind, Option.bind_some, implies_true, forall_const, beq_self_eq_true, decide_true, decide_false, eq_self, Int.reduceEq, Int.reduceLE, Int.reduceLT,
            if_true, if_false, fc25_0, fc25_1, fc25_2, fc25_3, fc25_4, fc25_5, fc25_6, fc25_7, Int.reduceAdd, Int.reduceSub, Int.reduceMul, Int.reduceNeg, Int.reducePow,
            Nat.reducePow, Int.reduceToNat, Nat.reduceSub, List.replicate, Nat.reduceBEq, wAs, wA, wC, zipW, noDupN, grpE, grpC, en0, dc_en0] <;> rfl))
      | (cases h; refine h0 _ rfl ?_; simp only [
      grpS, grpD, grpF, grpL, eop, vop, bop, uop, fltop, convop, endOk, newE, new1, freshL, Md.isNew, outV, pureV, pureX, pure1, AV.cells, AV.one, storable, laid, refless, refless1,
            vload, loadC, storeC, vnil, vfaddr, vextract, flatT, flatE, flatC, vconv, vmm, vidxA, viaddrA, vfield, vlen, elemsOf, dF32, dF64, dI64, dU8, dBool, dStr, esOk, elemsS,
            vsliceX, bnd, ownV, ownC, own1, ownT, isSl, nSl, endL, Md.isOwn, purge, purgeH, purgeB, purgeE, hasName, name1, List.any_cons, List.any_nil, Md.isWr, pureV.pureP,
            Option.map, reduceIte, Nat.reduceEqDiff, Nat.reduceAdd, Nat.reduceMul, Nat.reduceLT, Nat.reduceLeDiff, List.mapM_cons, List.mapM_nil, Option.pure_def,
            Option.bind_eq_bind, Option.bind_some, implies_true, forall_const, beq_self_eq_true, decide_true, decide_false, eq_self, Int.reduceEq, Int.reduceLE, Int.reduceLT,
            if_true, if_false, fc25_0, fc25_1, fc25_2, fc25_3, fc25_4, fc25_5, fc25_6, fc25_7, Int.reduceAdd, Int.reduceSub, Int.reduceMul, Int.reduceNeg, Int.reducePow,
            Nat.reducePow, Int.reduceToNat, Nat.reduceSub, List.replicate, Nat.reduceBEq, wAs, wA, wC, zipW, noDupN, grpE, grpC, en0, dc_en0])
      | (cases h; refine h1 _ rfl (Wk.cast (wk_norm (ks := [1]) (ls := []) ?_) ?_); (simp only [normOk, optIn, blkIn, nameIn,
      grpS, grpD, grpF, grpL, eop, vop, bop, uop, fltop, convop, endOk, newE, new1, freshL, Md.isNew, outV, pureV, pureX, pure1, AV.cells, AV.one, storable, laid, refless, refless1,
            vload, loadC, storeC, vnil, vfaddr, vextract, flatT, flatE, flatC, vconv, vmm, vidxA, viaddrA, vfield, vlen, elemsOf, dF32, dF64, dI64, dU8, dBool, dStr, esOk, elemsS,
            vsliceX, bnd, ownV, ownC, own1, ownT, isSl, nSl, endL, Md.isOwn, purge, purgeH, purgeB, purgeE, hasName, name1, List.any_cons, List.any_nil, Md.isWr, pureV.pureP,
            Option.map, reduceIte, Nat.reduceEqDiff, Nat.reduceAdd, Nat.reduceMul, Nat.reduceLT, Nat.reduceLeDiff, List.mapM_cons, List.mapM_nil, Option.pure_def,
            Option.bind_eq_bind, Option.bind_some, implies_true, forall_const, beq_self_eq_true, decide_true, decide_false, eq_self, Int.reduceEq, Int.reduceLE, Int.reduceLT,
            if_true, if_false, fc25_0, fc25_1, fc25_2, fc25_3, fc25_4, fc25_5, fc25_6, fc25_7, Int.reduceAdd, Int.reduceSub, Int.reduceMul, Int.reduceNeg, Int.reducePow,
            Nat.reducePow, Int.reduceToNat, Nat.reduceSub, List.replicate, Nat.reduceBEq, wAs, wA, wC, zipW, noDupN, grpE, grpC, en0, dc_en0] <;> rfl); (simp only [normS, List.map_append, List.length_append, List.map_set, List.length_set, List.map_replicate, List.length_replicate,
      grpS, grpD, grpF, grpL, eop, vop, bop, uop, fltop, convop, endOk, newE, new1, freshL, Md.isNew, outV, pureV, pureX, pure1, AV.cells, AV.one, storable, laid, refless, refless1,
            vload, loadC, storeC, vnil, vfaddr, vextract, flatT, flatE, flatC, vconv, vmm, vidxA, viaddrA, vfield, vlen, elemsOf, dF32, dF64, dI64, dU8, dBool, dStr, esOk, elemsS,
            vsliceX, bnd, ownV, ownC, own1, ownT, isSl, nSl, endL, Md.isOwn, purge, purgeH, purgeB, purgeE, hasName, name1, List.any_cons, List.any_nil, Md.isWr, pureV.pureP,
            Option.map, reduceIte, Nat.reduceEqDiff, Nat.reduceAdd, Nat.reduceMul, Nat.reduceLT, Nat.reduceLeDiff, List.mapM_cons, List.mapM_nil, Option.pure_def,
            Option.bind_eq_bind, Option.bind_some, implies_true, forall_const, beq_self_eq_true, decide_true, decide_false, eq_self, Int.reduceEq, Int.reduceLE, Int.reduceLT,
            if_true, if_false, fc25_0, fc25_1, fc25_2, fc25_3, fc25_4, fc25_5, fc25_6, fc25_7, Int.reduceAdd, Int.reduceSub, Int.reduceMul, Int.reduceNeg, Int.reducePow,
            Nat.reducePow, Int.reduceToNat, Nat.reduceSub, List.replicate, Nat.reduceBEq, wAs, wA, wC, zipW, noDupN, grpE, grpC, en0, dc_en0] <;> rfl))
theorem s25 : ∀ vs r, g_laws_heldVectorS vs = some r → SaysM Try.prog .any 25 vs r := by
  intro vs r h
  unfold g_laws_heldVectorS at h
  split at h
  · rename_i w0 y1
    cases hd_y0 : decL dc_en0 w0 with
    | none => rw [hd_y0] at h; cases h
    | some y0 =>
    rw [hd_y0] at h
    obtain rfl := decL_inv dc_en0_inv hd_y0
    clear hd_y0
    dsimp only at h
    split at h
    · rename_i hp
      cases h
      refine spec_of (m := .any) (tab := tabOf []) (cp := cp25) (ic := ic25) (rvl := [(.t 4)]) hm tabOk_nil Try.func25 rfl rfl rfl (by kernel_rfl) rfl (Nat.le_of_ble_eq_true rfl) (Nat.le_of_ble_eq_true rfl) ?_
      show eA _ _ _ _
      unfold ic25
      simp only [p_laws_heldVectorS, Bool.and_eq_true, Bool.or_eq_true, decide_eq_true_eq, Bool.not_eq_true', decide_eq_false_iff_not] at hp
      simp only [
          hp, grpS, grpD, grpF, grpL, eop, vop, bop, uop, fltop, convop, endOk, newE, new1, freshL, Md.isNew, outV, pureV, pureX, pure1, AV.cells, AV.one, storable, laid, refless,
                refless1, vload, loadC, storeC, vnil, vfaddr, vextract, flatT, flatE, flatC, vconv, vmm, vidxA, viaddrA, vfield, vlen, elemsOf, dF32, dF64, dI64, dU8, dBool, dStr,
                esOk, elemsS, vsliceX, bnd, ownV, ownC, own1, ownT, isSl, nSl, endL, Md.isOwn, purge, purgeH, purgeB, purgeE, hasName, name1, List.any_cons, List.any_nil, Md.isWr,
                pureV.pureP, Option.map, reduceIte, Nat.reduceEqDiff, Nat.reduceAdd, Nat.reduceMul, Nat.reduceLT, Nat.reduceLeDiff, List.mapM_cons, List.mapM_nil, Option.pure_def,
                Option.bind_eq_bind, Option.bind_some, implies_true, forall_const, beq_self_eq_true, decide_true, decide_false, eq_self, Int.reduceEq, Int.reduceLE, Int.reduceLT,
                if_true, if_false, fc25_0, fc25_1, fc25_2, fc25_3, fc25_4, fc25_5, fc25_6, fc25_7, Int.reduceAdd, Int.reduceSub, Int.reduceMul, Int.reduceNeg, Int.reducePow,
                Nat.reducePow, Int.reduceToNat, Nat.reduceSub, List.replicate, Nat.reduceBEq, wAs, wA, wC, zipW, noDupN, grpE, grpC, en0, dc_en0]
      repeat' (first
        | ((first | (refine eGI_of (fun h => ?_) (fun h => ?_)) | (refine eCc_of (fun h => ?_) (fun h => ?_)) | (have h := True.intro; refine KW_refl ?_)) <;> (try simp only [Bool.not_eq_true', Bool.not_eq_false'] at h) <;> (try simp only [h, reduceCtorEq, Bool.not_eq_true', decide_eq_false_iff_not, Bool.not_true, Bool.not_false, Bool.false_or, Bool.true_or, Bool.true_and, Bool.false_and, Bool.and_eq_true, Bool.or_eq_true, if_true, if_false, reduceIte, Bool.false_eq_true, and_true, true_and, false_or, or_false, decide_eq_true_eq, not_false_eq_true, not_true_eq_false] at hp) <;> (try (have h2 := h; simp only [decide_eq_true_eq, decide_eq_false_iff_not] at h2; (first | (replace h2 := eq_false h2) | (replace h2 := eq_true h2)); simp only [h2, if_true, if_false, false_or, true_or, or_true, or_false, and_true, true_and, not_false_eq_true, not_true_eq_false] at hp)) <;> simp only [h,
          hp, grpS, grpD, grpF, grpL, eop, vop, bop, uop, fltop, convop, endOk, newE, new1, freshL, Md.isNew, outV, pureV, pureX, pure1, AV.cells, AV.one, storable, laid, refless,
                refless1, vload, loadC, storeC, vnil, vfaddr, vextract, flatT, flatE, flatC, vconv, vmm, vidxA, viaddrA, vfield, vlen, elemsOf, dF32, dF64, dI64, dU8, dBool, dStr,
                esOk, elemsS, vsliceX, bnd, ownV, ownC, own1, ownT, isSl, nSl, endL, Md.isOwn, purge, purgeH, purgeB, purgeE, hasName, name1, List.any_cons, List.any_nil, Md.isWr,
                pureV.pureP, Option.map, reduceIte, Nat.reduceEqDiff, Nat.reduceAdd, Nat.reduceMul, Nat.reduceLT, Nat.reduceLeDiff, List.mapM_cons, List.mapM_nil, Option.pure_def,
                Option.bind_eq_bind, Option.bind_some, implies_true, forall_const, beq_self_eq_true, decide_true, decide_false, eq_self, Int.reduceEq, Int.reduceLE, Int.reduceLT,
                if_true, if_false, fc25_0, fc25_1, fc25_2, fc25_3, fc25_4, fc25_5, fc25_6, fc25_7, Int.reduceAdd, Int.reduceSub, Int.reduceMul, Int.reduceNeg, Int.reducePow,
                Nat.reducePow, Int.reduceToNat, Nat.reduceSub, List.replicate, Nat.reduceBEq, wAs, wA, wC, zipW, noDupN, grpE, grpC, en0, dc_en0])
        | (refine eA_wk (wk_norm (ks := [0, 1, 5]) (ls := []) ?_) (eA_cast ?_ (sl25_0 y0 _ _ _ _ _ (getD_some (d := default) (x := (l_laws_heldVectorS_0 y0 (Int.toNat (((List.length y0 : Nat) : Int) - 0) + 2) y1 0)) ?_) ?_ ?_)); (simp only [nilS, nilV, normOk, optIn, blkIn, nameIn, 
          hp, grpS, grpD, grpF, grpL, eop, vop, bop, uop, fltop, convop, endOk, newE, new1, freshL, Md.isNew, outV, pureV, pureX, pure1, AV.cells, AV.one, storable, laid, refless,
                refless1, vload, loadC, storeC, vnil, vfaddr, vextract, flatT, flatE, flatC, vconv, vmm, vidxA, viaddrA, vfield, vlen, elemsOf, dF32, dF64, dI64, dU8, dBool, dStr,
                esOk, elemsS, vsliceX, bnd, ownV, ownC, own1, ownT, isSl, nSl, endL, Md.isOwn, purge, purgeH, purgeB, purgeE, hasName, name1, List.any_cons, List.any_nil, Md.isWr,
                pureV.pureP, Option.map, reduceIte, Nat.reduceEqDiff, Nat.reduceAdd, Nat.reduceMul, Nat.reduceLT, Nat.reduceLeDiff, List.mapM_cons, List.mapM_nil, Option.pure_def,
                Option.bind_eq_bind, Option.bind_some, implies_true, forall_const, beq_self_eq_true, decide_true, decide_false, eq_self, Int.reduceEq, Int.reduceLE, Int.reduceLT,
                if_true, if_false, fc25_0, fc25_1, fc25_2, fc25_3, fc25_4, fc25_5, fc25_6, fc25_7, Int.reduceAdd, Int.reduceSub, Int.reduceMul, Int.reduceNeg, Int.reducePow,
                Nat.reducePow, Int.reduceToNat, Nat.reduceSub, List.replicate, Nat.reduceBEq, wAs, wA, wC, zipW, noDupN, grpE, grpC, en0, dc_en0] <;> rfl); (simp only [nilS, nilV, normS,  List.map_append, List.length_append, List.map_set, List.length_set, List.map_replicate, List.length_replicate, List.map_nil, List.map_cons,
          hp, grpS, grpD, grpF, grpL, eop, vop, bop, uop, fltop, convop, endOk, newE, new1, freshL, Md.isNew, outV, pureV, pureX, pure1, AV.cells, AV.one, storable, laid, refless,
                refless1, vload, loadC, storeC, vnil, vfaddr, vextract, flatT, flatE, flatC, vconv, vmm, vidxA, viaddrA, vfield, vlen, elemsOf, dF32, dF64, dI64, dU8, dBool, dStr,
                esOk, elemsS, vsliceX, bnd, ownV, ownC, own1, ownT, isSl, nSl, endL, Md.isOwn, purge, purgeH, purgeB, purgeE, hasName, name1, List.any_cons, List.any_nil, Md.isWr,
                pureV.pureP, Option.map, reduceIte, Nat.reduceEqDiff, Nat.reduceAdd, Nat.reduceMul, Nat.reduceLT, Nat.reduceLeDiff, List.mapM_cons, List.mapM_nil, Option.pure_def,
                Option.bind_eq_bind, Option.bind_some, implies_true, forall_const, beq_self_eq_true, decide_true, decide_false, eq_self, Int.reduceEq, Int.reduceLE, Int.reduceLT,
                if_true, if_false, fc25_0, fc25_1, fc25_2, fc25_3, fc25_4, fc25_5, fc25_6, fc25_7, Int.reduceAdd, Int.reduceSub, Int.reduceMul, Int.reduceNeg, Int.reducePow,
                Nat.reducePow, Int.reduceToNat, Nat.reduceSub, List.replicate, Nat.reduceBEq, wAs, wA, wC, zipW, noDupN, grpE, grpC, en0, dc_en0] <;> rfl); (simp only [hp]); (
        intro st2 ht hw; simp only [Kq_ret, Kb_ret, Kl_ret, ret_ok]; first | exact h0 _ hw | exact h0 _ rfl hw | exact h1 _ rfl hw | exact h0 _ ht hw | exact h1 _ ht hw | refine ⟨_, hw, ?_⟩); rotate_left; (
        intro st2 ht hw; (try simp only [ht, reduceCtorEq, Bool.not_eq_true', decide_eq_false_iff_not, Bool.not_true, Bool.not_false, Bool.false_or, Bool.true_or, Bool.true_and, Bool.false_and, Bool.and_eq_true, Bool.or_eq_true, if_true, if_false, reduceIte, Bool.false_eq_true, and_true, true_and, false_or, or_false, decide_eq_true_eq, not_false_eq_true, not_true_eq_false] at hp); simp only [
          hp, grpS, grpD, grpF, grpL, eop, vop, bop, uop, fltop, convop, endOk, newE, new1, freshL, Md.isNew, outV, pureV, pureX, pure1, AV.cells, AV.one, storable, laid, refless,
                refless1, vload, loadC, storeC, vnil, vfaddr, vextract, flatT, flatE, flatC, vconv, vmm, vidxA, viaddrA, vfield, vlen, elemsOf, dF32, dF64, dI64, dU8, dBool, dStr,
                esOk, elemsS, vsliceX, bnd, ownV, ownC, own1, ownT, isSl, nSl, endL, Md.isOwn, purge, purgeH, purgeB, purgeE, hasName, name1, List.any_cons, List.any_nil, Md.isWr,
                pureV.pureP, Option.map, reduceIte, Nat.reduceEqDiff, Nat.reduceAdd, Nat.reduceMul, Nat.reduceLT, Nat.reduceLeDiff, List.mapM_cons, List.mapM_nil, Option.pure_def,
                Option.bind_eq_bind, Option.bind_some, implies_true, forall_const, beq_self_eq_true, decide_true, decide_false, eq_self, Int.reduceEq, Int.reduceLE, Int.reduceLT,
                if_true, if_false, fc25_0, fc25_1, fc25_2, fc25_3, fc25_4, fc25_5, fc25_6, fc25_7, Int.reduceAdd, Int.reduceSub, Int.reduceMul, Int.reduceNeg, Int.reducePow,
                Nat.reducePow, Int.reduceToNat, Nat.reduceSub, List.replicate, Nat.reduceBEq, wAs, wA, wC, zipW, noDupN, grpE, grpC, en0, dc_en0]; refine KW_of hw ?_; simp only [ht, 
          hp, grpS, grpD, grpF, grpL, eop, vop, bop, uop, fltop, convop, endOk, newE, new1, freshL, Md.isNew, outV, pureV, pureX, pure1, AV.cells, AV.one, storable, laid, refless,
                refless1, vload, loadC, storeC, vnil, vfaddr, vextract, flatT, flatE, flatC, vconv, vmm, vidxA, viaddrA, vfield, vlen, elemsOf, dF32, dF64, dI64, dU8, dBool, dStr,
                esOk, elemsS, vsliceX, bnd, ownV, ownC, own1, ownT, isSl, nSl, endL, Md.isOwn, purge, purgeH, purgeB, purgeE, hasName, name1, List.any_cons, List.any_nil, Md.isWr,
                pureV.pureP, Option.map, reduceIte, Nat.reduceEqDiff, Nat.reduceAdd, Nat.reduceMul, Nat.reduceLT, Nat.reduceLeDiff, List.mapM_cons, List.mapM_nil, Option.pure_def,
                Option.bind_eq_bind, Option.bind_some, implies_true, forall_const, beq_self_eq_true, decide_true, decide_false, eq_self, Int.reduceEq, Int.reduceLE, Int.reduceLT,
                if_true, if_false, fc25_0, fc25_1, fc25_2, fc25_3, fc25_4, fc25_5, fc25_6, fc25_7, Int.reduceAdd, Int.reduceSub, Int.reduceMul, Int.reduceNeg, Int.reducePow,
                Nat.reducePow, Int.reduceToNat, Nat.reduceSub, List.replicate, Nat.reduceBEq, wAs, wA, wC, zipW, noDupN, grpE, grpC, en0, dc_en0])))
      all_goals (try simp only [*, m_laws_heldVectorS, Bool.and_true, Bool.true_and, Bool.and_false, Bool.false_and, Bool.or_true, Bool.true_or, Bool.or_false, Bool.false_or, Bool.not_true, Bool.not_false, Bool.false_eq_true, if_true, if_false, reduceIte, decide_true, decide_false])
      all_goals (try (simp_all; done))
    · cases h
  · cases h
def v_laws_FnExactReachFor_0 (x0 : (List (Nat × Nat × Nat))) (x1 : (Nat × Nat × Nat)) (x2 : Int) : Bool := (!(decide ((m_laws_heldVectorS (m_laws_markVectorS (m_impl_ReachFor
      (m_laws_toVectorS x0) (m_laws_toVector x1) x2).1 1).2 1) = (m_laws_markVectorS (m_impl_ReachFor (m_laws_toVectorS x0) (m_laws_toVector x1) x2).1 1).1)))
def m_laws_FnExactReachFor (x0 : (List (Nat × Nat × Nat))) (x1 : (Nat × Nat × Nat)) (x2 : Int) : Bool := (if (decide ((m_laws_szVectorS x0 1048576) < 0)) = true then true else (if
      (m_laws_eqVectorS (m_impl_ReachFor (m_laws_toVectorS x0) (m_laws_toVector x1) x2).1 (m_spec_ReachFor (m_laws_toVectorS x0) (m_laws_toVector x1) x2).1) = true then (if
      ((m_impl_ReachFor (m_laws_toVectorS x0) (m_laws_toVector x1) x2).2 == (m_spec_ReachFor (m_laws_toVectorS x0) (m_laws_toVector x1) x2).2) = true then (if (m_laws_eqVectorS
      (m_laws_toVectorS x0) (m_laws_toVectorS x0)) = true then (if (decide ((m_laws_markVectorS (m_laws_toVectorS x0) 1).1 < 0)) = true then false else (if (decide
      ((m_laws_heldVectorS (m_laws_markVectorS (m_impl_ReachFor (m_laws_toVectorS x0) (m_laws_toVector x1) x2).1 1).2 1) < 0)) = true then false else (if (v_laws_FnExactReachFor_0
      x0 x1 x2) = true then false else true))) else false) else false) else false))
def p_laws_FnExactReachFor (x0 : (List (Nat × Nat × Nat))) (x1 : (Nat × Nat × Nat)) (x2 : Int) : Bool := ((decide ((m_laws_szVectorS x0 1048576) < 0)) || ((p_laws_toVectorS x0) &&
      ((p_spec_ReachFor (m_laws_toVectorS x0) (m_laws_toVector x1) x2) && ((p_impl_ReachFor (m_laws_toVectorS x0) (m_laws_toVector x1) x2) && ((p_laws_eqVectorS (m_impl_ReachFor
      (m_laws_toVectorS x0) (m_laws_toVector x1) x2).1 (m_spec_ReachFor (m_laws_toVectorS x0) (m_laws_toVector x1) x2).1) && (!(m_laws_eqVectorS (m_impl_ReachFor (m_laws_toVectorS
      x0) (m_laws_toVector x1) x2).1 (m_spec_ReachFor (m_laws_toVectorS x0) (m_laws_toVector x1) x2).1) || (!((m_impl_ReachFor (m_laws_toVectorS x0) (m_laws_toVector x1) x2).2 ==
      (m_spec_ReachFor (m_laws_toVectorS x0) (m_laws_toVector x1) x2).2) || ((p_laws_eqVectorS (m_laws_toVectorS x0) (m_laws_toVectorS x0)) && (!(m_laws_eqVectorS (m_laws_toVectorS
      x0) (m_laws_toVectorS x0)) || ((p_laws_markVectorS (m_laws_toVectorS x0) 1) && ((decide (List.length (m_laws_markVectorS (m_laws_toVectorS x0) 1).2 = (List.length
      (m_laws_toVectorS x0)))) && ((decide ((m_laws_markVectorS (m_laws_toVectorS x0) 1).1 < 0)) || ((p_laws_markVectorS (m_impl_ReachFor (m_laws_toVectorS x0) (m_laws_toVector x1)
      x2).1 1) && ((decide (List.length (m_laws_markVectorS (m_impl_ReachFor (m_laws_toVectorS x0) (m_laws_toVector x1) x2).1 1).2 = (List.length (m_impl_ReachFor (m_laws_toVectorS
      x0) (m_laws_toVector x1) x2).1))) && (p_laws_heldVectorS (m_laws_markVectorS (m_impl_ReachFor (m_laws_toVectorS x0) (m_laws_toVector x1) x2).1 1).2 1)))))))))))))))
def g_laws_FnExactReachFor : List AV → Option AV
  | [.sl w0, .agg [.flt .f32 y1, .flt .f32 y2, .flt .f32 y3], .int .i64 y4] => (match decL dc_en0 w0 with | some y0 => (if p_laws_FnExactReachFor y0 (y1, y2, y3) y4 = true then some (.bool (m_laws_FnExactReachFor y0 (y1, y2, y3) y4)) else none) | none => none)
  | _ => none
def ic9 : ICode := (.seq (.reg [⟨(some 4), none, (.box 3 (.t 1))⟩, ⟨(some 6), none, (.mov (.c (.bool false)))⟩] [0, 2, 4]) (.seq (.reg [⟨(some 7), none, (.mov (.c (.int .i64
      1048576)))⟩] [0, 2, 4, 7]) (.seq (.reg [⟨(some 18), none, (.mov (.t 0))⟩, ⟨(some 19), none, (.mov (.t 7))⟩, ⟨(some 20), none, (.call (.fn 33) [(.t 18), (.t 19)] [])⟩, ⟨(some
      7), none, (.mov (.t 20))⟩] [0, 2, 4, 7]) (.seq (.seq (.reg [⟨(some 21), none, (.mov (.t 7))⟩, ⟨(some 22), none, (.bin .lss false (.t 21) (.c (.int .i64 0)))⟩] [0, 2, 4, 22])
      (.cond (.t 22) (.seq (.reg [⟨(some 6), none, (.mov (.c (.bool true)))⟩] [6]) .ret) .skip)) (.seq (.reg [⟨(some 24), none, (.mov (.t 0))⟩, ⟨(some 25), none, (.call (.fn 35)
      [(.t 24)] [])⟩, ⟨(some 26), none, (.load (some 3) (.t 4))⟩, ⟨(some 27), none, (.call (.fn 38) [(.t 26)] [])⟩, ⟨(some 28), none, (.mov (.t 2))⟩, ⟨(some 29), none, (.call (.fn
      47) [(.t 25), (.t 27), (.t 28)] [])⟩, ⟨(some 23), none, (.mov (.t 29))⟩, ⟨(some 30), none, (.extract (.t 23) 0)⟩, ⟨(some 31), none, (.extract (.t 23) 1)⟩, ⟨(some 8), none,
      (.mov (.t 30))⟩, ⟨(some 9), none, (.mov (.t 31))⟩] [0, 2, 4, 8, 9]) (.seq (.reg [⟨(some 32), none, (.mov (.t 0))⟩, ⟨(some 33), none, (.call (.fn 35) [(.t 32)] [3])⟩, ⟨(some
      10), none, (.mov (.t 33))⟩] [0, 2, 4, 8, 9, 10]) (.seq (.reg [⟨(some 35), none, (.mov (.t 10))⟩, ⟨(some 36), none, (.load (some 3) (.t 4))⟩, ⟨(some 37), none, (.call (.fn 38)
      [(.t 36)] [])⟩, ⟨(some 38), none, (.mov (.t 2))⟩, ⟨(some 39), none, (.call (.fn 48) [(.t 35), (.t 37), (.t 38)] [3])⟩, ⟨(some 34), none, (.mov (.t 39))⟩, ⟨(some 40), none,
      (.extract (.t 34) 0)⟩, ⟨(some 41), none, (.extract (.t 34) 1)⟩, ⟨(some 11), none, (.mov (.t 40))⟩, ⟨(some 12), none, (.mov (.t 41))⟩] [0, 2, 4, 8, 9, 10, 11, 12]) (.seq (.seq
      (.reg [⟨(some 42), none, (.mov (.t 11))⟩, ⟨(some 43), none, (.mov (.t 8))⟩, ⟨(some 44), none, (.call (.fn 17) [(.t 42), (.t 43)] [])⟩, ⟨(some 45), none, (.un .not (.t 44))⟩,
      ⟨(some 46), none, (.mov (.t 45))⟩, ⟨(some 47), (some (46, false)), (.mov (.t 12))⟩, ⟨(some 48), (some (46, false)), (.mov (.t 9))⟩, ⟨(some 49), (some (46, false)), (.bin .neq
      true (.t 47) (.t 48))⟩, ⟨(some 50), none, (.pick (.t 46) (.c (.bool true)) (.t 49))⟩] [0, 2, 4, 8, 9, 10, 11, 12, 50]) (.cond (.t 50) (.seq (.reg [⟨(some 6), none, (.mov (.c
      (.bool false)))⟩] [6]) .ret) .skip)) (.seq (.seq (.reg [⟨(some 51), none, (.mov (.t 10))⟩, ⟨(some 52), none, (.mov (.t 0))⟩, ⟨(some 53), none, (.call (.fn 35) [(.t 52)] [])⟩,
      ⟨(some 54), none, (.call (.fn 17) [(.t 51), (.t 53)] [])⟩, ⟨(some 55), none, (.un .not (.t 54))⟩] [0, 2, 4, 8, 9, 10, 11, 12, 55]) (.cond (.t 55) (.seq (.reg [⟨(some 6), none,
      (.mov (.c (.bool false)))⟩] [6]) .ret) .skip)) (.seq (.reg [⟨(some 13), none, (.mov (.c (.int .i64 1)))⟩] [0, 2, 4, 8, 9, 10, 11, 12, 13]) (.seq (.reg [⟨(some 56), none, (.mov
      (.t 10))⟩, ⟨(some 57), none, (.mov (.t 13))⟩, ⟨(some 58), none, (.callM 23 [(.t 56), (.t 57)])⟩, ⟨(some 13), none, (.mov (.t 58))⟩] [0, 2, 4, 8, 9, 11, 12, 13]) (.seq (.seq
      (.reg [⟨(some 59), none, (.mov (.t 13))⟩, ⟨(some 60), none, (.bin .lss false (.t 59) (.c (.int .i64 0)))⟩, ⟨(some 61), none, (.mov (.t 60))⟩, ⟨(some 62), (some (61, false)),
      (.mov (.t 11))⟩, ⟨(some 63), (some (61, false)), (.mov (.t 8))⟩, ⟨(some 64), (some (61, false)), (.call (.fn 17) [(.t 62), (.t 63)] [])⟩, ⟨(some 65), (some (61, false)), (.un
      .not (.t 64))⟩, ⟨(some 66), none, (.pick (.t 61) (.c (.bool true)) (.t 65))⟩, ⟨(some 67), none, (.mov (.t 66))⟩, ⟨(some 68), (some (67, false)), (.mov (.t 12))⟩, ⟨(some 69),
      (some (67, false)), (.mov (.t 9))⟩, ⟨(some 70), (some (67, false)), (.bin .neq true (.t 68) (.t 69))⟩, ⟨(some 71), none, (.pick (.t 67) (.c (.bool true)) (.t 70))⟩] [0, 2, 4,
      8, 9, 11, 71]) (.cond (.t 71) (.seq (.reg [⟨(some 6), none, (.mov (.c (.bool false)))⟩] [6]) .ret) .skip)) (.seq (.reg [⟨(some 14), none, (.mov (.c (.int .i64 1)))⟩] [0, 2, 4,
      8, 9, 11, 14]) (.seq (.reg [⟨(some 72), none, (.mov (.t 11))⟩, ⟨(some 73), none, (.mov (.t 14))⟩, ⟨(some 74), none, (.callM 23 [(.t 72), (.t 73)])⟩, ⟨(some 14), none, (.mov
      (.t 74))⟩] [0, 2, 4, 8, 9, 11, 14]) (.seq (.reg [⟨(some 15), none, (.mov (.c (.int .i64 1)))⟩] [0, 2, 4, 8, 9, 11, 14, 15]) (.seq (.reg [⟨(some 75), none, (.mov (.t 11))⟩,
      ⟨(some 76), none, (.mov (.t 15))⟩, ⟨(some 77), none, (.call (.fn 25) [(.t 75), (.t 76)] [])⟩, ⟨(some 15), none, (.mov (.t 77))⟩] [0, 2, 4, 8, 9, 11, 14, 15]) (.seq (.seq (.reg
      [⟨(some 78), none, (.mov (.t 15))⟩, ⟨(some 79), none, (.bin .lss false (.t 78) (.c (.int .i64 0)))⟩] [0, 2, 4, 8, 9, 11, 14, 15, 79]) (.cond (.t 79) (.seq (.reg [⟨(some 6),
      none, (.mov (.c (.bool false)))⟩] [6]) .ret) .skip)) (.seq (.seq (.reg [⟨(some 80), none, (.mov (.t 15))⟩, ⟨(some 81), none, (.mov (.t 14))⟩, ⟨(some 82), none, (.bin .neq
      false (.t 80) (.t 81))⟩] [0, 2, 4, 8, 9, 11, 14, 82]) (.cond (.t 82) (.seq (.reg [⟨(some 6), none, (.mov (.c (.bool false)))⟩] [6]) .ret) .skip)) (.seq (.reg [⟨(some 84),
      none, (.mov (.t 0))⟩, ⟨(some 85), none, (.call (.fn 35) [(.t 84)] [])⟩, ⟨(some 86), none, (.load (some 3) (.t 4))⟩, ⟨(some 87), none, (.call (.fn 38) [(.t 86)] [])⟩, ⟨(some
      88), none, (.mov (.t 2))⟩, ⟨(some 89), none, (.call (.fn 48) [(.t 85), (.t 87), (.t 88)] [])⟩, ⟨(some 83), none, (.mov (.t 89))⟩, ⟨(some 90), none, (.extract (.t 83) 0)⟩,
      ⟨(some 91), none, (.extract (.t 83) 1)⟩, ⟨(some 16), none, (.mov (.t 90))⟩, ⟨(some 17), none, (.mov (.t 91))⟩] [8, 9, 11, 14, 16, 17]) (.seq (.seq (.reg [⟨(some 92), none,
      (.mov (.t 16))⟩, ⟨(some 93), none, (.mov (.t 8))⟩, ⟨(some 94), none, (.call (.fn 17) [(.t 92), (.t 93)] [])⟩, ⟨(some 95), none, (.un .not (.t 94))⟩, ⟨(some 96), none, (.mov
      (.t 95))⟩, ⟨(some 97), (some (96, false)), (.mov (.t 17))⟩, ⟨(some 98), (some (96, false)), (.mov (.t 9))⟩, ⟨(some 99), (some (96, false)), (.bin .neq true (.t 97) (.t 98))⟩,
      ⟨(some 100), none, (.pick (.t 96) (.c (.bool true)) (.t 99))⟩] [11, 14, 100]) (.cond (.t 100) (.seq (.reg [⟨(some 6), none, (.mov (.c (.bool false)))⟩] [6]) .ret) .skip))
      (.seq (.reg [⟨(some 15), none, (.mov (.c (.int .i64 1)))⟩] [11, 14, 15]) (.seq (.reg [⟨(some 101), none, (.mov (.t 11))⟩, ⟨(some 102), none, (.mov (.t 15))⟩, ⟨(some 103),
      none, (.call (.fn 25) [(.t 101), (.t 102)] [])⟩, ⟨(some 15), none, (.mov (.t 103))⟩] [14, 15]) (.seq (.seq (.reg [⟨(some 104), none, (.mov (.t 15))⟩, ⟨(some 105), none, (.bin
      .lss false (.t 104) (.c (.int .i64 0)))⟩] [14, 15, 105]) (.cond (.t 105) (.seq (.reg [⟨(some 6), none, (.mov (.c (.bool false)))⟩] [6]) .ret) .skip)) (.seq (.seq (.reg [⟨(some
      106), none, (.mov (.t 15))⟩, ⟨(some 107), none, (.mov (.t 14))⟩, ⟨(some 108), none, (.bin .neq false (.t 106) (.t 107))⟩] [108]) (.cond (.t 108) (.seq (.reg [⟨(some 6), none,
      (.mov (.c (.bool false)))⟩] [6]) .ret) .skip)) (.seq (.reg [⟨(some 6), none, (.mov (.c (.bool true)))⟩] [6]) .ret)))))))))))))))))))))))))
def cp9 : CP := CP.mk [(33, [3]), (39, [3])] [23] [[0, 2, 4], [0, 2, 4, 7], [0, 2, 4, 7], [0, 2, 4, 22], [6], [0, 2, 4, 8, 9], [0, 2, 4, 8, 9, 10], [0, 2, 4, 8, 9, 10, 11, 12], [0,
      2, 4, 8, 9, 10, 11, 12, 50], [6], [0, 2, 4, 8, 9, 10, 11, 12, 55], [6], [0, 2, 4, 8, 9, 10, 11, 12, 13], [0, 2, 4, 8, 9, 11, 12, 13], [0, 2, 4, 8, 9, 11, 71], [6], [0, 2, 4,
      8, 9, 11, 14], [0, 2, 4, 8, 9, 11, 14], [0, 2, 4, 8, 9, 11, 14, 15], [0, 2, 4, 8, 9, 11, 14, 15], [0, 2, 4, 8, 9, 11, 14, 15, 79], [6], [0, 2, 4, 8, 9, 11, 14, 82], [6], [8,
      9, 11, 14, 16, 17], [11, 14, 100], [6], [11, 14, 15], [14, 15], [14, 15, 105], [6], [108], [6], [6]] 109
theorem fc9_0 : IntKind.wrap .i64 0 = 0 := by decide
theorem fc9_1 : IntKind.wrap .i64 1 = 1 := by decide
theorem fc9_2 : IntKind.wrap .i64 2 = 2 := by decide
theorem fc9_3 : IntKind.wrap .i64 3 = 3 := by decide
theorem fc9_4 : IntKind.wrap .i64 4 = 4 := by decide
theorem fc9_5 : IntKind.wrap .i64 5 = 5 := by decide
theorem fc9_6 : IntKind.wrap .i64 6 = 6 := by decide
theorem fc9_7 : IntKind.wrap .i64 7 = 7 := by decide
theorem s9 : ∀ vs r, g_laws_FnExactReachFor vs = some r → SaysM Try.prog .any 9 vs r := by
  intro vs r h
  unfold g_laws_FnExactReachFor at h
  split at h
  · rename_i w0 y1 y2 y3 y4
    cases hd_y0 : decL dc_en0 w0 with
    | none => rw [hd_y0] at h; cases h
    | some y0 =>
    rw [hd_y0] at h
    obtain rfl := decL_inv dc_en0_inv hd_y0
    clear hd_y0
    dsimp only at h
    split at h
    · rename_i hp
      cases h
      refine spec_of (m := .any) (tab := tabOf [(17, wM .any g_laws_eqVectorS), (23, g_laws_markVectorS), (25, wM .any g_laws_heldVectorS), (33, wM .any g_laws_szVectorS), (35, wM (.own [3]) g_laws_toVectorS), (38, wM .any g_laws_toVector), (47, wM (.own [3]) g_spec_ReachFor), (48, wM (.own [3]) g_impl_ReachFor)]) (cp := cp9) (ic := ic9) (rvl := [(.t 6)]) hm (tabOk_cons (m := .any) s17 (tabOk_consW s23 (tabOk_cons (m := .any) s25 (tabOk_cons (m := .any) s33 (tabOk_cons (m := (.own [3])) s35 (tabOk_cons (m := .any) s38 (tabOk_cons (m := (.own [3])) s47 (tabOk_cons (m := (.own [3])) s48 tabOk_nil)))))))) Try.func9 rfl rfl rfl (by kernel_rfl) rfl (Nat.le_of_ble_eq_true rfl) (Nat.le_of_ble_eq_true rfl) ?_
      show eA _ _ _ _
      unfold ic9
      simp only [p_laws_FnExactReachFor, v_laws_FnExactReachFor_0, Bool.and_eq_true, Bool.or_eq_true, decide_eq_true_eq, Bool.not_eq_true', decide_eq_false_iff_not] at hp
      simp only [
          hp, grpS, grpD, grpF, grpL, eop, vop, bop, uop, fltop, convop, endOk, newE, new1, freshL, Md.isNew, outV, pureV, pureX, pure1, AV.cells, AV.one, storable, laid, refless,
                refless1, vload, loadC, storeC, vnil, vfaddr, vextract, flatT, flatE, flatC, vconv, vmm, vidxA, viaddrA, vfield, vlen, elemsOf, dF32, dF64, dI64, dU8, dBool, dStr,
                esOk, elemsS, vsliceX, bnd, ownV, ownC, own1, ownT, isSl, nSl, endL, Md.isOwn, purge, purgeH, purgeB, purgeE, hasName, name1, List.any_cons, List.any_nil, Md.isWr,
                pureV.pureP, Option.map, reduceIte, Nat.reduceEqDiff, Nat.reduceAdd, Nat.reduceMul, Nat.reduceLT, Nat.reduceLeDiff, List.mapM_cons, List.mapM_nil, Option.pure_def,
                Option.bind_eq_bind, Option.bind_some, implies_true, forall_const, beq_self_eq_true, decide_true, decide_false, eq_self, Int.reduceEq, Int.reduceLE, Int.reduceLT,
                if_true, if_false, fc9_0, fc9_1, fc9_2, fc9_3, fc9_4, fc9_5, fc9_6, fc9_7, Int.reduceAdd, Int.reduceSub, Int.reduceMul, Int.reduceNeg, Int.reducePow, Nat.reducePow,
                Int.reduceToNat, Nat.reduceSub, List.replicate, Nat.reduceBEq, wAs, wA, wC, zipW, noDupN, grpE, g_laws_eqVectorS, g_laws_markVectorS, g_laws_heldVectorS,
                g_laws_szVectorS, g_laws_toVectorS, g_laws_toVector, g_spec_ReachFor, g_impl_ReachFor, grpC, en0, dc_en0, ↓b_pick, ePk_true, ePk_false]
      repeat' (first
        | ((first | (refine eGI_of (fun h => ?_) (fun h => ?_)) | (refine eCc_of (fun h => ?_) (fun h => ?_)) | (refine ePk_of (fun h => ?_) (fun h => ?_))) <;> (try simp only [Bool.not_eq_true', Bool.not_eq_false'] at h) <;> (try simp only [h, reduceCtorEq, Bool.not_eq_true', decide_eq_false_iff_not, Bool.not_true, Bool.not_false, Bool.false_or, Bool.true_or, Bool.true_and, Bool.false_and, Bool.and_eq_true, Bool.or_eq_true, if_true, if_false, reduceIte, Bool.false_eq_true, and_true, true_and, false_or, or_false, decide_eq_true_eq, not_false_eq_true, not_true_eq_false] at hp) <;> (try (have h2 := h; simp only [decide_eq_true_eq, decide_eq_false_iff_not] at h2; (first | (replace h2 := eq_false h2) | (replace h2 := eq_true h2)); simp only [h2, if_true, if_false, false_or, true_or, or_true, or_false, and_true, true_and, not_false_eq_true, not_true_eq_false] at hp)) <;> simp only [h,
          hp, grpS, grpD, grpF, grpL, eop, vop, bop, uop, fltop, convop, endOk, newE, new1, freshL, Md.isNew, outV, pureV, pureX, pure1, AV.cells, AV.one, storable, laid, refless,
                refless1, vload, loadC, storeC, vnil, vfaddr, vextract, flatT, flatE, flatC, vconv, vmm, vidxA, viaddrA, vfield, vlen, elemsOf, dF32, dF64, dI64, dU8, dBool, dStr,
                esOk, elemsS, vsliceX, bnd, ownV, ownC, own1, ownT, isSl, nSl, endL, Md.isOwn, purge, purgeH, purgeB, purgeE, hasName, name1, List.any_cons, List.any_nil, Md.isWr,
                pureV.pureP, Option.map, reduceIte, Nat.reduceEqDiff, Nat.reduceAdd, Nat.reduceMul, Nat.reduceLT, Nat.reduceLeDiff, List.mapM_cons, List.mapM_nil, Option.pure_def,
                Option.bind_eq_bind, Option.bind_some, implies_true, forall_const, beq_self_eq_true, decide_true, decide_false, eq_self, Int.reduceEq, Int.reduceLE, Int.reduceLT,
                if_true, if_false, fc9_0, fc9_1, fc9_2, fc9_3, fc9_4, fc9_5, fc9_6, fc9_7, Int.reduceAdd, Int.reduceSub, Int.reduceMul, Int.reduceNeg, Int.reducePow, Nat.reducePow,
                Int.reduceToNat, Nat.reduceSub, List.replicate, Nat.reduceBEq, wAs, wA, wC, zipW, noDupN, grpE, g_laws_eqVectorS, g_laws_markVectorS, g_laws_heldVectorS,
                g_laws_szVectorS, g_laws_toVectorS, g_laws_toVector, g_spec_ReachFor, g_impl_ReachFor, grpC, en0, dc_en0, ↓b_pick, ePk_true, ePk_false]))
      all_goals (try simp only [*, m_laws_FnExactReachFor, v_laws_FnExactReachFor_0, Bool.and_true, Bool.true_and, Bool.and_false, Bool.false_and, Bool.or_true, Bool.true_or, Bool.or_false, Bool.false_or, Bool.not_true, Bool.not_false, Bool.false_eq_true, if_true, if_false, reduceIte, decide_true, decide_false])
      all_goals (try (simp_all; done))
    · cases h
  · cases h
end Go.Proofs
namespace Go.Ab
/-- a list of known length is filled, an element a round -/
theorem fill_loop {β : Type} (l : Nat → List β → Int → Option (List β)) (len : Nat) (F : Nat → β) (hlen : len < 2 ^ 62)
    (H : ∀ (n : Nat) (z : List β) (k : Nat), k < len → z.length = len → l (n + 1) z (k : Int) = l n (z.set k (F k)) (IntKind.wrap .i64 ((k : Int) + 1)))
    (H' : ∀ (n : Nat) (z : List β) (k : Nat), ¬ k < len → l (n + 1) z (k : Int) = some z) :
    ∀ (n : Nat) (z : List β) (k : Nat), k ≤ len → z.length = len → len - k < n → l n z (k : Int) = some (z.take k ++ (List.range' k (len - k)).map F)
  | 0, z, k, _, _, h => by omega
  | n + 1, z, k, hk, hz, h => by
    by_cases hlt : k < len
    · rw [H n z k hlt hz, wrapS (by omega), fill_loop l len F hlen H H' n _ (k + 1) (by omega) (by rw [List.length_set]; exact hz) (by omega), show len - k = (len - (k + 1)) + 1 by omega, List.range'_succ, List.map_cons]
      congr 1
      rw [List.take_succ_eq_append_getElem (by rw [List.length_set]; omega), List.take_set_of_le (Nat.le_refl _), List.getElem_set_self, List.append_assoc, List.singleton_append]
    · rw [H' n z k hlt, show len - k = 0 by omega]
      have : k = z.length := by omega
      subst this
      simp
/-- elements are put at the end, one a round -/
theorem app_loop {β : Type} (l : Nat → List β → Int → Option (List β)) (len : Nat) (F : Nat → β) (hlen : len < 2 ^ 62) (P : Nat → Nat → Prop)
    (H : ∀ (n : Nat) (z : List β) (k : Nat), k < len → P k z.length → l (n + 1) z (k : Int) = l n (z ++ [F k]) (IntKind.wrap .i64 ((k : Int) + 1)))
    (H' : ∀ (n : Nat) (z : List β) (k : Nat), ¬ k < len → l (n + 1) z (k : Int) = some z) (hP : ∀ k j, k < len → P k j → P (k + 1) (j + 1)) :
    ∀ (n : Nat) (z : List β) (k : Nat), k ≤ len → P k z.length → len - k < n → l n z (k : Int) = some (z ++ (List.range' k (len - k)).map F)
  | 0, z, k, _, _, h => by omega
  | n + 1, z, k, hk, hp, h => by
    by_cases hlt : k < len
    · rw [H n z k hlt hp, wrapS (by omega), app_loop l len F hlen P H H' hP n _ (k + 1) (by omega) (by rw [List.length_append]; exact hP _ _ hlt hp) (by omega), show len - k = (len - (k + 1)) + 1 by omega, List.range'_succ, List.map_cons]
      simp
    · rw [H' n z k hlt, show len - k = 0 by omega]
      simp
theorem map_range_shift {β : Type} {F G : Nat → β} {k j m : Nat} (h : ∀ i, i < m → F (k + i) = G (j + i)) : (List.range' k m).map F = (List.range' j m).map G := by
  induction m generalizing k j with
  | zero => rfl
  | succ m ih =>
    have h0 := h 0 (by omega)
    rw [Nat.add_zero, Nat.add_zero] at h0
    rw [List.range'_succ, List.range'_succ, List.map_cons, List.map_cons, h0, ih fun i hi => by
      have := h (i + 1) (by omega)
      rw [show k + (i + 1) = k + 1 + i by omega, show j + (i + 1) = j + 1 + i by omega] at this
      exact this]
/-- marks -/
def marks {α : Type} (f : Int → α) (g : Int → Int) : Int → Nat → List α
  | _, 0 => []
  | m, n + 1 => f m :: marks f g (g m) n
def iter (g : Int → Int) : Nat → Int → Int
  | 0, m => m
  | n + 1, m => iter g n (g m)
theorem marks_len {α : Type} (f : Int → α) (g : Int → Int) : ∀ (n : Nat) (m : Int), (marks f g m n).length = n
  | 0, _ => rfl
  | n + 1, m => by rw [marks, List.length_cons, marks_len f g n]
theorem marks_get {α : Type} [Inhabited α] (f : Int → α) (g : Int → Int) : ∀ (n : Nat) (m : Int) (i : Nat), i < n → (marks f g m n).getD i default = f (iter g i m)
  | 0, _, _, h => by omega
  | n + 1, m, 0, _ => rfl
  | n + 1, m, i + 1, h => by
    rw [marks, List.getD_cons_succ, marks_get f g n (g m) i (by omega)]; rfl
theorem iter_succ (g : Int → Int) : ∀ (i : Nat) (m : Int), g (iter g i m) = iter g (i + 1) m
  | 0, _ => rfl
  | i + 1, m => by rw [iter, iter_succ g i (g m)]; rfl
theorem iter_add {g : Int → Int} {c : Nat} (hg : ∀ m : Int, 0 ≤ m → m ≤ 2 ^ 60 → g m = m + c) : ∀ (n : Nat) (m : Int), 0 ≤ m → m + ((c * n : Nat) : Int) ≤ 2 ^ 60 → iter g n m = m + ((c * n : Nat) : Int)
  | 0, m, _, _ => by simp [iter]
  | n + 1, m, h0, h => by
    rw [Nat.mul_succ] at h ⊢
    rw [iter, hg m h0 (by omega), iter_add hg n _ (by omega) (by omega)]
    omega
theorem mark_loop {α : Type} (l : Nat → List α → Int → Int → Option (Int × List α)) (f : Int → α) (g : Int → Int)
    (H : ∀ n z m k, l (n + 1) z m k = if (decide (k < ((z.length : Nat) : Int))) = true then need (inB k z.length) (l n (z.set k.toNat (f m)) (g m) (IntKind.wrap .i64 (k + 1))) else some (m, z)) :
    ∀ (n : Nat) (z : List α) (m : Int) (k : Nat), z.length < 2 ^ 62 → k ≤ z.length → z.length - k < n → l n z m (k : Int) = some (iter g (z.length - k) m, z.take k ++ marks f g m (z.length - k))
  | 0, z, m, k, _, _, h => by omega
  | n + 1, z, m, k, hz, hk, h => by
    rw [H]
    by_cases hlt : k < z.length
    · rw [if_pos (by simp; omega), inB_nat]
      unfold need
      rw [if_pos (by simpa using hlt), wrapS (by omega), Int.toNat_natCast, mark_loop l f g H n _ (g m) (k + 1) (by rw [List.length_set]; exact hz) (by rw [List.length_set]; omega) (by rw [List.length_set]; omega), List.length_set,
        show z.length - k = (z.length - (k + 1)) + 1 by omega]
      congr 2
      rw [List.take_succ_eq_append_getElem (by rw [List.length_set]; omega), List.take_set_of_le (Nat.le_refl _), List.getElem_set_self, List.append_assoc, List.singleton_append]
      rfl
    · rw [if_neg (by simp; omega), show z.length - k = 0 by omega]
      have : k = z.length := by omega
      subst this
      simp [iter, marks]
theorem mark_all {α : Type} (l : Nat → List α → Int → Int → Option (Int × List α)) (f : Int → α) (g : Int → Int) (x : List α) (m : Int) (hx : x.length < 2 ^ 62)
    (H : ∀ n z m k, l (n + 1) z m k = if (decide (k < ((z.length : Nat) : Int))) = true then need (inB k z.length) (l n (z.set k.toNat (f m)) (g m) (IntKind.wrap .i64 (k + 1))) else some (m, z)) :
    l (Int.toNat (((x.length : Nat) : Int) - 0) + 2) x m 0 = some (iter g x.length m, marks f g m x.length) := by
  have := mark_loop l f g H (Int.toNat (((x.length : Nat) : Int) - 0) + 2) x m 0 hx (Nat.zero_le _) (by omega)
  simpa using this
theorem held_all {α : Type} [Inhabited α] (l : Nat → Int → Int → Option (Bool × Int × Int)) (f : Int → α) (g : Int → Int) (e : α → Int → Bool) (x : List α) (m : Int) (len : Nat) (hx : x = marks f g m len) (hl : len < 2 ^ 62) (he : ∀ m, e (f m) m = true)
    (H : ∀ n m k, l (n + 1) m k = if (decide (k < ((x.length : Nat) : Int))) = true then need (inB k x.length) (if e (atI x k) m = true then l n (g m) (IntKind.wrap .i64 (k + 1)) else some (true, -1, default)) else some (false, default, m)) :
    l (Int.toNat (((x.length : Nat) : Int) - 0) + 2) m 0 = some (false, default, iter g len m) := by
  have hlen : x.length = len := by rw [hx, marks_len]
  have key : ∀ (n k : Nat), k ≤ len → len - k < n → l n (iter g k m) (k : Int) = some (false, default, iter g len m) := by
    intro n
    induction n with
    | zero => intro k _ h; omega
    | succ n ih =>
      intro k hk h
      rw [H, hlen]
      by_cases hlt : k < len
      · rw [if_pos (by simp; omega), inB_nat]
        unfold need
        rw [if_pos (by simpa using hlt), atI_nat, hx, marks_get f g len m k hlt, if_pos (he _), wrapS (by omega), iter_succ g, ih (k + 1) (by omega) (by omega)]
      · rw [if_neg (by simp; omega), show k = len by omega]
  have := key (Int.toNat (((x.length : Nat) : Int) - 0) + 2) 0 (Nat.zero_le _) (by omega)
  exact this
/-- a whole number made a float is itself -/
theorem feq_ofInt (n : Int) : feq .f32 (ofInt .f32 n) (ofInt .f32 n) = true := by
  rw [feq_self_iff]
  have h : isNaN .f32 (ofInt .f32 n) = false := by
    unfold isNaN ofInt
    show (FloatKind.f32.format.read (FloatKind.f32.nearest n)).isNaN = false
    rcases read_nearest .f32 (decide (n < 0)) n.natAbs 0 with ⟨m', e', h, _⟩ | h
    all_goals
      have h2 : FloatKind.f32.format.read (FloatKind.f32.nearest n) = _ := h
      rw [h2]; rfl
  rw [h]; rfl
end Go.Ab
namespace Go.Proofs
open Go.Ab
theorem sameFloat_refl (x : Nat) : m_laws_sameFloat x x = true := by
  unfold m_laws_sameFloat
  by_cases h : feq .f64 x x = true
  · simp [h]
  · simp [h]
end Go.Proofs
namespace Go.Proofs
open Go.Ab
theorem eq_Vector (a : Nat × Nat × Nat) : m_laws_eqVector a a = true := by unfold m_laws_eqVector; simp [sameFloat_refl]
end Go.Proofs
namespace Go.Proofs
open Go.Ab
theorem eq_VectorS (x : List (Nat × Nat × Nat)) (h : x.length ≤ 1048576) : m_laws_eqVectorS x x = true ∧ p_laws_eqVectorS x x = true := by
  unfold m_laws_eqVectorS p_laws_eqVectorS
  rw [show l_laws_eqVectorS_0 x x (Int.toNat (((List.length x : Nat) : Int) - 0) + 2) 0 = some (false, default, ()) from eq_loop _ x m_laws_eqVector eq_Vector (by omega) fun _ _ => rfl]; simp
theorem to_VectorS (x : List (Nat × Nat × Nat)) (h : x.length ≤ 1048576) : m_laws_toVectorS x = x ∧ p_laws_toVectorS x = true := by
  unfold m_laws_toVectorS p_laws_toVectorS
  rw [show l_laws_toVectorS_0 x (Int.toNat (((List.length x : Nat) : Int) - 0) + 2) (List.replicate (Int.toNat ((List.length x : Nat) : Int)) (0, 0, 0)) 0 = some x by
    rw [copy_all (l_laws_toVectorS_0 x) x m_laws_toVector _ (by omega) fun _ _ _ => rfl]
    congr 1
    exact List.map_id x]
  refine ⟨rfl, ?_⟩
  simp; omega
theorem sz_VectorS (x : List (Nat × Nat × Nat)) (n : Int) (hx : x.length ≤ maxLen) (h0 : 0 ≤ n) (hn : n ≤ 1048576) (hs : ¬ (m_laws_szVectorS x n < 0)) : x.length ≤ 1048576 ∧ 0 ≤ m_laws_szVectorS x n ∧ m_laws_szVectorS x n ≤ 1048576 := by
  unfold m_laws_szVectorS at hs ⊢
  have hx' : x.length ≤ 9223372036854775807 := by unfold maxLen at hx; omega
  rw [wrapI (by omega) (by omega)] at hs ⊢
  by_cases h : n - ((List.length x : Nat) : Int) < 0
  · simp [h] at hs
  · rw [if_neg (by simpa using h)]; omega
end Go.Proofs
namespace Go.Proofs
open Go.Ab
def gV (m : Int) : Int := IntKind.wrap .i64 ((IntKind.wrap .i64 ((IntKind.wrap .i64 (m + 1)) + 1)) + 1)
theorem gV_add (m : Int) (h0 : 0 ≤ m) (h : m ≤ 2 ^ 60) : gV m = m + (3 : Nat) := by
  unfold gV
  rw [wrapI (n := m + 1) (by omega) (by omega), wrapI (n := m + 1 + 1) (by omega) (by omega), wrapI (by omega) (by omega)]
  omega
def fV (m : Int) : Nat × Nat × Nat := (ofInt .f32 m, ofInt .f32 (IntKind.wrap .i64 (m + 1)), ofInt .f32 (IntKind.wrap .i64 ((IntKind.wrap .i64 (m + 1)) + 1)))
theorem mark_VectorS (x : List (Nat × Nat × Nat)) (m : Int) (h : x.length ≤ 1048576) : m_laws_markVectorS x m = (iter gV x.length m, marks fV gV m x.length) ∧ p_laws_markVectorS x m = true := by
  unfold m_laws_markVectorS p_laws_markVectorS
  rw [show l_laws_markVectorS_0 (Int.toNat (((List.length x : Nat) : Int) - 0) + 2) x m 0 = some (iter gV x.length m, marks fV gV m x.length) from mark_all _ fV gV x m (by omega) fun _ _ _ _ => rfl]
  exact ⟨rfl, by simp [marks_len]⟩
end Go.Proofs
namespace Go.Proofs
open Go.Ab
theorem held_VectorS (n : Nat) (m : Int) (h : n ≤ 1048576) : m_laws_heldVectorS (marks fV gV m n) m = iter gV n m ∧ p_laws_heldVectorS (marks fV gV m n) m = true := by
  unfold m_laws_heldVectorS p_laws_heldVectorS
  rw [show l_laws_heldVectorS_0 (marks fV gV m n) (Int.toNat (((List.length (marks fV gV m n) : Nat) : Int) - 0) + 2) m 0 = some (false, default, iter gV n m) from
    held_all _ fV gV (fun a m => feq .f32 a.1 (ofInt .f32 m) && (feq .f32 a.2.1 (ofInt .f32 (IntKind.wrap .i64 (m + 1))) && feq .f32 a.2.2 (ofInt .f32 (IntKind.wrap .i64 ((IntKind.wrap .i64 (m + 1)) + 1))))) _ m n rfl (by omega) (fun m => by
      simp [fV, feq_ofInt]) fun n m k => by
      show (if (decide (k < _)) = true then _ else _) = _
      split
      · congr 1
        split
        · rename_i h1; rw [h1]
          split
          · rename_i h2; rw [h2]
            split
            · rename_i h3; rw [h3]; rfl
            · rename_i h3; rw [(Bool.not_eq_true _).mp h3]; first | rfl | (simp; done)
          · rename_i h2; rw [(Bool.not_eq_true _).mp h2]; first | rfl | (simp; done)
        · rename_i h1; rw [(Bool.not_eq_true _).mp h1]; first | rfl | (simp; done)
      · rfl]
  exact ⟨by simp, rfl⟩
end Go.Proofs
namespace Go.Proofs
open Go.Ab
/-- the distances of neighbours -/
def gaps (x : List (Nat × Nat × Nat)) : List Nat := (List.range' 0 (x.length - 1)).map fun k => m_spec_l01Long (m_spec_l01Less (x.getD (k + 1) default) (x.getD k default))
theorem gaps_len (x : List (Nat × Nat × Nat)) : (gaps x).length = x.length - 1 := by simp [gaps]
theorem long_ok (v : Nat × Nat × Nat) : p_spec_l01Long v = true := sqrt_narrow _
theorem spec_gaps (x : List (Nat × Nat × Nat)) (h1 : 1 ≤ x.length) (h2 : x.length ≤ 1048576) : l_spec_l04Lengths_0 x (Int.toNat (((List.length x : Nat) : Int) - 1) + 2) [] 1 = some (gaps x) := by
  have := app_loop (l_spec_l04Lengths_0 x) x.length (fun k => m_spec_l01Long (m_spec_l01Less (x.getD k default) (x.getD (k - 1) default))) (by omega) (fun k j => k = j + 1) (fun n z k hk hp => by
      show (if (decide ((k : Int) < ((List.length x : Nat) : Int))) = true then _ else _) = _
      have hw : IntKind.wrap .i64 ((k : Int) - 1) = ((k - 1 : Nat) : Int) := by rw [wrapI (by omega) (by omega)]; omega
      rw [if_pos (by simp; omega), hw, inB_nat, inB_nat, atI_nat, atI_nat]
      unfold need
      rw [if_pos (by simp; omega), if_pos (by simp; omega), if_pos (long_ok _), if_pos (by simp; omega), if_pos (by simp; omega)]) (fun n z k hk => by
      show (if (decide ((k : Int) < ((List.length x : Nat) : Int))) = true then _ else _) = _
      rw [if_neg (by simp; omega)]) (fun k j _ h => by omega) (Int.toNat (((List.length x : Nat) : Int) - 1) + 2) [] 1 h1 (by simp) (by omega)
  refine this.trans ?_
  rw [List.nil_append]
  unfold gaps
  congr 1
  refine map_range_shift fun i _ => ?_
  rw [show 1 + i - 1 = 0 + i by omega, show 1 + i = 0 + i + 1 by omega]
theorem spec_Lengths (x : List (Nat × Nat × Nat)) (h1 : 1 ≤ x.length) (h2 : x.length ≤ 1048576) : m_spec_l04Lengths x = gaps x ∧ p_spec_l04Lengths x = true := by
  unfold m_spec_l04Lengths p_spec_l04Lengths
  rw [spec_gaps x h1 h2]; exact ⟨rfl, rfl⟩
end Go.Proofs
namespace Go.Proofs
open Go.Ab
theorem impl_Lengths (x : List (Nat × Nat × Nat)) (h1 : 1 ≤ x.length) (h2 : x.length ≤ 1048576) : m_impl_distances x = gaps x ∧ p_impl_distances x = true := by
  have hw0 : IntKind.wrap .i64 (((List.length x : Nat) : Int) - 1) = ((x.length - 1 : Nat) : Int) := by rw [wrapI (by omega) (by omega)]; omega
  unfold m_impl_distances p_impl_distances
  have := fill_loop (l_impl_distances_0 x) (x.length - 1) (fun k => m_spec_l01Long (m_spec_l01Less (x.getD (k + 1) default) (x.getD k default))) (by omega) (fun n z k hk hz => by
      show (if (decide ((k : Int) < ((Int.toNat (IntKind.wrap .i64 (((List.length x : Nat) : Int) - 1)) : Nat) : Int))) = true then _ else _) = _
      have hw : IntKind.wrap .i64 ((k : Int) + 1) = ((k + 1 : Nat) : Int) := wrapS (by omega)
      rw [hw0, if_pos (by simp; omega), hw, inB_nat, inB_nat, inB_nat, atI_nat, atI_nat, Int.toNat_natCast]
      unfold need
      rw [if_pos (by simp; omega), if_pos (by simp; omega), if_pos (show p_impl_LongOf _ = true from sqrt_narrow _), if_pos (by simp; omega)]
      rfl) (fun n z k hk => by
      show (if (decide ((k : Int) < ((Int.toNat (IntKind.wrap .i64 (((List.length x : Nat) : Int) - 1)) : Nat) : Int))) = true then _ else _) = _
      rw [hw0, if_neg (by simp; omega)]) (Int.toNat (((x.length - 1 : Nat) : Int) - 0) + 2) (List.replicate (x.length - 1) 0) 0 (Nat.zero_le _) (by simp) (by omega)
  rw [hw0, Int.toNat_natCast]
  rw [show l_impl_distances_0 x (Int.toNat (((x.length - 1 : Nat) : Int) - 0) + 2) (List.replicate (x.length - 1) 0) 0 = some (gaps x) from this.trans (by simp [gaps])]
  refine ⟨rfl, ?_⟩
  simp; omega
end Go.Proofs
namespace Go.Proofs
open Go.Ab
theorem placeAt_eq (a b : Nat × Nat × Nat) (c : Nat) : m_impl_PlaceAt a b c = m_spec_l04Place a b c := by
  unfold m_impl_PlaceAt m_spec_l04Place m_impl_isLength
  have e1 : m_impl_LongOf (m_impl_LessVectors b a) = m_spec_l01Long (m_spec_l01Less b a) := rfl
  have e2 : ∀ n, m_impl_IsFinite n = m_spec_l01Finite n := fun _ => rfl
  rw [e1, e2]
  generalize m_spec_l01Long (m_spec_l01Less b a) = n
  by_cases h0 : feq .f32 n 0 = true <;> by_cases h1 : m_spec_l01Finite n = true <;> simp [h0, h1]
  rfl
theorem pplace (a b : Nat × Nat × Nat) (c : Nat) : p_impl_PlaceAt a b c = true ∧ p_spec_l04Place a b c = true := ⟨sqrt_narrow _, sqrt_narrow _⟩
section
variable (x : List (Nat × Nat × Nat)) (t : Int) (h1 : 2 ≤ x.length) (h2 : x.length ≤ 16)
include h1 h2
theorem reach0_eq (g : Nat × Nat × Nat) (r : Int) : ∀ (n : Nat) (z : List (Nat × Nat × Nat)) (k : Int), l_impl_ReachFor_0 x t g r n z k = l_spec_ReachFor_0 x t g r n z k
  | 0, _, _ => rfl
  | n + 1, z, k => by
    unfold l_impl_ReachFor_0 l_spec_ReachFor_0
    rw [reach0_eq g r n, (impl_Lengths x (by omega) (by omega)).1, (spec_Lengths x (by omega) (by omega)).1]
    simp only [placeAt_eq, (pplace _ _ _).1, (pplace _ _ _).2]
theorem reach0_some (g : Nat × Nat × Nat) (r : Int) : ∀ (n : Nat) (z : List (Nat × Nat × Nat)) (k : Int), z.length = x.length → -1 ≤ k → k + 1 < x.length → (k + 1).toNat < n → ∃ z', l_spec_ReachFor_0 x t g r n z k = some (g, z') ∧ z'.length = x.length
  | 0, _, _, _, _, _, h => by omega
  | n + 1, z, k, hz, ha, hb, h => by
    unfold l_spec_ReachFor_0
    by_cases hk : 0 ≤ k
    · obtain ⟨j, rfl⟩ : ∃ j : Nat, k = (j : Int) := ⟨k.toNat, by omega⟩
      have hw : IntKind.wrap .i64 ((j : Int) - 1) = (j : Int) - 1 := wrapI (by omega) (by omega)
      rw [if_pos (by simp), wrapS (by omega), hw, inB_nat, inB_nat, inB_nat, (spec_Lengths x (by omega) (by omega)).1, gaps_len, (pplace _ _ _).2, Int.toNat_natCast]
      unfold need
      rw [if_pos (by simp; omega), if_pos (by simp; omega), if_pos (by simp; omega), if_pos rfl]
      exact reach0_some g r n _ _ (by rw [List.length_set]; exact hz) (by omega) (by omega) (by omega)
    · rw [if_neg (by simpa using hk)]
      exact ⟨z, rfl, hz⟩
theorem reach1_eq (g : Nat × Nat × Nat) (z2 : List (Nat × Nat × Nat)) (hz2 : z2.length = x.length) (r : Int) : ∀ (n : Nat) (z : List (Nat × Nat × Nat)) (k : Int), z.length = x.length → l_impl_ReachFor_1 x t g z2 r n z k = l_spec_ReachFor_1 x t g z2 r n z k
  | 0, _, _, _ => rfl
  | n + 1, z, k, hz => by
    unfold l_impl_ReachFor_1 l_spec_ReachFor_1
    rw [hz, hz2, reach1_eq g z2 hz2 r n _ _ (by rw [List.length_set]; exact hz), reach0_eq x t h1 h2, (impl_Lengths x (by omega) (by omega)).1, (spec_Lengths x (by omega) (by omega)).1]
    simp only [placeAt_eq, (pplace _ _ _).1, (pplace _ _ _).2]
theorem reach1_some (g : Nat × Nat × Nat) (z2 : List (Nat × Nat × Nat)) (r : Int) : ∀ (n : Nat) (z : List (Nat × Nat × Nat)) (k : Nat), z.length = x.length → 1 ≤ k → k ≤ x.length → x.length - k < n →
    ∃ q z', l_spec_ReachFor_1 x t g z2 r n z (k : Int) = some (q, z') ∧ z'.length = x.length
  | 0, _, _, _, _, _, h => by omega
  | n + 1, z, k, hz, ha, hb, h => by
    unfold l_spec_ReachFor_1
    by_cases hk : k < x.length
    · have hw : IntKind.wrap .i64 ((k : Int) - 1) = ((k - 1 : Nat) : Int) := by rw [wrapI (by omega) (by omega)]; omega
      rw [if_pos (by simp; omega), wrapS (by omega), hw, inB_nat, inB_nat, inB_nat, (spec_Lengths x (by omega) (by omega)).1, gaps_len, (pplace _ _ _).2, Int.toNat_natCast]
      unfold need
      rw [if_pos (by simp; omega), if_pos (by simp; omega), if_pos (by simp; omega), if_pos rfl]
      exact reach1_some g z2 r n _ (k + 1) (by rw [List.length_set]; exact hz) (by omega) (by omega) (by omega)
    · rw [if_neg (by simp; omega)]
      exact ⟨_, z, rfl, hz⟩
theorem reach2 (ht : t ≤ 40) : ∀ (n : Nat) (g : Nat × Nat × Nat) (z : List (Nat × Nat × Nat)) (r : Int), z.length = x.length → 0 ≤ r → r ≤ t → (t - r).toNat < n →
    l_impl_ReachFor_2 x t n g z r = l_spec_ReachFor_2 x t n g z r ∧ ∃ z', l_spec_ReachFor_2 x t n g z r = some z' ∧ z'.length = x.length
  | 0, _, _, _, _, _, _, h => by omega
  | n + 1, g, z, r, hz, h0, hr, h => by
    by_cases hlt : r < t
    · have hw1 : IntKind.wrap .i64 ((((List.length x) : Nat) : Int) - 1) = ((x.length - 1 : Nat) : Int) := by rw [wrapI (by omega) (by omega)]; omega
      have hw2 : IntKind.wrap .i64 ((((List.length x) : Nat) : Int) - 2) = (x.length : Int) - 2 := by rw [wrapI (by omega) (by omega)]
      have hw3 : IntKind.wrap .i64 (r + 1) = r + 1 := wrapI (by omega) (by omega)
      obtain ⟨z0, e0, l0⟩ := reach0_some x t h1 h2 g r (Int.toNat ((x.length : Int) - 2) + 2) (List.set z (x.length - 1) g) ((x.length : Int) - 2) (by rw [List.length_set]; exact hz) (by omega) (by omega) (by omega)
      have l0' : (List.set z0 (Int.toNat 0) (atI x 0)).length = x.length := by rw [List.length_set]; exact l0
      obtain ⟨q, z1, e1, l1⟩ := reach1_some x t h1 h2 g z r (Int.toNat ((((List.length x) : Nat) : Int) - 1) + 2) (List.set z0 (Int.toNat 0) (atI x 0)) 1 l0' (by omega) (by omega) (by omega)
      have ih := reach2 ht n q z1 (r + 1) l1 (by omega) (by omega) (by omega)
      rw [show ((1 : Nat) : Int) = 1 from rfl] at e1
      have B : inB 0 x.length = true := by simp [inB]; omega
      unfold l_impl_ReachFor_2 l_spec_ReachFor_2
      rw [if_pos (by simpa using hlt), if_pos (by simpa using hlt), hz, hw1, hw2, Int.toNat_natCast, reach0_eq x t h1 h2, e0, Option.getD_some, l0', reach1_eq x t h1 h2 g z hz r _ _ _ l0', e1, hw3, Option.getD_some, l0, B, inB_nat]
      have d : decide (x.length - 1 < x.length) = true := by simp; omega
      simp only [d, need, Option.isSome_some, if_true]
      exact ih
    · unfold l_impl_ReachFor_2 l_spec_ReachFor_2
      rw [if_neg (by simpa using hlt), if_neg (by simpa using hlt)]
      exact ⟨rfl, z, rfl, hz⟩
end
theorem core_ReachFor (x : List (Nat × Nat × Nat)) (g : Nat × Nat × Nat) (t : Int) : p_impl_ReachFor x g t = true ∧ p_spec_ReachFor x g t = true ∧ m_impl_ReachFor x g t = m_spec_ReachFor x g t ∧ (m_spec_ReachFor x g t).1.length ≤ 1048576 := by
  unfold p_impl_ReachFor p_spec_ReachFor m_impl_ReachFor m_spec_ReachFor m_impl_arePoints m_spec_l04Points m_spec_l00In p_impl_Vector m_impl_Vector
  by_cases h : 2 ≤ x.length ∧ x.length ≤ 16
  · have e1 : (2 : Int) ≤ ((List.length x : Nat) : Int) := by omega
    have e2 : ((List.length x : Nat) : Int) ≤ 16 := by omega
    by_cases h3 : t < 0
    · have h4 : ¬ (0 ≤ t) := by omega
      simp [e1, e2, h3, h4]
    · have h4 : 0 ≤ t := by omega
      by_cases h5 : 40 < t
      · have h6 : ¬ (t ≤ 40) := by omega
        simp [e1, e2, h3, h4, h5, h6]
      · have h6 : t ≤ 40 := by omega
        obtain ⟨a1, z', a2, a3⟩ := reach2 x t h.1 h.2 h6 (Int.toNat (t - 0) + 2) g x 0 rfl (by omega) h4 (by omega)
        rw [a1, a2]
        simp [e1, e2, h3, h4, h5, h6, spec_Lengths x (by omega) (by omega), impl_Lengths x (by omega) (by omega)]
        omega
  · by_cases e1 : (2 : Int) ≤ ((List.length x : Nat) : Int)
    · have e2 : ¬ ((List.length x : Nat) : Int) ≤ 16 := by omega
      simp [e1, e2]
    · simp [e1]
theorem law_ReachFor (x : List (Nat × Nat × Nat)) (h : x.length ≤ maxLen) (_ : ∀ q ∈ x, Canon .f32 q.1 ∧ Canon .f32 q.2.1 ∧ Canon .f32 q.2.2) (a b c : Nat) (_ : Canon .f32 a) (_ : Canon .f32 b) (_ : Canon .f32 c) (t : Int) (_ : (Lit.int .i64 t).wf = true) :
    g_laws_FnExactReachFor [.sl (List.map en0 x), .agg [.flt .f32 a, .flt .f32 b, .flt .f32 c], .int .i64 t] = some (.bool true) := by
  have key : p_laws_FnExactReachFor x (a, b, c) t = true ∧ m_laws_FnExactReachFor x (a, b, c) t = true := by
    unfold p_laws_FnExactReachFor m_laws_FnExactReachFor v_laws_FnExactReachFor_0
    by_cases hs : m_laws_szVectorS x 1048576 < 0
    · simp [hs]
    · obtain ⟨k1, k2, k3⟩ := sz_VectorS x 1048576 h (by omega) (by omega) hs
      obtain ⟨c1, c2, c3, c4⟩ := core_ReachFor x (m_laws_toVector (a, b, c)) t
      rw [(to_VectorS x k1).1, c3]
      generalize (m_spec_ReachFor x (m_laws_toVector (a, b, c)) t) = r at *
      have i1 : ¬ iter gV x.length 1 < 0 := by rw [iter_add (g := gV) (c := 3) gV_add _ _ (by omega) (by omega)]; omega
      have i2 : ¬ iter gV r.1.length 1 < 0 := by rw [iter_add (g := gV) (c := 3) gV_add _ _ (by omega) (by omega)]; omega
      simp [hs, to_VectorS x k1, c1, c2, eq_VectorS x k1, eq_VectorS r.1 c4, mark_VectorS x 1 k1, mark_VectorS r.1 1 c4, held_VectorS _ 1 c4, marks_len, i1, i2]
  unfold g_laws_FnExactReachFor
  simp only [dc_en0_map, key.1, key.2, if_true]
end Go.Proofs
