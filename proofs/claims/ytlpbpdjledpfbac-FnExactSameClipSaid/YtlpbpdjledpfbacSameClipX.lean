/- What functions that FnExactSameClip reaches compute, and that the program's and the reference's answers are the same. No conditions. -/
import Derived.Test.YtlpbpdjledpfbacSameClipY1
set_option maxRecDepth 100000
set_option maxHeartbeats 4000000
set_option linter.all false
namespace Go.Proofs
open Go.Ab
def ic42 : ICode := (.seq (.reg [⟨(some 2), none, (.box 4 (.t 0))⟩, ⟨(some 3), none, (.box 4 (.t 1))⟩, ⟨(some 4), none, (.mov (.c (.bool false)))⟩] [2, 3]) (.seq (.seq (.reg [⟨(some
      5), none, (.faddr 0 (.t 2))⟩, ⟨(some 6), none, (.load none (.t 5))⟩, ⟨(some 7), none, (.faddr 0 (.t 3))⟩, ⟨(some 8), none, (.load none (.t 7))⟩, ⟨(some 9), none, (.bin .neq
      false (.t 6) (.t 8))⟩] [2, 3, 9]) (.cond (.t 9) (.seq (.reg [⟨(some 4), none, (.mov (.c (.bool false)))⟩] [4]) .ret) .skip)) (.seq (.seq (.reg [⟨(some 10), none, (.faddr 1 (.t
      2))⟩, ⟨(some 11), none, (.load none (.t 10))⟩, ⟨(some 12), none, (.faddr 1 (.t 3))⟩, ⟨(some 13), none, (.load none (.t 12))⟩, ⟨(some 14), none, (.bin .neq false (.t 11) (.t
      13))⟩] [2, 3, 14]) (.cond (.t 14) (.seq (.reg [⟨(some 4), none, (.mov (.c (.bool false)))⟩] [4]) .ret) .skip)) (.seq (.seq (.reg [⟨(some 15), none, (.faddr 2 (.t 2))⟩, ⟨(some
      16), none, (.load none (.t 15))⟩, ⟨(some 17), none, (.faddr 2 (.t 3))⟩, ⟨(some 18), none, (.load none (.t 17))⟩, ⟨(some 19), none, (.call (.fn 94) [(.t 16), (.t 18)] [])⟩,
      ⟨(some 20), none, (.un .not (.t 19))⟩] [2, 3, 20]) (.cond (.t 20) (.seq (.reg [⟨(some 4), none, (.mov (.c (.bool false)))⟩] [4]) .ret) .skip)) (.seq (.seq (.reg [⟨(some 21),
      none, (.faddr 3 (.t 2))⟩, ⟨(some 22), none, (.load none (.t 21))⟩, ⟨(some 23), none, (.faddr 3 (.t 3))⟩, ⟨(some 24), none, (.load none (.t 23))⟩, ⟨(some 25), none, (.call (.fn
      95) [(.t 22), (.t 24)] [])⟩, ⟨(some 26), none, (.un .not (.t 25))⟩] [26]) (.cond (.t 26) (.seq (.reg [⟨(some 4), none, (.mov (.c (.bool false)))⟩] [4]) .ret) .skip)) (.seq
      (.reg [⟨(some 4), none, (.mov (.c (.bool true)))⟩] [4]) .ret))))))
def cp42 : CP := CP.mk [] [] [[2, 3], [2, 3, 9], [4], [2, 3, 14], [4], [2, 3, 20], [4], [26], [4], [4]] 27 [] []
theorem fc42_0 : IntKind.wrap .i64 1 = 1 := by decide
theorem fc42_1 : IntKind.wrap .i64 2 = 2 := by decide
theorem fc42_2 : IntKind.wrap .i64 3 = 3 := by decide
theorem s42 : ∀ vs r, g_laws_eqClip vs = some r → SaysM Try.prog .any 42 vs r := by
  intro vs r h
  unfold g_laws_eqClip at h
  split at h
  · rename_i y0 y1 w2 w3 y4 y5 w6 w7
    cases hd_y2 : decL dc_en1 w2 with
    | none => rw [hd_y2] at h; cases h
    | some y2 =>
    rw [hd_y2] at h
    obtain rfl := decL_inv dc_en1_inv hd_y2
    clear hd_y2
    dsimp only at h
    cases hd_y3 : decL dc_en2 w3 with
    | none => rw [hd_y3] at h; cases h
    | some y3 =>
    rw [hd_y3] at h
    obtain rfl := decL_inv dc_en2_inv hd_y3
    clear hd_y3
    dsimp only at h
    cases hd_y6 : decL dc_en1 w6 with
    | none => rw [hd_y6] at h; cases h
    | some y6 =>
    rw [hd_y6] at h
    obtain rfl := decL_inv dc_en1_inv hd_y6
    clear hd_y6
    dsimp only at h
    cases hd_y7 : decL dc_en2 w7 with
    | none => rw [hd_y7] at h; cases h
    | some y7 =>
    rw [hd_y7] at h
    obtain rfl := decL_inv dc_en2_inv hd_y7
    clear hd_y7
    dsimp only at h
    split at h
    · rename_i hp
      cases h
      refine spec_of (m := .any) (tab := tabOf [(94, wM .any g_laws_eqKeySS), (95, wM .any g_laws_eqRootKeyS)]) (cp := cp42) (ic := ic42) (rvl := [(.t 4)]) hm (tabOk_cons (m := .any) s94 (tabOk_cons (m := .any) s95 tabOk_nil)) Try.func42 rfl rfl rfl (by kernel_rfl) rfl (Nat.le_of_ble_eq_true rfl) (Nat.le_of_ble_eq_true rfl) ?_
      show eA _ _ _ _
      unfold ic42
      simp only [p_laws_eqClip, Bool.and_eq_true, Bool.or_eq_true, decide_eq_true_eq, Bool.not_eq_true', decide_eq_false_iff_not] at hp
      simp only [
          hp, grpA, vsliceS, grpS, grpD, grpF, grpL, eop, vop, bop, uop, fltop, convop, endOk, newE, new1, freshL, Md.isNew, outV, pureV, pureX, pure1, AV.cells, AV.one, storable,
                laid, refless, refless1, vload, loadC, storeC, vnil, vfaddr, vextract, flatT, flatE, flatC, vconv, vmm, vidxA, viaddrA, vfield, vlen, elemsOf, dF32, dF64, dI64, dU8,
                dBool, dStr, esOk, elemsS, vsliceX, bnd, ownV, ownC, own1, ownT, isSl, nSl, endL, Md.isOwn, purge, purgeH, purgeB, purgeE, hasName, name1, List.any_cons,
                List.any_nil, Md.isWr, pureV.pureP, Option.map, reduceIte, Nat.reduceEqDiff, Nat.reduceAdd, Nat.reduceMul, Nat.reduceLT, Nat.reduceLeDiff, List.mapM_cons,
                List.mapM_nil, Option.pure_def, Option.bind_eq_bind, Option.bind_some, implies_true, forall_const, beq_self_eq_true, decide_true, decide_false, eq_self,
                Int.reduceEq, Int.reduceLE, Int.reduceLT, if_true, if_false, fc42_0, fc42_1, fc42_2, Int.reduceAdd, Int.reduceSub, Int.reduceMul, Int.reduceNeg, Int.reducePow,
                Nat.reducePow, Int.reduceToNat, Nat.reduceSub, List.replicate, Nat.reduceBEq, wAs, wA, wC, zipW, noDupN, grpE, beq_true, beq_false, g_laws_eqKeySS,
                g_laws_eqRootKeyS, grpC, en0, dc_en0, en1, dc_en1, en2, dc_en2]
      repeat' (first
        | ((first | (refine eGI_of (fun h => ?_) (fun h => ?_)) | (refine eCc_of (fun h => ?_) (fun h => ?_))) <;> (try simp only [Bool.not_eq_true', Bool.not_eq_false'] at h) <;> (try first | exact absurd (Eq.trans (Eq.symm h) (by assumption)) Bool.false_ne_true | exact absurd (Eq.trans (Eq.symm h) (by assumption)) (Ne.symm Bool.false_ne_true)) <;> (try simp only [h, reduceCtorEq, beq_true, beq_false, Int.reduceEq, Int.reduceLT, Int.reduceLE, true_or, or_true, Bool.not_eq_true', decide_eq_false_iff_not, Bool.not_true, Bool.not_false, Bool.false_or, Bool.true_or, Bool.true_and, Bool.false_and, Bool.and_eq_true, Bool.or_eq_true, if_true, if_false, reduceIte, Bool.false_eq_true, and_true, true_and, false_or, or_false, decide_eq_true_eq, not_false_eq_true, not_true_eq_false] at hp) <;> (first | (have h2 := h; simp only [decide_eq_true_eq, decide_eq_false_iff_not] at h2; (first | (replace h2 := eq_false h2) | (replace h2 := eq_true h2)); (try simp only [h2, reduceCtorEq, beq_true, beq_false, Int.reduceEq, Int.reduceLT, Int.reduceLE, true_or, or_true, Bool.not_eq_true', decide_eq_false_iff_not, Bool.not_true, Bool.not_false, Bool.false_or, Bool.true_or, Bool.true_and, Bool.false_and, Bool.and_eq_true, Bool.or_eq_true, if_true, if_false, reduceIte, Bool.false_eq_true, and_true, true_and, false_or, or_false, decide_eq_true_eq, not_false_eq_true, not_true_eq_false] at hp); replace hp := And.intro h2 hp) | (replace hp := And.intro h hp) | skip) <;> simp only [h,
          hp, grpA, vsliceS, grpS, grpD, grpF, grpL, eop, vop, bop, uop, fltop, convop, endOk, newE, new1, freshL, Md.isNew, outV, pureV, pureX, pure1, AV.cells, AV.one, storable,
                laid, refless, refless1, vload, loadC, storeC, vnil, vfaddr, vextract, flatT, flatE, flatC, vconv, vmm, vidxA, viaddrA, vfield, vlen, elemsOf, dF32, dF64, dI64, dU8,
                dBool, dStr, esOk, elemsS, vsliceX, bnd, ownV, ownC, own1, ownT, isSl, nSl, endL, Md.isOwn, purge, purgeH, purgeB, purgeE, hasName, name1, List.any_cons,
                List.any_nil, Md.isWr, pureV.pureP, Option.map, reduceIte, Nat.reduceEqDiff, Nat.reduceAdd, Nat.reduceMul, Nat.reduceLT, Nat.reduceLeDiff, List.mapM_cons,
                List.mapM_nil, Option.pure_def, Option.bind_eq_bind, Option.bind_some, implies_true, forall_const, beq_self_eq_true, decide_true, decide_false, eq_self,
                Int.reduceEq, Int.reduceLE, Int.reduceLT, if_true, if_false, fc42_0, fc42_1, fc42_2, Int.reduceAdd, Int.reduceSub, Int.reduceMul, Int.reduceNeg, Int.reducePow,
                Nat.reducePow, Int.reduceToNat, Nat.reduceSub, List.replicate, Nat.reduceBEq, wAs, wA, wC, zipW, noDupN, grpE, beq_true, beq_false, g_laws_eqKeySS,
                g_laws_eqRootKeyS, grpC, en0, dc_en0, en1, dc_en1, en2, dc_en2]))
      all_goals (try simp only [*, m_laws_eqClip, Bool.and_true, Bool.true_and, Bool.and_false, Bool.false_and, Bool.or_true, Bool.true_or, Bool.or_false, Bool.false_or, Bool.not_true, Bool.not_false, Bool.false_eq_true, if_true, if_false, reduceIte, decide_true, decide_false])
      all_goals (try (simp_all; done))
    · cases h
  · cases h
def m_laws_FnExactSameClip (x0 : (Int × Int × (List (List (Int × Nat × Nat × Nat × Nat))) × (List (Int × Nat × Nat × Nat)))) (x1 : (Int × Int × (List (List (Int × Nat × Nat × Nat ×
      Nat))) × (List (Int × Nat × Nat × Nat)))) : Bool := (if (decide ((m_laws_szClip x0 1048576) < 0)) = true then true else (if (decide ((m_laws_szClip x1 (m_laws_szClip x0
      1048576)) < 0)) = true then true else (if ((m_impl_SameClip (m_laws_toClip x0) (m_laws_toClip x1)) == (m_spec_SameClip (m_laws_toClip x0) (m_laws_toClip x1))) = true then (if
      (m_laws_eqClip (m_laws_toClip x0) (m_laws_toClip x0)) = true then (if (m_laws_eqClip (m_laws_toClip x1) (m_laws_toClip x1)) = true then true else false) else false) else
      false)))
def p_laws_FnExactSameClip (x0 : (Int × Int × (List (List (Int × Nat × Nat × Nat × Nat))) × (List (Int × Nat × Nat × Nat)))) (x1 : (Int × Int × (List (List (Int × Nat × Nat × Nat ×
      Nat))) × (List (Int × Nat × Nat × Nat)))) : Bool := ((p_laws_szClip x0 1048576) && ((decide ((m_laws_szClip x0 1048576) < 0)) || ((p_laws_szClip x1 (m_laws_szClip x0 1048576))
      && ((decide ((m_laws_szClip x1 (m_laws_szClip x0 1048576)) < 0)) || ((p_laws_toClip x0) && ((p_laws_toClip x1) && ((p_spec_SameClip (m_laws_toClip x0) (m_laws_toClip x1)) &&
      ((p_impl_SameClip (m_laws_toClip x0) (m_laws_toClip x1)) && (!((m_impl_SameClip (m_laws_toClip x0) (m_laws_toClip x1)) == (m_spec_SameClip (m_laws_toClip x0) (m_laws_toClip
      x1))) || ((p_laws_eqClip (m_laws_toClip x0) (m_laws_toClip x0)) && (!(m_laws_eqClip (m_laws_toClip x0) (m_laws_toClip x0)) || (p_laws_eqClip (m_laws_toClip x1) (m_laws_toClip
      x1)))))))))))))
def g_laws_FnExactSameClip : List AV → Option AV
  | [.agg [.int .i64 y0, .int .i64 y1, .sl w2, .sl w3], .agg [.int .i64 y4, .int .i64 y5, .sl w6, .sl w7]] => (match decL dc_en1 w2 with | some y2 => ((match decL dc_en2 w3 with | some y3 => ((match decL dc_en1 w6 with | some y6 => ((match decL dc_en2 w7 with | some y7 => (if p_laws_FnExactSameClip (y0, y1, y2, y3) (y4, y5, y6, y7) = true then some (.bool (m_laws_FnExactSameClip (y0, y1, y2, y3) (y4, y5, y6, y7))) else none) | none => none)) | none => none)) | none => none)) | none => none)
  | _ => none
def ic7 : ICode := (.seq (.reg [⟨(some 2), none, (.box 4 (.t 0))⟩, ⟨(some 3), none, (.box 4 (.t 1))⟩, ⟨(some 4), none, (.mov (.c (.bool false)))⟩] [2, 3]) (.seq (.reg [⟨(some 5),
      none, (.mov (.c (.int .i64 1048576)))⟩] [2, 3, 5]) (.seq (.reg [⟨(some 10), none, (.load (some 4) (.t 2))⟩, ⟨(some 11), none, (.mov (.t 5))⟩, ⟨(some 12), none, (.call (.fn 38)
      [(.t 10), (.t 11)] [])⟩, ⟨(some 5), none, (.mov (.t 12))⟩] [2, 3, 5]) (.seq (.seq (.reg [⟨(some 13), none, (.mov (.t 5))⟩, ⟨(some 14), none, (.bin .lss false (.t 13) (.c (.int
      .i64 0)))⟩] [2, 3, 5, 14]) (.cond (.t 14) (.seq (.reg [⟨(some 4), none, (.mov (.c (.bool true)))⟩] [4]) .ret) .skip)) (.seq (.reg [⟨(some 15), none, (.load (some 4) (.t 3))⟩,
      ⟨(some 16), none, (.mov (.t 5))⟩, ⟨(some 17), none, (.call (.fn 38) [(.t 15), (.t 16)] [])⟩, ⟨(some 5), none, (.mov (.t 17))⟩] [2, 3, 5]) (.seq (.seq (.reg [⟨(some 18), none,
      (.mov (.t 5))⟩, ⟨(some 19), none, (.bin .lss false (.t 18) (.c (.int .i64 0)))⟩] [2, 3, 19]) (.cond (.t 19) (.seq (.reg [⟨(some 4), none, (.mov (.c (.bool true)))⟩] [4]) .ret)
      .skip)) (.seq (.reg [⟨(some 20), none, (.load (some 4) (.t 2))⟩, ⟨(some 21), none, (.call (.fn 40) [(.t 20)] [])⟩, ⟨(some 22), none, (.load (some 4) (.t 3))⟩, ⟨(some 23),
      none, (.call (.fn 40) [(.t 22)] [])⟩, ⟨(some 24), none, (.call (.fn 39) [(.t 21), (.t 23)] [])⟩, ⟨(some 6), none, (.mov (.t 24))⟩] [2, 3, 6]) (.seq (.reg [⟨(some 25), none,
      (.load (some 4) (.t 2))⟩, ⟨(some 26), none, (.call (.fn 40) [(.t 25)] [])⟩, ⟨(some 7), none, (.alloc (.agg [(.int .i64 0), (.int .i64 0), .snil, .snil]))⟩, ⟨none, none,
      (.store 4 (.t 7) (.t 26))⟩] [2, 3, 6, 7]) (.seq (.reg [⟨(some 27), none, (.load (some 4) (.t 3))⟩, ⟨(some 28), none, (.call (.fn 40) [(.t 27)] [])⟩, ⟨(some 8), none, (.alloc
      (.agg [(.int .i64 0), (.int .i64 0), .snil, .snil]))⟩, ⟨none, none, (.store 4 (.t 8) (.t 28))⟩] [2, 3, 6, 7, 8]) (.seq (.reg [⟨(some 29), none, (.load (some 4) (.t 7))⟩,
      ⟨(some 30), none, (.load (some 4) (.t 8))⟩, ⟨(some 31), none, (.call (.fn 41) [(.t 29), (.t 30)] [])⟩, ⟨(some 9), none, (.mov (.t 31))⟩] [2, 3, 6, 7, 8, 9]) (.seq (.seq (.reg
      [⟨(some 32), none, (.mov (.t 9))⟩, ⟨(some 33), none, (.mov (.t 6))⟩, ⟨(some 34), none, (.bin .neq true (.t 32) (.t 33))⟩] [2, 3, 7, 8, 34]) (.cond (.t 34) (.seq (.reg [⟨(some
      4), none, (.mov (.c (.bool false)))⟩] [4]) .ret) .skip)) (.seq (.seq (.reg [⟨(some 35), none, (.load (some 4) (.t 7))⟩, ⟨(some 36), none, (.load (some 4) (.t 2))⟩, ⟨(some 37),
      none, (.call (.fn 40) [(.t 36)] [])⟩, ⟨(some 38), none, (.call (.fn 42) [(.t 35), (.t 37)] [])⟩, ⟨(some 39), none, (.un .not (.t 38))⟩] [3, 8, 39]) (.cond (.t 39) (.seq (.reg
      [⟨(some 4), none, (.mov (.c (.bool false)))⟩] [4]) .ret) .skip)) (.seq (.seq (.reg [⟨(some 40), none, (.load (some 4) (.t 8))⟩, ⟨(some 41), none, (.load (some 4) (.t 3))⟩,
      ⟨(some 42), none, (.call (.fn 40) [(.t 41)] [])⟩, ⟨(some 43), none, (.call (.fn 42) [(.t 40), (.t 42)] [])⟩, ⟨(some 44), none, (.un .not (.t 43))⟩] [44]) (.cond (.t 44) (.seq
      (.reg [⟨(some 4), none, (.mov (.c (.bool false)))⟩] [4]) .ret) .skip)) (.seq (.reg [⟨(some 4), none, (.mov (.c (.bool true)))⟩] [4]) .ret))))))))))))))
def cp7 : CP := CP.mk [] [] [[2, 3], [2, 3, 5], [2, 3, 5], [2, 3, 5, 14], [4], [2, 3, 5], [2, 3, 19], [4], [2, 3, 6], [2, 3, 6, 7], [2, 3, 6, 7, 8], [2, 3, 6, 7, 8, 9], [2, 3, 7, 8,
      34], [4], [3, 8, 39], [4], [44], [4], [4]] 45 [] []
theorem fc7_0 : IntKind.wrap .i64 1 = 1 := by decide
theorem fc7_1 : IntKind.wrap .i64 2 = 2 := by decide
theorem fc7_2 : IntKind.wrap .i64 3 = 3 := by decide
theorem s7 : ∀ vs r, g_laws_FnExactSameClip vs = some r → SaysM Try.prog .any 7 vs r := by
  intro vs r h
  unfold g_laws_FnExactSameClip at h
  split at h
  · rename_i y0 y1 w2 w3 y4 y5 w6 w7
    cases hd_y2 : decL dc_en1 w2 with
    | none => rw [hd_y2] at h; cases h
    | some y2 =>
    rw [hd_y2] at h
    obtain rfl := decL_inv dc_en1_inv hd_y2
    clear hd_y2
    dsimp only at h
    cases hd_y3 : decL dc_en2 w3 with
    | none => rw [hd_y3] at h; cases h
    | some y3 =>
    rw [hd_y3] at h
    obtain rfl := decL_inv dc_en2_inv hd_y3
    clear hd_y3
    dsimp only at h
    cases hd_y6 : decL dc_en1 w6 with
    | none => rw [hd_y6] at h; cases h
    | some y6 =>
    rw [hd_y6] at h
    obtain rfl := decL_inv dc_en1_inv hd_y6
    clear hd_y6
    dsimp only at h
    cases hd_y7 : decL dc_en2 w7 with
    | none => rw [hd_y7] at h; cases h
    | some y7 =>
    rw [hd_y7] at h
    obtain rfl := decL_inv dc_en2_inv hd_y7
    clear hd_y7
    dsimp only at h
    split at h
    · rename_i hp
      cases h
      refine spec_of (m := .any) (tab := tabOf [(38, wM .any g_laws_szClip), (39, wM .any g_spec_SameClip), (40, wM .any g_laws_toClip), (41, wM .any g_impl_SameClip), (42, wM .any g_laws_eqClip)]) (cp := cp7) (ic := ic7) (rvl := [(.t 4)]) hm (tabOk_cons (m := .any) s38 (tabOk_cons (m := .any) s39 (tabOk_cons (m := .any) s40 (tabOk_cons (m := .any) s41 (tabOk_cons (m := .any) s42 tabOk_nil))))) Try.func7 rfl rfl rfl (by kernel_rfl) rfl (Nat.le_of_ble_eq_true rfl) (Nat.le_of_ble_eq_true rfl) ?_
      show eA _ _ _ _
      unfold ic7
      simp only [p_laws_FnExactSameClip, Bool.and_eq_true, Bool.or_eq_true, decide_eq_true_eq, Bool.not_eq_true', decide_eq_false_iff_not] at hp
      simp only [
          hp, grpA, vsliceS, grpS, grpD, grpF, grpL, eop, vop, bop, uop, fltop, convop, endOk, newE, new1, freshL, Md.isNew, outV, pureV, pureX, pure1, AV.cells, AV.one, storable,
                laid, refless, refless1, vload, loadC, storeC, vnil, vfaddr, vextract, flatT, flatE, flatC, vconv, vmm, vidxA, viaddrA, vfield, vlen, elemsOf, dF32, dF64, dI64, dU8,
                dBool, dStr, esOk, elemsS, vsliceX, bnd, ownV, ownC, own1, ownT, isSl, nSl, endL, Md.isOwn, purge, purgeH, purgeB, purgeE, hasName, name1, List.any_cons,
                List.any_nil, Md.isWr, pureV.pureP, Option.map, reduceIte, Nat.reduceEqDiff, Nat.reduceAdd, Nat.reduceMul, Nat.reduceLT, Nat.reduceLeDiff, List.mapM_cons,
                List.mapM_nil, Option.pure_def, Option.bind_eq_bind, Option.bind_some, implies_true, forall_const, beq_self_eq_true, decide_true, decide_false, eq_self,
                Int.reduceEq, Int.reduceLE, Int.reduceLT, if_true, if_false, fc7_0, fc7_1, fc7_2, Int.reduceAdd, Int.reduceSub, Int.reduceMul, Int.reduceNeg, Int.reducePow,
                Nat.reducePow, Int.reduceToNat, Nat.reduceSub, List.replicate, Nat.reduceBEq, wAs, wA, wC, zipW, noDupN, grpE, beq_true, beq_false, g_laws_szClip, g_spec_SameClip,
                g_laws_toClip, g_impl_SameClip, g_laws_eqClip, grpC, en0, dc_en0, en1, dc_en1, en2, dc_en2]
      repeat' (first
        | ((first | (refine eGI_of (fun h => ?_) (fun h => ?_)) | (refine eCc_of (fun h => ?_) (fun h => ?_))) <;> (try simp only [Bool.not_eq_true', Bool.not_eq_false'] at h) <;> (try first | exact absurd (Eq.trans (Eq.symm h) (by assumption)) Bool.false_ne_true | exact absurd (Eq.trans (Eq.symm h) (by assumption)) (Ne.symm Bool.false_ne_true)) <;> (try simp only [h, reduceCtorEq, beq_true, beq_false, Int.reduceEq, Int.reduceLT, Int.reduceLE, true_or, or_true, Bool.not_eq_true', decide_eq_false_iff_not, Bool.not_true, Bool.not_false, Bool.false_or, Bool.true_or, Bool.true_and, Bool.false_and, Bool.and_eq_true, Bool.or_eq_true, if_true, if_false, reduceIte, Bool.false_eq_true, and_true, true_and, false_or, or_false, decide_eq_true_eq, not_false_eq_true, not_true_eq_false] at hp) <;> (first | (have h2 := h; simp only [decide_eq_true_eq, decide_eq_false_iff_not] at h2; (first | (replace h2 := eq_false h2) | (replace h2 := eq_true h2)); (try simp only [h2, reduceCtorEq, beq_true, beq_false, Int.reduceEq, Int.reduceLT, Int.reduceLE, true_or, or_true, Bool.not_eq_true', decide_eq_false_iff_not, Bool.not_true, Bool.not_false, Bool.false_or, Bool.true_or, Bool.true_and, Bool.false_and, Bool.and_eq_true, Bool.or_eq_true, if_true, if_false, reduceIte, Bool.false_eq_true, and_true, true_and, false_or, or_false, decide_eq_true_eq, not_false_eq_true, not_true_eq_false] at hp); replace hp := And.intro h2 hp) | (replace hp := And.intro h hp) | skip) <;> simp only [h,
          hp, grpA, vsliceS, grpS, grpD, grpF, grpL, eop, vop, bop, uop, fltop, convop, endOk, newE, new1, freshL, Md.isNew, outV, pureV, pureX, pure1, AV.cells, AV.one, storable,
                laid, refless, refless1, vload, loadC, storeC, vnil, vfaddr, vextract, flatT, flatE, flatC, vconv, vmm, vidxA, viaddrA, vfield, vlen, elemsOf, dF32, dF64, dI64, dU8,
                dBool, dStr, esOk, elemsS, vsliceX, bnd, ownV, ownC, own1, ownT, isSl, nSl, endL, Md.isOwn, purge, purgeH, purgeB, purgeE, hasName, name1, List.any_cons,
                List.any_nil, Md.isWr, pureV.pureP, Option.map, reduceIte, Nat.reduceEqDiff, Nat.reduceAdd, Nat.reduceMul, Nat.reduceLT, Nat.reduceLeDiff, List.mapM_cons,
                List.mapM_nil, Option.pure_def, Option.bind_eq_bind, Option.bind_some, implies_true, forall_const, beq_self_eq_true, decide_true, decide_false, eq_self,
                Int.reduceEq, Int.reduceLE, Int.reduceLT, if_true, if_false, fc7_0, fc7_1, fc7_2, Int.reduceAdd, Int.reduceSub, Int.reduceMul, Int.reduceNeg, Int.reducePow,
                Nat.reducePow, Int.reduceToNat, Nat.reduceSub, List.replicate, Nat.reduceBEq, wAs, wA, wC, zipW, noDupN, grpE, beq_true, beq_false, g_laws_szClip, g_spec_SameClip,
                g_laws_toClip, g_impl_SameClip, g_laws_eqClip, grpC, en0, dc_en0, en1, dc_en1, en2, dc_en2]))
      all_goals (try simp only [*, m_laws_FnExactSameClip, Bool.and_true, Bool.true_and, Bool.and_false, Bool.false_and, Bool.or_true, Bool.true_or, Bool.or_false, Bool.false_or, Bool.not_true, Bool.not_false, Bool.false_eq_true, if_true, if_false, reduceIte, decide_true, decide_false])
      all_goals (try (simp_all; done))
    · cases h
  · cases h
end Go.Proofs
namespace Go.Ab
/-- a list of known length is filled, an element a round -/
theorem fill_loop {β : Type} (l : Nat → List β → Int → Option (List β)) (len : Nat) (F : Nat → β) (hlen : len < 2 ^ 62)
    (H : ∀ (n : Nat) (z : List β) (k : Nat), k < len → z.length = len → l (n + 1) z (k : Int) = l n (z.set k (F k)) (IntKind.wrap .i64 ((k : Int) + 1)))
    (H' : ∀ (n : Nat) (z : List β) (k : Nat), ¬ k < len → l (n + 1) z (k : Int) = some z) :
    ∀ (n : Nat) (z : List β) (k : Nat), k ≤ len → z.length = len → len - k < n → l n z (k : Int) = some (z.take k ++ (List.range' k (len - k)).map F)
  | 0, z, k, _, _, h => by omega
  | n + 1, z, k, hk, hz, h => by
    by_cases hlt : k < len
    · rw [H n z k hlt hz, wrapS (by omega), fill_loop l len F hlen H H' n _ (k + 1) (by omega) (by rw [List.length_set]; exact hz) (by omega), show len - k = (len - (k + 1)) + 1 by omega, List.range'_succ, List.map_cons]
      congr 1
      rw [List.take_succ_eq_append_getElem (by rw [List.length_set]; omega), List.take_set_of_le (Nat.le_refl _), List.getElem_set_self, List.append_assoc, List.singleton_append]
    · rw [H' n z k hlt, show len - k = 0 by omega]
      have : k = z.length := by omega
      subst this
      simp
/-- elements are put at the end, one a round -/
theorem app_loop {β : Type} (l : Nat → List β → Int → Option (List β)) (len : Nat) (F : Nat → β) (hlen : len < 2 ^ 62) (P : Nat → Nat → Prop)
    (H : ∀ (n : Nat) (z : List β) (k : Nat), k < len → P k z.length → l (n + 1) z (k : Int) = l n (z ++ [F k]) (IntKind.wrap .i64 ((k : Int) + 1)))
    (H' : ∀ (n : Nat) (z : List β) (k : Nat), ¬ k < len → l (n + 1) z (k : Int) = some z) (hP : ∀ k j, k < len → P k j → P (k + 1) (j + 1)) :
    ∀ (n : Nat) (z : List β) (k : Nat), k ≤ len → P k z.length → len - k < n → l n z (k : Int) = some (z ++ (List.range' k (len - k)).map F)
  | 0, z, k, _, _, h => by omega
  | n + 1, z, k, hk, hp, h => by
    by_cases hlt : k < len
    · rw [H n z k hlt hp, wrapS (by omega), app_loop l len F hlen P H H' hP n _ (k + 1) (by omega) (by rw [List.length_append]; exact hP _ _ hlt hp) (by omega), show len - k = (len - (k + 1)) + 1 by omega, List.range'_succ, List.map_cons]
      simp
    · rw [H' n z k hlt, show len - k = 0 by omega]
      simp
theorem map_range_shift {β : Type} {F G : Nat → β} {k j m : Nat} (h : ∀ i, i < m → F (k + i) = G (j + i)) : (List.range' k m).map F = (List.range' j m).map G := by
  induction m generalizing k j with
  | zero => rfl
  | succ m ih =>
    have h0 := h 0 (by omega)
    rw [Nat.add_zero, Nat.add_zero] at h0
    rw [List.range'_succ, List.range'_succ, List.map_cons, List.map_cons, h0, ih fun i hi => by
      have := h (i + 1) (by omega)
      rw [show k + (i + 1) = k + 1 + i by omega, show j + (i + 1) = j + 1 + i by omega] at this
      exact this]
/-- marks -/
def marks {α : Type} (f : Int → α) (g : Int → Int) : Int → Nat → List α
  | _, 0 => []
  | m, n + 1 => f m :: marks f g (g m) n
def iter (g : Int → Int) : Nat → Int → Int
  | 0, m => m
  | n + 1, m => iter g n (g m)
theorem marks_len {α : Type} (f : Int → α) (g : Int → Int) : ∀ (n : Nat) (m : Int), (marks f g m n).length = n
  | 0, _ => rfl
  | n + 1, m => by rw [marks, List.length_cons, marks_len f g n]
theorem marks_get {α : Type} [Inhabited α] (f : Int → α) (g : Int → Int) : ∀ (n : Nat) (m : Int) (i : Nat), i < n → (marks f g m n).getD i default = f (iter g i m)
  | 0, _, _, h => by omega
  | n + 1, m, 0, _ => rfl
  | n + 1, m, i + 1, h => by
    rw [marks, List.getD_cons_succ, marks_get f g n (g m) i (by omega)]; rfl
theorem iter_succ (g : Int → Int) : ∀ (i : Nat) (m : Int), g (iter g i m) = iter g (i + 1) m
  | 0, _ => rfl
  | i + 1, m => by rw [iter, iter_succ g i (g m)]; rfl
theorem iter_add {g : Int → Int} {c : Nat} (hg : ∀ m : Int, 0 ≤ m → m ≤ 2 ^ 60 → g m = m + c) : ∀ (n : Nat) (m : Int), 0 ≤ m → m + ((c * n : Nat) : Int) ≤ 2 ^ 60 → iter g n m = m + ((c * n : Nat) : Int)
  | 0, m, _, _ => by simp [iter]
  | n + 1, m, h0, h => by
    rw [Nat.mul_succ] at h ⊢
    rw [iter, hg m h0 (by omega), iter_add hg n _ (by omega) (by omega)]
    omega
theorem mark_loop {α : Type} (l : Nat → List α → Int → Int → Option (Int × List α)) (f : Int → α) (g : Int → Int)
    (H : ∀ n z m k, l (n + 1) z m k = if (decide (k < ((z.length : Nat) : Int))) = true then need (inB k z.length) (l n (z.set k.toNat (f m)) (g m) (IntKind.wrap .i64 (k + 1))) else some (m, z)) :
    ∀ (n : Nat) (z : List α) (m : Int) (k : Nat), z.length < 2 ^ 62 → k ≤ z.length → z.length - k < n → l n z m (k : Int) = some (iter g (z.length - k) m, z.take k ++ marks f g m (z.length - k))
  | 0, z, m, k, _, _, h => by omega
  | n + 1, z, m, k, hz, hk, h => by
    rw [H]
    by_cases hlt : k < z.length
    · rw [if_pos (by simp; omega), inB_nat]
      unfold need
      rw [if_pos (by simpa using hlt), wrapS (by omega), Int.toNat_natCast, mark_loop l f g H n _ (g m) (k + 1) (by rw [List.length_set]; exact hz) (by rw [List.length_set]; omega) (by rw [List.length_set]; omega), List.length_set,
        show z.length - k = (z.length - (k + 1)) + 1 by omega]
      congr 2
      rw [List.take_succ_eq_append_getElem (by rw [List.length_set]; omega), List.take_set_of_le (Nat.le_refl _), List.getElem_set_self, List.append_assoc, List.singleton_append]
      rfl
    · rw [if_neg (by simp; omega), show z.length - k = 0 by omega]
      have : k = z.length := by omega
      subst this
      simp [iter, marks]
theorem mark_all {α : Type} (l : Nat → List α → Int → Int → Option (Int × List α)) (f : Int → α) (g : Int → Int) (x : List α) (m : Int) (hx : x.length < 2 ^ 62)
    (H : ∀ n z m k, l (n + 1) z m k = if (decide (k < ((z.length : Nat) : Int))) = true then need (inB k z.length) (l n (z.set k.toNat (f m)) (g m) (IntKind.wrap .i64 (k + 1))) else some (m, z)) :
    l (Int.toNat (((x.length : Nat) : Int) - 0) + 2) x m 0 = some (iter g x.length m, marks f g m x.length) := by
  have := mark_loop l f g H (Int.toNat (((x.length : Nat) : Int) - 0) + 2) x m 0 hx (Nat.zero_le _) (by omega)
  simpa using this
theorem held_all {α : Type} [Inhabited α] (l : Nat → Int → Int → Option (Bool × Int × Int)) (f : Int → α) (g : Int → Int) (e : α → Int → Bool) (x : List α) (m : Int) (len : Nat) (hx : x = marks f g m len) (hl : len < 2 ^ 62) (he : ∀ m, e (f m) m = true)
    (H : ∀ n m k, l (n + 1) m k = if (decide (k < ((x.length : Nat) : Int))) = true then need (inB k x.length) (if e (atI x k) m = true then l n (g m) (IntKind.wrap .i64 (k + 1)) else some (true, -1, default)) else some (false, default, m)) :
    l (Int.toNat (((x.length : Nat) : Int) - 0) + 2) m 0 = some (false, default, iter g len m) := by
  have hlen : x.length = len := by rw [hx, marks_len]
  have key : ∀ (n k : Nat), k ≤ len → len - k < n → l n (iter g k m) (k : Int) = some (false, default, iter g len m) := by
    intro n
    induction n with
    | zero => intro k _ h; omega
    | succ n ih =>
      intro k hk h
      rw [H, hlen]
      by_cases hlt : k < len
      · rw [if_pos (by simp; omega), inB_nat]
        unfold need
        rw [if_pos (by simpa using hlt), atI_nat, hx, marks_get f g len m k hlt, if_pos (he _), wrapS (by omega), iter_succ g, ih (k + 1) (by omega) (by omega)]
      · rw [if_neg (by simp; omega), show k = len by omega]
  have := key (Int.toNat (((x.length : Nat) : Int) - 0) + 2) 0 (Nat.zero_le _) (by omega)
  exact this
/-- a whole number made a float is itself -/
theorem feq_ofInt (n : Int) : feq .f32 (ofInt .f32 n) (ofInt .f32 n) = true := by
  rw [feq_self_iff]
  have h : isNaN .f32 (ofInt .f32 n) = false := by
    unfold isNaN ofInt
    show (FloatKind.f32.format.read (FloatKind.f32.nearest n)).isNaN = false
    rcases read_nearest .f32 (decide (n < 0)) n.natAbs 0 with ⟨m', e', h, _⟩ | h
    all_goals
      have h2 : FloatKind.f32.format.read (FloatKind.f32.nearest n) = _ := h
      rw [h2]; rfl
  rw [h]; rfl
end Go.Ab
/- Two float32 numbers are the same: by bits, and by value and sign. Plain facts. -/
namespace Go.Ab
open Ieee

theorem widen_lt (x : Nat) : widen x < 2 ^ 64 := by
  unfold widen; split
  · decide
  · exact FloatKind.f64.format.write_lt _
theorem wrap64_sign {z : Nat} (hz : z < 2 ^ 64) : decide (IntKind.wrap .i64 (z : Int) < 0) = (z / 2 ^ 63 % 2 == 1) := by
  unfold IntKind.wrap
  simp only [IntKind.bits, IntKind.signed, if_true]
  have hb : z / 2 ^ 63 % 2 = z / 2 ^ 63 := Nat.mod_eq_of_lt (by omega)
  rw [hb]
  by_cases h : z < 2 ^ 63
  · have : z / 2 ^ 63 = 0 := by omega
    rw [this]; simp; omega
  · have : z / 2 ^ 63 = 1 := by omega
    rw [this]; simp; omega
theorem read_sign64 {z : Nat} (hz : z < 2 ^ 64) {s : Bool} (h : (∃ m e, FloatKind.f64.format.read z = .number s m e) ∨ FloatKind.f64.format.read z = .infinity s) : decide (IntKind.wrap .i64 (z : Int) < 0) = s := by
  rw [wrap64_sign hz]
  have sw : FloatKind.f64.format.signWeight = 2 ^ 63 := by decide
  unfold Format.read at h
  rw [sw] at h
  dsimp only at h
  generalize (z / 2 ^ 63 % 2 == 1) = b at *
  rcases h with ⟨m, e, h⟩ | h
  · split at h
    · cases h; rfl
    · split at h
      · cases h; rfl
      · split at h <;> cases h
  · split at h
    · cases h
    · split at h
      · cases h
      · split at h <;> cases h
        rfl
theorem sign_number {x : Nat} {s : Bool} {m : Nat} {e : Int} (h : FloatKind.f32.decode x = .number s m e) : decide (IntKind.wrap .i64 ((widen x : Nat) : Int) < 0) = s := by
  obtain ⟨m', e', h1, _⟩ := widen_ex h
  exact read_sign64 (widen_lt x) (.inl ⟨_, _, h1⟩)
theorem sign_inf {x : Nat} {s : Bool} (h : FloatKind.f32.decode x = .infinity s) : decide (IntKind.wrap .i64 ((widen x : Nat) : Int) < 0) = s :=
  read_sign64 (widen_lt x) (.inr (read_inf32 h))
theorem inf_unique32 {x : Nat} {s : Bool} (hx : x < 2 ^ 32) (h : FloatKind.f32.decode x = .infinity s) : x = (if s then 2 ^ 31 else 0) + 2139095040 := by
  have h1 : FloatKind.f32.format.read x = .infinity s := h
  have sw : FloatKind.f32.format.signWeight = 2 ^ 31 := by decide
  have e1 : FloatKind.f32.format.infRung = 2139095040 := by decide
  unfold Format.read at h1
  rw [sw, e1] at h1
  dsimp only at h1
  split at h1
  · cases h1
  · split at h1
    · cases h1
    · split at h1
      · rename_i hr
        cases h1
        have := Nat.div_add_mod x (2 ^ 31)
        by_cases hb : x / 2 ^ 31 % 2 = 1
        · simp [hb]; omega
        · simp [hb]; omega
      · cases h1
/-- the same bits, or equal and of one sign -/
theorem same_bits {x y : Nat} (hx : x < 2 ^ 32) (hy : y < 2 ^ 32) (nx : feq .f32 x x = true) (ny : feq .f32 y y = true) :
    decide (x = y) = (if feq .f32 x y = true then (decide (IntKind.wrap .i64 ((widen x : Nat) : Int) < 0) == decide (IntKind.wrap .i64 ((widen y : Nat) : Int) < 0)) else false) := by
  have key : x = y ↔ (feq .f32 x y = true ∧ decide (IntKind.wrap .i64 ((widen x : Nat) : Int) < 0) = decide (IntKind.wrap .i64 ((widen y : Nat) : Int) < 0)) := by
    constructor
    · rintro rfl; exact ⟨nx, rfl⟩
    · rintro ⟨h1, h2⟩
      rw [feq_self_iff] at nx ny
      cases hd : FloatKind.f32.decode x with
      | nan s t => unfold isNaN at nx; rw [show FloatKind.f32.format.read x = .nan s t from hd] at nx; cases nx
      | number s m e =>
        cases he : FloatKind.f32.decode y with
        | nan s t => unfold isNaN at ny; rw [show FloatKind.f32.format.read y = .nan s t from he] at ny; cases ny
        | infinity t =>
          unfold feq ford Format.order at h1
          rw [show FloatKind.f32.format.read x = .number s m e from hd, show FloatKind.f32.format.read y = .infinity t from he] at h1
          cases t <;> cases h1
        | number t n f =>
          rw [sign_number hd, sign_number he] at h2
          subst h2
          have o := order_ex (ex32 hd) (ex32 he)
          unfold feq ford Format.order at h1
          rw [o] at h1
          have h3 : sg s (m * 2 ^ (e + 149).toNat) = sg s (n * 2 ^ (f + 149).toNat) := by
            have : compare (sg s (m * 2 ^ (e + 149).toNat)) (sg s (n * 2 ^ (f + 149).toNat)) = .eq := by simpa using h1
            exact Int.compare_eq_eq.1 this
          have h4 : m * 2 ^ (e + 149).toNat = n * 2 ^ (f + 149).toNat := by
            generalize m * 2 ^ (e + 149).toNat = p at *
            generalize n * 2 ^ (f + 149).toNat = q at *
            unfold sg at h3; cases s <;> simp at h3 <;> omega
          have e1 := ex32 hd
          have e2 := ex32 he
          rw [h4] at e1
          exact ex_unique32 e1 e2 hx hy
      | infinity s =>
        cases he : FloatKind.f32.decode y with
        | nan s t => unfold isNaN at ny; rw [show FloatKind.f32.format.read y = .nan s t from he] at ny; cases ny
        | number t n f =>
          unfold feq ford Format.order at h1
          rw [show FloatKind.f32.format.read x = .infinity s from hd, show FloatKind.f32.format.read y = .number t n f from he] at h1
          cases s <;> cases h1
        | infinity t =>
          rw [sign_inf hd, sign_inf he] at h2
          subst h2
          rw [inf_unique32 hx hd, inf_unique32 hy he]
  rw [Bool.eq_iff_iff]
  rw [decide_eq_true_iff, key]
  by_cases h : feq .f32 x y = true
  · simp [h]
  · simp [h]
/-- bits that are not of the kind's NaN -/
theorem nan_of {x : Nat} (hx : Canon .f32 x) (h : feq .f32 x x = false) : x = 2143289344 := by
  rw [feq_self_iff] at h
  have := hx.eq
  unfold cn at this
  rw [if_pos (by simpa using h)] at this
  exact this.symm
end Go.Ab
namespace Go.Proofs
open Go.Ab
theorem sameFloat_refl (x : Nat) : m_laws_sameFloat x x = true := by
  unfold m_laws_sameFloat
  by_cases h : feq .f64 x x = true
  · simp [h]
  · simp [h]
end Go.Proofs
namespace Go.Proofs
open Go.Ab
theorem eq_Vector (a : Nat × Nat × Nat) : m_laws_eqVector a a = true := by unfold m_laws_eqVector; simp [sameFloat_refl]
end Go.Proofs
namespace Go.Proofs
open Go.Ab
abbrev K5 : Type := Int × Nat × Nat × Nat × Nat
abbrev B4 : Type := Int × Nat × Nat × Nat
abbrev ClipT : Type := Int × Int × List (List K5) × List B4
theorem eq_Turn (a : Nat × Nat × Nat × Nat) : m_laws_eqTurn a a = true := by unfold m_laws_eqTurn; simp [sameFloat_refl]
theorem eq_Key (a : K5) : m_laws_eqKey a a = true := by unfold m_laws_eqKey; simp [eq_Turn]
theorem eq_RootKey (a : B4) : m_laws_eqRootKey a a = true := by unfold m_laws_eqRootKey; simp [eq_Vector]
theorem eq_KeyS (x : List K5) (h : x.length ≤ 1048576) : m_laws_eqKeyS x x = true ∧ p_laws_eqKeyS x x = true := by
  unfold m_laws_eqKeyS p_laws_eqKeyS
  rw [show l_laws_eqKeyS_0 x x (Int.toNat (((List.length x : Nat) : Int) - 0) + 2) 0 = some (false, default, ()) from eq_loop _ x m_laws_eqKey eq_Key (by omega) fun _ _ => rfl]; simp
theorem eq_RootKeyS (x : List B4) (h : x.length ≤ 1048576) : m_laws_eqRootKeyS x x = true ∧ p_laws_eqRootKeyS x x = true := by
  unfold m_laws_eqRootKeyS p_laws_eqRootKeyS
  rw [show l_laws_eqRootKeyS_0 x x (Int.toNat (((List.length x : Nat) : Int) - 0) + 2) 0 = some (false, default, ()) from eq_loop _ x m_laws_eqRootKey eq_RootKey (by omega) fun _ _ => rfl]; simp
theorem to_KeyS (x : List K5) (h : x.length ≤ 1048576) : m_laws_toKeyS x = x ∧ p_laws_toKeyS x = true := by
  unfold m_laws_toKeyS p_laws_toKeyS
  rw [show l_laws_toKeyS_0 x (Int.toNat (((List.length x : Nat) : Int) - 0) + 2) (List.replicate (Int.toNat ((List.length x : Nat) : Int)) (0, 0, 0, 0, 0)) 0 = some x by
    rw [copy_all (l_laws_toKeyS_0 x) x m_laws_toKey _ (by omega) fun _ _ _ => rfl]
    congr 1
    exact List.map_id x]
  refine ⟨rfl, ?_⟩
  simp; omega
theorem to_RootKeyS (x : List B4) (h : x.length ≤ 1048576) : m_laws_toRootKeyS x = x ∧ p_laws_toRootKeyS x = true := by
  unfold m_laws_toRootKeyS p_laws_toRootKeyS
  rw [show l_laws_toRootKeyS_0 x (Int.toNat (((List.length x : Nat) : Int) - 0) + 2) (List.replicate (Int.toNat ((List.length x : Nat) : Int)) (0, 0, 0, 0)) 0 = some x by
    rw [copy_all (l_laws_toRootKeyS_0 x) x m_laws_toRootKey _ (by omega) fun _ _ _ => rfl]
    congr 1
    exact List.map_id x]
  refine ⟨rfl, ?_⟩
  simp; omega
/-- all lists of a list are short -/
def ShortS (x : List (List K5)) : Prop := x.length ≤ 1048576 ∧ ∀ k, k < x.length → (x.getD k default).length ≤ 1048576
theorem map_getD {α : Type} [Inhabited α] (x : List α) : (List.range' 0 x.length).map (fun k => x.getD k default) = x := by
  apply List.ext_getElem (by simp)
  intro i h1 h2
  simp [h2]
theorem to_KeySS (x : List (List K5)) (h : ShortS x) : m_laws_toKeySS x = x ∧ p_laws_toKeySS x = true := by
  obtain ⟨h1, h2⟩ := h
  unfold m_laws_toKeySS p_laws_toKeySS
  have := fill_loop (l_laws_toKeySS_0 x) x.length (fun k => x.getD k default) (by omega) (fun n z k hk hz => by
      show (if (decide ((k : Int) < ((List.length x : Nat) : Int))) = true then _ else _) = _
      rw [if_pos (by simp; omega), inB_nat, inB_nat, atI_nat, (to_KeyS _ (h2 k hk)).1, (to_KeyS _ (h2 k hk)).2, Int.toNat_natCast]
      unfold need
      rw [if_pos (by simp; omega), if_pos rfl, if_pos (by simp; omega)]) (fun n z k hk => by
      show (if (decide ((k : Int) < ((List.length x : Nat) : Int))) = true then _ else _) = _
      rw [if_neg (by simp; omega)]) (Int.toNat (((List.length x : Nat) : Int) - 0) + 2) (List.replicate (Int.toNat ((List.length x : Nat) : Int)) []) 0 (Nat.zero_le _) (by simp) (by omega)
  have this2 : l_laws_toKeySS_0 x (Int.toNat (((List.length x : Nat) : Int) - 0) + 2) (List.replicate (Int.toNat ((List.length x : Nat) : Int)) []) 0 = some x := by
    refine this.trans ?_
    simp only [List.take_zero, List.nil_append, Nat.sub_zero]
    rw [map_getD]
  rw [this2]
  refine ⟨rfl, ?_⟩
  simp; omega
theorem eq_KeySS (x : List (List K5)) (h : ShortS x) : m_laws_eqKeySS x x = true ∧ p_laws_eqKeySS x x = true := by
  obtain ⟨h1, h2⟩ := h
  unfold m_laws_eqKeySS p_laws_eqKeySS
  have := all_loop (l_laws_eqKeySS_0 x x) x.length (fun _ => true) (by omega) (fun n k hk => by
      show (if (decide ((k : Int) < ((List.length x : Nat) : Int))) = true then _ else _) = _
      rw [if_pos (by simp; omega), inB_nat, atI_nat, (eq_KeyS _ (h2 k hk)).1, (eq_KeyS _ (h2 k hk)).2]
      unfold need
      rw [if_pos (by simp; omega), if_pos (by simp; omega), if_pos rfl]) (fun n k hk => by
      show (if (decide ((k : Int) < ((List.length x : Nat) : Int))) = true then _ else _) = _
      rw [if_neg (by simp; omega)]) (Int.toNat (((List.length x : Nat) : Int) - 0) + 2) 0 (Nat.zero_le _) (by omega)
  rw [show ((0 : Nat) : Int) = 0 from rfl, all_range_true (fun _ _ _ => rfl), if_pos rfl] at this
  rw [this]; simp
theorem sz_KeyS (x : List K5) (n : Int) (hx : x.length ≤ maxLen) (h0 : 0 ≤ n) (hn : n ≤ 1048576) : (m_laws_szKeyS x n < 0) ∨ (m_laws_szKeyS x n = n - x.length ∧ (x.length : Int) ≤ n) := by
  unfold m_laws_szKeyS
  have hx' : x.length ≤ 9223372036854775807 := by unfold maxLen at hx; omega
  rw [wrapI (by omega) (by omega)]
  by_cases h : n - ((List.length x : Nat) : Int) < 0
  · left; simp [h]
  · right; rw [if_neg (by simpa using h)]; exact ⟨rfl, by omega⟩
theorem sz_RootKeyS (x : List B4) (n : Int) (hx : x.length ≤ maxLen) (h0 : 0 ≤ n) (hn : n ≤ 1048576) (hs : ¬ (m_laws_szRootKeyS x n < 0)) : x.length ≤ 1048576 ∧ 0 ≤ m_laws_szRootKeyS x n ∧ m_laws_szRootKeyS x n ≤ 1048576 := by
  unfold m_laws_szRootKeyS at hs ⊢
  have hx' : x.length ≤ 9223372036854775807 := by unfold maxLen at hx; omega
  rw [wrapI (by omega) (by omega)] at hs ⊢
  by_cases h : n - ((List.length x : Nat) : Int) < 0
  · simp [h] at hs
  · rw [if_neg (by simpa using h)]; omega
theorem sz_loop (x : List (List K5)) (hl : x.length ≤ 1048576) (hx : ∀ k, k < x.length → (x.getD k default).length ≤ maxLen) : ∀ (n : Nat) (left : Int) (k : Nat), 0 ≤ left → left ≤ 1048576 → k ≤ x.length → x.length - k < n →
    l_laws_szKeySS_0 x n left (k : Int) = some (true, -1, default) ∨ ∃ r, l_laws_szKeySS_0 x n left (k : Int) = some (false, default, r) ∧ 0 ≤ r ∧ r ≤ 1048576 ∧ ∀ i, k ≤ i → i < x.length → (x.getD i default).length ≤ 1048576
  | 0, left, k, _, _, _, h => by omega
  | n + 1, left, k, h0, h1, hk, h => by
    have e : l_laws_szKeySS_0 x (n + 1) left (k : Int) = (if (decide ((k : Int) < ((List.length x : Nat) : Int))) = true then (need (inB (k : Int) (List.length x)) (if (decide ((m_laws_szKeyS (atI x (k : Int)) left) < 0)) = true then (some (true, (-1), default)) else (l_laws_szKeySS_0 x n (m_laws_szKeyS (atI x (k : Int)) left) (IntKind.wrap .i64 ((k : Int) + 1))))) else (some (false, default, left))) := rfl
    rw [e]
    by_cases hlt : k < x.length
    · rw [if_pos (by simp; omega), inB_nat]
      unfold need
      rw [if_pos (by simp; omega), atI_nat, wrapS (by omega)]
      rcases sz_KeyS (x.getD k default) left (hx k hlt) h0 h1 with hs | ⟨hs, hs2⟩
      · left; rw [if_pos (by simpa using hs)]
      · rw [if_neg (by rw [hs]; simp only [decide_eq_true_eq]; omega), hs]
        rcases sz_loop x hl hx n (left - ((x.getD k default).length : Nat)) (k + 1) (by omega) (by omega) (by omega) (by omega) with h | ⟨r, g1, g2, g3, g4⟩
        · left; exact h
        · right
          refine ⟨r, g1, g2, g3, fun i hi1 hi2 => ?_⟩
          by_cases hik : i = k
          · subst hik; omega
          · exact g4 i (by omega) hi2
    · right
      rw [if_neg (by simp; omega)]
      exact ⟨left, rfl, h0, h1, fun i hi1 hi2 => by omega⟩
theorem sz_KeySS (x : List (List K5)) (n : Int) (hl : x.length ≤ maxLen) (hx : ∀ k, k < x.length → (x.getD k default).length ≤ maxLen) (h0 : 0 ≤ n) (hn : n ≤ 1048576) :
    p_laws_szKeySS x n = true ∧ (¬ (m_laws_szKeySS x n < 0) → ShortS x ∧ 0 ≤ m_laws_szKeySS x n ∧ m_laws_szKeySS x n ≤ 1048576) := by
  unfold p_laws_szKeySS m_laws_szKeySS
  have hx' : x.length ≤ 9223372036854775807 := by unfold maxLen at hl; omega
  rw [wrapI (by omega) (by omega)]
  by_cases h : n - ((List.length x : Nat) : Int) < 0
  · simp [h]
  · have hl' : x.length ≤ 1048576 := by omega
    rcases sz_loop x hl' hx (Int.toNat (((List.length x : Nat) : Int) - 0) + 2) (n - ((List.length x : Nat) : Int)) 0 (by omega) (by omega) (Nat.zero_le _) (by omega) with e | ⟨r, e, g2, g3, g4⟩
    · rw [show ((0 : Nat) : Int) = 0 from rfl] at e
      rw [e]; simp [h]
    · rw [show ((0 : Nat) : Int) = 0 from rfl] at e
      rw [e]
      refine ⟨by simp, fun _ => ⟨⟨hl', fun k hk => g4 k (Nat.zero_le _) hk⟩, ?_⟩⟩
      simp [h]; omega
def ShortC (c : ClipT) : Prop := ShortS c.2.2.1 ∧ c.2.2.2.length ≤ 1048576
def HasC' (c : ClipT) : Prop := c.2.2.1.length ≤ maxLen ∧ (∀ k, k < c.2.2.1.length → (c.2.2.1.getD k default).length ≤ maxLen) ∧ c.2.2.2.length ≤ maxLen
theorem sz_Clip (c : ClipT) (n : Int) (hc : HasC' c) (h0 : 0 ≤ n) (hn : n ≤ 1048576) : p_laws_szClip c n = true ∧ (¬ (m_laws_szClip c n < 0) → ShortC c ∧ 0 ≤ m_laws_szClip c n ∧ m_laws_szClip c n ≤ 1048576) := by
  obtain ⟨a1, a2⟩ := sz_KeySS c.2.2.1 n hc.1 hc.2.1 h0 hn
  unfold p_laws_szClip m_laws_szClip
  refine ⟨a1, fun h => ?_⟩
  by_cases h1 : m_laws_szKeySS c.2.2.1 n < 0
  · simp [h1] at h
  · obtain ⟨b1, b2, b3⟩ := a2 h1
    by_cases h2 : m_laws_szRootKeyS c.2.2.2 (m_laws_szKeySS c.2.2.1 n) < 0
    · simp [h1, h2] at h
    · obtain ⟨d1, d2, d3⟩ := sz_RootKeyS c.2.2.2 _ hc.2.2 b2 b3 h2
      refine ⟨⟨b1, d1⟩, ?_⟩
      simp [h1, h2]; omega
theorem to_Clip (c : ClipT) (h : ShortC c) : m_laws_toClip c = c ∧ p_laws_toClip c = true := by
  unfold m_laws_toClip p_laws_toClip
  rw [(to_KeySS _ h.1).1, (to_KeySS _ h.1).2, (to_RootKeyS _ h.2).1, (to_RootKeyS _ h.2).2]
  exact ⟨rfl, rfl⟩
theorem eq_Clip (c : ClipT) (h : ShortC c) : m_laws_eqClip c c = true ∧ p_laws_eqClip c c = true := by
  unfold m_laws_eqClip p_laws_eqClip
  rw [(eq_KeySS _ h.1).1, (eq_KeySS _ h.1).2, (eq_RootKeyS _ h.2).1, (eq_RootKeyS _ h.2).2]
  simp
theorem has_of {x : List (List K5)} (h : ∀ q ∈ x, List.length q ≤ maxLen ∧ (∀ qq ∈ q, (Lit.int .i64 qq.1).wf = true ∧ Canon .f32 qq.2.1 ∧ Canon .f32 qq.2.2.1 ∧ Canon .f32 qq.2.2.2.1 ∧ Canon .f32 qq.2.2.2.2)) : ∀ k, k < x.length → (x.getD k default).length ≤ maxLen := by
  intro k hk
  rw [← atI_nat, atI_lt x hk]
  exact (h _ (List.getElem_mem hk)).1
end Go.Proofs
namespace Go.Proofs
open Go.Ab
theorem p_bits (x : Nat) : p_spec_l01Bits x = true := by unfold p_spec_l01Bits; cases feq .f32 x x <;> rfl
theorem p_same (x y : Nat) : p_spec_l01Same x y = true := by unfold p_spec_l01Same; rw [p_bits, p_bits]; rfl
theorem same_num {x y : Nat} (hx : Canon .f32 x) (hy : Canon .f32 y) : m_impl_SameNumber x y = m_spec_l01Same x y ∧ p_impl_SameNumber x y = true := by
  have lx : x < 2 ^ 32 := hx.lt
  have ly : y < 2 ^ 32 := hy.lt
  have wx : IntKind.wrap .i64 ((x : Nat) : Int) = x := wrapI (by omega) (by omega)
  have wy : IntKind.wrap .i64 ((y : Nat) : Int) = y := wrapI (by omega) (by omega)
  have sw : ∀ z, feq .f32 z z = true → feq .f64 (widen z) (widen z) = true := by
    intro z h
    rcases nn_widen h with ⟨s, m, e, h⟩ | ⟨s, h⟩
    · unfold feq ford Ieee.Format.order
      rw [h]
      obtain ⟨v, hv⟩ := read_ex h
      have o := order_ex hv hv
      unfold Ieee.Format.order at *
      rw [← h, o, Int.compare_eq_eq.2 rfl]; rfl
    · unfold feq ford Ieee.Format.order
      rw [h]; cases s <;> rfl
  unfold m_impl_SameNumber m_spec_l01Same m_spec_l01Bits p_impl_SameNumber p_math_Signbit m_math_Signbit
  rw [wx, wy]
  by_cases nx : feq .f32 x x = true <;> by_cases ny : feq .f32 y y = true
  · have := same_bits lx ly nx ny
    rw [if_pos nx, if_pos ny, if_pos nx, if_pos ny, sw x nx, sw y ny]
    refine ⟨?_, by simp⟩
    rw [← this, Bool.eq_iff_iff]; simp; omega
  · rw [if_pos nx, if_neg ny, if_pos nx, if_neg ny]
    have h1 := nan_of hy (by simpa using ny)
    refine ⟨?_, by simp [ny]⟩
    have : x ≠ 2143289344 := by rintro rfl; exact absurd nx (by decide)
    have h2 : ¬ ((x : Int) = 2143289344) := by omega
    simp [h2]
  · rw [if_neg nx, if_neg nx, if_pos ny]
    have : y ≠ 2143289344 := by rintro rfl; exact absurd ny (by decide)
    have h2 : ¬ ((2143289344 : Int) = y) := by omega
    simp [h2, ny, nx]
  · rw [if_neg nx, if_neg nx, if_neg ny]
    simp [nx, ny]
theorem same_vec {a b : Nat × Nat × Nat} (h1 : Canon .f32 a.1 ∧ Canon .f32 a.2.1 ∧ Canon .f32 a.2.2) (h2 : Canon .f32 b.1 ∧ Canon .f32 b.2.1 ∧ Canon .f32 b.2.2) :
    m_impl_SameVector a b = m_spec_l01VSame a b ∧ p_impl_SameVector a b = true ∧ p_spec_l01VSame a b = true := by
  unfold m_impl_SameVector m_spec_l01VSame p_impl_SameVector p_spec_l01VSame
  simp [same_num h1.1 h2.1, same_num h1.2.1 h2.2.1, same_num h1.2.2 h2.2.2, p_same]
abbrev CanonT (q : Nat × Nat × Nat × Nat) : Prop := Canon .f32 q.1 ∧ Canon .f32 q.2.1 ∧ Canon .f32 q.2.2.1 ∧ Canon .f32 q.2.2.2
theorem same_turn {a b : Nat × Nat × Nat × Nat} (h1 : CanonT a) (h2 : CanonT b) :
    m_impl_SameTurn a b = m_spec_l02Same a b ∧ p_impl_SameTurn a b = true ∧ p_spec_l02Same a b = true := by
  unfold m_impl_SameTurn m_spec_l02Same p_impl_SameTurn p_spec_l02Same
  simp [same_num h1.1 h2.1, same_num h1.2.1 h2.2.1, same_num h1.2.2.1 h2.2.2.1, same_num h1.2.2.2 h2.2.2.2, p_same]
end Go.Proofs
namespace Go.Proofs
open Go.Ab
theorem getD_mem {α : Type} [Inhabited α] (xs : List α) {k : Nat} (h : k < xs.length) : xs.getD k default ∈ xs := by
  rw [← atI_nat, atI_lt xs h]; exact List.getElem_mem _
/-- two lists of one length, an element at a time -/
theorem all2_loop {α : Type} [Inhabited α] (l : Nat → Int → Option (Bool × Bool × Unit)) (x y : List α) (e : α → α → Bool) (p : α → α → Bool) (hx : x.length < 2 ^ 62) (hl : x.length = y.length)
    (hp : ∀ a ∈ x, ∀ b ∈ y, p a b = true)
    (H : ∀ n k, l (n + 1) k = if (decide (k < ((x.length : Nat) : Int))) = true then need (inB k x.length) (need (inB k y.length) (need (p (atI x k) (atI y k)) (if e (atI x k) (atI y k) = true then l n (IntKind.wrap .i64 (k + 1)) else some (true, false, default)))) else some (false, default, ())) :
    l (Int.toNat (((x.length : Nat) : Int) - 0) + 2) 0 = some (if (List.range' 0 x.length).all (fun k => e (x.getD k default) (y.getD k default)) = true then (false, default, ()) else (true, false, default)) := by
  have := all_loop l x.length (fun k => e (x.getD k default) (y.getD k default)) hx (fun n k hk => by
    rw [H, if_pos (by simp; omega), inB_nat, inB_nat]
    have hk2 : k < y.length := by omega
    unfold need
    rw [if_pos (by simpa using hk), if_pos (by simpa using hk2), if_pos (by rw [atI_lt x hk, atI_lt y hk2]; exact hp _ (List.getElem_mem _) _ (List.getElem_mem _)), atI_nat, atI_nat]) (fun n k hk => by
    rw [H, if_neg (by simp; omega)]) (Int.toNat (((x.length : Nat) : Int) - 0) + 2) 0 (Nat.zero_le _) (by omega)
  exact this
end Go.Proofs
namespace Go.Proofs
open Go.Ab
def kE (a b : K5) : Bool := decide (a.1 = b.1) && m_spec_l02Same a.2 b.2
def rE (a b : B4) : Bool := decide (a.1 = b.1) && m_spec_l01VSame a.2 b.2
abbrev CanonV (q : Nat × Nat × Nat) : Prop := Canon .f32 q.1 ∧ Canon .f32 q.2.1 ∧ Canon .f32 q.2.2
theorem k_all {a b : K5} (ha : CanonT a.2) (hb : CanonT b.2) : m_impl_SameClip_1_1 a b = kE a b ∧ p_impl_SameClip_1_1 a b = true ∧ p_spec_l02Same a.2 b.2 = true := by
  obtain ⟨h1, h2, h3⟩ := same_turn ha hb
  unfold m_impl_SameClip_1_1 p_impl_SameClip_1_1 kE
  rw [h1, h2]
  refine ⟨?_, by simp, h3⟩
  cases decide (a.1 = b.1) <;> simp
theorem r_all {a b : B4} (ha : CanonV a.2) (hb : CanonV b.2) : m_impl_SameClip_2 a b = rE a b ∧ p_impl_SameClip_2 a b = true ∧ p_spec_l01VSame a.2 b.2 = true := by
  obtain ⟨h1, h2, h3⟩ := same_vec ha hb
  unfold m_impl_SameClip_2 p_impl_SameClip_2 rE
  rw [h1, h2]
  refine ⟨?_, by simp, h3⟩
  cases decide (a.1 = b.1) <;> simp
def tE (x y : List K5) : Bool := decide (((List.length x : Nat) : Int) = ((List.length y : Nat) : Int)) && (List.range' 0 x.length).all fun k => kE (x.getD k default) (y.getD k default)
theorem key_all {x y : List K5} (hx : ∀ q ∈ x, CanonT q.2) (hy : ∀ q ∈ y, CanonT q.2) (lx : x.length ≤ 1048576) : m_impl_SameClip_1 x y = tE x y ∧ p_impl_SameClip_1 x y = true := by
  unfold m_impl_SameClip_1 p_impl_SameClip_1 m_impl_Key_87 p_impl_Key_87 tE
  by_cases hl : x.length = y.length
  · have e1 := all2_loop (l_impl_Key_87_0 x y) x y m_impl_SameClip_1_1 p_impl_SameClip_1_1 (by omega) hl (fun a ha b hb => (k_all (hx a ha) (hy b hb)).2.1) (fun _ _ => rfl)
    have e3 : (List.range' 0 x.length).all (fun k => m_impl_SameClip_1_1 (x.getD k default) (y.getD k default)) = (List.range' 0 x.length).all (fun k => kE (x.getD k default) (y.getD k default)) :=
      all_range_congr fun i _ hi => (k_all (hx _ (getD_mem _ (by omega))) (hy _ (getD_mem _ (by omega)))).1
    rw [e3] at e1
    rw [e1]
    have h1 : (((List.length x : Nat) : Int) = ((List.length y : Nat) : Int)) := by omega
    generalize (List.range' 0 x.length).all (fun k => kE (x.getD k default) (y.getD k default)) = b
    cases b <;> simp [h1]
  · have h1 : ¬ (((List.length x : Nat) : Int) = ((List.length y : Nat) : Int)) := by omega
    simp [h1]
def CanonC (c : ClipT) : Prop := (∀ q ∈ c.2.2.1, ∀ r ∈ q, CanonT r.2) ∧ ∀ q ∈ c.2.2.2, CanonV q.2
section
variable {c d : ClipT} (hc : CanonC c) (hd : CanonC d) (sc : ShortC c) (sd : ShortC d)
include hc hd sc sd
theorem impl_tr (hl : c.2.2.1.length = d.2.2.1.length) : l_impl_Key_0 c.2.2.1 d.2.2.1 (Int.toNat (((List.length c.2.2.1 : Nat) : Int) - 0) + 2) 0 = some (if (List.range' 0 c.2.2.1.length).all (fun k => tE (c.2.2.1.getD k default) (d.2.2.1.getD k default)) = true then (false, default, ()) else (true, false, default)) := by
  have h1 := sc.1.1
  have := all_loop (l_impl_Key_0 c.2.2.1 d.2.2.1) c.2.2.1.length (fun k => tE (c.2.2.1.getD k default) (d.2.2.1.getD k default)) (by omega) (fun n k hk => by
      show (if (decide ((k : Int) < ((List.length c.2.2.1 : Nat) : Int))) = true then _ else _) = _
      obtain ⟨a1, a2⟩ := key_all (hc.1 _ (getD_mem c.2.2.1 hk)) (hd.1 _ (getD_mem d.2.2.1 (by omega : k < d.2.2.1.length))) (sc.1.2 k hk)
      rw [if_pos (by simp; omega), inB_nat, inB_nat, atI_nat, atI_nat, a1, a2]
      unfold need
      rw [if_pos (by simp; omega), if_pos (by simp; omega), if_pos rfl]) (fun n k hk => by
      show (if (decide ((k : Int) < ((List.length c.2.2.1 : Nat) : Int))) = true then _ else _) = _
      rw [if_neg (by simp; omega)]) (Int.toNat (((List.length c.2.2.1 : Nat) : Int) - 0) + 2) 0 (Nat.zero_le _) (by omega)
  exact this
theorem spec_in (k : Nat) (hk : k < c.2.2.1.length) (hk' : k < d.2.2.1.length) (hl : (c.2.2.1.getD k default).length = (d.2.2.1.getD k default).length) :
    l_spec_l05Same_0 c d (k : Int) (Int.toNat (((List.length (atI c.2.2.1 (k : Int)) : Nat) : Int) - 0) + 2) 0 = some (if (List.range' 0 (c.2.2.1.getD k default).length).all (fun j => kE ((c.2.2.1.getD k default).getD j default) ((d.2.2.1.getD k default).getD j default)) = true then (false, default, ()) else (true, false, default)) := by
  have h1 := sc.1.2 k hk
  rw [atI_nat]
  have := all_loop (l_spec_l05Same_0 c d (k : Int)) (c.2.2.1.getD k default).length (fun j => kE ((c.2.2.1.getD k default).getD j default) ((d.2.2.1.getD k default).getD j default)) (by omega) (fun n j hj => by
      show (if (decide ((j : Int) < ((List.length (atI c.2.2.1 (k : Int)) : Nat) : Int))) = true then _ else _) = _
      obtain ⟨_, _, a3⟩ := k_all (hc.1 _ (getD_mem c.2.2.1 hk) _ (getD_mem (c.2.2.1.getD k default) hj)) (hd.1 _ (getD_mem d.2.2.1 hk') _ (getD_mem (d.2.2.1.getD k default) (by omega : j < (d.2.2.1.getD k default).length)))
      simp only [atI_nat, inB_nat]
      rw [if_pos (by simp only [decide_eq_true_eq]; omega), a3]
      unfold need
      rw [if_pos (by simp only [decide_eq_true_eq]; omega), if_pos (by simp only [decide_eq_true_eq]; omega), if_pos (by simp only [decide_eq_true_eq]; omega), if_pos (by simp only [decide_eq_true_eq]; omega), if_pos rfl]
      unfold kE
      cases decide (((c.2.2.1.getD k default).getD j default).1 = ((d.2.2.1.getD k default).getD j default).1) <;> simp) (fun n j hj => by
      show (if (decide ((j : Int) < ((List.length (atI c.2.2.1 (k : Int)) : Nat) : Int))) = true then _ else _) = _
      rw [atI_nat, if_neg (by simp only [decide_eq_true_eq]; omega)]) (Int.toNat (((List.length (c.2.2.1.getD k default) : Nat) : Int) - 0) + 2) 0 (Nat.zero_le _) (by omega)
  exact this
theorem spec_tr (hl : c.2.2.1.length = d.2.2.1.length) : l_spec_l05Same_1 c d (Int.toNat (((List.length c.2.2.1 : Nat) : Int) - 0) + 2) 0 = some (if (List.range' 0 c.2.2.1.length).all (fun k => tE (c.2.2.1.getD k default) (d.2.2.1.getD k default)) = true then (false, default, ()) else (true, false, default)) := by
  have h1 := sc.1.1
  have := all_loop (l_spec_l05Same_1 c d) c.2.2.1.length (fun k => tE (c.2.2.1.getD k default) (d.2.2.1.getD k default)) (by omega) (fun n k hk => by
      show (if (decide ((k : Int) < ((List.length c.2.2.1 : Nat) : Int))) = true then _ else _) = _
      have hk' : k < d.2.2.1.length := by omega
      rw [if_pos (by simp; omega), inB_nat, inB_nat]
      unfold need
      rw [if_pos (by simp; omega), if_pos (by simp; omega)]
      by_cases he : (c.2.2.1.getD k default).length = (d.2.2.1.getD k default).length
      · have hi : (((List.length (atI c.2.2.1 (k : Int)) : Nat) : Int) = ((List.length (atI d.2.2.1 (k : Int)) : Nat) : Int)) := by rw [atI_nat, atI_nat]; omega
        rw [if_pos (by simpa using hi), spec_in hc hd sc sd k hk hk' he]
        unfold tE
        rw [show decide (((List.length (c.2.2.1.getD k default) : Nat) : Int) = ((List.length (d.2.2.1.getD k default) : Nat) : Int)) = true by simp only [decide_eq_true_eq]; omega]
        cases (List.range' 0 (c.2.2.1.getD k default).length).all (fun j => kE ((c.2.2.1.getD k default).getD j default) ((d.2.2.1.getD k default).getD j default)) <;> simp
      · have hi : ¬ (((List.length (atI c.2.2.1 (k : Int)) : Nat) : Int) = ((List.length (atI d.2.2.1 (k : Int)) : Nat) : Int)) := by rw [atI_nat, atI_nat]; omega
        rw [if_neg (by simpa using hi)]
        unfold tE
        rw [show decide (((List.length (c.2.2.1.getD k default) : Nat) : Int) = ((List.length (d.2.2.1.getD k default) : Nat) : Int)) = false by simp only [decide_eq_false_iff_not]; omega]
        rfl) (fun n k hk => by
      show (if (decide ((k : Int) < ((List.length c.2.2.1 : Nat) : Int))) = true then _ else _) = _
      rw [if_neg (by simp; omega)]) (Int.toNat (((List.length c.2.2.1 : Nat) : Int) - 0) + 2) 0 (Nat.zero_le _) (by omega)
  exact this
theorem impl_rt (hl : c.2.2.2.length = d.2.2.2.length) : l_impl_RootKey_0 c.2.2.2 d.2.2.2 (Int.toNat (((List.length c.2.2.2 : Nat) : Int) - 0) + 2) 0 = some (if (List.range' 0 c.2.2.2.length).all (fun k => rE (c.2.2.2.getD k default) (d.2.2.2.getD k default)) = true then (false, default, ()) else (true, false, default)) := by
  have h1 := sc.2
  have e1 := all2_loop (l_impl_RootKey_0 c.2.2.2 d.2.2.2) c.2.2.2 d.2.2.2 m_impl_SameClip_2 p_impl_SameClip_2 (by omega) hl (fun a ha b hb => (r_all (hc.2 a ha) (hd.2 b hb)).2.1) (fun _ _ => rfl)
  have e3 : (List.range' 0 c.2.2.2.length).all (fun k => m_impl_SameClip_2 (c.2.2.2.getD k default) (d.2.2.2.getD k default)) = (List.range' 0 c.2.2.2.length).all (fun k => rE (c.2.2.2.getD k default) (d.2.2.2.getD k default)) :=
    all_range_congr fun i _ hi => (r_all (hc.2 _ (getD_mem _ (by omega))) (hd.2 _ (getD_mem _ (by omega)))).1
  rw [e3] at e1
  exact e1
theorem spec_rt (hl : c.2.2.2.length = d.2.2.2.length) : l_spec_l05Same_2 c d (Int.toNat (((List.length c.2.2.2 : Nat) : Int) - 0) + 2) 0 = some (if (List.range' 0 c.2.2.2.length).all (fun k => rE (c.2.2.2.getD k default) (d.2.2.2.getD k default)) = true then (false, default, ()) else (true, false, default)) := by
  have h1 := sc.2
  have := all_loop (l_spec_l05Same_2 c d) c.2.2.2.length (fun k => rE (c.2.2.2.getD k default) (d.2.2.2.getD k default)) (by omega) (fun n k hk => by
      show (if (decide ((k : Int) < ((List.length c.2.2.2 : Nat) : Int))) = true then _ else _) = _
      obtain ⟨_, _, a3⟩ := r_all (hc.2 _ (getD_mem c.2.2.2 hk)) (hd.2 _ (getD_mem d.2.2.2 (by omega : k < d.2.2.2.length)))
      rw [if_pos (by simp; omega), inB_nat, inB_nat, atI_nat, atI_nat, a3]
      unfold need
      rw [if_pos (by simp; omega), if_pos (by simp; omega), if_pos rfl]
      unfold rE
      cases decide ((c.2.2.2.getD k default).1 = (d.2.2.2.getD k default).1) <;> simp) (fun n k hk => by
      show (if (decide ((k : Int) < ((List.length c.2.2.2 : Nat) : Int))) = true then _ else _) = _
      rw [if_neg (by simp; omega)]) (Int.toNat (((List.length c.2.2.2 : Nat) : Int) - 0) + 2) 0 (Nat.zero_le _) (by omega)
  exact this
theorem core_SameClip : p_impl_SameClip c d = true ∧ p_spec_SameClip c d = true ∧ m_impl_SameClip c d = m_spec_SameClip c d := by
  unfold p_impl_SameClip p_spec_SameClip m_impl_SameClip m_spec_SameClip p_spec_l05Same m_spec_l05Same m_impl_Key p_impl_Key m_impl_RootKey p_impl_RootKey
  by_cases h1 : c.2.2.1.length = d.2.2.1.length
  · by_cases h2 : c.2.2.2.length = d.2.2.2.length
    · rw [impl_tr hc hd sc sd h1, spec_tr hc hd sc sd h1, impl_rt hc hd sc sd h2, spec_rt hc hd sc sd h2]
      have e1 : (((List.length c.2.2.1 : Nat) : Int) = ((List.length d.2.2.1 : Nat) : Int)) := by omega
      have e2 : (((List.length c.2.2.2 : Nat) : Int) = ((List.length d.2.2.2 : Nat) : Int)) := by omega
      simp only [e1, e2, decide_true, if_true]
      cases decide (c.1 = d.1) <;> cases decide (c.2.1 = d.2.1) <;> cases (List.range' 0 c.2.2.1.length).all (fun k => tE (c.2.2.1.getD k default) (d.2.2.1.getD k default)) <;> cases (List.range' 0 c.2.2.2.length).all (fun k => rE (c.2.2.2.getD k default) (d.2.2.2.getD k default)) <;> simp
    · rw [impl_tr hc hd sc sd h1]
      have e1 : (((List.length c.2.2.1 : Nat) : Int) = ((List.length d.2.2.1 : Nat) : Int)) := by omega
      have e2 : ¬ (((List.length c.2.2.2 : Nat) : Int) = ((List.length d.2.2.2 : Nat) : Int)) := by omega
      simp [e1, e2]
  · have e1 : ¬ (((List.length c.2.2.1 : Nat) : Int) = ((List.length d.2.2.1 : Nat) : Int)) := by omega
    simp [e1]
end
theorem law_SameClip (a b : Int) (x : List (List K5)) (y : List B4) (_ : (Lit.int .i64 a).wf = true) (_ : (Lit.int .i64 b).wf = true) (hx : x.length ≤ maxLen)
    (hq : ∀ q ∈ x, List.length q ≤ maxLen ∧ (∀ qq ∈ q, (Lit.int .i64 qq.1).wf = true ∧ Canon .f32 qq.2.1 ∧ Canon .f32 qq.2.2.1 ∧ Canon .f32 qq.2.2.2.1 ∧ Canon .f32 qq.2.2.2.2)) (hy : y.length ≤ maxLen)
    (hr : ∀ q ∈ y, (Lit.int .i64 q.1).wf = true ∧ Canon .f32 q.2.1 ∧ Canon .f32 q.2.2.1 ∧ Canon .f32 q.2.2.2)
    (a' b' : Int) (x' : List (List K5)) (y' : List B4) (_ : (Lit.int .i64 a').wf = true) (_ : (Lit.int .i64 b').wf = true) (hx' : x'.length ≤ maxLen)
    (hq' : ∀ q ∈ x', List.length q ≤ maxLen ∧ (∀ qq ∈ q, (Lit.int .i64 qq.1).wf = true ∧ Canon .f32 qq.2.1 ∧ Canon .f32 qq.2.2.1 ∧ Canon .f32 qq.2.2.2.1 ∧ Canon .f32 qq.2.2.2.2)) (hy' : y'.length ≤ maxLen)
    (hr' : ∀ q ∈ y', (Lit.int .i64 q.1).wf = true ∧ Canon .f32 q.2.1 ∧ Canon .f32 q.2.2.1 ∧ Canon .f32 q.2.2.2) :
    g_laws_FnExactSameClip [.agg [.int .i64 a, .int .i64 b, .sl (List.map en1 x), .sl (List.map en2 y)], .agg [.int .i64 a', .int .i64 b', .sl (List.map en1 x'), .sl (List.map en2 y')]] = some (.bool true) := by
  have key : p_laws_FnExactSameClip (a, b, x, y) (a', b', x', y') = true ∧ m_laws_FnExactSameClip (a, b, x, y) (a', b', x', y') = true := by
    unfold p_laws_FnExactSameClip m_laws_FnExactSameClip
    have hc : HasC' (a, b, x, y) := ⟨hx, has_of hq, hy⟩
    have hc' : HasC' (a', b', x', y') := ⟨hx', has_of hq', hy'⟩
    have cc : CanonC (a, b, x, y) := ⟨fun q h r h' => ((hq q h).2 r h').2, fun q h => (hr q h).2⟩
    have cc' : CanonC (a', b', x', y') := ⟨fun q h r h' => ((hq' q h).2 r h').2, fun q h => (hr' q h).2⟩
    obtain ⟨s1, s2⟩ := sz_Clip (a, b, x, y) 1048576 hc (by omega) (by omega)
    by_cases hs : m_laws_szClip (a, b, x, y) 1048576 < 0
    · simp [hs, s1]
    · obtain ⟨k1, k2, k3⟩ := s2 hs
      obtain ⟨s3, s4⟩ := sz_Clip (a', b', x', y') _ hc' k2 k3
      by_cases hs' : m_laws_szClip (a', b', x', y') (m_laws_szClip (a, b, x, y) 1048576) < 0
      · simp [hs, hs', s1, s3]
      · obtain ⟨j1, j2, j3⟩ := s4 hs'
        obtain ⟨c1, c2, c3⟩ := core_SameClip cc cc' k1 j1
        simp [hs, hs', s1, s3, to_Clip _ k1, to_Clip _ j1, c1, c2, c3, eq_Clip _ k1, eq_Clip _ j1]
  unfold g_laws_FnExactSameClip
  simp only [dc_en1_map, dc_en2_map, key.1, key.2, if_true]
end Go.Proofs
