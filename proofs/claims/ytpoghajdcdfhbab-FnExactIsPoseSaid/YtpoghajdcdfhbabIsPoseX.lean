/- What functions that FnExactIsPose reaches compute, and that the program's and the reference's answers are the same. No conditions. -/
import Derived.Test.YtpoghajdcdfhbabIsPoseY0
set_option maxRecDepth 100000
set_option maxHeartbeats 4000000
set_option linter.all false
namespace Go.Proofs
open Go.Ab
def ic7 : ICode := (.seq (.reg [⟨(some 2), none, (.box 1 (.t 0))⟩, ⟨(some 3), none, (.box 4 (.t 1))⟩, ⟨(some 4), none, (.mov (.c (.bool false)))⟩] [2, 3]) (.seq (.reg [⟨(some 5),
      none, (.mov (.c (.int .i64 1048576)))⟩] [2, 3, 5]) (.seq (.reg [⟨(some 10), none, (.load (some 1) (.t 2))⟩, ⟨(some 11), none, (.mov (.t 5))⟩, ⟨(some 12), none, (.call (.fn 17)
      [(.t 10), (.t 11)] [])⟩, ⟨(some 5), none, (.mov (.t 12))⟩] [2, 3, 5]) (.seq (.seq (.reg [⟨(some 13), none, (.mov (.t 5))⟩, ⟨(some 14), none, (.bin .lss false (.t 13) (.c (.int
      .i64 0)))⟩] [2, 3, 5, 14]) (.cond (.t 14) (.seq (.reg [⟨(some 4), none, (.mov (.c (.bool true)))⟩] [4]) .ret) .skip)) (.seq (.reg [⟨(some 15), none, (.load (some 4) (.t 3))⟩,
      ⟨(some 16), none, (.mov (.t 5))⟩, ⟨(some 17), none, (.call (.fn 22) [(.t 15), (.t 16)] [])⟩, ⟨(some 5), none, (.mov (.t 17))⟩] [2, 3, 5]) (.seq (.seq (.reg [⟨(some 18), none,
      (.mov (.t 5))⟩, ⟨(some 19), none, (.bin .lss false (.t 18) (.c (.int .i64 0)))⟩] [2, 3, 19]) (.cond (.t 19) (.seq (.reg [⟨(some 4), none, (.mov (.c (.bool true)))⟩] [4]) .ret)
      .skip)) (.seq (.reg [⟨(some 20), none, (.load (some 1) (.t 2))⟩, ⟨(some 21), none, (.call (.fn 19) [(.t 20)] [])⟩, ⟨(some 22), none, (.load (some 4) (.t 3))⟩, ⟨(some 23),
      none, (.call (.fn 24) [(.t 22)] [])⟩, ⟨(some 24), none, (.call (.fn 31) [(.t 21), (.t 23)] [])⟩, ⟨(some 6), none, (.mov (.t 24))⟩] [2, 3, 6]) (.seq (.reg [⟨(some 25), none,
      (.load (some 1) (.t 2))⟩, ⟨(some 26), none, (.call (.fn 19) [(.t 25)] [])⟩, ⟨(some 7), none, (.alloc (.agg [.snil]))⟩, ⟨none, none, (.store 1 (.t 7) (.t 26))⟩] [2, 3, 6, 7])
      (.seq (.reg [⟨(some 27), none, (.load (some 4) (.t 3))⟩, ⟨(some 28), none, (.call (.fn 24) [(.t 27)] [])⟩, ⟨(some 8), none, (.alloc (.agg [(.flt .f32 0), (.flt .f32 0), (.flt
      .f32 0), .snil]))⟩, ⟨none, none, (.store 4 (.t 8) (.t 28))⟩] [2, 3, 6, 7, 8]) (.seq (.reg [⟨(some 29), none, (.load (some 1) (.t 7))⟩, ⟨(some 30), none, (.load (some 4) (.t
      8))⟩, ⟨(some 31), none, (.call (.fn 32) [(.t 29), (.t 30)] [])⟩, ⟨(some 9), none, (.mov (.t 31))⟩] [2, 3, 6, 7, 8, 9]) (.seq (.seq (.reg [⟨(some 32), none, (.mov (.t 9))⟩,
      ⟨(some 33), none, (.mov (.t 6))⟩, ⟨(some 34), none, (.bin .neq true (.t 32) (.t 33))⟩] [2, 3, 7, 8, 34]) (.cond (.t 34) (.seq (.reg [⟨(some 4), none, (.mov (.c (.bool
      false)))⟩] [4]) .ret) .skip)) (.seq (.seq (.reg [⟨(some 35), none, (.load (some 1) (.t 7))⟩, ⟨(some 36), none, (.load (some 1) (.t 2))⟩, ⟨(some 37), none, (.call (.fn 19) [(.t
      36)] [])⟩, ⟨(some 38), none, (.call (.fn 21) [(.t 35), (.t 37)] [])⟩, ⟨(some 39), none, (.un .not (.t 38))⟩] [3, 8, 39]) (.cond (.t 39) (.seq (.reg [⟨(some 4), none, (.mov (.c
      (.bool false)))⟩] [4]) .ret) .skip)) (.seq (.seq (.reg [⟨(some 40), none, (.load (some 4) (.t 8))⟩, ⟨(some 41), none, (.load (some 4) (.t 3))⟩, ⟨(some 42), none, (.call (.fn
      24) [(.t 41)] [])⟩, ⟨(some 43), none, (.call (.fn 26) [(.t 40), (.t 42)] [])⟩, ⟨(some 44), none, (.un .not (.t 43))⟩] [44]) (.cond (.t 44) (.seq (.reg [⟨(some 4), none, (.mov
      (.c (.bool false)))⟩] [4]) .ret) .skip)) (.seq (.reg [⟨(some 4), none, (.mov (.c (.bool true)))⟩] [4]) .ret))))))))))))))
def cp7 : CP := CP.mk [] [] [[2, 3], [2, 3, 5], [2, 3, 5], [2, 3, 5, 14], [4], [2, 3, 5], [2, 3, 19], [4], [2, 3, 6], [2, 3, 6, 7], [2, 3, 6, 7, 8], [2, 3, 6, 7, 8, 9], [2, 3, 7, 8,
      34], [4], [3, 8, 39], [4], [44], [4], [4]] 45
theorem fc7_0 : IntKind.wrap .i64 0 = 0 := by decide
theorem fc7_1 : IntKind.wrap .i64 1 = 1 := by decide
theorem fc7_2 : IntKind.wrap .i64 2 = 2 := by decide
theorem fc7_3 : IntKind.wrap .i64 3 = 3 := by decide
theorem fc7_4 : IntKind.wrap .i64 4 = 4 := by decide
theorem s7 : ∀ vs r, g_laws_FnExactIsPose vs = some r → SaysM Try.prog .any 7 vs r := by
  intro vs r h
  unfold g_laws_FnExactIsPose at h
  split at h
  · rename_i w0 y1 y2 y3 w4
    cases hd_y0 : decL dc_en0 w0 with
    | none => rw [hd_y0] at h; cases h
    | some y0 =>
    rw [hd_y0] at h
    obtain rfl := decL_inv dc_en0_inv hd_y0
    clear hd_y0
    dsimp only at h
    cases hd_y4 : decL dc_en1 w4 with
    | none => rw [hd_y4] at h; cases h
    | some y4 =>
    rw [hd_y4] at h
    obtain rfl := decL_inv dc_en1_inv hd_y4
    clear hd_y4
    dsimp only at h
    split at h
    · rename_i hp
      cases h
      refine spec_of (m := .any) (tab := tabOf [(17, wM .any g_laws_szSkeleton), (19, wM (.own [4]) g_laws_toSkeleton), (21, wM .any g_laws_eqSkeleton), (22, wM .any g_laws_szPose), (24, wM (.own [4]) g_laws_toPose), (26, wM .any g_laws_eqPose), (31, wM .any g_spec_IsPose), (32, wM .any g_impl_IsPose)]) (cp := cp7) (ic := ic7) (rvl := [(.t 4)]) hm (tabOk_cons (m := .any) s17 (tabOk_cons (m := (.own [4])) s19 (tabOk_cons (m := .any) s21 (tabOk_cons (m := .any) s22 (tabOk_cons (m := (.own [4])) s24 (tabOk_cons (m := .any) s26 (tabOk_cons (m := .any) s31 (tabOk_cons (m := .any) s32 tabOk_nil)))))))) Try.func7 rfl rfl rfl (by kernel_rfl) rfl (Nat.le_of_ble_eq_true rfl) (Nat.le_of_ble_eq_true rfl) ?_
      show eA _ _ _ _
      unfold ic7
      simp only [p_laws_FnExactIsPose, Bool.and_eq_true, Bool.or_eq_true, decide_eq_true_eq, Bool.not_eq_true', decide_eq_false_iff_not] at hp
      simp only [
          hp, grpS, grpD, grpF, grpL, eop, vop, bop, uop, fltop, convop, endOk, newE, new1, freshL, Md.isNew, outV, pureV, pureX, pure1, AV.cells, AV.one, storable, laid, refless,
                refless1, vload, loadC, storeC, vnil, vfaddr, vextract, flatT, flatE, flatC, vconv, vmm, vidxA, viaddrA, vfield, vlen, elemsOf, dF32, dF64, dI64, dU8, dBool, dStr,
                esOk, elemsS, vsliceX, bnd, ownV, ownC, own1, ownT, isSl, nSl, endL, Md.isOwn, purge, purgeH, purgeB, purgeE, hasName, name1, List.any_cons, List.any_nil, Md.isWr,
                pureV.pureP, Option.map, reduceIte, Nat.reduceEqDiff, Nat.reduceAdd, Nat.reduceMul, Nat.reduceLT, Nat.reduceLeDiff, List.mapM_cons, List.mapM_nil, Option.pure_def,
                Option.bind_eq_bind, Option.bind_some, implies_true, forall_const, beq_self_eq_true, decide_true, decide_false, eq_self, Int.reduceEq, Int.reduceLE, Int.reduceLT,
                if_true, if_false, fc7_0, fc7_1, fc7_2, fc7_3, fc7_4, Int.reduceAdd, Int.reduceSub, Int.reduceMul, Int.reduceNeg, Int.reducePow, Nat.reducePow, Int.reduceToNat,
                Nat.reduceSub, List.replicate, Nat.reduceBEq, wAs, wA, wC, zipW, noDupN, grpE, g_laws_szSkeleton, g_laws_toSkeleton, g_laws_eqSkeleton, g_laws_szPose, g_laws_toPose,
                g_laws_eqPose, g_spec_IsPose, g_impl_IsPose, grpC, en0, dc_en0, en1, dc_en1]
      repeat' (first
        | ((first | (refine eGI_of (fun h => ?_) (fun h => ?_)) | (refine eCc_of (fun h => ?_) (fun h => ?_))) <;> (try simp only [Bool.not_eq_true', Bool.not_eq_false'] at h) <;> (try simp only [h, reduceCtorEq, Bool.not_eq_true', decide_eq_false_iff_not, Bool.not_true, Bool.not_false, Bool.false_or, Bool.true_or, Bool.true_and, Bool.false_and, Bool.and_eq_true, Bool.or_eq_true, if_true, if_false, reduceIte, Bool.false_eq_true, and_true, true_and, false_or, or_false, decide_eq_true_eq, not_false_eq_true, not_true_eq_false] at hp) <;> (try (have h2 := h; simp only [decide_eq_true_eq, decide_eq_false_iff_not] at h2; (first | (replace h2 := eq_false h2) | (replace h2 := eq_true h2)); simp only [h2, if_true, if_false, false_or, true_or, or_true, or_false, and_true, true_and, not_false_eq_true, not_true_eq_false] at hp)) <;> simp only [h,
          hp, grpS, grpD, grpF, grpL, eop, vop, bop, uop, fltop, convop, endOk, newE, new1, freshL, Md.isNew, outV, pureV, pureX, pure1, AV.cells, AV.one, storable, laid, refless,
                refless1, vload, loadC, storeC, vnil, vfaddr, vextract, flatT, flatE, flatC, vconv, vmm, vidxA, viaddrA, vfield, vlen, elemsOf, dF32, dF64, dI64, dU8, dBool, dStr,
                esOk, elemsS, vsliceX, bnd, ownV, ownC, own1, ownT, isSl, nSl, endL, Md.isOwn, purge, purgeH, purgeB, purgeE, hasName, name1, List.any_cons, List.any_nil, Md.isWr,
                pureV.pureP, Option.map, reduceIte, Nat.reduceEqDiff, Nat.reduceAdd, Nat.reduceMul, Nat.reduceLT, Nat.reduceLeDiff, List.mapM_cons, List.mapM_nil, Option.pure_def,
                Option.bind_eq_bind, Option.bind_some, implies_true, forall_const, beq_self_eq_true, decide_true, decide_false, eq_self, Int.reduceEq, Int.reduceLE, Int.reduceLT,
                if_true, if_false, fc7_0, fc7_1, fc7_2, fc7_3, fc7_4, Int.reduceAdd, Int.reduceSub, Int.reduceMul, Int.reduceNeg, Int.reducePow, Nat.reducePow, Int.reduceToNat,
                Nat.reduceSub, List.replicate, Nat.reduceBEq, wAs, wA, wC, zipW, noDupN, grpE, g_laws_szSkeleton, g_laws_toSkeleton, g_laws_eqSkeleton, g_laws_szPose, g_laws_toPose,
                g_laws_eqPose, g_spec_IsPose, g_impl_IsPose, grpC, en0, dc_en0, en1, dc_en1]))
      all_goals (try simp only [*, m_laws_FnExactIsPose, Bool.and_true, Bool.true_and, Bool.and_false, Bool.false_and, Bool.or_true, Bool.true_or, Bool.or_false, Bool.false_or, Bool.not_true, Bool.not_false, Bool.false_eq_true, if_true, if_false, reduceIte, decide_true, decide_false])
      all_goals (try (simp_all; done))
    · cases h
  · cases h
end Go.Proofs
namespace Go.Proofs
open Go.Ab
theorem sameFloat_refl (x : Nat) : m_laws_sameFloat x x = true := by
  unfold m_laws_sameFloat
  by_cases h : feq .f64 x x = true
  · simp [h]
  · simp [h]
theorem eq_Vector (a : Nat × Nat × Nat) : m_laws_eqVector a a = true := by unfold m_laws_eqVector; simp [sameFloat_refl]
end Go.Proofs
namespace Go.Proofs
open Go.Ab
theorem eq_Bone (a : Int × Nat × Nat × Nat) : m_laws_eqBone a a = true := by unfold m_laws_eqBone; simp [eq_Vector]
theorem loop_eqBoneS (x : List (Int × Nat × Nat × Nat)) (h : x.length ≤ 1048576) : l_laws_eqBoneS_0 x x (Int.toNat (((List.length x : Nat) : Int) - 0) + 2) 0 = some (false, default, ()) :=
  eq_loop _ x m_laws_eqBone eq_Bone (by omega) fun _ _ => rfl
theorem eq_BoneS (x : List (Int × Nat × Nat × Nat)) (h : x.length ≤ 1048576) : m_laws_eqBoneS x x = true ∧ p_laws_eqBoneS x x = true := by
  unfold m_laws_eqBoneS p_laws_eqBoneS
  rw [loop_eqBoneS x h]; simp
theorem eq_Skeleton (x : List (Int × Nat × Nat × Nat)) (h : x.length ≤ 1048576) : m_laws_eqSkeleton x x = true ∧ p_laws_eqSkeleton x x = true := by
  unfold m_laws_eqSkeleton p_laws_eqSkeleton
  simp [eq_BoneS x h]
theorem loop_toBoneS (x : List (Int × Nat × Nat × Nat)) (h : x.length ≤ 1048576) : l_laws_toBoneS_0 x (Int.toNat (((List.length x : Nat) : Int) - 0) + 2) (List.replicate (Int.toNat ((List.length x : Nat) : Int)) (0, 0, 0, 0)) 0 = some x := by
  rw [copy_all (l_laws_toBoneS_0 x) x m_laws_toBone _ (by omega) fun _ _ _ => rfl]
  congr 1
  exact List.map_id x
theorem to_BoneS (x : List (Int × Nat × Nat × Nat)) (h : x.length ≤ 1048576) : m_laws_toBoneS x = x ∧ p_laws_toBoneS x = true := by
  unfold m_laws_toBoneS p_laws_toBoneS
  rw [loop_toBoneS x h]
  refine ⟨rfl, ?_⟩
  simp; omega
theorem to_Skeleton (x : List (Int × Nat × Nat × Nat)) (h : x.length ≤ 1048576) : m_laws_toSkeleton x = x ∧ p_laws_toSkeleton x = true := by
  unfold m_laws_toSkeleton p_laws_toSkeleton
  exact to_BoneS x h
theorem sz_Skeleton (x : List (Int × Nat × Nat × Nat)) (n : Int) (hx : x.length ≤ maxLen) (h0 : 0 ≤ n) (hn : n ≤ 1048576) (hs : ¬ (m_laws_szSkeleton x n < 0)) : x.length ≤ 1048576 ∧ 0 ≤ m_laws_szSkeleton x n ∧ m_laws_szSkeleton x n ≤ 1048576 := by
  unfold m_laws_szSkeleton m_laws_szBoneS at hs ⊢
  have hx' : x.length ≤ 9223372036854775807 := by unfold maxLen at hx; omega
  rw [wrapI (by omega) (by omega)] at hs ⊢
  by_cases h : n - ((List.length x : Nat) : Int) < 0
  · simp [h] at hs
  · simp [h]; omega
end Go.Proofs
namespace Go.Proofs
open Go.Ab
theorem l00In_iff (a b c : Int) : m_spec_l00In a b c = (decide (b ≤ a) && decide (a ≤ c)) := by
  unfold m_spec_l00In; cases decide (b ≤ a) <;> simp
theorem spec_loop (x : List (Int × Nat × Nat × Nat)) (h : x.length ≤ 12) (h1 : 1 ≤ x.length) : l_spec_l03Is_0 x (Int.toNat (((List.length x : Nat) : Int) - 1) + 2) 1 =
    some (if (List.range' 1 (x.length - 1)).all (fun k => decide (0 ≤ (x.getD k default).1) && decide ((x.getD k default).1 ≤ (k : Int) - 1)) = true then (false, default, ()) else (true, false, default)) := by
  have := all_loop (l_spec_l03Is_0 x) x.length (fun k => decide (0 ≤ (x.getD k default).1) && decide ((x.getD k default).1 ≤ (k : Int) - 1)) (by omega) (fun n k hk => by
      show (if (decide ((k : Int) < ((List.length x : Nat) : Int))) = true then _ else _) = _
      rw [if_pos (by simp; omega), inB_nat]
      unfold need
      rw [if_pos (by simpa using hk), atI_nat, wrapI (by omega) (by omega), l00In_iff]) (fun n k hk => by
      show (if (decide ((k : Int) < ((List.length x : Nat) : Int))) = true then _ else _) = _
      rw [if_neg (by simp; omega)]) (Int.toNat (((List.length x : Nat) : Int) - 1) + 2) 1 h1 (by omega)
  exact this
theorem impl_loop (x : List (Int × Nat × Nat × Nat)) (h : x.length ≤ 12) (h1 : 1 ≤ x.length) : l_impl_ValidSkeleton_0 x (Int.toNat (((List.length (List.drop 1 x) : Nat) : Int) - 0) + 2) 0 =
    some (if (List.range' 0 (x.length - 1)).all (fun k => decide (0 ≤ (x.getD (1 + k) default).1) && decide ((x.getD (1 + k) default).1 ≤ (k : Int))) = true then (false, default, ()) else (true, false, default)) := by
  have hl : (List.drop 1 x).length = x.length - 1 := List.length_drop
  have := all_loop (l_impl_ValidSkeleton_0 x) (x.length - 1) (fun k => decide (0 ≤ (x.getD (1 + k) default).1) && decide ((x.getD (1 + k) default).1 ≤ (k : Int))) (by omega) (fun n k hk => by
      show (if (decide ((k : Int) < ((List.length (List.drop 1 x) : Nat) : Int))) = true then _ else _) = _
      rw [if_pos (by simp; omega), inB_nat]
      unfold need
      have hg : atI (List.drop 1 x) (k : Int) = x.getD (1 + k) default := by rw [atI_nat]; simp [List.getD_eq_getElem?_getD, List.getElem?_drop, Nat.add_comm]
      rw [if_pos (by simp; omega), hg]
      generalize (x.getD (1 + k) default).1 = v
      by_cases hv : v < 0
      · simp [hv]; omega
      · by_cases hv2 : (k : Int) < v
        · have : ¬ v ≤ (k : Int) := by omega
          simp [hv, hv2, this]
        · have h3 : v ≤ (k : Int) := by omega
          have h4 : 0 ≤ v := by omega
          simp [hv, hv2, h3, h4]) (fun n k hk => by
      show (if (decide ((k : Int) < ((List.length (List.drop 1 x) : Nat) : Int))) = true then _ else _) = _
      rw [if_neg (by simp; omega)]) (Int.toNat (((List.length (List.drop 1 x) : Nat) : Int) - 0) + 2) 0 (Nat.zero_le _) (by omega)
  exact this
theorem core_sk (x : List (Int × Nat × Nat × Nat)) : p_impl_ValidSkeleton x = true ∧ p_spec_l03Is x = true ∧ m_impl_ValidSkeleton x = m_spec_l03Is x := by
  by_cases hn : 1 ≤ x.length ∧ x.length ≤ 12
  · obtain ⟨h1, h2⟩ := hn
    have e1 : decide (((List.length x : Nat) : Int) < 1) = false := by simp; omega
    have e2 : decide (12 < ((List.length x : Nat) : Int)) = false := by simp; omega
    have e3 : m_spec_l00In ((List.length x : Nat) : Int) 1 12 = true := by rw [l00In_iff]; simp; omega
    have e4 : inB 0 x.length = true := by simp [inB]; omega
    unfold p_impl_ValidSkeleton p_spec_l03Is m_impl_ValidSkeleton m_spec_l03Is
    rw [spec_loop x h2 h1, impl_loop x h2 h1, e1, e2, e3, e4]
    refine ⟨by simp; omega, by simp, ?_⟩
    rw [all_range_shift (c := fun k => decide (0 ≤ (x.getD (1 + k) default).1) && decide ((x.getD (1 + k) default).1 ≤ (k : Int))) (d := fun k => decide (0 ≤ (x.getD k default).1) && decide ((x.getD k default).1 ≤ (k : Int) - 1)) (k := 0) (j := 1) (fun i _ => by
      rw [Nat.zero_add]
      have : (((1 + i : Nat) : Int) - 1) = (i : Int) := by omega
      rw [this])]
    simp
  · have e3 : m_spec_l00In ((List.length x : Nat) : Int) 1 12 = false := by rw [l00In_iff]; simp; omega
    unfold p_impl_ValidSkeleton p_spec_l03Is m_impl_ValidSkeleton m_spec_l03Is
    rw [e3]
    by_cases h1 : ((List.length x : Nat) : Int) < 1
    · simp [h1]
    · have h2 : (12 : Int) < ((List.length x : Nat) : Int) := by omega
      simp [h1, h2]
end Go.Proofs
namespace Go.Proofs
open Go.Ab
theorem eq_Turn (a : Nat × Nat × Nat × Nat) : m_laws_eqTurn a a = true := by unfold m_laws_eqTurn; simp [sameFloat_refl]
theorem eq_TurnS (x : List (Nat × Nat × Nat × Nat)) (h : x.length ≤ 1048576) : m_laws_eqTurnS x x = true ∧ p_laws_eqTurnS x x = true := by
  unfold m_laws_eqTurnS p_laws_eqTurnS
  rw [show l_laws_eqTurnS_0 x x (Int.toNat (((List.length x : Nat) : Int) - 0) + 2) 0 = some (false, default, ()) from eq_loop _ x m_laws_eqTurn eq_Turn (by omega) fun _ _ => rfl]; simp
theorem to_TurnS (x : List (Nat × Nat × Nat × Nat)) (h : x.length ≤ 1048576) : m_laws_toTurnS x = x ∧ p_laws_toTurnS x = true := by
  unfold m_laws_toTurnS p_laws_toTurnS
  rw [show l_laws_toTurnS_0 x (Int.toNat (((List.length x : Nat) : Int) - 0) + 2) (List.replicate (Int.toNat ((List.length x : Nat) : Int)) (0, 0, 0, 0)) 0 = some x by
    rw [copy_all (l_laws_toTurnS_0 x) x m_laws_toTurn _ (by omega) fun _ _ _ => rfl]
    congr 1
    exact List.map_id x]
  refine ⟨rfl, ?_⟩
  simp; omega
theorem sz_TurnS (x : List (Nat × Nat × Nat × Nat)) (n : Int) (hx : x.length ≤ maxLen) (h0 : 0 ≤ n) (hn : n ≤ 1048576) (hs : ¬ (m_laws_szTurnS x n < 0)) : x.length ≤ 1048576 ∧ 0 ≤ m_laws_szTurnS x n ∧ m_laws_szTurnS x n ≤ 1048576 := by
  unfold m_laws_szTurnS at hs ⊢
  have hx' : x.length ≤ 9223372036854775807 := by unfold maxLen at hx; omega
  rw [wrapI (by omega) (by omega)] at hs ⊢
  by_cases h : n - ((List.length x : Nat) : Int) < 0
  · simp [h] at hs
  · rw [if_neg (by simpa using h)]; omega
end Go.Proofs
namespace Go.Proofs
open Go.Ab
theorem eq_Pose (x : Nat × Nat × Nat × List (Nat × Nat × Nat × Nat)) (h : x.2.2.2.length ≤ 1048576) : m_laws_eqPose x x = true ∧ p_laws_eqPose x x = true := by
  unfold m_laws_eqPose p_laws_eqPose
  simp [eq_Vector, eq_TurnS _ h]
theorem to_Pose (x : Nat × Nat × Nat × List (Nat × Nat × Nat × Nat)) (h : x.2.2.2.length ≤ 1048576) : m_laws_toPose x = x ∧ p_laws_toPose x = true := by
  unfold m_laws_toPose p_laws_toPose
  exact ⟨by simp [to_TurnS _ h, m_laws_toVector], (to_TurnS _ h).2⟩
theorem sz_Pose (x : Nat × Nat × Nat × List (Nat × Nat × Nat × Nat)) (n : Int) (hx : x.2.2.2.length ≤ maxLen) (h0 : 0 ≤ n) (hn : n ≤ 1048576) (hs : ¬ (m_laws_szPose x n < 0)) : x.2.2.2.length ≤ 1048576 ∧ 0 ≤ m_laws_szPose x n ∧ m_laws_szPose x n ≤ 1048576 := by
  unfold m_laws_szPose at hs ⊢
  by_cases h : m_laws_szTurnS x.2.2.2 n < 0
  · simp [h] at hs
  · have := sz_TurnS x.2.2.2 n hx h0 hn h
    simpa [h] using this
end Go.Proofs
namespace Go.Proofs
open Go.Ab
theorem law_IsPose (a : List (Int × Nat × Nat × Nat)) (h : a.length ≤ maxLen) (_ : ∀ q ∈ a, (Lit.int .i64 q.1).wf = true ∧ Canon .f32 q.2.1 ∧ Canon .f32 q.2.2.1 ∧ Canon .f32 q.2.2.2)
    (a' b' c' : Nat) (l' : List (Nat × Nat × Nat × Nat)) (ha' : Canon .f32 a') (hb' : Canon .f32 b') (hc' : Canon .f32 c') (hl' : l'.length ≤ maxLen) (hq' : ∀ q ∈ l', Canon .f32 q.1 ∧ Canon .f32 q.2.1 ∧ Canon .f32 q.2.2.1 ∧ Canon .f32 q.2.2.2) :
    g_laws_FnExactIsPose [.agg [.sl (List.map en0 a)], .agg [.flt .f32 a', .flt .f32 b', .flt .f32 c', .sl (List.map en1 l')]] = some (.bool true) := by
  have key : p_laws_FnExactIsPose a (a', b', c', l') = true ∧ m_laws_FnExactIsPose a (a', b', c', l') = true := by
    unfold p_laws_FnExactIsPose m_laws_FnExactIsPose
    by_cases hs : m_laws_szSkeleton a 1048576 < 0
    · simp [hs]
    · obtain ⟨k1, k2, k3⟩ := sz_Skeleton a 1048576 h (by omega) (by omega) hs
      by_cases hs' : m_laws_szPose (a', b', c', l') (m_laws_szSkeleton a 1048576) < 0
      · simp [hs, hs']
      · obtain ⟨j1, j2, j3⟩ := sz_Pose (a', b', c', l') _ hl' k2 k3 hs'
        have hc := core_sk a
        have e : m_impl_IsPose a (a', b', c', l') = m_spec_IsPose a (a', b', c', l') := by
          unfold m_impl_IsPose m_spec_IsPose m_spec_l03Pose
          rw [hc.2.2]
        have e1 : p_impl_IsPose a (a', b', c', l') = true := hc.1
        have e2 : p_spec_IsPose a (a', b', c', l') = true := hc.2.1
        simp [hs, hs', to_Skeleton _ k1, to_Pose _ j1, e, e1, e2, eq_Skeleton _ k1, eq_Pose _ j1]
  unfold g_laws_FnExactIsPose
  simp only [dc_en0_map, dc_en1_map, key.1, key.2, if_true]
end Go.Proofs
