/- What functions that FnExactValidSkeleton reaches compute, and that the program's and the reference's answers are the same. No conditions. -/
import Derived.Test.YtpoghajdcdfhbabValidSkeletonY0
set_option maxRecDepth 100000
set_option maxHeartbeats 4000000
set_option linter.all false
namespace Go.Proofs
open Go.Ab
theorem s4 : ∀ vs r, g_laws_FnExactValidSkeleton vs = some r → SaysM Try.prog .any 4 vs r := by
  intro vs r h
  unfold g_laws_FnExactValidSkeleton at h
  split at h
  · rename_i w0
    cases hd_y0 : decL dc_en0 w0 with
    | none => rw [hd_y0] at h; cases h
    | some y0 =>
    rw [hd_y0] at h
    obtain rfl := decL_inv dc_en0_inv hd_y0
    clear hd_y0
    dsimp only at h
    split at h
    · rename_i hp
      cases h
      refine spec_of (m := .any) (tab := tabOf [(17, .any, g_laws_szSkeleton), (18, .any, g_spec_ValidSkeleton), (19, .any, g_laws_toSkeleton), (20, .any, g_impl_ValidSkeleton), (21, .any, g_laws_eqSkeleton)]) (cp := cp4) (ic := ic4) (rvl := [(.t 2)]) hm (tabOk_cons (m := .any) s17 (tabOk_cons (m := .any) s18 (tabOk_cons (m := .any) s19 (tabOk_cons (m := .any) s20 (tabOk_cons (m := .any) s21 tabOk_nil))))) Try.func4 rfl rfl rfl (by kernel_rfl) rfl (Nat.le_of_ble_eq_true rfl) (Nat.le_of_ble_eq_true rfl) ?_
      show eA _ _ _ _
      unfold ic4
      simp only [p_laws_FnExactValidSkeleton, Bool.and_eq_true, Bool.or_eq_true, decide_eq_true_eq, Bool.not_eq_true', decide_eq_false_iff_not] at hp
      simp only [
          hp, grpS, grpD, grpF, grpL, eop, vop, bop, uop, fltop, convop, endOk, newE, new1, freshL, Md.isNew, outV, pureV, pureX, pure1, AV.cells, AV.one, storable, laid, refless,
                refless1, vload, loadC, storeC, vnil, vfaddr, vextract, flatT, flatE, flatC, vconv, vmm, vidxA, viaddrA, vfield, vlen, elemsOf, dF32, dF64, dI64, dU8, dBool, dStr,
                esOk, elemsS, vsliceX, bnd, ownV, ownC, Md.isOwn, pureV.pureP, Option.map, reduceIte, Nat.reduceEqDiff, Nat.reduceAdd, Nat.reduceMul, Nat.reduceLT, Nat.reduceLeDiff,
                List.mapM_cons, List.mapM_nil, Option.pure_def, Option.bind_eq_bind, Option.bind_some, implies_true, forall_const, beq_self_eq_true, decide_true, decide_false,
                eq_self, Int.reduceEq, Int.reduceLE, Int.reduceLT, if_true, if_false, fc4_0, fc4_1, fc4_2, fc4_3, fc4_4, fc4_5, fc4_6, fc4_7, fc4_8, fc4_9, fc4_10, fc4_11, fc4_12,
                fc4_13, fc4_14, fc4_15, fc4_16, fc4_17, fc4_18, fc4_19, fc4_20, fc4_21, fc4_22, fc4_23, fc4_24, fc4_25, fc4_26, fc4_27, fc4_28, fc4_29, fc4_30, fc4_31, fc4_32,
                fc4_33, fc4_34, fc4_35, fc4_36, fc4_37, fc4_38, fc4_39, fc4_40, fc4_41, fc4_42, fc4_43, fc4_44, fc4_45, fc4_46, fc4_47, fc4_48, fc4_49, fc4_50, fc4_51, fc4_52,
                fc4_53, fc4_54, fc4_55, fc4_56, fc4_57, fc4_58, fc4_59, fc4_60, fc4_61, fc4_62, fc4_63, fc4_64, fc4_65, fc4_66, fc4_67, fc4_68, fc4_69, fc4_70, fc4_71,
                Int.reduceAdd, Int.reduceSub, Int.reduceMul, Int.reduceNeg, Int.reducePow, Nat.reducePow, Int.reduceToNat, Nat.reduceSub, List.replicate, Nat.reduceBEq, grpE,
                g_laws_szSkeleton, g_spec_ValidSkeleton, g_laws_toSkeleton, g_impl_ValidSkeleton, g_laws_eqSkeleton, grpC, en0, dc_en0]
      repeat' (first
        | ((first | (refine eGI_of (fun h => ?_) (fun h => ?_)) | (refine eCc_of (fun h => ?_) (fun h => ?_))) <;> (try simp only [Bool.not_eq_true', Bool.not_eq_false'] at h) <;> (try simp only [h, reduceCtorEq, Bool.not_eq_true', decide_eq_false_iff_not, Bool.not_true, Bool.not_false, Bool.false_or, Bool.true_or, Bool.true_and, Bool.false_and, Bool.and_eq_true, Bool.or_eq_true, if_true, if_false, reduceIte, Bool.false_eq_true, and_true, true_and, false_or, or_false, decide_eq_true_eq, not_false_eq_true, not_true_eq_false] at hp) <;> (try (have h2 := h; simp only [decide_eq_true_eq, decide_eq_false_iff_not] at h2; (first | (replace h2 := eq_false h2) | (replace h2 := eq_true h2)); simp only [h2, if_true, if_false, false_or, true_or, or_true, or_false, and_true, true_and, not_false_eq_true, not_true_eq_false] at hp)) <;> simp only [h,
          hp, grpS, grpD, grpF, grpL, eop, vop, bop, uop, fltop, convop, endOk, newE, new1, freshL, Md.isNew, outV, pureV, pureX, pure1, AV.cells, AV.one, storable, laid, refless,
                refless1, vload, loadC, storeC, vnil, vfaddr, vextract, flatT, flatE, flatC, vconv, vmm, vidxA, viaddrA, vfield, vlen, elemsOf, dF32, dF64, dI64, dU8, dBool, dStr,
                esOk, elemsS, vsliceX, bnd, ownV, ownC, Md.isOwn, pureV.pureP, Option.map, reduceIte, Nat.reduceEqDiff, Nat.reduceAdd, Nat.reduceMul, Nat.reduceLT, Nat.reduceLeDiff,
                List.mapM_cons, List.mapM_nil, Option.pure_def, Option.bind_eq_bind, Option.bind_some, implies_true, forall_const, beq_self_eq_true, decide_true, decide_false,
                eq_self, Int.reduceEq, Int.reduceLE, Int.reduceLT, if_true, if_false, fc4_0, fc4_1, fc4_2, fc4_3, fc4_4, fc4_5, fc4_6, fc4_7, fc4_8, fc4_9, fc4_10, fc4_11, fc4_12,
                fc4_13, fc4_14, fc4_15, fc4_16, fc4_17, fc4_18, fc4_19, fc4_20, fc4_21, fc4_22, fc4_23, fc4_24, fc4_25, fc4_26, fc4_27, fc4_28, fc4_29, fc4_30, fc4_31, fc4_32,
                fc4_33, fc4_34, fc4_35, fc4_36, fc4_37, fc4_38, fc4_39, fc4_40, fc4_41, fc4_42, fc4_43, fc4_44, fc4_45, fc4_46, fc4_47, fc4_48, fc4_49, fc4_50, fc4_51, fc4_52,
                fc4_53, fc4_54, fc4_55, fc4_56, fc4_57, fc4_58, fc4_59, fc4_60, fc4_61, fc4_62, fc4_63, fc4_64, fc4_65, fc4_66, fc4_67, fc4_68, fc4_69, fc4_70, fc4_71,
                Int.reduceAdd, Int.reduceSub, Int.reduceMul, Int.reduceNeg, Int.reducePow, Nat.reducePow, Int.reduceToNat, Nat.reduceSub, List.replicate, Nat.reduceBEq, grpE,
                g_laws_szSkeleton, g_spec_ValidSkeleton, g_laws_toSkeleton, g_impl_ValidSkeleton, g_laws_eqSkeleton, grpC, en0, dc_en0]))
      all_goals (try simp only [*, m_laws_FnExactValidSkeleton, Bool.and_true, Bool.true_and, Bool.and_false, Bool.false_and, Bool.or_true, Bool.true_or, Bool.or_false, Bool.false_or, Bool.not_true, Bool.not_false, Bool.false_eq_true, if_true, if_false, reduceIte, decide_true, decide_false])
      all_goals (try (simp_all; done))
    · cases h
  · cases h
end Go.Proofs
namespace Go.Proofs
open Go.Ab
theorem sameFloat_refl (x : Nat) : m_laws_sameFloat x x = true := by
  unfold m_laws_sameFloat
  by_cases h : feq .f64 x x = true
  · simp [h]
  · simp [h]
theorem eq_Vector (a : Nat × Nat × Nat) : m_laws_eqVector a a = true := by unfold m_laws_eqVector; simp [sameFloat_refl]
theorem eq_Bone (a : Int × Nat × Nat × Nat) : m_laws_eqBone a a = true := by unfold m_laws_eqBone; simp [eq_Vector]
theorem loop_eqBoneS (x : List (Int × Nat × Nat × Nat)) (h : x.length ≤ 1048576) : l_laws_eqBoneS_0 x x (Int.toNat (((List.length x : Nat) : Int) - 0) + 2) 0 = some (false, default, ()) :=
  eq_loop _ x m_laws_eqBone eq_Bone (by omega) fun _ _ => rfl
theorem eq_BoneS (x : List (Int × Nat × Nat × Nat)) (h : x.length ≤ 1048576) : m_laws_eqBoneS x x = true ∧ p_laws_eqBoneS x x = true := by
  unfold m_laws_eqBoneS p_laws_eqBoneS
  rw [loop_eqBoneS x h]; simp
theorem eq_Skeleton (x : List (Int × Nat × Nat × Nat)) (h : x.length ≤ 1048576) : m_laws_eqSkeleton x x = true ∧ p_laws_eqSkeleton x x = true := by
  unfold m_laws_eqSkeleton p_laws_eqSkeleton
  simp [eq_BoneS x h]
theorem loop_toBoneS (x : List (Int × Nat × Nat × Nat)) (h : x.length ≤ 1048576) : l_laws_toBoneS_0 x (Int.toNat (((List.length x : Nat) : Int) - 0) + 2) (List.replicate (Int.toNat ((List.length x : Nat) : Int)) (0, 0, 0, 0)) 0 = some x := by
  rw [copy_all (l_laws_toBoneS_0 x) x m_laws_toBone _ (by omega) fun _ _ _ => rfl]
  congr 1
  exact List.map_id x
theorem to_BoneS (x : List (Int × Nat × Nat × Nat)) (h : x.length ≤ 1048576) : m_laws_toBoneS x = x ∧ p_laws_toBoneS x = true := by
  unfold m_laws_toBoneS p_laws_toBoneS
  rw [loop_toBoneS x h]
  refine ⟨rfl, ?_⟩
  simp; omega
theorem to_Skeleton (x : List (Int × Nat × Nat × Nat)) (h : x.length ≤ 1048576) : m_laws_toSkeleton x = x ∧ p_laws_toSkeleton x = true := by
  unfold m_laws_toSkeleton p_laws_toSkeleton
  exact to_BoneS x h
theorem sz_Skeleton (x : List (Int × Nat × Nat × Nat)) (h : x.length ≤ maxLen) (hs : ¬ (m_laws_szSkeleton x 1048576 < 0)) : x.length ≤ 1048576 := by
  refine size_ok h fun hlt => hs ?_
  unfold m_laws_szSkeleton m_laws_szBoneS
  simp [hlt]
theorem l00In_iff (a b c : Int) : m_spec_l00In a b c = (decide (b ≤ a) && decide (a ≤ c)) := by
  unfold m_spec_l00In; cases decide (b ≤ a) <;> simp
theorem spec_loop (x : List (Int × Nat × Nat × Nat)) (h : x.length ≤ 12) (h1 : 1 ≤ x.length) : l_spec_l03Is_0 x (Int.toNat (((List.length x : Nat) : Int) - 1) + 2) 1 =
    some (if (List.range' 1 (x.length - 1)).all (fun k => decide (0 ≤ (x.getD k default).1) && decide ((x.getD k default).1 ≤ (k : Int) - 1)) = true then (false, default, ()) else (true, false, default)) := by
  have := all_loop (l_spec_l03Is_0 x) x.length (fun k => decide (0 ≤ (x.getD k default).1) && decide ((x.getD k default).1 ≤ (k : Int) - 1)) (by omega) (fun n k hk => by
      show (if (decide ((k : Int) < ((List.length x : Nat) : Int))) = true then _ else _) = _
      rw [if_pos (by simp; omega), inB_nat]
      unfold need
      rw [if_pos (by simpa using hk), atI_nat, wrapI (by omega) (by omega), l00In_iff]) (fun n k hk => by
      show (if (decide ((k : Int) < ((List.length x : Nat) : Int))) = true then _ else _) = _
      rw [if_neg (by simp; omega)]) (Int.toNat (((List.length x : Nat) : Int) - 1) + 2) 1 h1 (by omega)
  exact this
theorem impl_loop (x : List (Int × Nat × Nat × Nat)) (h : x.length ≤ 12) (h1 : 1 ≤ x.length) : l_impl_ValidSkeleton_0 x (Int.toNat (((List.length (List.drop 1 x) : Nat) : Int) - 0) + 2) 0 =
    some (if (List.range' 0 (x.length - 1)).all (fun k => decide (0 ≤ (x.getD (1 + k) default).1) && decide ((x.getD (1 + k) default).1 ≤ (k : Int))) = true then (false, default, ()) else (true, false, default)) := by
  have hl : (List.drop 1 x).length = x.length - 1 := List.length_drop
  have := all_loop (l_impl_ValidSkeleton_0 x) (x.length - 1) (fun k => decide (0 ≤ (x.getD (1 + k) default).1) && decide ((x.getD (1 + k) default).1 ≤ (k : Int))) (by omega) (fun n k hk => by
      show (if (decide ((k : Int) < ((List.length (List.drop 1 x) : Nat) : Int))) = true then _ else _) = _
      rw [if_pos (by simp; omega), inB_nat]
      unfold need
      have hg : atI (List.drop 1 x) (k : Int) = x.getD (1 + k) default := by rw [atI_nat]; simp [List.getD_eq_getElem?_getD, List.getElem?_drop, Nat.add_comm]
      rw [if_pos (by simp; omega), hg]
      generalize (x.getD (1 + k) default).1 = v
      by_cases hv : v < 0
      · simp [hv]; omega
      · by_cases hv2 : (k : Int) < v
        · have : ¬ v ≤ (k : Int) := by omega
          simp [hv, hv2, this]
        · have h3 : v ≤ (k : Int) := by omega
          have h4 : 0 ≤ v := by omega
          simp [hv, hv2, h3, h4]) (fun n k hk => by
      show (if (decide ((k : Int) < ((List.length (List.drop 1 x) : Nat) : Int))) = true then _ else _) = _
      rw [if_neg (by simp; omega)]) (Int.toNat (((List.length (List.drop 1 x) : Nat) : Int) - 0) + 2) 0 (Nat.zero_le _) (by omega)
  exact this
theorem core_ValidSkeleton (x : List (Int × Nat × Nat × Nat)) : p_impl_ValidSkeleton x = true ∧ p_spec_ValidSkeleton x = true ∧ m_impl_ValidSkeleton x = m_spec_ValidSkeleton x := by
  by_cases hn : 1 ≤ x.length ∧ x.length ≤ 12
  · obtain ⟨h1, h2⟩ := hn
    have e1 : decide (((List.length x : Nat) : Int) < 1) = false := by simp; omega
    have e2 : decide (12 < ((List.length x : Nat) : Int)) = false := by simp; omega
    have e3 : m_spec_l00In ((List.length x : Nat) : Int) 1 12 = true := by rw [l00In_iff]; simp; omega
    have e4 : inB 0 x.length = true := by simp [inB]; omega
    unfold p_impl_ValidSkeleton p_spec_ValidSkeleton p_spec_l03Is m_impl_ValidSkeleton m_spec_ValidSkeleton m_spec_l03Is
    rw [spec_loop x h2 h1, impl_loop x h2 h1, e1, e2, e3, e4]
    refine ⟨by simp; omega, by simp, ?_⟩
    rw [all_range_shift (c := fun k => decide (0 ≤ (x.getD (1 + k) default).1) && decide ((x.getD (1 + k) default).1 ≤ (k : Int))) (d := fun k => decide (0 ≤ (x.getD k default).1) && decide ((x.getD k default).1 ≤ (k : Int) - 1)) (k := 0) (j := 1) (fun i _ => by
      rw [Nat.zero_add]
      have : (((1 + i : Nat) : Int) - 1) = (i : Int) := by omega
      rw [this])]
    simp
  · have e3 : m_spec_l00In ((List.length x : Nat) : Int) 1 12 = false := by rw [l00In_iff]; simp; omega
    unfold p_impl_ValidSkeleton p_spec_ValidSkeleton p_spec_l03Is m_impl_ValidSkeleton m_spec_ValidSkeleton m_spec_l03Is
    rw [e3]
    by_cases h1 : ((List.length x : Nat) : Int) < 1
    · simp [h1]
    · have h2 : (12 : Int) < ((List.length x : Nat) : Int) := by omega
      simp [h1, h2]
theorem law_ValidSkeleton (a : List (Int × Nat × Nat × Nat)) (h : a.length ≤ maxLen) (_ : ∀ q ∈ a, (Lit.int .i64 q.1).wf = true ∧ Canon .f32 q.2.1 ∧ Canon .f32 q.2.2.1 ∧ Canon .f32 q.2.2.2) : g_laws_FnExactValidSkeleton [.agg [.sl (List.map en0 a)]] = some (.bool true) := by
  have key : p_laws_FnExactValidSkeleton a = true ∧ m_laws_FnExactValidSkeleton a = true := by
    unfold p_laws_FnExactValidSkeleton m_laws_FnExactValidSkeleton
    by_cases hs : m_laws_szSkeleton a 1048576 < 0
    · simp [hs]
    · have hx := sz_Skeleton a h hs
      simp [hs, to_Skeleton a hx, core_ValidSkeleton, eq_Skeleton a hx]
  unfold g_laws_FnExactValidSkeleton
  simp only [dc_en0_map, key.1, key.2, if_true]
end Go.Proofs
