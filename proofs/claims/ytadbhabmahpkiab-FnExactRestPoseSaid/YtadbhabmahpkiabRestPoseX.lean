/- What functions that FnExactRestPose reaches compute, and that the program's and the reference's answers are the same. No conditions. -/
import Derived.Test.YtadbhabmahpkiabRestPoseY0
set_option maxRecDepth 100000
set_option maxHeartbeats 4000000
set_option linter.all false
namespace Go.Proofs
open Go.Ab
end Go.Proofs
namespace Go.Ab
/-- a list of known length is filled, an element a round -/
theorem fill_loop {β : Type} (l : Nat → List β → Int → Option (List β)) (len : Nat) (F : Nat → β) (hlen : len < 2 ^ 62)
    (H : ∀ (n : Nat) (z : List β) (k : Nat), k < len → z.length = len → l (n + 1) z (k : Int) = l n (z.set k (F k)) (IntKind.wrap .i64 ((k : Int) + 1)))
    (H' : ∀ (n : Nat) (z : List β) (k : Nat), ¬ k < len → l (n + 1) z (k : Int) = some z) :
    ∀ (n : Nat) (z : List β) (k : Nat), k ≤ len → z.length = len → len - k < n → l n z (k : Int) = some (z.take k ++ (List.range' k (len - k)).map F)
  | 0, z, k, _, _, h => by omega
  | n + 1, z, k, hk, hz, h => by
    by_cases hlt : k < len
    · rw [H n z k hlt hz, wrapS (by omega), fill_loop l len F hlen H H' n _ (k + 1) (by omega) (by rw [List.length_set]; exact hz) (by omega), show len - k = (len - (k + 1)) + 1 by omega, List.range'_succ, List.map_cons]
      congr 1
      rw [List.take_succ_eq_append_getElem (by rw [List.length_set]; omega), List.take_set_of_le (Nat.le_refl _), List.getElem_set_self, List.append_assoc, List.singleton_append]
    · rw [H' n z k hlt, show len - k = 0 by omega]
      have : k = z.length := by omega
      subst this
      simp
/-- elements are put at the end, one a round -/
theorem app_loop {β : Type} (l : Nat → List β → Int → Option (List β)) (len : Nat) (F : Nat → β) (hlen : len < 2 ^ 62) (P : Nat → Nat → Prop)
    (H : ∀ (n : Nat) (z : List β) (k : Nat), k < len → P k z.length → l (n + 1) z (k : Int) = l n (z ++ [F k]) (IntKind.wrap .i64 ((k : Int) + 1)))
    (H' : ∀ (n : Nat) (z : List β) (k : Nat), ¬ k < len → l (n + 1) z (k : Int) = some z) (hP : ∀ k j, k < len → P k j → P (k + 1) (j + 1)) :
    ∀ (n : Nat) (z : List β) (k : Nat), k ≤ len → P k z.length → len - k < n → l n z (k : Int) = some (z ++ (List.range' k (len - k)).map F)
  | 0, z, k, _, _, h => by omega
  | n + 1, z, k, hk, hp, h => by
    by_cases hlt : k < len
    · rw [H n z k hlt hp, wrapS (by omega), app_loop l len F hlen P H H' hP n _ (k + 1) (by omega) (by rw [List.length_append]; exact hP _ _ hlt hp) (by omega), show len - k = (len - (k + 1)) + 1 by omega, List.range'_succ, List.map_cons]
      simp
    · rw [H' n z k hlt, show len - k = 0 by omega]
      simp
theorem map_range_shift {β : Type} {F G : Nat → β} {k j m : Nat} (h : ∀ i, i < m → F (k + i) = G (j + i)) : (List.range' k m).map F = (List.range' j m).map G := by
  induction m generalizing k j with
  | zero => rfl
  | succ m ih =>
    have h0 := h 0 (by omega)
    rw [Nat.add_zero, Nat.add_zero] at h0
    rw [List.range'_succ, List.range'_succ, List.map_cons, List.map_cons, h0, ih fun i hi => by
      have := h (i + 1) (by omega)
      rw [show k + (i + 1) = k + 1 + i by omega, show j + (i + 1) = j + 1 + i by omega] at this
      exact this]
/-- marks -/
def marks {α : Type} (f : Int → α) (g : Int → Int) : Int → Nat → List α
  | _, 0 => []
  | m, n + 1 => f m :: marks f g (g m) n
def iter (g : Int → Int) : Nat → Int → Int
  | 0, m => m
  | n + 1, m => iter g n (g m)
theorem marks_len {α : Type} (f : Int → α) (g : Int → Int) : ∀ (n : Nat) (m : Int), (marks f g m n).length = n
  | 0, _ => rfl
  | n + 1, m => by rw [marks, List.length_cons, marks_len f g n]
theorem marks_get {α : Type} [Inhabited α] (f : Int → α) (g : Int → Int) : ∀ (n : Nat) (m : Int) (i : Nat), i < n → (marks f g m n).getD i default = f (iter g i m)
  | 0, _, _, h => by omega
  | n + 1, m, 0, _ => rfl
  | n + 1, m, i + 1, h => by
    rw [marks, List.getD_cons_succ, marks_get f g n (g m) i (by omega)]; rfl
theorem iter_succ (g : Int → Int) : ∀ (i : Nat) (m : Int), g (iter g i m) = iter g (i + 1) m
  | 0, _ => rfl
  | i + 1, m => by rw [iter, iter_succ g i (g m)]; rfl
theorem iter_add {g : Int → Int} {c : Nat} (hg : ∀ m : Int, 0 ≤ m → m ≤ 2 ^ 60 → g m = m + c) : ∀ (n : Nat) (m : Int), 0 ≤ m → m + ((c * n : Nat) : Int) ≤ 2 ^ 60 → iter g n m = m + ((c * n : Nat) : Int)
  | 0, m, _, _ => by simp [iter]
  | n + 1, m, h0, h => by
    rw [Nat.mul_succ] at h ⊢
    rw [iter, hg m h0 (by omega), iter_add hg n _ (by omega) (by omega)]
    omega
theorem mark_loop {α : Type} (l : Nat → List α → Int → Int → Option (Int × List α)) (f : Int → α) (g : Int → Int)
    (H : ∀ n z m k, l (n + 1) z m k = if (decide (k < ((z.length : Nat) : Int))) = true then need (inB k z.length) (l n (z.set k.toNat (f m)) (g m) (IntKind.wrap .i64 (k + 1))) else some (m, z)) :
    ∀ (n : Nat) (z : List α) (m : Int) (k : Nat), z.length < 2 ^ 62 → k ≤ z.length → z.length - k < n → l n z m (k : Int) = some (iter g (z.length - k) m, z.take k ++ marks f g m (z.length - k))
  | 0, z, m, k, _, _, h => by omega
  | n + 1, z, m, k, hz, hk, h => by
    rw [H]
    by_cases hlt : k < z.length
    · rw [if_pos (by simp; omega), inB_nat]
      unfold need
      rw [if_pos (by simpa using hlt), wrapS (by omega), Int.toNat_natCast, mark_loop l f g H n _ (g m) (k + 1) (by rw [List.length_set]; exact hz) (by rw [List.length_set]; omega) (by rw [List.length_set]; omega), List.length_set,
        show z.length - k = (z.length - (k + 1)) + 1 by omega]
      congr 2
      rw [List.take_succ_eq_append_getElem (by rw [List.length_set]; omega), List.take_set_of_le (Nat.le_refl _), List.getElem_set_self, List.append_assoc, List.singleton_append]
      rfl
    · rw [if_neg (by simp; omega), show z.length - k = 0 by omega]
      have : k = z.length := by omega
      subst this
      simp [iter, marks]
theorem mark_all {α : Type} (l : Nat → List α → Int → Int → Option (Int × List α)) (f : Int → α) (g : Int → Int) (x : List α) (m : Int) (hx : x.length < 2 ^ 62)
    (H : ∀ n z m k, l (n + 1) z m k = if (decide (k < ((z.length : Nat) : Int))) = true then need (inB k z.length) (l n (z.set k.toNat (f m)) (g m) (IntKind.wrap .i64 (k + 1))) else some (m, z)) :
    l (Int.toNat (((x.length : Nat) : Int) - 0) + 2) x m 0 = some (iter g x.length m, marks f g m x.length) := by
  have := mark_loop l f g H (Int.toNat (((x.length : Nat) : Int) - 0) + 2) x m 0 hx (Nat.zero_le _) (by omega)
  simpa using this
theorem held_all {α : Type} [Inhabited α] (l : Nat → Int → Int → Option (Bool × Int × Int)) (f : Int → α) (g : Int → Int) (e : α → Int → Bool) (x : List α) (m : Int) (len : Nat) (hx : x = marks f g m len) (hl : len < 2 ^ 62) (he : ∀ m, e (f m) m = true)
    (H : ∀ n m k, l (n + 1) m k = if (decide (k < ((x.length : Nat) : Int))) = true then need (inB k x.length) (if e (atI x k) m = true then l n (g m) (IntKind.wrap .i64 (k + 1)) else some (true, -1, default)) else some (false, default, m)) :
    l (Int.toNat (((x.length : Nat) : Int) - 0) + 2) m 0 = some (false, default, iter g len m) := by
  have hlen : x.length = len := by rw [hx, marks_len]
  have key : ∀ (n k : Nat), k ≤ len → len - k < n → l n (iter g k m) (k : Int) = some (false, default, iter g len m) := by
    intro n
    induction n with
    | zero => intro k _ h; omega
    | succ n ih =>
      intro k hk h
      rw [H, hlen]
      by_cases hlt : k < len
      · rw [if_pos (by simp; omega), inB_nat]
        unfold need
        rw [if_pos (by simpa using hlt), atI_nat, hx, marks_get f g len m k hlt, if_pos (he _), wrapS (by omega), iter_succ g, ih (k + 1) (by omega) (by omega)]
      · rw [if_neg (by simp; omega), show k = len by omega]
  have := key (Int.toNat (((x.length : Nat) : Int) - 0) + 2) 0 (Nat.zero_le _) (by omega)
  exact this
/-- a whole number made a float is itself -/
theorem feq_ofInt (n : Int) : feq .f32 (ofInt .f32 n) (ofInt .f32 n) = true := by
  rw [feq_self_iff]
  have h : isNaN .f32 (ofInt .f32 n) = false := by
    unfold isNaN ofInt
    show (FloatKind.f32.format.read (FloatKind.f32.nearest n)).isNaN = false
    rcases read_nearest .f32 (decide (n < 0)) n.natAbs 0 with ⟨m', e', h, _⟩ | h
    all_goals
      have h2 : FloatKind.f32.format.read (FloatKind.f32.nearest n) = _ := h
      rw [h2]; rfl
  rw [h]; rfl
end Go.Ab
namespace Go.Proofs
open Go.Ab
theorem sameFloat_refl (x : Nat) : m_laws_sameFloat x x = true := by
  unfold m_laws_sameFloat
  by_cases h : feq .f64 x x = true
  · simp [h]
  · simp [h]
end Go.Proofs
namespace Go.Proofs
open Go.Ab
theorem eq_Vector (a : Nat × Nat × Nat) : m_laws_eqVector a a = true := by unfold m_laws_eqVector; simp [sameFloat_refl]
end Go.Proofs
namespace Go.Proofs
open Go.Ab
theorem eq_Bone (a : Int × Nat × Nat × Nat) : m_laws_eqBone a a = true := by unfold m_laws_eqBone; simp [eq_Vector]
theorem loop_eqBoneS (x : List (Int × Nat × Nat × Nat)) (h : x.length ≤ 1048576) : l_laws_eqBoneS_0 x x (Int.toNat (((List.length x : Nat) : Int) - 0) + 2) 0 = some (false, default, ()) :=
  eq_loop _ x m_laws_eqBone eq_Bone (by omega) fun _ _ => rfl
theorem eq_BoneS (x : List (Int × Nat × Nat × Nat)) (h : x.length ≤ 1048576) : m_laws_eqBoneS x x = true ∧ p_laws_eqBoneS x x = true := by
  unfold m_laws_eqBoneS p_laws_eqBoneS
  rw [loop_eqBoneS x h]; simp
theorem eq_Skeleton (x : List (Int × Nat × Nat × Nat)) (h : x.length ≤ 1048576) : m_laws_eqSkeleton x x = true ∧ p_laws_eqSkeleton x x = true := by
  unfold m_laws_eqSkeleton p_laws_eqSkeleton
  simp [eq_BoneS x h]
theorem loop_toBoneS (x : List (Int × Nat × Nat × Nat)) (h : x.length ≤ 1048576) : l_laws_toBoneS_0 x (Int.toNat (((List.length x : Nat) : Int) - 0) + 2) (List.replicate (Int.toNat ((List.length x : Nat) : Int)) (0, 0, 0, 0)) 0 = some x := by
  rw [copy_all (l_laws_toBoneS_0 x) x m_laws_toBone _ (by omega) fun _ _ _ => rfl]
  congr 1
  exact List.map_id x
theorem to_BoneS (x : List (Int × Nat × Nat × Nat)) (h : x.length ≤ 1048576) : m_laws_toBoneS x = x ∧ p_laws_toBoneS x = true := by
  unfold m_laws_toBoneS p_laws_toBoneS
  rw [loop_toBoneS x h]
  refine ⟨rfl, ?_⟩
  simp; omega
theorem to_Skeleton (x : List (Int × Nat × Nat × Nat)) (h : x.length ≤ 1048576) : m_laws_toSkeleton x = x ∧ p_laws_toSkeleton x = true := by
  unfold m_laws_toSkeleton p_laws_toSkeleton
  exact to_BoneS x h
theorem sz_Skeleton (x : List (Int × Nat × Nat × Nat)) (n : Int) (hx : x.length ≤ maxLen) (h0 : 0 ≤ n) (hn : n ≤ 1048576) (hs : ¬ (m_laws_szSkeleton x n < 0)) : x.length ≤ 1048576 ∧ 0 ≤ m_laws_szSkeleton x n ∧ m_laws_szSkeleton x n ≤ 1048576 := by
  unfold m_laws_szSkeleton m_laws_szBoneS at hs ⊢
  have hx' : x.length ≤ 9223372036854775807 := by unfold maxLen at hx; omega
  rw [wrapI (by omega) (by omega)] at hs ⊢
  by_cases h : n - ((List.length x : Nat) : Int) < 0
  · simp [h] at hs
  · simp [h]; omega
end Go.Proofs
namespace Go.Proofs
open Go.Ab
theorem l00In_iff (a b c : Int) : m_spec_l00In a b c = (decide (b ≤ a) && decide (a ≤ c)) := by
  unfold m_spec_l00In; cases decide (b ≤ a) <;> simp
theorem spec_loop (x : List (Int × Nat × Nat × Nat)) (h : x.length ≤ 12) (h1 : 1 ≤ x.length) : l_spec_l03Is_0 x (Int.toNat (((List.length x : Nat) : Int) - 1) + 2) 1 =
    some (if (List.range' 1 (x.length - 1)).all (fun k => decide (0 ≤ (x.getD k default).1) && decide ((x.getD k default).1 ≤ (k : Int) - 1)) = true then (false, default, ()) else (true, false, default)) := by
  have := all_loop (l_spec_l03Is_0 x) x.length (fun k => decide (0 ≤ (x.getD k default).1) && decide ((x.getD k default).1 ≤ (k : Int) - 1)) (by omega) (fun n k hk => by
      show (if (decide ((k : Int) < ((List.length x : Nat) : Int))) = true then _ else _) = _
      rw [if_pos (by simp; omega), inB_nat]
      unfold need
      rw [if_pos (by simpa using hk), atI_nat, wrapI (by omega) (by omega), l00In_iff]) (fun n k hk => by
      show (if (decide ((k : Int) < ((List.length x : Nat) : Int))) = true then _ else _) = _
      rw [if_neg (by simp; omega)]) (Int.toNat (((List.length x : Nat) : Int) - 1) + 2) 1 h1 (by omega)
  exact this
theorem impl_loop (x : List (Int × Nat × Nat × Nat)) (h : x.length ≤ 12) (h1 : 1 ≤ x.length) : l_impl_ValidSkeleton_0 x (Int.toNat (((List.length (List.drop 1 x) : Nat) : Int) - 0) + 2) 0 =
    some (if (List.range' 0 (x.length - 1)).all (fun k => decide (0 ≤ (x.getD (1 + k) default).1) && decide ((x.getD (1 + k) default).1 ≤ (k : Int))) = true then (false, default, ()) else (true, false, default)) := by
  have hl : (List.drop 1 x).length = x.length - 1 := List.length_drop
  have := all_loop (l_impl_ValidSkeleton_0 x) (x.length - 1) (fun k => decide (0 ≤ (x.getD (1 + k) default).1) && decide ((x.getD (1 + k) default).1 ≤ (k : Int))) (by omega) (fun n k hk => by
      show (if (decide ((k : Int) < ((List.length (List.drop 1 x) : Nat) : Int))) = true then _ else _) = _
      rw [if_pos (by simp; omega), inB_nat]
      unfold need
      have hg : atI (List.drop 1 x) (k : Int) = x.getD (1 + k) default := by rw [atI_nat]; simp [List.getD_eq_getElem?_getD, List.getElem?_drop, Nat.add_comm]
      rw [if_pos (by simp; omega), hg]
      generalize (x.getD (1 + k) default).1 = v
      by_cases hv : v < 0
      · simp [hv]; omega
      · by_cases hv2 : (k : Int) < v
        · have : ¬ v ≤ (k : Int) := by omega
          simp [hv, hv2, this]
        · have h3 : v ≤ (k : Int) := by omega
          have h4 : 0 ≤ v := by omega
          simp [hv, hv2, h3, h4]) (fun n k hk => by
      show (if (decide ((k : Int) < ((List.length (List.drop 1 x) : Nat) : Int))) = true then _ else _) = _
      rw [if_neg (by simp; omega)]) (Int.toNat (((List.length (List.drop 1 x) : Nat) : Int) - 0) + 2) 0 (Nat.zero_le _) (by omega)
  exact this
theorem core_sk (x : List (Int × Nat × Nat × Nat)) : p_impl_ValidSkeleton x = true ∧ p_spec_l03Is x = true ∧ m_impl_ValidSkeleton x = m_spec_l03Is x := by
  by_cases hn : 1 ≤ x.length ∧ x.length ≤ 12
  · obtain ⟨h1, h2⟩ := hn
    have e1 : decide (((List.length x : Nat) : Int) < 1) = false := by simp; omega
    have e2 : decide (12 < ((List.length x : Nat) : Int)) = false := by simp; omega
    have e3 : m_spec_l00In ((List.length x : Nat) : Int) 1 12 = true := by rw [l00In_iff]; simp; omega
    have e4 : inB 0 x.length = true := by simp [inB]; omega
    unfold p_impl_ValidSkeleton p_spec_l03Is m_impl_ValidSkeleton m_spec_l03Is
    rw [spec_loop x h2 h1, impl_loop x h2 h1, e1, e2, e3, e4]
    refine ⟨by simp; omega, by simp, ?_⟩
    rw [all_range_shift (c := fun k => decide (0 ≤ (x.getD (1 + k) default).1) && decide ((x.getD (1 + k) default).1 ≤ (k : Int))) (d := fun k => decide (0 ≤ (x.getD k default).1) && decide ((x.getD k default).1 ≤ (k : Int) - 1)) (k := 0) (j := 1) (fun i _ => by
      rw [Nat.zero_add]
      have : (((1 + i : Nat) : Int) - 1) = (i : Int) := by omega
      rw [this])]
    simp
  · have e3 : m_spec_l00In ((List.length x : Nat) : Int) 1 12 = false := by rw [l00In_iff]; simp; omega
    unfold p_impl_ValidSkeleton p_spec_l03Is m_impl_ValidSkeleton m_spec_l03Is
    rw [e3]
    by_cases h1 : ((List.length x : Nat) : Int) < 1
    · simp [h1]
    · have h2 : (12 : Int) < ((List.length x : Nat) : Int) := by omega
      simp [h1, h2]
end Go.Proofs
namespace Go.Proofs
open Go.Ab
theorem eq_Turn (a : Nat × Nat × Nat × Nat) : m_laws_eqTurn a a = true := by unfold m_laws_eqTurn; simp [sameFloat_refl]
theorem eq_TurnS (x : List (Nat × Nat × Nat × Nat)) (h : x.length ≤ 1048576) : m_laws_eqTurnS x x = true ∧ p_laws_eqTurnS x x = true := by
  unfold m_laws_eqTurnS p_laws_eqTurnS
  rw [show l_laws_eqTurnS_0 x x (Int.toNat (((List.length x : Nat) : Int) - 0) + 2) 0 = some (false, default, ()) from eq_loop _ x m_laws_eqTurn eq_Turn (by omega) fun _ _ => rfl]; simp
theorem eq_Pose (x : Nat × Nat × Nat × List (Nat × Nat × Nat × Nat)) (h : x.2.2.2.length ≤ 1048576) : m_laws_eqPose x x = true ∧ p_laws_eqPose x x = true := by
  unfold m_laws_eqPose p_laws_eqPose
  simp [eq_Vector, eq_TurnS _ h]
end Go.Proofs
namespace Go.Proofs
open Go.Ab
def gB (m : Int) : Int := IntKind.wrap .i64 ((IntKind.wrap .i64 ((IntKind.wrap .i64 ((IntKind.wrap .i64 (m + 1)) + 1)) + 1)) + 1)
theorem gB_add (m : Int) (h0 : 0 ≤ m) (h : m ≤ 2 ^ 60) : gB m = m + (4 : Nat) := by
  unfold gB
  rw [wrapI (n := m + 1) (by omega) (by omega), wrapI (n := m + 1 + 1) (by omega) (by omega), wrapI (n := m + 1 + 1 + 1) (by omega) (by omega), wrapI (by omega) (by omega)]
  omega
def fB (m : Int) : Int × Nat × Nat × Nat := (m, ofInt .f32 (IntKind.wrap .i64 (m + 1)), ofInt .f32 (IntKind.wrap .i64 ((IntKind.wrap .i64 (m + 1)) + 1)), ofInt .f32 (IntKind.wrap .i64 ((IntKind.wrap .i64 ((IntKind.wrap .i64 (m + 1)) + 1)) + 1)))
theorem mark_BoneS (x : List (Int × Nat × Nat × Nat)) (m : Int) (h : x.length ≤ 1048576) : m_laws_markBoneS x m = (iter gB x.length m, marks fB gB m x.length) ∧ p_laws_markBoneS x m = true := by
  unfold m_laws_markBoneS p_laws_markBoneS
  rw [show l_laws_markBoneS_0 (Int.toNat (((List.length x : Nat) : Int) - 0) + 2) x m 0 = some (iter gB x.length m, marks fB gB m x.length) from mark_all _ fB gB x m (by omega) fun _ _ _ _ => rfl]
  exact ⟨rfl, by simp [marks_len]⟩
theorem mark_Skeleton (x : List (Int × Nat × Nat × Nat)) (m : Int) (h : x.length ≤ 1048576) : m_laws_markSkeleton x m = (iter gB x.length m, marks fB gB m x.length) ∧ p_laws_markSkeleton x m = true := by
  unfold m_laws_markSkeleton p_laws_markSkeleton
  simp [mark_BoneS x m h, marks_len]
end Go.Proofs
namespace Go.Proofs
open Go.Ab
def gT (m : Int) : Int := IntKind.wrap .i64 ((IntKind.wrap .i64 ((IntKind.wrap .i64 ((IntKind.wrap .i64 (m + 1)) + 1)) + 1)) + 1)
theorem gT_add (m : Int) (h0 : 0 ≤ m) (h : m ≤ 2 ^ 60) : gT m = m + (4 : Nat) := by
  unfold gT
  rw [wrapI (n := m + 1) (by omega) (by omega), wrapI (n := m + 1 + 1) (by omega) (by omega), wrapI (n := m + 1 + 1 + 1) (by omega) (by omega), wrapI (by omega) (by omega)]
  omega
def fT (m : Int) : Nat × Nat × Nat × Nat := (ofInt .f32 m, ofInt .f32 (IntKind.wrap .i64 (m + 1)), ofInt .f32 (IntKind.wrap .i64 ((IntKind.wrap .i64 (m + 1)) + 1)), ofInt .f32 (IntKind.wrap .i64 ((IntKind.wrap .i64 ((IntKind.wrap .i64 (m + 1)) + 1)) + 1)))
theorem mark_TurnS (x : List (Nat × Nat × Nat × Nat)) (m : Int) (h : x.length ≤ 1048576) : m_laws_markTurnS x m = (iter gT x.length m, marks fT gT m x.length) ∧ p_laws_markTurnS x m = true := by
  unfold m_laws_markTurnS p_laws_markTurnS
  rw [show l_laws_markTurnS_0 (Int.toNat (((List.length x : Nat) : Int) - 0) + 2) x m 0 = some (iter gT x.length m, marks fT gT m x.length) from mark_all _ fT gT x m (by omega) fun _ _ _ _ => rfl]
  exact ⟨rfl, by simp [marks_len]⟩
theorem mark_Pose (x : Nat × Nat × Nat × List (Nat × Nat × Nat × Nat)) (m : Int) (h : x.2.2.2.length ≤ 1048576) : m_laws_markPose x m = (iter gT x.2.2.2.length m, marks fT gT m x.2.2.2.length) ∧ p_laws_markPose x m = true := by
  unfold m_laws_markPose p_laws_markPose
  rw [(mark_TurnS _ m h).1, (mark_TurnS _ m h).2]
  exact ⟨rfl, by simp [marks_len]⟩
end Go.Proofs
namespace Go.Proofs
open Go.Ab
theorem held_TurnS (n : Nat) (m : Int) (h : n ≤ 1048576) : m_laws_heldTurnS (marks fT gT m n) m = iter gT n m ∧ p_laws_heldTurnS (marks fT gT m n) m = true := by
  unfold m_laws_heldTurnS p_laws_heldTurnS
  rw [show l_laws_heldTurnS_0 (marks fT gT m n) (Int.toNat (((List.length (marks fT gT m n) : Nat) : Int) - 0) + 2) m 0 = some (false, default, iter gT n m) from
    held_all _ fT gT (fun a m => feq .f32 a.1 (ofInt .f32 m) && (feq .f32 a.2.1 (ofInt .f32 (IntKind.wrap .i64 (m + 1))) && (feq .f32 a.2.2.1 (ofInt .f32 (IntKind.wrap .i64 ((IntKind.wrap .i64 (m + 1)) + 1))) && feq .f32 a.2.2.2 (ofInt .f32 (IntKind.wrap .i64 ((IntKind.wrap .i64 ((IntKind.wrap .i64 (m + 1)) + 1)) + 1)))))) _ m n rfl (by omega) (fun m => by
      simp [fT, feq_ofInt]) fun n m k => by
      show (if (decide (k < _)) = true then _ else _) = _
      split
      · congr 1
        split
        · rename_i h1; rw [h1]
          split
          · rename_i h2; rw [h2]
            split
            · rename_i h3; rw [h3]
              split
              · rename_i h4; rw [h4]; rfl
              · rename_i h4; rw [(Bool.not_eq_true _).mp h4]; first | rfl | (simp; done)
            · rename_i h3; rw [(Bool.not_eq_true _).mp h3]; first | rfl | (simp; done)
          · rename_i h2; rw [(Bool.not_eq_true _).mp h2]; first | rfl | (simp; done)
        · rename_i h1; rw [(Bool.not_eq_true _).mp h1]; first | rfl | (simp; done)
      · rfl]
  exact ⟨by simp, rfl⟩
theorem held_Pose (a b c : Nat) (n : Nat) (m : Int) (h : n ≤ 1048576) (h0 : 0 ≤ m) (h1 : m ≤ 2 ^ 30) : m_laws_heldPose (a, b, c, marks fT gT m n) m = iter gT n m ∧ p_laws_heldPose (a, b, c, marks fT gT m n) m = true := by
  unfold m_laws_heldPose p_laws_heldPose
  rw [(held_TurnS n m h).1, (held_TurnS n m h).2]
  have : ¬ iter gT n m < 0 := by rw [iter_add (g := gT) (c := 4) gT_add _ _ h0 (by omega)]; omega
  exact ⟨by simp [this], rfl⟩
end Go.Proofs
namespace Go.Proofs
open Go.Ab
abbrev BoneT : Type := Int × Nat × Nat × Nat
theorem spec_rest (x : List BoneT) (h : x.length ≤ 12) : l_spec_RestPose_0 x (Int.toNat (((List.length x : Nat) : Int) - 0) + 2) [] 0 = some (List.replicate x.length m_impl_NoTurn) := by
  have := app_loop (l_spec_RestPose_0 x) x.length (fun _ => m_impl_NoTurn) (by omega) (fun k j => k = j) (fun n z k hk hj => by
      show (if (decide ((k : Int) < ((List.length x : Nat) : Int))) = true then _ else _) = _
      unfold need
      rw [if_pos (by simp; omega), if_pos (by simp; omega), if_pos (by simp; omega)]
      rfl) (fun n z k hk => by
      show (if (decide ((k : Int) < ((List.length x : Nat) : Int))) = true then _ else _) = _
      rw [if_neg (by simp; omega)]) (fun k j _ h => by omega) (Int.toNat (((List.length x : Nat) : Int) - 0) + 2) [] 0 (Nat.zero_le _) (by simp) (by omega)
  refine this.trans ?_
  rw [List.nil_append, Nat.sub_zero, List.map_const', List.length_range']
theorem core_RestPose (x : List BoneT) : p_impl_RestPose x = true ∧ p_spec_RestPose x = true ∧ m_impl_RestPose x = m_spec_RestPose x ∧ (m_spec_RestPose x).1.2.2.2.length ≤ 1048576 := by
  obtain ⟨c1, c2, c3⟩ := core_sk x
  unfold p_impl_RestPose p_spec_RestPose m_impl_RestPose m_spec_RestPose m_impl_restOf p_impl_restOf m_slices_Repeat p_slices_Repeat
  rw [c1, c2, c3]
  cases hs : m_spec_l03Is x with
  | false => simp
  | true =>
    have h12 : 1 ≤ x.length ∧ x.length ≤ 12 := by
      unfold m_spec_l03Is at hs
      by_cases hn : 1 ≤ x.length ∧ x.length ≤ 12
      · exact hn
      · have e3 : m_spec_l00In ((List.length x : Nat) : Int) 1 12 = false := by rw [l00In_iff]; simp; omega
        rw [e3] at hs; cases hs
    rw [spec_rest x h12.2]
    have e : atI [m_impl_NoTurn] 0 = m_impl_NoTurn := rfl
    rw [e]
    simp; omega
theorem law_RestPose (x : List BoneT) (h : x.length ≤ maxLen) (_ : ∀ q ∈ x, (Lit.int .i64 q.1).wf = true ∧ Canon .f32 q.2.1 ∧ Canon .f32 q.2.2.1 ∧ Canon .f32 q.2.2.2) :
    g_laws_FnExactRestPose [.agg [.sl (List.map en0 x)]] = some (.bool true) := by
  have key : p_laws_FnExactRestPose x = true ∧ m_laws_FnExactRestPose x = true := by
    unfold p_laws_FnExactRestPose m_laws_FnExactRestPose v_laws_FnExactRestPose_0
    by_cases hs : m_laws_szSkeleton x 1048576 < 0
    · simp [hs]
    · obtain ⟨k1, k2, k3⟩ := sz_Skeleton x 1048576 h (by omega) (by omega) hs
      obtain ⟨c1, c2, c3, c4⟩ := core_RestPose x
      rw [(to_Skeleton x k1).1, c3]
      generalize (m_spec_RestPose x) = r at *
      have i1 : ¬ iter gB x.length 1 < 0 := by rw [iter_add (g := gB) (c := 4) gB_add _ _ (by omega) (by omega)]; omega
      have i2 : ¬ iter gT r.1.2.2.2.length 1 < 0 := by rw [iter_add (g := gT) (c := 4) gT_add _ _ (by omega) (by omega)]; omega
      simp [hs, to_Skeleton x k1, c1, c2, eq_Skeleton x k1, eq_Pose r.1 c4, mark_Skeleton x 1 k1, mark_Pose r.1 1 c4, held_Pose _ _ _ _ 1 c4, marks_len, i1, i2]
  unfold g_laws_FnExactRestPose
  simp only [dc_en0_map, key.1, key.2, if_true]
end Go.Proofs
