/- What functions that FnExactPackPoses reaches compute, and that the program's and the reference's answers are the same. No conditions. -/
import Derived.Test.YtlpbpdjledpfbaaPackPosesY1
set_option maxRecDepth 100000
set_option maxHeartbeats 4000000
set_option linter.all false
namespace Go.Proofs
open Go.Ab
end Go.Proofs
namespace Go.Ab
/-- a list of known length is filled, an element a round -/
theorem fill_loop {β : Type} (l : Nat → List β → Int → Option (List β)) (len : Nat) (F : Nat → β) (hlen : len < 2 ^ 62)
    (H : ∀ (n : Nat) (z : List β) (k : Nat), k < len → z.length = len → l (n + 1) z (k : Int) = l n (z.set k (F k)) (IntKind.wrap .i64 ((k : Int) + 1)))
    (H' : ∀ (n : Nat) (z : List β) (k : Nat), ¬ k < len → l (n + 1) z (k : Int) = some z) :
    ∀ (n : Nat) (z : List β) (k : Nat), k ≤ len → z.length = len → len - k < n → l n z (k : Int) = some (z.take k ++ (List.range' k (len - k)).map F)
  | 0, z, k, _, _, h => by omega
  | n + 1, z, k, hk, hz, h => by
    by_cases hlt : k < len
    · rw [H n z k hlt hz, wrapS (by omega), fill_loop l len F hlen H H' n _ (k + 1) (by omega) (by rw [List.length_set]; exact hz) (by omega), show len - k = (len - (k + 1)) + 1 by omega, List.range'_succ, List.map_cons]
      congr 1
      rw [List.take_succ_eq_append_getElem (by rw [List.length_set]; omega), List.take_set_of_le (Nat.le_refl _), List.getElem_set_self, List.append_assoc, List.singleton_append]
    · rw [H' n z k hlt, show len - k = 0 by omega]
      have : k = z.length := by omega
      subst this
      simp
/-- elements are put at the end, one a round -/
theorem app_loop {β : Type} (l : Nat → List β → Int → Option (List β)) (len : Nat) (F : Nat → β) (hlen : len < 2 ^ 62) (P : Nat → Nat → Prop)
    (H : ∀ (n : Nat) (z : List β) (k : Nat), k < len → P k z.length → l (n + 1) z (k : Int) = l n (z ++ [F k]) (IntKind.wrap .i64 ((k : Int) + 1)))
    (H' : ∀ (n : Nat) (z : List β) (k : Nat), ¬ k < len → l (n + 1) z (k : Int) = some z) (hP : ∀ k j, k < len → P k j → P (k + 1) (j + 1)) :
    ∀ (n : Nat) (z : List β) (k : Nat), k ≤ len → P k z.length → len - k < n → l n z (k : Int) = some (z ++ (List.range' k (len - k)).map F)
  | 0, z, k, _, _, h => by omega
  | n + 1, z, k, hk, hp, h => by
    by_cases hlt : k < len
    · rw [H n z k hlt hp, wrapS (by omega), app_loop l len F hlen P H H' hP n _ (k + 1) (by omega) (by rw [List.length_append]; exact hP _ _ hlt hp) (by omega), show len - k = (len - (k + 1)) + 1 by omega, List.range'_succ, List.map_cons]
      simp
    · rw [H' n z k hlt, show len - k = 0 by omega]
      simp
theorem map_range_shift {β : Type} {F G : Nat → β} {k j m : Nat} (h : ∀ i, i < m → F (k + i) = G (j + i)) : (List.range' k m).map F = (List.range' j m).map G := by
  induction m generalizing k j with
  | zero => rfl
  | succ m ih =>
    have h0 := h 0 (by omega)
    rw [Nat.add_zero, Nat.add_zero] at h0
    rw [List.range'_succ, List.range'_succ, List.map_cons, List.map_cons, h0, ih fun i hi => by
      have := h (i + 1) (by omega)
      rw [show k + (i + 1) = k + 1 + i by omega, show j + (i + 1) = j + 1 + i by omega] at this
      exact this]
/-- marks -/
def marks {α : Type} (f : Int → α) (g : Int → Int) : Int → Nat → List α
  | _, 0 => []
  | m, n + 1 => f m :: marks f g (g m) n
def iter (g : Int → Int) : Nat → Int → Int
  | 0, m => m
  | n + 1, m => iter g n (g m)
theorem marks_len {α : Type} (f : Int → α) (g : Int → Int) : ∀ (n : Nat) (m : Int), (marks f g m n).length = n
  | 0, _ => rfl
  | n + 1, m => by rw [marks, List.length_cons, marks_len f g n]
theorem marks_get {α : Type} [Inhabited α] (f : Int → α) (g : Int → Int) : ∀ (n : Nat) (m : Int) (i : Nat), i < n → (marks f g m n).getD i default = f (iter g i m)
  | 0, _, _, h => by omega
  | n + 1, m, 0, _ => rfl
  | n + 1, m, i + 1, h => by
    rw [marks, List.getD_cons_succ, marks_get f g n (g m) i (by omega)]; rfl
theorem iter_succ (g : Int → Int) : ∀ (i : Nat) (m : Int), g (iter g i m) = iter g (i + 1) m
  | 0, _ => rfl
  | i + 1, m => by rw [iter, iter_succ g i (g m)]; rfl
theorem iter_add {g : Int → Int} {c : Nat} (hg : ∀ m : Int, 0 ≤ m → m ≤ 2 ^ 60 → g m = m + c) : ∀ (n : Nat) (m : Int), 0 ≤ m → m + ((c * n : Nat) : Int) ≤ 2 ^ 60 → iter g n m = m + ((c * n : Nat) : Int)
  | 0, m, _, _ => by simp [iter]
  | n + 1, m, h0, h => by
    rw [Nat.mul_succ] at h ⊢
    rw [iter, hg m h0 (by omega), iter_add hg n _ (by omega) (by omega)]
    omega
theorem mark_loop {α : Type} (l : Nat → List α → Int → Int → Option (Int × List α)) (f : Int → α) (g : Int → Int)
    (H : ∀ n z m k, l (n + 1) z m k = if (decide (k < ((z.length : Nat) : Int))) = true then need (inB k z.length) (l n (z.set k.toNat (f m)) (g m) (IntKind.wrap .i64 (k + 1))) else some (m, z)) :
    ∀ (n : Nat) (z : List α) (m : Int) (k : Nat), z.length < 2 ^ 62 → k ≤ z.length → z.length - k < n → l n z m (k : Int) = some (iter g (z.length - k) m, z.take k ++ marks f g m (z.length - k))
  | 0, z, m, k, _, _, h => by omega
  | n + 1, z, m, k, hz, hk, h => by
    rw [H]
    by_cases hlt : k < z.length
    · rw [if_pos (by simp; omega), inB_nat]
      unfold need
      rw [if_pos (by simpa using hlt), wrapS (by omega), Int.toNat_natCast, mark_loop l f g H n _ (g m) (k + 1) (by rw [List.length_set]; exact hz) (by rw [List.length_set]; omega) (by rw [List.length_set]; omega), List.length_set,
        show z.length - k = (z.length - (k + 1)) + 1 by omega]
      congr 2
      rw [List.take_succ_eq_append_getElem (by rw [List.length_set]; omega), List.take_set_of_le (Nat.le_refl _), List.getElem_set_self, List.append_assoc, List.singleton_append]
      rfl
    · rw [if_neg (by simp; omega), show z.length - k = 0 by omega]
      have : k = z.length := by omega
      subst this
      simp [iter, marks]
theorem mark_all {α : Type} (l : Nat → List α → Int → Int → Option (Int × List α)) (f : Int → α) (g : Int → Int) (x : List α) (m : Int) (hx : x.length < 2 ^ 62)
    (H : ∀ n z m k, l (n + 1) z m k = if (decide (k < ((z.length : Nat) : Int))) = true then need (inB k z.length) (l n (z.set k.toNat (f m)) (g m) (IntKind.wrap .i64 (k + 1))) else some (m, z)) :
    l (Int.toNat (((x.length : Nat) : Int) - 0) + 2) x m 0 = some (iter g x.length m, marks f g m x.length) := by
  have := mark_loop l f g H (Int.toNat (((x.length : Nat) : Int) - 0) + 2) x m 0 hx (Nat.zero_le _) (by omega)
  simpa using this
theorem held_all {α : Type} [Inhabited α] (l : Nat → Int → Int → Option (Bool × Int × Int)) (f : Int → α) (g : Int → Int) (e : α → Int → Bool) (x : List α) (m : Int) (len : Nat) (hx : x = marks f g m len) (hl : len < 2 ^ 62) (he : ∀ m, e (f m) m = true)
    (H : ∀ n m k, l (n + 1) m k = if (decide (k < ((x.length : Nat) : Int))) = true then need (inB k x.length) (if e (atI x k) m = true then l n (g m) (IntKind.wrap .i64 (k + 1)) else some (true, -1, default)) else some (false, default, m)) :
    l (Int.toNat (((x.length : Nat) : Int) - 0) + 2) m 0 = some (false, default, iter g len m) := by
  have hlen : x.length = len := by rw [hx, marks_len]
  have key : ∀ (n k : Nat), k ≤ len → len - k < n → l n (iter g k m) (k : Int) = some (false, default, iter g len m) := by
    intro n
    induction n with
    | zero => intro k _ h; omega
    | succ n ih =>
      intro k hk h
      rw [H, hlen]
      by_cases hlt : k < len
      · rw [if_pos (by simp; omega), inB_nat]
        unfold need
        rw [if_pos (by simpa using hlt), atI_nat, hx, marks_get f g len m k hlt, if_pos (he _), wrapS (by omega), iter_succ g, ih (k + 1) (by omega) (by omega)]
      · rw [if_neg (by simp; omega), show k = len by omega]
  have := key (Int.toNat (((x.length : Nat) : Int) - 0) + 2) 0 (Nat.zero_le _) (by omega)
  exact this
/-- a whole number made a float is itself -/
theorem feq_ofInt (n : Int) : feq .f32 (ofInt .f32 n) (ofInt .f32 n) = true := by
  rw [feq_self_iff]
  have h : isNaN .f32 (ofInt .f32 n) = false := by
    unfold isNaN ofInt
    show (FloatKind.f32.format.read (FloatKind.f32.nearest n)).isNaN = false
    rcases read_nearest .f32 (decide (n < 0)) n.natAbs 0 with ⟨m', e', h, _⟩ | h
    all_goals
      have h2 : FloatKind.f32.format.read (FloatKind.f32.nearest n) = _ := h
      rw [h2]; rfl
  rw [h]; rfl
end Go.Ab
namespace Go.Proofs
open Go.Ab
theorem sameFloat_refl (x : Nat) : m_laws_sameFloat x x = true := by
  unfold m_laws_sameFloat
  by_cases h : feq .f64 x x = true
  · simp [h]
  · simp [h]
end Go.Proofs
namespace Go.Proofs
open Go.Ab
theorem eq_Vector (a : Nat × Nat × Nat) : m_laws_eqVector a a = true := by unfold m_laws_eqVector; simp [sameFloat_refl]
end Go.Proofs
namespace Go.Proofs
open Go.Ab
theorem eq_Turn (a : Nat × Nat × Nat × Nat) : m_laws_eqTurn a a = true := by unfold m_laws_eqTurn; simp [sameFloat_refl]
theorem eq_TurnS (x : List (Nat × Nat × Nat × Nat)) (h : x.length ≤ 1048576) : m_laws_eqTurnS x x = true ∧ p_laws_eqTurnS x x = true := by
  unfold m_laws_eqTurnS p_laws_eqTurnS
  rw [show l_laws_eqTurnS_0 x x (Int.toNat (((List.length x : Nat) : Int) - 0) + 2) 0 = some (false, default, ()) from eq_loop _ x m_laws_eqTurn eq_Turn (by omega) fun _ _ => rfl]; simp
theorem to_TurnS (x : List (Nat × Nat × Nat × Nat)) (h : x.length ≤ 1048576) : m_laws_toTurnS x = x ∧ p_laws_toTurnS x = true := by
  unfold m_laws_toTurnS p_laws_toTurnS
  rw [show l_laws_toTurnS_0 x (Int.toNat (((List.length x : Nat) : Int) - 0) + 2) (List.replicate (Int.toNat ((List.length x : Nat) : Int)) (0, 0, 0, 0)) 0 = some x by
    rw [copy_all (l_laws_toTurnS_0 x) x m_laws_toTurn _ (by omega) fun _ _ _ => rfl]
    congr 1
    exact List.map_id x]
  refine ⟨rfl, ?_⟩
  simp; omega
theorem sz_TurnS (x : List (Nat × Nat × Nat × Nat)) (n : Int) (hx : x.length ≤ maxLen) (h0 : 0 ≤ n) (hn : n ≤ 1048576) (hs : ¬ (m_laws_szTurnS x n < 0)) : x.length ≤ 1048576 ∧ 0 ≤ m_laws_szTurnS x n ∧ m_laws_szTurnS x n ≤ 1048576 := by
  unfold m_laws_szTurnS at hs ⊢
  have hx' : x.length ≤ 9223372036854775807 := by unfold maxLen at hx; omega
  rw [wrapI (by omega) (by omega)] at hs ⊢
  by_cases h : n - ((List.length x : Nat) : Int) < 0
  · simp [h] at hs
  · rw [if_neg (by simpa using h)]; omega
end Go.Proofs
namespace Go.Proofs
open Go.Ab
theorem eq_Pose (x : Nat × Nat × Nat × List (Nat × Nat × Nat × Nat)) (h : x.2.2.2.length ≤ 1048576) : m_laws_eqPose x x = true ∧ p_laws_eqPose x x = true := by
  unfold m_laws_eqPose p_laws_eqPose
  simp [eq_Vector, eq_TurnS _ h]
theorem to_Pose (x : Nat × Nat × Nat × List (Nat × Nat × Nat × Nat)) (h : x.2.2.2.length ≤ 1048576) : m_laws_toPose x = x ∧ p_laws_toPose x = true := by
  unfold m_laws_toPose p_laws_toPose
  exact ⟨by simp [to_TurnS _ h, m_laws_toVector], (to_TurnS _ h).2⟩
theorem sz_Pose (x : Nat × Nat × Nat × List (Nat × Nat × Nat × Nat)) (n : Int) (hx : x.2.2.2.length ≤ maxLen) (h0 : 0 ≤ n) (hn : n ≤ 1048576) (hs : ¬ (m_laws_szPose x n < 0)) : x.2.2.2.length ≤ 1048576 ∧ 0 ≤ m_laws_szPose x n ∧ m_laws_szPose x n ≤ 1048576 := by
  unfold m_laws_szPose at hs ⊢
  by_cases h : m_laws_szTurnS x.2.2.2 n < 0
  · simp [h] at hs
  · have := sz_TurnS x.2.2.2 n hx h0 hn h
    simpa [h] using this
end Go.Proofs
namespace Go.Proofs
open Go.Ab
abbrev PoseT : Type := Nat × Nat × Nat × List (Nat × Nat × Nat × Nat)
theorem at_mem {α : Type} [Inhabited α] {x : List α} {k : Int} (h : inB k x.length = true) : atI x k ∈ x := by
  simp only [inB, Bool.and_eq_true, decide_eq_true_eq] at h
  unfold atI
  have : k.toNat < x.length := by omega
  simp [List.getD, this]
theorem to_PoseS (x : List PoseT) (h : x.length ≤ 1048576) (hq : ∀ q ∈ x, q.2.2.2.length ≤ 1048576) : m_laws_toPoseS x = x ∧ p_laws_toPoseS x = true := by
  unfold m_laws_toPoseS p_laws_toPoseS
  rw [show l_laws_toPoseS_0 x (Int.toNat (((List.length x : Nat) : Int) - 0) + 2) (List.replicate (Int.toNat ((List.length x : Nat) : Int)) (0, 0, 0, [])) 0 = some x by
    rw [copy_all (l_laws_toPoseS_0 x) x m_laws_toPose _ (by omega) fun n z k => by
      rw [l_laws_toPoseS_0]
      by_cases hk : inB k x.length = true
      · rw [(to_Pose _ (hq _ (at_mem hk))).2]; rfl
      · have hk' : inB k x.length = false := by simpa using hk
        rw [hk']; rfl]
    congr 1
    conv => rhs; rw [← List.map_id x]
    exact List.map_congr_left fun q hm => (to_Pose q (hq q hm)).1]
  refine ⟨rfl, ?_⟩
  simp; omega
theorem eq_PoseS (x : List PoseT) (h : x.length ≤ 1048576) (hq : ∀ q ∈ x, q.2.2.2.length ≤ 1048576) : m_laws_eqPoseS x x = true ∧ p_laws_eqPoseS x x = true := by
  have key := all_loop (l_laws_eqPoseS_0 x x) x.length (fun _ => true) (by omega) (fun n k hk => by
    have hm : atI x (k : Int) ∈ x := at_mem (by unfold inB; simp; omega)
    rw [l_laws_eqPoseS_0, decide_eq_true (show (k : Int) < ((List.length x : Nat) : Int) by omega), show inB (k : Int) x.length = true by unfold inB; simp; omega, (eq_Pose _ (hq _ hm)).1, (eq_Pose _ (hq _ hm)).2]
    rfl) (fun n k hk => by
    rw [l_laws_eqPoseS_0, decide_eq_false (show ¬ (k : Int) < ((List.length x : Nat) : Int) by omega)]; rfl) (Int.toNat (((x.length : Nat) : Int) - 0) + 2) 0 (Nat.zero_le _) (by omega)
  rw [all_range_true (fun _ _ _ => rfl)] at key
  replace key : l_laws_eqPoseS_0 x x (Int.toNat (((List.length x : Nat) : Int) - 0) + 2) 0 = some (false, default, ()) := key
  unfold m_laws_eqPoseS p_laws_eqPoseS
  rw [key]; simp
theorem sz_PoseS (x : List PoseT) (hx : x.length ≤ maxLen) (hq : ∀ q ∈ x, q.2.2.2.length ≤ maxLen) : p_laws_szPoseS x 1048576 = true ∧ (¬ (m_laws_szPoseS x 1048576 < 0) → x.length ≤ 1048576 ∧ ∀ q ∈ x, q.2.2.2.length ≤ 1048576) := by
  have hx' : x.length ≤ 9223372036854775807 := by unfold maxLen at hx; omega
  have e0 : IntKind.wrap .i64 (1048576 - ((List.length x : Nat) : Int)) = 1048576 - ((List.length x : Nat) : Int) := wrapI (by omega) (by omega)
  unfold m_laws_szPoseS p_laws_szPoseS
  rw [e0]
  by_cases h0 : 1048576 - ((List.length x : Nat) : Int) < 0
  · rw [decide_eq_true h0]
    exact ⟨rfl, fun h => absurd (show (-1 : Int) < 0 by omega) h⟩
  · have hlen : x.length ≤ 1048576 := by omega
    have key : ∀ (n k : Nat) (z : Int), k ≤ x.length → x.length - k < n → 0 ≤ z → z ≤ 1048576 → ∃ o, l_laws_szPoseS_0 x n z (k : Int) = some o ∧ (o.1 = true → o.2.1 = -1) ∧ (o.1 = false → ∀ j, k ≤ j → j < x.length → (x.getD j default).2.2.2.length ≤ 1048576) := by
      intro n
      induction n with
      | zero => intro k z _ h; omega
      | succ n ih =>
        intro k z hk hn hz0 hz1
        rw [l_laws_szPoseS_0]
        by_cases hlt : k < x.length
        · rw [decide_eq_true (show (k : Int) < ((List.length x : Nat) : Int) by omega), show inB (k : Int) x.length = true by unfold inB; simp; omega]
          have e3 : atI x (k : Int) = x.getD k default := rfl
          have hm : x.getD k default ∈ x := by rw [← e3]; exact at_mem (by unfold inB; simp; omega)
          rw [e3]
          by_cases hs : m_laws_szPose (x.getD k default) z < 0
          · rw [decide_eq_true hs]
            exact ⟨_, rfl, fun _ => rfl, fun h => by cases h⟩
          · obtain ⟨k1, k2, k3⟩ := sz_Pose _ z (hq _ hm) hz0 hz1 hs
            rw [decide_eq_false hs, wrapS (by omega)]
            obtain ⟨o, o1, o2, o3⟩ := ih (k + 1) (m_laws_szPose (x.getD k default) z) (by omega) (by omega) k2 k3
            refine ⟨o, o1, o2, fun h j h1 h2 => ?_⟩
            rcases Nat.eq_or_lt_of_le h1 with hj | hj
            · rw [← hj]; exact k1
            · exact o3 h j hj h2
        · rw [decide_eq_false (show ¬ (k : Int) < ((List.length x : Nat) : Int) by omega)]
          exact ⟨_, rfl, fun h => (by cases h), fun _ j h1 h2 => by omega⟩
    obtain ⟨o, o1, o2, o3⟩ := key (Int.toNat (((List.length x : Nat) : Int) - 0) + 2) 0 (1048576 - ((List.length x : Nat) : Int)) (by omega) (by omega) (by omega) (by omega)
    replace o1 : l_laws_szPoseS_0 x (Int.toNat (((List.length x : Nat) : Int) - 0) + 2) (1048576 - ((List.length x : Nat) : Int)) 0 = some o := o1
    rw [o1, decide_eq_false h0]
    refine ⟨rfl, fun h => ⟨hlen, fun q hm => ?_⟩⟩
    have ho : o.1 = false := by
      cases hc : o.1 with
      | false => rfl
      | true =>
        exfalso; apply h
        show (if o.1 = true then o.2.1 else o.2.2) < 0
        rw [hc, if_pos rfl, o2 hc]; omega
    obtain ⟨j, hj, rfl⟩ := List.getElem_of_mem hm
    have := o3 ho j (Nat.zero_le _) hj
    simpa [List.getD, hj] using this
end Go.Proofs
namespace Go.Proofs
open Go.Ab
def m_impl_isRange (x0 : Nat) (x1 : Nat) : Bool := (if (m_impl_IsFinite x0) = true then (if (m_impl_IsFinite x1) = true then (flt .f32 x0 x1) else false) else false)
end Go.Proofs
namespace Go.Proofs
open Go.Ab
theorem codes_ok {b : Int} (h1 : 2 ≤ b) (h2 : b ≤ 16) : ∃ k : Nat, 4 ≤ k ∧ k ≤ 65536 ∧ IntKind.wrap .i64 (1 * 2 ^ (min b.toNat 64)) = (k : Int) ∧ IntKind.wrap .u64 b = b ∧ IntKind.wrap .i64 ((k : Int) - 1) = ((k - 1 : Nat) : Int) ∧ k = 2 ^ b.toNat := by
  have : b = 2 ∨ b = 3 ∨ b = 4 ∨ b = 5 ∨ b = 6 ∨ b = 7 ∨ b = 8 ∨ b = 9 ∨ b = 10 ∨ b = 11 ∨ b = 12 ∨ b = 13 ∨ b = 14 ∨ b = 15 ∨ b = 16 := by omega
  rcases this with rfl | rfl | rfl | rfl | rfl | rfl | rfl | rfl | rfl | rfl | rfl | rfl | rfl | rfl | rfl
  all_goals exact ⟨_, by decide, by decide, by decide, by decide, by decide, rfl⟩
end Go.Proofs
namespace Go.Proofs
open Go.Ab
theorem codeOf_ok {x0 x1 x2 : Nat} {x3 : Int} (hx : feq .f32 x0 x0 = true) (hr : m_impl_isRange x1 x2 = true) (h1 : 2 ≤ x3) (h2 : x3 ≤ 16) :
    p_impl_codeOf x0 x1 x2 x3 = true ∧ p_spec_l06Code x0 x1 x2 x3 = true ∧ m_spec_l06Code x0 x1 x2 x3 = m_impl_codeOf x0 x1 x2 x3 := by
  obtain ⟨k, k1, k2, k3, k4, k5, k6⟩ := codes_ok h1 h2
  unfold m_impl_isRange at hr
  obtain ⟨f1, hr⟩ := and_of hr
  obtain ⟨f2, hr⟩ := and_of hr
  have hm : m_spec_l06Most x3 = ((k - 1 : Nat) : Int) := by unfold m_spec_l06Most; rw [k4, k3, k5]
  have hc : m_impl_codes x3 = k := by unfold m_impl_codes; exact k3
  have hp1 : p_spec_l06Most x3 = true := by unfold p_spec_l06Most; rw [k4]; simp; omega
  have hp2 : p_impl_codes x3 = true := by unfold p_impl_codes; simp; omega
  obtain ⟨md, ed, rd, hd⟩ := den_ok f1 f2 hr
  obtain ⟨sl, ml, el, dl⟩ := fin32 f1
  obtain ⟨ml', el', rl, _⟩ := widen_ex dl
  obtain ⟨W, hW⟩ : ∃ W : Nat, W = 1074 := ⟨_, rfl⟩
  obtain ⟨mF, eF, rF, _, vF⟩ := ofInt_ex (n := k - 1) hW (by omega)
  have hmF : mF ≠ 0 := by
    rintro rfl
    rw [Nat.zero_mul] at vF
    have := Nat.mul_pos (show 0 < k - 1 by omega) (Nat.two_pow_pos W)
    omega
  have hC : Nn (integral .even (fmul .f64 (fdiv .f64 (fsub .f64 (widen x0) (widen x1)) (fsub .f64 (widen x2) (widen x1))) (ofInt .f64 ((k - 1 : Nat) : Int)))) :=
    nn_integral (nn_mul (nn_div (nn_sub (nn_widen hx) rl) rd hd) rF hmF)
  obtain ⟨c1, c2, c3⟩ := code_same hC (M := k - 1) (by omega) (by omega)
  refine ⟨?_, ?_, ?_⟩
  · unfold p_impl_codeOf; (try unfold v_impl_codeOf_0); rw [hc, k5, hp2, c2]; rfl
  · unfold p_spec_l06Code; (try unfold v_spec_l06Code_0); rw [hm, hp1, c1]; rfl
  · unfold m_spec_l06Code m_impl_codeOf; (try unfold v_impl_codeOf_0); (try unfold v_spec_l06Code_0); rw [hm, hc, k5]; exact c3
end Go.Proofs
namespace Go.Ab
open Ieee
theorem code_range {C M : Nat} (hC : Nn C) (hM : 0 < M) (hM2 : M < 2 ^ 53) :
    0 ≤ (if flt .f64 C 0 = true then (0 : Int) else if flt .f64 (ofInt .f64 M) C = true then (M : Int) else f2iV .f64 C) ∧ (if flt .f64 C 0 = true then (0 : Int) else if flt .f64 (ofInt .f64 M) C = true then (M : Int) else f2iV .f64 C) ≤ (M : Int) := by
  obtain ⟨W, hW⟩ : ∃ W : Nat, W = 1074 := ⟨_, rfl⟩
  have hU : 0 < 2 ^ W := Nat.two_pow_pos W
  have xF := ofInt_ex hW hM2
  have x0 := ex_zero64
  rcases hC with ⟨s, m, e, hC⟩ | ⟨s, hC⟩
  · obtain ⟨v, xC⟩ := read_ex hC
    have oC0 := ford_ex xC x0
    have oFC := ford_ex xF xC
    have iC := f2i_ex hW xC
    have z0 : sg false 0 = 0 := rfl
    have zF : sg false (M * 2 ^ W) = ((M * 2 ^ W : Nat) : Int) := rfl
    rw [z0] at oC0
    rw [zF] at oFC
    split
    · omega
    · rename_i h1
      split
      · omega
      · rename_i h2
        have g1 : ¬ sg s v < 0 := by
          intro h; apply h1
          rw [Int.compare_eq_lt.2 h] at oC0
          unfold flt; rw [oC0]; rfl
        have g2 : ¬ ((M * 2 ^ W : Nat) : Int) < sg s v := by
          intro h; apply h2
          rw [Int.compare_eq_lt.2 h] at oFC
          unfold flt; rw [oFC]; rfl
        unfold f2iV
        rw [iC]
        show 0 ≤ sg s (v / 2 ^ W) ∧ sg s (v / 2 ^ W) ≤ (M : Int)
        cases s with
        | true =>
          rw [sg_true] at g1
          have : v = 0 := by omega
          subst this
          rw [Nat.zero_div, sg_true]; omega
        | false =>
          have e1 : sg false v = (v : Int) := rfl
          have e2 : sg false (v / 2 ^ W) = ((v / 2 ^ W : Nat) : Int) := rfl
          rw [e1] at g2
          rw [e2]
          have h3 : v / 2 ^ W ≤ M := by
            have := Nat.div_le_div_right (c := 2 ^ W) (show v ≤ M * 2 ^ W by omega)
            rw [Nat.mul_div_cancel _ hU] at this
            exact this
          generalize v / 2 ^ W = q at *
          omega
  · obtain ⟨mF, eF, rF, _, _⟩ := xF
    have r0 : FloatKind.f64.format.read 0 = .number false 0 (-1074) := by decide
    have oC0 : ford .f64 C 0 = some (if s then .lt else .gt) := by unfold ford Format.order; rw [hC, r0]; rfl
    have oFC : ford .f64 (ofInt .f64 M) C = some (if s then .gt else .lt) := by unfold ford Format.order; rw [hC, rF]; cases s <;> rfl
    cases s with
    | true =>
      have f1 : flt .f64 C 0 = true := by unfold flt; rw [oC0]; rfl
      rw [if_pos f1]; omega
    | false =>
      have f1 : flt .f64 C 0 = false := by unfold flt; rw [oC0]; rfl
      have f2 : flt .f64 (ofInt .f64 M) C = true := by unfold flt; rw [oFC]; rfl
      rw [f1, if_neg (by decide), if_pos f2]; omega
end Go.Ab
namespace Go.Proofs
open Go.Ab
theorem codeOf_range {x0 x1 x2 : Nat} {x3 : Int} (hx : feq .f32 x0 x0 = true) (hr : m_impl_isRange x1 x2 = true) (h1 : 2 ≤ x3) (h2 : x3 ≤ 16) :
    0 ≤ m_impl_codeOf x0 x1 x2 x3 ∧ m_impl_codeOf x0 x1 x2 x3 < m_impl_codes x3 := by
  rw [← (codeOf_ok hx hr h1 h2).2.2]
  obtain ⟨k, k1, k2, k3, k4, k5, k6⟩ := codes_ok h1 h2
  unfold m_impl_isRange at hr
  obtain ⟨f1, hr⟩ := and_of hr
  obtain ⟨f2, hr⟩ := and_of hr
  have hm : m_spec_l06Most x3 = ((k - 1 : Nat) : Int) := by unfold m_spec_l06Most; rw [k4, k3, k5]
  have hc : m_impl_codes x3 = k := by unfold m_impl_codes; exact k3
  obtain ⟨md, ed, rd, hd⟩ := den_ok f1 f2 hr
  obtain ⟨sl, ml, el, dl⟩ := fin32 f1
  obtain ⟨ml', el', rl, _⟩ := widen_ex dl
  obtain ⟨W, hW⟩ : ∃ W : Nat, W = 1074 := ⟨_, rfl⟩
  obtain ⟨mF, eF, rF, _, vF⟩ := ofInt_ex (n := k - 1) hW (by omega)
  have hmF : mF ≠ 0 := by
    rintro rfl
    rw [Nat.zero_mul] at vF
    have := Nat.mul_pos (show 0 < k - 1 by omega) (Nat.two_pow_pos W)
    omega
  have hC : Nn (integral .even (fmul .f64 (fdiv .f64 (fsub .f64 (widen x0) (widen x1)) (fsub .f64 (widen x2) (widen x1))) (ofInt .f64 ((k - 1 : Nat) : Int)))) :=
    nn_integral (nn_mul (nn_div (nn_sub (nn_widen hx) rl) rd hd) rF hmF)
  obtain ⟨c1, c2⟩ := code_range hC (M := k - 1) (by omega) (by omega)
  have e : m_spec_l06Code x0 x1 x2 x3 = (if flt .f64 (integral .even (fmul .f64 (fdiv .f64 (fsub .f64 (widen x0) (widen x1)) (fsub .f64 (widen x2) (widen x1))) (ofInt .f64 ((k - 1 : Nat) : Int)))) 0 = true then (0 : Int) else if flt .f64 (ofInt .f64 ((k - 1 : Nat) : Int)) (integral .even (fmul .f64 (fdiv .f64 (fsub .f64 (widen x0) (widen x1)) (fsub .f64 (widen x2) (widen x1))) (ofInt .f64 ((k - 1 : Nat) : Int)))) = true then ((k - 1 : Nat) : Int) else f2iV .f64 (integral .even (fmul .f64 (fdiv .f64 (fsub .f64 (widen x0) (widen x1)) (fsub .f64 (widen x2) (widen x1))) (ofInt .f64 ((k - 1 : Nat) : Int))))) := by
    unfold m_spec_l06Code; (try unfold v_spec_l06Code_0); rw [hm]
  rw [e, hc]
  exact ⟨c1, by omega⟩
end Go.Proofs
namespace Go.Proofs
open Go.Ab
theorem mend_eq (t : Nat × Nat × Nat × Nat) : m_impl_MendTurn t = m_spec_l02Mend t ∧ p_impl_MendTurn t = true ∧ p_spec_l02Mend t = true := by
  refine ⟨?_, sqrt_narrow _, sqrt_narrow _⟩
  unfold m_impl_MendTurn m_spec_l02Mend m_impl_isLength
  have e : m_impl_LengthOfTurn t = m_spec_l01Sqrt (m_spec_l02Inner t t) := rfl
  rw [e]
  generalize m_spec_l01Sqrt (m_spec_l02Inner t t) = n
  have e2 : m_impl_IsFinite n = m_spec_l01Finite n := rfl
  rw [e2]
  by_cases h0 : feq .f32 n 0 = true <;> by_cases h1 : m_spec_l01Finite n = true <;> simp [h0, h1, m_impl_NoTurn, m_spec_l02No]
end Go.Proofs
namespace Go.Proofs
open Go.Ab
theorem size_all {x : Nat} (hx : Canon .f32 x) : m_spec_l02Size x = m_impl_size x ∧ p_impl_size x = true ∧ p_spec_l02Size x = true := by
  have hs := abs_same (x := x) hx.lt
  refine ⟨?_, hs.1, ?_⟩
  · show m_spec_l02Size x = narrow (abs64 x)
    rw [hs.2]
    exact abs_bits hx
  · unfold p_spec_l02Size p_spec_l01Bits
    cases feq .f32 x x <;> rfl
end Go.Proofs
namespace Go.Ab
open Ieee
/-- not below so many units -/
def Up (f : Format) (c K : Nat) : Prop := f.read c = .infinity false ∨ ∃ m e, f.read c = .number false m e ∧ f.leastPlace ≤ e ∧ K ≤ m * 2 ^ (e - f.leastPlace).toNat
theorem Up.mono {f : Format} {c K K' : Nat} (h : Up f c K) (hk : K' ≤ K) : Up f c K' := by
  rcases h with h | ⟨m, e, h1, h2, h3⟩
  · exact .inl h
  · exact .inr ⟨m, e, h1, h2, Nat.le_trans hk h3⟩
theorem nearest_word (f : Format) (neg : Bool) (mag : Nat) (place : Int) : ∃ r, f.nearest neg mag place = f.word neg (min r f.infRung) := by
  unfold Format.nearest
  by_cases h0 : mag = 0
  · rw [if_pos h0]; exact ⟨0, by rw [Nat.zero_min]⟩
  · rw [if_neg h0]; exact ⟨_, rfl⟩
/-- a value of a power of two or more is rounded to that power or more -/
theorem nearest_ge (f : Format) (neg : Bool) (mag : Nat) (place : Int) (j : Nat) (h : 2 ^ (f.fractionBits + j) * 2 ^ (f.leastPlace - place).toNat ≤ mag * 2 ^ (place - f.leastPlace).toNat) :
    ∃ r, f.nearest neg mag place = f.word neg (min r f.infRung) ∧ (j + 1) * f.binade ≤ r := by
  have hbd : f.binade = 2 ^ f.fractionBits := rfl
  have h0 : mag ≠ 0 := by
    rintro rfl
    rw [Nat.zero_mul] at h
    have := Nat.mul_pos (Nat.two_pow_pos (f.fractionBits + j)) (Nat.two_pow_pos (f.leastPlace - place).toNat); omega
  unfold Format.nearest
  rw [if_neg h0]
  refine ⟨_, rfl, ?_⟩
  have hlog : mag < 2 ^ (mag.log2 + 1) := Nat.lt_log2_self
  have hlog' : 2 ^ mag.log2 ≤ mag := Nat.log2_self_le h0
  generalize mag.log2 = lg at *
  generalize f.leastPlace = lp at *
  have hge : f.fractionBits + j + (lp - place).toNat ≤ lg + (place - lp).toNat := by
    have : 2 ^ (f.fractionBits + j + (lp - place).toNat) < 2 ^ (lg + 1 + (place - lp).toNat) := by
      rw [Nat.pow_add]
      refine Nat.lt_of_le_of_lt h ?_
      rw [Nat.pow_add 2 (lg + 1)]
      exact Nat.mul_lt_mul_of_pos_right hlog (Nat.two_pow_pos _)
    have := (Nat.pow_lt_pow_iff_right (a := 2) (by omega)).1 this
    omega
  generalize hlast : max (place + (lg : Int) - (f.fractionBits : Int)) lp = last
  have hl : j ≤ (last - lp).toNat := by omega
  have hk : f.binade ≤ Toward.even.cut neg (mag <<< (place - last).toNat) (last - place).toNat := by
    unfold Toward.cut
    dsimp only
    refine Nat.le_trans ?_ (Nat.le_add_right _ _)
    rw [Nat.shiftLeft_eq]
    have e1 : f.binade * 2 ^ (last - place).toNat ≤ mag * 2 ^ (place - last).toNat := by
      refine Nat.le_trans (Nat.le_of_eq ?_) (Nat.mul_le_mul_right _ hlog')
      rw [hbd, ← Nat.pow_add, ← Nat.pow_add]
      congr 1; omega
    have hpos : 0 < mag * 2 ^ (place - last).toNat := Nat.mul_pos (by omega) (Nat.two_pow_pos _)
    generalize mag * 2 ^ (place - last).toNat = n at *
    rw [Nat.one_shiftLeft]
    have hmin : min (last - place).toNat (n.log2 + 2) = (last - place).toNat := by
      apply Nat.min_eq_left
      have h5 : 2 ^ (last - place).toNat ≤ n := Nat.le_trans (Nat.le_mul_of_pos_left _ (Nat.two_pow_pos _)) e1
      have := (Nat.le_log2 (by omega)).2 h5
      omega
    rw [hmin]
    exact (Nat.le_div_iff_mul_le (Nat.two_pow_pos _)).2 e1
  have : j * f.binade ≤ (last - lp).toNat * f.binade := Nat.mul_le_mul_right _ hl
  rw [Nat.add_mul, Nat.one_mul]
  omega
theorem up_word (k : FloatKind) (r K : Nat) (h : K ≤ rv k.format r) : Up k.format (k.format.word false (min r k.format.infRung)) K := by
  by_cases hr : r < k.format.infRung
  · rw [Nat.min_eq_left (by omega)]
    obtain ⟨m, e, h1, h2, h3⟩ := read_word k.format false hr
    exact .inr ⟨m, e, h1, h2, by rw [h3]; exact h⟩
  · rw [Nat.min_eq_right (by omega)]
    exact .inl (read_inf_word k false)
theorem rv_binade (f : Format) (j : Nat) : rv f ((j + 1) * f.binade) = 2 ^ (f.fractionBits + j) := by
  have hb : 0 < f.binade := Nat.two_pow_pos _
  rw [rv_big f (Nat.le_mul_of_pos_left _ (by omega)), Nat.mul_mod_left, Nat.mul_div_cancel _ hb, Nat.add_zero, Nat.pow_add]
  rfl
theorem up_nearest (k : FloatKind) (mag : Nat) (place : Int) (j : Nat) (h : 2 ^ (k.format.fractionBits + j) * 2 ^ (k.format.leastPlace - place).toNat ≤ mag * 2 ^ (place - k.format.leastPlace).toNat) :
    Up k.format (k.format.nearest false mag place) (2 ^ (k.format.fractionBits + j)) := by
  obtain ⟨r, e1, e2⟩ := nearest_ge k.format false mag place j h
  rw [e1]
  refine up_word k r _ ?_
  rw [← rv_binade]
  exact rv_mono _ e2
theorem up_zero (k : FloatKind) (mag : Nat) (place : Int) : Up k.format (k.format.nearest false mag place) 0 := by
  obtain ⟨r, e1⟩ := nearest_word k.format false mag place
  rw [e1]
  exact up_word k r _ (Nat.zero_le _)
theorem up_inf (k : FloatKind) (K : Nat) : Up k.format (k.format.write (.infinity false)) K := .inl (by cases k <;> decide)
/-- the square of a finite number -/
theorem up_square {k : FloatKind} {x : Nat} {s : Bool} {v : Nat} (h : Ex k.format s x v) :
    Up k.format (fmul k x x) 0 ∧ ∀ (j l : Nat), (l : Int) = -k.format.leastPlace → 2 ^ (k.format.fractionBits + j + l) ≤ v * v → Up k.format (fmul k x x) (2 ^ (k.format.fractionBits + j)) := by
  obtain ⟨m, e, h1, h2, h3⟩ := h
  have hw : fmul k x x = k.format.nearest false (m * m) (e + e) := by
    unfold fmul op2
    rw [h1]
    show k.format.nearest (s ^^ s) (m * m) (e + e) = _
    rw [Bool.xor_self]
  rw [hw]
  refine ⟨up_zero k _ _, fun j l hl hv => up_nearest k _ _ j ?_⟩
  rw [← h3] at hv
  generalize k.format.fractionBits + j = F at *
  generalize k.format.leastPlace = lp at *
  have e2 : m * 2 ^ (e - lp).toNat * (m * 2 ^ (e - lp).toNat) = m * m * 2 ^ ((e - lp).toNat + (e - lp).toNat) := by
    rw [Nat.mul_mul_mul_comm, ← Nat.pow_add]
  rw [e2] at hv
  generalize hu : (e + e - lp).toNat = u
  generalize hv' : (lp - (e + e)).toNat = w
  have h9 : (e - lp).toNat + (e - lp).toNat + w = u + l := by omega
  apply Nat.le_of_mul_le_mul_right (c := 2 ^ l) _ (Nat.two_pow_pos _)
  calc 2 ^ F * 2 ^ w * 2 ^ l = 2 ^ (F + l) * 2 ^ w := by rw [← Nat.pow_add, ← Nat.pow_add, ← Nat.pow_add]; congr 1; omega
    _ ≤ m * m * 2 ^ ((e - lp).toNat + (e - lp).toNat) * 2 ^ w := Nat.mul_le_mul_right _ hv
    _ = m * m * 2 ^ u * 2 ^ l := by rw [Nat.mul_assoc (m * m), ← Nat.pow_add, h9, Nat.pow_add, ← Nat.mul_assoc]
theorem up_add {k : FloatKind} {a b A B : Nat} (ha : Up k.format a A) (hb : Up k.format b B) :
    Up k.format (fadd k a b) 0 ∧ ∀ j : Nat, 2 ^ (k.format.fractionBits + j) ≤ A + B → Up k.format (fadd k a b) (2 ^ (k.format.fractionBits + j)) := by
  unfold fadd op2
  rcases ha with h | ⟨m, i, h1, h2, h3⟩
  · rcases hb with g | ⟨n, l, g1, g2, g3⟩
    · rw [h, g]; exact ⟨up_inf k _, fun _ _ => up_inf k _⟩
    · rw [h, g1]; exact ⟨up_inf k _, fun _ _ => up_inf k _⟩
  · rcases hb with g | ⟨n, l, g1, g2, g3⟩
    · rw [h1, g]; exact ⟨up_inf k _, fun _ _ => up_inf k _⟩
    · rw [h1, g1]
      have hs : (Datum.number false m i).sum (Datum.number false n l) = some (.number false (m * 2 ^ (i - min i l).toNat + n * 2 ^ (l - min i l).toNat) (min i l)) := by
        unfold Datum.sum signed
        simp only [Bool.false_eq_true, if_false, Nat.shiftLeft_eq, Bool.and_self]
        rw [← Int.natCast_add, Int.natAbs_natCast]
        have : decide (((m * 2 ^ (i - min i l).toNat + n * 2 ^ (l - min i l).toNat : Nat) : Int) < 0) = false := decide_eq_false (Int.not_lt.2 (Int.natCast_nonneg _))
        rw [this, ite_self]
      rw [hs]
      show Up k.format (k.format.nearest false _ _) _ ∧ ∀ j, _ → Up k.format (k.format.nearest false _ _) _
      refine ⟨up_zero k _ _, fun j hj => up_nearest k _ _ j ?_⟩
      rw [show (k.format.leastPlace - min i l).toNat = 0 by omega, Nat.pow_zero, Nat.mul_one, Nat.add_mul, units m (by omega) (by omega), units n (by omega) (by omega)]
      omega
theorem rootFrom_gt (n : Nat) : ∀ (todo root : Nat), n < (root + 2 ^ todo) * (root + 2 ^ todo) → n < (Datum.rootFrom n todo root + 1) * (Datum.rootFrom n todo root + 1)
  | 0, root, h => h
  | todo + 1, root, h => by
    unfold Datum.rootFrom
    dsimp only
    rw [Nat.one_shiftLeft]
    split
    · refine rootFrom_gt n todo _ ?_
      rw [Nat.add_assoc, show 2 ^ todo + 2 ^ todo = 2 ^ (todo + 1) by rw [Nat.pow_succ]; omega]; exact h
    · exact rootFrom_gt n todo _ (by omega)
/-- the root of a value -/
theorem up_sqrt {c K : Nat} (h : Up FloatKind.f64.format c K) (hK : 0 < K) (q : Nat) (hq : 2 ^ (2 * q) ≤ K) {j : Nat} (hj : q + 537 = 52 + j) : Up FloatKind.f64.format (fsqrt c) (2 ^ (52 + j)) := by
  unfold fsqrt Format.sqrt
  generalize FloatKind.f64.format.fractionBits + 2 = dg
  rcases h with h | ⟨m', i, h1, h2, h3⟩
  · rw [h]; exact up_inf .f64 _
  · rw [h1]
    rw [lp64] at h2 h3
    have hm0 : m' ≠ 0 := by rintro rfl; rw [Nat.zero_mul] at h3; omega
    unfold Datum.root
    dsimp only
    rw [if_neg hm0, if_neg (by decide)]
    show Up FloatKind.f64.format (FloatKind.f64.format.nearest false _ _) _
    generalize hmore : 2 * dg - m'.log2 + ((i - ((2 * dg - m'.log2 : Nat) : Int)) % 2).toNat = more
    obtain ⟨h, hh⟩ : ∃ h : Int, i - (more : Int) = 2 * h := ⟨(i - (more : Int)) / 2, by omega⟩
    rw [Nat.shiftLeft_eq]
    generalize hn : m' * 2 ^ more = n
    have hnpos : 0 < n := by rw [← hn]; exact Nat.mul_pos (by omega) (Nat.two_pow_pos _)
    have hw := rootFrom_gt n (n.log2 / 2 + 1) 0 (by
      rw [Nat.zero_add, ← Nat.pow_add]
      refine Nat.lt_of_lt_of_le Nat.lt_log2_self (Nat.pow_le_pow_right (by omega) (by omega)))
    generalize Datum.rootFrom n (n.log2 / 2 + 1) 0 = w at *
    have hdiv : (i - (more : Int)) / 2 = h := by omega
    rw [hdiv]
    -- n * 2 ^ u reaches 2 ^ (2 q + v)
    have hn2 : ∀ (u v : Nat), (u : Int) - v = 2 * h + 1074 → 2 ^ (2 * q + v) ≤ n * 2 ^ u := by
      intro u v huv
      rw [← hn, Nat.mul_assoc, ← Nat.pow_add, show more + u = (i + 1074).toNat + v by omega, Nat.pow_add, Nat.pow_add, ← Nat.mul_assoc]
      refine Nat.mul_le_mul_right _ (Nat.le_trans hq ?_)
      rw [show i - -1074 = i + 1074 by omega] at h3
      exact h3
    refine up_nearest .f64 _ _ j ?_
    show 2 ^ (52 + j) * 2 ^ (FloatKind.f64.format.leastPlace - (h - 1)).toNat ≤ _ * 2 ^ ((h - 1) - FloatKind.f64.format.leastPlace).toNat
    rw [lp64]
    generalize hmag : 2 * w + (w * w != n).toNat = mag
    generalize ha : (h - 1 - -1074).toNat = a
    generalize hb : (-1074 - (h - 1)).toNat = b
    obtain ⟨P, hP⟩ : ∃ P : Nat, P = ((q : Int) - 537 - h).toNat := ⟨_, rfl⟩
    have hwP : 2 ^ P ≤ w := by
      by_cases hp : (q : Int) - 537 - h ≤ 0
      · rw [hP, show ((q : Int) - 537 - h).toNat = 0 by omega]
        have : w ≠ 0 := by rintro rfl; omega
        exact Nat.pos_of_ne_zero this
      · have h5 := hn2 (2 * h + 1074).toNat (-(2 * h + 1074)).toNat (by omega)
        rw [show 2 * q + (-(2 * h + 1074)).toNat = 2 * P + (2 * h + 1074).toNat by omega, Nat.pow_add] at h5
        have h6 := Nat.le_of_mul_le_mul_right h5 (Nat.two_pow_pos _)
        have h7 : 2 ^ P * 2 ^ P < (w + 1) * (w + 1) := by
          rw [← Nat.pow_add, show P + P = 2 * P by omega]; exact Nat.lt_of_le_of_lt h6 hw
        have := Nat.mul_self_lt_mul_self_iff.1 h7
        omega
    have h8 : 2 ^ (P + 1) ≤ mag := by rw [Nat.pow_succ]; omega
    refine Nat.le_trans ?_ (Nat.mul_le_mul_right _ h8)
    rw [← Nat.pow_add, ← Nat.pow_add]
    exact Nat.pow_le_pow_right (by omega) (by omega)
/-- what is narrowed -/
theorem up_narrow {c : Nat} (j : Nat) (h : Up FloatKind.f64.format c (2 ^ (925 + (23 + j)))) : Up FloatKind.f32.format (narrow c) (2 ^ (23 + j)) := by
  rcases h with h | ⟨m, e, h1, h2, h3⟩
  · have hn : isNaN .f64 c = false := by unfold isNaN; rw [h]; rfl
    have hw : narrow c = FloatKind.f32.format.word false FloatKind.f32.format.infRung := by
      show (if isNaN .f64 c = true then nan .f32 else FloatKind.f32.encode (FloatKind.f64.format.read c)) = _
      rw [hn, h]
      exact if_neg (by decide)
    rw [hw]
    exact .inl (read_inf_word .f32 false)
  · rw [narrow_number h1]
    rw [lp64] at h2 h3
    have e1 : FloatKind.f32.format.leastPlace = -149 := by decide
    refine up_nearest .f32 m e j ?_
    show 2 ^ (23 + j) * 2 ^ (FloatKind.f32.format.leastPlace - e).toNat ≤ m * 2 ^ (e - FloatKind.f32.format.leastPlace).toNat
    rw [e1]
    obtain ⟨K, hK⟩ : ∃ K : Nat, K = 925 := ⟨_, rfl⟩
    rw [← hK] at h3
    have h9 : (e - -1074).toNat + (-149 - e).toNat = (e - -149).toNat + K := by omega
    apply Nat.le_of_mul_le_mul_right (c := 2 ^ K) _ (Nat.two_pow_pos _)
    calc 2 ^ (23 + j) * 2 ^ (-149 - e).toNat * 2 ^ K = 2 ^ (K + (23 + j)) * 2 ^ (-149 - e).toNat := by rw [← Nat.pow_add, ← Nat.pow_add, ← Nat.pow_add]; congr 1; omega
      _ ≤ m * 2 ^ (e - -1074).toNat * 2 ^ (-149 - e).toNat := Nat.mul_le_mul_right _ h3
      _ = m * 2 ^ (e - -149).toNat * 2 ^ K := by rw [Nat.mul_assoc, ← Nat.pow_add, h9, Nat.pow_add, ← Nat.mul_assoc]
/-- the root of a float32, narrowed -/
theorem up_root {s t : Nat} (h : Up FloatKind.f32.format s (2 ^ t)) (j q : Nat) (hq : 2 * q ≤ t + 925) (hj : 23 + j + 388 = q) : Up FloatKind.f32.format (narrow (fsqrt (widen s))) (2 ^ (23 + j)) := by
  have e1 : FloatKind.f32.format.leastPlace = -149 := by decide
  refine up_narrow j ?_
  have h5 : Up FloatKind.f64.format (widen s) (2 ^ (t + 925)) := by
    rcases h with h | ⟨m, e, h1, h2, h3⟩
    · exact .inl (read_inf32 h)
    · obtain ⟨m', e', g1, g2, g3⟩ := widen_ex h1
      refine .inr ⟨m', e', g1, g2, ?_⟩
      rw [g3]
      rw [e1] at h2 h3
      obtain ⟨K, hK⟩ : ∃ K : Nat, K = 925 := ⟨_, rfl⟩
      rw [show (e + 1074).toNat = (e - -149).toNat + 925 by omega, ← hK, Nat.pow_add, Nat.pow_add, ← Nat.mul_assoc]
      exact Nat.mul_le_mul_right _ h3
  have h6 := up_sqrt h5 (Nat.two_pow_pos _) q (Nat.pow_le_pow_right (by omega) hq) (j := 885 + (23 + j) - 12) (by omega)
  rw [show 52 + (885 + (23 + j) - 12) = 925 + (23 + j) by omega] at h6
  exact h6
theorem fin32_of_number {x : Nat} (h : ∃ s m e, FloatKind.f32.format.read x = .number s m e) : feq .f32 (fsub .f32 x x) 0 = true := by
  rw [← fin_widen]
  obtain ⟨s, m, e, h⟩ := h
  have hx := widen_ex (show FloatKind.f32.decode x = .number s m e from h)
  have hx' := hx
  obtain ⟨m', e', g1, g2, g3⟩ := hx
  exact fin64_of_number g1 ⟨_, hx'⟩
/-- a finite number by a finite root that is no smaller than it, or not too small -/
theorem quot_fin {x n : Nat} (hx : feq .f32 (fsub .f32 x x) 0 = true) (hn : feq .f32 (fsub .f32 n n) 0 = true) {A B : Nat} (ha : Mg FloatKind.f32.format x (2 ^ A)) (hb : Up FloatKind.f32.format n (2 ^ B)) (h : A + 149 ≤ 276 + B) : feq .f32 (fsub .f32 (fdiv .f32 x n) (fdiv .f32 x n)) 0 = true := by
  have e1 : FloatKind.f32.format.leastPlace = -149 := by decide
  have hb' : Ml FloatKind.f32.format n (2 ^ B) := by
    rcases hb with h | ⟨m, e, h1, h2, h3⟩
    · obtain ⟨s, m, e, d⟩ := fin32 hn
      have d' : FloatKind.f32.format.read n = .number s m e := d
      rw [h] at d'; cases d'
    · exact ⟨false, m, e, h1, h2, h3⟩
  obtain ⟨N, hN⟩ : ∃ N : Nat, N = 276 := ⟨_, rfl⟩
  have hr : rv FloatKind.f32.format ((253 + 1) * FloatKind.f32.format.binade) = 2 ^ N := by
    rw [rv_binade, hN]; congr 1
  have := mg_div (k := .f32) (N := N) (R := (253 + 1) * FloatKind.f32.format.binade) ha hb' (Nat.two_pow_pos _) (by
    rw [show (-FloatKind.f32.format.leastPlace).toNat = 149 by rw [e1]; rfl, ← Nat.pow_add, ← Nat.pow_add]
    exact Nat.pow_le_pow_right (by omega) (by omega)) (Nat.le_of_eq hr.symm) (by decide) (by decide)
  obtain ⟨s, m, e, h1, _⟩ := this
  exact fin32_of_number ⟨s, m, e, h1⟩
end Go.Ab
namespace Go.Proofs
open Go.Ab Ieee
theorem root_zero {s : Nat} (h : Up FloatKind.f32.format s 0) : feq .f32 (narrow (fsqrt (widen s))) 0 = true ∨ Up FloatKind.f32.format s (2 ^ 0) := by
  rcases h with h | ⟨m, e, h1, h2, _⟩
  · exact .inr (.inl h)
  · rcases Nat.eq_zero_or_pos m with hm | hm
    · left
      subst hm
      obtain ⟨m', e', g1, g2, g3⟩ := widen_ex h1
      have hm' : m' = 0 := by
        rw [Nat.zero_mul] at g3
        rcases Nat.mul_eq_zero.1 g3 with h | h
        · exact h
        · have := Nat.two_pow_pos (e' - FloatKind.f64.format.leastPlace).toNat; omega
      subst hm'
      have hq : fsqrt (widen s) = 0 := by
        unfold fsqrt Format.sqrt
        rw [g1]
        generalize FloatKind.f64.format.fractionBits + 2 = dg
        unfold Datum.root
        dsimp only
        rw [if_pos rfl]
        show FloatKind.f64.format.nearest false 0 e' = 0
        unfold Format.nearest
        rw [if_pos rfl]; decide
      rw [hq]; decide
    · right
      exact .inr ⟨m, e, h1, h2, Nat.mul_pos hm (Nat.two_pow_pos _)⟩
def Fin4 (t : Nat × Nat × Nat × Nat) : Prop := feq .f32 (fsub .f32 t.1 t.1) 0 = true ∧ feq .f32 (fsub .f32 t.2.1 t.2.1) 0 = true ∧ feq .f32 (fsub .f32 t.2.2.1 t.2.2.1) 0 = true ∧ feq .f32 (fsub .f32 t.2.2.2 t.2.2.2) 0 = true
theorem mend_fin {t : Nat × Nat × Nat × Nat} (ht : Fin4 t) : Fin4 (m_impl_MendTurn t) := by
  obtain ⟨a, b, c, d⟩ := t
  obtain ⟨ha, hb, hc, hd⟩ := ht
  unfold m_impl_MendTurn
  by_cases hl : m_impl_isLength (m_impl_LengthOfTurn (a, b, c, d)) = true
  · rw [if_pos hl]
    unfold m_impl_isLength at hl
    obtain ⟨hf, hz⟩ := and_of hl
    replace hf : feq .f32 (fsub .f32 (m_impl_LengthOfTurn (a, b, c, d)) (m_impl_LengthOfTurn (a, b, c, d))) 0 = true := hf
    have hn : m_impl_LengthOfTurn (a, b, c, d) = narrow (fsqrt (widen (fadd .f32 (fadd .f32 (fadd .f32 (fmul .f32 a a) (fmul .f32 b b)) (fmul .f32 c c)) (fmul .f32 d d)))) := rfl
    generalize m_impl_LengthOfTurn (a, b, c, d) = n at *
    have fb : FloatKind.f32.format.fractionBits = 23 := by decide
    obtain ⟨sa, ma, ea, da⟩ := fin32 ha
    obtain ⟨sb, mb, eb, db⟩ := fin32 hb
    obtain ⟨sc, mc, ec, dc⟩ := fin32 hc
    obtain ⟨sd, md, ed, dd⟩ := fin32 hd
    obtain ⟨a0, a1⟩ := up_square (k := .f32) (ex32 da)
    obtain ⟨b0, b1⟩ := up_square (k := .f32) (ex32 db)
    obtain ⟨c0, c1⟩ := up_square (k := .f32) (ex32 dc)
    obtain ⟨d0, d1⟩ := up_square (k := .f32) (ex32 dd)
    have hI : Up FloatKind.f32.format (fadd .f32 (fadd .f32 (fadd .f32 (fmul .f32 a a) (fmul .f32 b b)) (fmul .f32 c c)) (fmul .f32 d d)) 0 :=
      (up_add (k := .f32) (up_add (k := .f32) (up_add (k := .f32) a0 b0).1 c0).1 d0).1
    have hsmall : Up FloatKind.f32.format n (2 ^ 74) := by
      rcases root_zero hI with h | h
      · rw [← hn] at h; rw [h] at hz; cases hz
      · rw [hn]; exact up_root h 51 462 (by omega) (by omega)
    -- any great square makes the length great
    have hbig : ∀ j, j = 230 → (Up FloatKind.f32.format (fmul .f32 a a) (2 ^ (FloatKind.f32.format.fractionBits + j)) ∨ Up FloatKind.f32.format (fmul .f32 b b) (2 ^ (FloatKind.f32.format.fractionBits + j)) ∨ Up FloatKind.f32.format (fmul .f32 c c) (2 ^ (FloatKind.f32.format.fractionBits + j)) ∨ Up FloatKind.f32.format (fmul .f32 d d) (2 ^ (FloatKind.f32.format.fractionBits + j))) →
        Up FloatKind.f32.format n (2 ^ (23 + 178)) := by
      intro j hj h
      have hI2 : Up FloatKind.f32.format (fadd .f32 (fadd .f32 (fadd .f32 (fmul .f32 a a) (fmul .f32 b b)) (fmul .f32 c c)) (fmul .f32 d d)) (2 ^ (FloatKind.f32.format.fractionBits + j)) := by
        rcases h with h | h | h | h
        · exact (up_add (k := .f32) ((up_add (k := .f32) ((up_add (k := .f32) h b0).2 j (Nat.le_refl _)) c0).2 j (Nat.le_refl _)) d0).2 j (Nat.le_refl _)
        · exact (up_add (k := .f32) ((up_add (k := .f32) ((up_add (k := .f32) a0 h).2 j (by rw [Nat.zero_add]; exact Nat.le_refl _)) c0).2 j (Nat.le_refl _)) d0).2 j (Nat.le_refl _)
        · exact (up_add (k := .f32) ((up_add (k := .f32) (up_add (k := .f32) a0 b0).1 h).2 j (by rw [Nat.zero_add]; exact Nat.le_refl _)) d0).2 j (Nat.le_refl _)
        · exact (up_add (k := .f32) (up_add (k := .f32) (up_add (k := .f32) a0 b0).1 c0).1 h).2 j (by rw [Nat.zero_add]; exact Nat.le_refl _)
      rw [hn]
      rw [fb] at hI2
      exact up_root hI2 178 589 (by omega) (by omega)
    have key : ∀ {x : Nat} {s : Bool} {m : Nat} {e : Int}, FloatKind.f32.decode x = .number s m e → feq .f32 (fsub .f32 x x) 0 = true →
        (∀ j l : Nat, (l : Int) = -FloatKind.f32.format.leastPlace → 2 ^ (FloatKind.f32.format.fractionBits + j + l) ≤ m * 2 ^ (e + 149).toNat * (m * 2 ^ (e + 149).toNat) → Up FloatKind.f32.format (fmul .f32 x x) (2 ^ (FloatKind.f32.format.fractionBits + j))) →
        (∀ j, j = 230 → Up FloatKind.f32.format (fmul .f32 x x) (2 ^ (FloatKind.f32.format.fractionBits + j)) → Up FloatKind.f32.format n (2 ^ (23 + 178))) →
        feq .f32 (fsub .f32 (fdiv .f32 x n) (fdiv .f32 x n)) 0 = true := by
      intro x s m e dx fx hsq hup
      obtain ⟨q1, q2, q3⟩ := read_f32_number dx
      by_cases hle : ∀ A : Nat, A = 201 → m * 2 ^ (e + 149).toNat ≤ 2 ^ A
      · exact quot_fin fx hf (A := 201) (B := 74) ((ex32 dx).ms.mg.mono (hle 201 rfl)) hsmall (by omega)
      · obtain ⟨A, hA, hgt⟩ : ∃ A : Nat, A = 201 ∧ 2 ^ A < m * 2 ^ (e + 149).toNat := by
          by_cases hq : m * 2 ^ (e + 149).toNat ≤ 2 ^ (201 : Nat)
          · exact absurd (fun A hA => by rw [hA]; exact hq) hle
          · obtain ⟨A, hA⟩ : ∃ A : Nat, A = 201 := ⟨_, rfl⟩
            exact ⟨A, hA, by rw [← hA] at hq; omega⟩
        obtain ⟨j, hj⟩ : ∃ j : Nat, j = 230 := ⟨_, rfl⟩
        have hup' := hup j hj (hsq j 149 (by decide) (by
          refine Nat.le_trans ?_ (Nat.mul_le_mul (Nat.le_of_lt hgt) (Nat.le_of_lt hgt))
          rw [← Nat.pow_add, fb]
          exact Nat.pow_le_pow_right (by omega) (by omega)))
        obtain ⟨B, hB⟩ : ∃ B : Nat, B = 277 := ⟨_, rfl⟩
        refine quot_fin fx hf (A := B) (B := 23 + 178) ((ex32 dx).ms.mg.mono ?_) hup' (by omega)
        refine Nat.le_trans (Nat.mul_le_mul_right _ (Nat.le_of_lt q1)) ?_
        rw [← Nat.pow_add]
        exact Nat.pow_le_pow_right (by omega) (by omega)
    exact ⟨key da ha a1 fun j hj h => hbig j hj (.inl h), key db hb b1 fun j hj h => hbig j hj (.inr (.inl h)), key dc hc c1 fun j hj h => hbig j hj (.inr (.inr (.inl h))), key dd hd d1 fun j hj h => hbig j hj (.inr (.inr (.inr h)))⟩
  · rw [if_neg hl]
    exact ⟨by decide, by decide, by decide, by decide⟩
theorem fin_self {x : Nat} (h : feq .f32 (fsub .f32 x x) 0 = true) : feq .f32 x x = true := by
  obtain ⟨s, m, e, d⟩ := fin32 h
  rw [feq_self_iff]
  have : isNaN .f32 x = false := by unfold isNaN; show (FloatKind.f32.decode x).isNaN = false; rw [d]; rfl
  rw [this]; rfl
theorem fin_neg {x : Nat} (h : feq .f32 (fsub .f32 x x) 0 = true) : feq .f32 (fsub .f32 (fneg .f32 x) (fneg .f32 x)) 0 = true := by
  obtain ⟨s, m, e, d⟩ := fin32 h
  exact fin_of_number (fneg_number d)
theorem mend_canon (t : Nat × Nat × Nat × Nat) : Canon .f32 (m_impl_MendTurn t).1 ∧ Canon .f32 (m_impl_MendTurn t).2.1 ∧ Canon .f32 (m_impl_MendTurn t).2.2.1 ∧ Canon .f32 (m_impl_MendTurn t).2.2.2 := by
  unfold m_impl_MendTurn
  split
  · exact ⟨(good_quotient _).canon _ _, (good_quotient _).canon _ _, (good_quotient _).canon _ _, (good_quotient _).canon _ _⟩
  · exact ⟨⟨by decide, by decide⟩, ⟨by decide, by decide⟩, ⟨by decide, by decide⟩, ⟨by decide, by decide⟩⟩
end Go.Proofs
namespace Go.Proofs
open Go.Ab
theorem turnRange : m_impl_isRange 3208642560 1061158912 = true := by decide
def packStep (c : Nat × Nat × Nat × Nat) (z i : Int) : Int := if (flt .f32 (m_impl_size (atI [c.1, c.2.1, c.2.2.1, c.2.2.2] z)) (m_impl_size (atI [c.1, c.2.1, c.2.2.1, c.2.2.2] i))) = true then i else z
def packSign (c : Nat × Nat × Nat × Nat) (b i : Int) : Nat := if (flt .f32 (atI [c.1, c.2.1, c.2.2.1, c.2.2.2] b) 0) = true then fneg .f32 (atI [c.1, c.2.1, c.2.2.1, c.2.2.2] i) else atI [c.1, c.2.1, c.2.2.1, c.2.2.2] i
def packCode (c : Nat × Nat × Nat × Nat) (bits b acc i : Int) : Int := if (decide (i = b)) = true then acc else IntKind.wrap .i64 (IntKind.wrap .i64 (acc * m_impl_codes bits) + m_impl_codeOf (packSign c b i) 3208642560 1061158912 bits)
theorem at_four {P : Nat → Prop} {c : Nat × Nat × Nat × Nat} (h1 : P c.1) (h2 : P c.2.1) (h3 : P c.2.2.1) (h4 : P c.2.2.2) {i : Int} (h0 : 0 ≤ i) (hi : i < 4) : P (atI [c.1, c.2.1, c.2.2.1, c.2.2.2] i) := by
  have : i = 0 ∨ i = 1 ∨ i = 2 ∨ i = 3 := by omega
  rcases this with rfl | rfl | rfl | rfl
  · exact h1
  · exact h2
  · exact h3
  · exact h4
theorem packStep_in {c : Nat × Nat × Nat × Nat} {z i : Int} (hz : 0 ≤ z ∧ z < 4) (hi : 0 ≤ i ∧ i < 4) : 0 ≤ packStep c z i ∧ packStep c z i < 4 := by unfold packStep; split <;> assumption
section
variable {t : Nat × Nat × Nat × Nat} {b : Int} (ht : Fin4 t) (h1 : 2 ≤ b) (h2 : b ≤ 16)
include ht
theorem impl_step {n : Nat} {z i : Int} (hz : 0 ≤ z ∧ z < 4) (hi : 0 ≤ i ∧ i < 4) : l_impl_PackTurn_0 t b (n + 1) z i = l_impl_PackTurn_0 t b n (packStep (m_impl_MendTurn t) z i) (IntKind.wrap .i64 (i + 1)) := by
  obtain ⟨f1, f2, f3, f4⟩ := mend_fin ht
  obtain ⟨c1, c2, c3, c4⟩ := mend_canon t
  have hc : ∀ j : Int, 0 ≤ j → j < 4 → p_impl_size (atI [(m_impl_MendTurn t).1, (m_impl_MendTurn t).2.1, (m_impl_MendTurn t).2.2.1, (m_impl_MendTurn t).2.2.2] j) = true := fun j a e => (size_all (at_four c1 c2 c3 c4 a e)).2.1
  have hf : m_impl_IsFinite (atI [(m_impl_MendTurn t).1, (m_impl_MendTurn t).2.1, (m_impl_MendTurn t).2.2.1, (m_impl_MendTurn t).2.2.2] i) = true := at_four (P := fun x => m_impl_IsFinite x = true) f1 f2 f3 f4 hi.1 hi.2
  rw [l_impl_PackTurn_0]
  have e0 : v_impl_PackTurn_0 t z = atI [(m_impl_MendTurn t).1, (m_impl_MendTurn t).2.1, (m_impl_MendTurn t).2.2.1, (m_impl_MendTurn t).2.2.2] z := rfl
  have e1 : v_impl_PackTurn_1 t i = atI [(m_impl_MendTurn t).1, (m_impl_MendTurn t).2.1, (m_impl_MendTurn t).2.2.1, (m_impl_MendTurn t).2.2.2] i := rfl
  have i1 : inB i 4 = true := by unfold inB; simp; omega
  have i2 : inB z 4 = true := by unfold inB; simp; omega
  rw [e0, e1, hf, hc _ hi.1 hi.2, hc _ hz.1 hz.2, i1, i2, decide_eq_true hi.2]
  rfl
omit ht in
theorem spec_step {n : Nat} {z i : Int} (hz : 0 ≤ z ∧ z < 4) (hi : 0 ≤ i ∧ i < 4) : l_spec_l06Pack_0 t b (n + 1) z i = l_spec_l06Pack_0 t b n (packStep (m_impl_MendTurn t) z i) (IntKind.wrap .i64 (i + 1)) := by
  obtain ⟨c1, c2, c3, c4⟩ := mend_canon t
  have hc : ∀ j : Int, 0 ≤ j → j < 4 → p_spec_l02Size (atI [(m_impl_MendTurn t).1, (m_impl_MendTurn t).2.1, (m_impl_MendTurn t).2.2.1, (m_impl_MendTurn t).2.2.2] j) = true := fun j a e => (size_all (at_four c1 c2 c3 c4 a e)).2.2
  have hs : ∀ j : Int, 0 ≤ j → j < 4 → m_spec_l02Size (atI [(m_impl_MendTurn t).1, (m_impl_MendTurn t).2.1, (m_impl_MendTurn t).2.2.1, (m_impl_MendTurn t).2.2.2] j) = m_impl_size (atI [(m_impl_MendTurn t).1, (m_impl_MendTurn t).2.1, (m_impl_MendTurn t).2.2.1, (m_impl_MendTurn t).2.2.2] j) := fun j a e => (size_all (at_four c1 c2 c3 c4 a e)).1
  rw [l_spec_l06Pack_0]
  unfold v_spec_l06Pack_0
  rw [← (mend_eq t).1]
  have e0 : ∀ j, atI (m_spec_l06List (m_impl_MendTurn t)) j = atI [(m_impl_MendTurn t).1, (m_impl_MendTurn t).2.1, (m_impl_MendTurn t).2.2.1, (m_impl_MendTurn t).2.2.2] j := fun _ => rfl
  have e1 : List.length (m_spec_l06List (m_impl_MendTurn t)) = 4 := rfl
  have i1 : inB i 4 = true := by unfold inB; simp; omega
  have i2 : inB z 4 = true := by unfold inB; simp; omega
  rw [e0, e0, e1, hc _ hi.1 hi.2, hc _ hz.1 hz.2, hs _ hi.1 hi.2, hs _ hz.1 hz.2, i1, i2, decide_eq_true hi.2]
  rfl
theorem best_eq : ∃ z : Int, 0 ≤ z ∧ z < 4 ∧ l_impl_PackTurn_0 t b 6 0 0 = some (false, default, z) ∧ l_spec_l06Pack_0 t b 5 0 1 = some z := by
  have a1 : 0 ≤ (0 : Int) ∧ (0 : Int) < 4 := by omega
  have a2 : packStep (m_impl_MendTurn t) 0 0 = 0 := by unfold packStep; split <;> rfl
  have a3 := packStep_in (c := m_impl_MendTurn t) a1 (i := 1) (by omega)
  have a4 := packStep_in (c := m_impl_MendTurn t) a3 (i := 2) (by omega)
  have a5 := packStep_in (c := m_impl_MendTurn t) a4 (i := 3) (by omega)
  refine ⟨_, a5.1, a5.2, ?_, ?_⟩
  · rw [impl_step ht a1 a1, a2, show IntKind.wrap .i64 (0 + 1) = 1 by decide, impl_step ht a1 (by omega), show IntKind.wrap .i64 (1 + 1) = 2 by decide, impl_step ht a3 (by omega), show IntKind.wrap .i64 (2 + 1) = 3 by decide, impl_step ht a4 (by omega), show IntKind.wrap .i64 (3 + 1) = 4 by decide]
    rfl
  · rw [spec_step a1 (by omega), show IntKind.wrap .i64 (1 + 1) = 2 by decide, spec_step a3 (by omega), show IntKind.wrap .i64 (2 + 1) = 3 by decide, spec_step a4 (by omega), show IntKind.wrap .i64 (3 + 1) = 4 by decide]
    rfl
include h1 h2
theorem packCode_ok {z i : Int} (hi : 0 ≤ i ∧ i < 4) : p_impl_codeOf (packSign (m_impl_MendTurn t) z i) 3208642560 1061158912 b = true ∧ p_spec_l06Code (packSign (m_impl_MendTurn t) z i) 3208642560 1061158912 b = true ∧ m_spec_l06Code (packSign (m_impl_MendTurn t) z i) 3208642560 1061158912 b = m_impl_codeOf (packSign (m_impl_MendTurn t) z i) 3208642560 1061158912 b := by
  obtain ⟨f1, f2, f3, f4⟩ := mend_fin ht
  have hf := at_four (P := fun x => feq .f32 (fsub .f32 x x) 0 = true) f1 f2 f3 f4 hi.1 hi.2
  refine codeOf_ok ?_ turnRange h1 h2
  unfold packSign
  split
  · exact fin_self (fin_neg hf)
  · exact fin_self hf
theorem impl_code {n : Nat} {z i acc : Int} (hb : Option.getD (l_impl_PackTurn_0 t b 6 0 0) default = (false, default, z)) (hz : 0 ≤ z ∧ z < 4) (hi : 0 ≤ i ∧ i < 4) : l_impl_PackTurn_1 t b (n + 1) acc i = l_impl_PackTurn_1 t b n (packCode (m_impl_MendTurn t) b z acc i) (IntKind.wrap .i64 (i + 1)) := by
  rw [l_impl_PackTurn_1]
  unfold v_impl_PackTurn_8 v_impl_PackTurn_7 v_impl_PackTurn_2
  rw [hb]
  have e0 : (if (flt .f32 (atI [(m_impl_Turn_numbers (m_impl_MendTurn t)).1, (m_impl_Turn_numbers (m_impl_MendTurn t)).2.1, (m_impl_Turn_numbers (m_impl_MendTurn t)).2.2.1, (m_impl_Turn_numbers (m_impl_MendTurn t)).2.2.2] z) 0) = true then (fneg .f32 (v_impl_PackTurn_6 t i)) else (v_impl_PackTurn_6 t i)) = packSign (m_impl_MendTurn t) z i := rfl
  have i1 : inB i 4 = true := by unfold inB; simp; omega
  have hp : p_impl_codes b = true := by unfold p_impl_codes; simp; omega
  dsimp only
  rw [e0, (packCode_ok ht h1 h2 hi).1, i1, hp, decide_eq_true hi.2, Bool.and_self, Bool.or_true]
  rfl
theorem spec_code {n : Nat} {z i acc : Int} (hb : Option.getD (l_spec_l06Pack_0 t b 5 0 1) default = z) (hz : 0 ≤ z ∧ z < 4) (hi : 0 ≤ i ∧ i < 4) : l_spec_l06Pack_1 t b (n + 1) acc i = l_spec_l06Pack_1 t b n (packCode (m_impl_MendTurn t) b z acc i) (IntKind.wrap .i64 (i + 1)) := by
  obtain ⟨k, k1, k2, k3, k4, k5, k6⟩ := codes_ok h1 h2
  have hc : m_impl_codes b = k := by unfold m_impl_codes; exact k3
  have hpow : (2 : Int) ^ (min (IntKind.wrap .u64 b).toNat 64) = (k : Int) := by
    rw [k4, Nat.min_eq_left (by omega), k6]; exact_mod_cast rfl
  rw [l_spec_l06Pack_1]
  unfold v_spec_l06Pack_5 v_spec_l06Pack_4
  rw [hb, ← (mend_eq t).1]
  have e1 : List.length (m_spec_l06List (m_impl_MendTurn t)) = 4 := rfl
  have e0 : (if (flt .f32 (atI (m_spec_l06List (m_impl_MendTurn t)) z) 0) = true then (fneg .f32 (atI (m_spec_l06List (m_impl_MendTurn t)) i)) else (atI (m_spec_l06List (m_impl_MendTurn t)) i)) = packSign (m_impl_MendTurn t) z i := rfl
  have i1 : inB i 4 = true := by unfold inB; simp; omega
  have i2 : inB z 4 = true := by unfold inB; simp; omega
  obtain ⟨g1, g2, g3⟩ := packCode_ok ht h1 h2 (z := z) hi
  rw [e0, g2, g3, e1, i1, i2, hpow, ← hc, decide_eq_true hi.2, Bool.and_true, k4, decide_eq_true (show 0 ≤ b by omega), Bool.or_true]
  rfl
theorem pack_all : ∃ r, Option.getD (l_impl_PackTurn_0 t b 6 0 0) default = (false, default, Option.getD (l_spec_l06Pack_0 t b 5 0 1) default) ∧ (l_impl_PackTurn_0 t b 6 0 0).isSome = true ∧ (l_spec_l06Pack_0 t b 5 0 1).isSome = true ∧ inB (Option.getD (l_spec_l06Pack_0 t b 5 0 1) default) 4 = true ∧
    l_impl_PackTurn_1 t b 6 (Option.getD (l_spec_l06Pack_0 t b 5 0 1) default) 0 = some r ∧ l_spec_l06Pack_1 t b 6 (Option.getD (l_spec_l06Pack_0 t b 5 0 1) default) 0 = some r := by
  obtain ⟨z, hz1, hz2, e1, e2⟩ := best_eq (b := b) ht
  have g1 : Option.getD (l_impl_PackTurn_0 t b 6 0 0) default = (false, default, z) := by rw [e1]; rfl
  have g2 : Option.getD (l_spec_l06Pack_0 t b 5 0 1) default = z := by rw [e2]; rfl
  have hz := And.intro hz1 hz2
  let C := m_impl_MendTurn t
  refine ⟨packCode C b z (packCode C b z (packCode C b z (packCode C b z z 0) 1) 2) 3, by rw [g1, g2], by rw [e1]; rfl, by rw [e2]; rfl, by rw [g2]; unfold inB; simp; omega, ?_, ?_⟩
  rotate_left
  · rw [g2]
    rw [spec_code ht h1 h2 g2 hz (by omega), show IntKind.wrap .i64 (0 + 1) = 1 by decide, spec_code ht h1 h2 g2 hz (by omega), show IntKind.wrap .i64 (1 + 1) = 2 by decide, spec_code ht h1 h2 g2 hz (by omega), show IntKind.wrap .i64 (2 + 1) = 3 by decide, spec_code ht h1 h2 g2 hz (by omega), show IntKind.wrap .i64 (3 + 1) = 4 by decide]
    rfl
  · rw [g2]
    rw [impl_code ht h1 h2 g1 hz (by omega), show IntKind.wrap .i64 (0 + 1) = 1 by decide, impl_code ht h1 h2 g1 hz (by omega), show IntKind.wrap .i64 (1 + 1) = 2 by decide, impl_code ht h1 h2 g1 hz (by omega), show IntKind.wrap .i64 (2 + 1) = 3 by decide, impl_code ht h1 h2 g1 hz (by omega), show IntKind.wrap .i64 (3 + 1) = 4 by decide]
    rfl
end
theorem fin_turn (t : Nat × Nat × Nat × Nat) : m_spec_l06Turn t = m_impl_areFinite t ∧ (m_impl_areFinite t = true → Fin4 t) := by
  refine ⟨rfl, fun h => ?_⟩
  unfold m_impl_areFinite at h
  obtain ⟨a1, h⟩ := and_of h
  obtain ⟨a2, h⟩ := and_of h
  obtain ⟨a3, h⟩ := and_of h
  exact ⟨a1, a2, a3, h⟩
end Go.Proofs
namespace Go.Proofs
open Go.Ab
def l_spec_BytesOfWords_0 (x0 : (List Int)) (x1 : (List Int)) : Nat → Int → Option (Bool × ((List UInt8) × Bool) × Unit)
  | 0, _ => none
  | n + 1, z0_0 => (if (decide (z0_0 < ((List.length x0 : Nat) : Int))) = true then (need (inB z0_0 (List.length x0)) (need (inB z0_0 (List.length x1)) (need (decide (0 ≤ (IntKind.wrap .u64 (atI x1 z0_0)))) (if (m_spec_l00In (atI x0 z0_0) 0 (IntKind.wrap .i64 ((IntKind.wrap .i64 (1 * 2 ^ (min ((IntKind.wrap .u64 (atI x1 z0_0)) : Int).toNat 64))) - 1))) = true then (l_spec_BytesOfWords_0 x0 x1 n (IntKind.wrap .i64 (z0_0 + 1))) else (some (true, (([] : List UInt8), false), default)))))) else (some (false, default, ())))
end Go.Proofs
namespace Go.Proofs
open Go.Ab
/-- sizes of codes: at most 512, each 1 .. 62 -/
def Szs (y : List Int) : Prop := y.length ≤ 512 ∧ ∀ j : Nat, j < y.length → 1 ≤ y.getD j default ∧ y.getD j default ≤ 62
end Go.Proofs
namespace Go.Proofs
open Go.Ab
/-- one bit more -/
def bwPut (w : Nat) (out : List Int) (used bit : Nat) : List Int :=
  let o := if used % 8 = 0 then out ++ [0] else out
  if w / 2 ^ bit % 2 = 1 then o.set (used / 8) (bitop .or .u8 (o.getD (used / 8) default) ((128 / 2 ^ (used % 8) : Nat) : Int)) else o
/-- so many bits in the bytes -/
def Bw (out : List Int) (used : Nat) : Prop := out.length = (used + 7) / 8 ∧ used ≤ 40000 ∧ ∀ e ∈ out, 0 ≤ e ∧ e < 256
theorem or_range (x y : Int) : 0 ≤ bitop .or .u8 x y ∧ bitop .or .u8 x y < 256 := by
  unfold bitop
  show 0 ≤ IntKind.wrap .u8 _ ∧ IntKind.wrap .u8 _ < 256
  generalize (((BitVec.ofInt (IntKind.bits .u8) x ||| BitVec.ofInt (IntKind.bits .u8) y).toNat : Nat) : Int) = v
  have h : IntKind.wrap .u8 v = v % 256 := by
    unfold IntKind.wrap
    simp only [IntKind.bits, IntKind.signed]
    simp
  rw [h]; omega
theorem or_zero {x : Int} (h0 : 0 ≤ x) (h : x < 256) : bitop .or .u8 x 0 = x := by
  unfold bitop
  show IntKind.wrap .u8 (((BitVec.ofInt 8 x ||| BitVec.ofInt 8 0).toNat : Nat) : Int) = x
  have e : BitVec.ofInt 8 x ||| BitVec.ofInt 8 0 = BitVec.ofInt 8 x := by
    rw [show BitVec.ofInt 8 0 = 0#8 by decide, BitVec.or_zero]
  rw [e, BitVec.toNat_ofInt]
  have h : ∀ v : Int, IntKind.wrap .u8 v = v % 256 := by
    intro v
    unfold IntKind.wrap
    simp only [IntKind.bits, IntKind.signed]
    simp
  rw [h]
  omega
theorem bwPut_ok {w : Nat} {out : List Int} {used bit : Nat} (h : Bw out used) (hu : used < 40000) : Bw (bwPut w out used bit) (used + 1) := by
  obtain ⟨h1, h2, h3⟩ := h
  unfold bwPut
  have ho : (if used % 8 = 0 then out ++ [0] else out).length = (used + 1 + 7) / 8 ∧ ∀ e ∈ (if used % 8 = 0 then out ++ [0] else out), 0 ≤ e ∧ e < 256 := by
    by_cases hr : used % 8 = 0
    · rw [if_pos hr, List.length_append, h1]
      refine ⟨by simp; omega, fun e he => ?_⟩
      rcases List.mem_append.1 he with h | h
      · exact h3 e h
      · rw [List.mem_singleton.1 h]; omega
    · rw [if_neg hr, h1]
      exact ⟨by omega, h3⟩
  generalize (if used % 8 = 0 then out ++ [0] else out) = o at *
  dsimp only
  split
  · refine ⟨by rw [List.length_set]; exact ho.1, by omega, fun e he => ?_⟩
    rcases List.mem_or_eq_of_mem_set he with h | h
    · exact ho.2 e h
    · rw [h]; exact or_range _ _
  · exact ⟨ho.1, by omega, ho.2⟩
theorem fdiv_nat' (a n : Nat) : Int.fdiv (a : Int) (2 ^ n) = ((a / 2 ^ n : Nat) : Int) := by
  rw [Int.fdiv_eq_ediv_of_nonneg _ (by exact_mod_cast Nat.zero_le (2 ^ n))]
  exact_mod_cast rfl
theorem tmod8 (a : Nat) : Int.tmod (a : Int) 8 = ((a % 8 : Nat) : Int) := by
  rw [Int.tmod_eq_emod_of_nonneg (by omega)]
  exact_mod_cast rfl
theorem tdiv8 (a : Nat) : Int.tdiv (a : Int) 8 = ((a / 8 : Nat) : Int) := by
  rw [Int.tdiv_eq_ediv_of_nonneg (by omega)]
  exact_mod_cast rfl
theorem bit_one {w bit : Nat} (hw : w < 2 ^ 62) (hb : bit ≤ 61) : bitop .and .i64 (Int.fdiv (w : Int) (2 ^ (min bit 64))) 1 = ((w / 2 ^ bit % 2 : Nat) : Int) := by
  rw [Nat.min_eq_left (by omega), fdiv_nat']
  have := bit_and_mask (n := w / 2 ^ bit) (k := 1) (Nat.lt_of_le_of_lt (Nat.div_le_self _ _) (by omega)) (by omega)
  exact this
theorem place_ok (r : Nat) (h : r < 8) : Int.fdiv 128 (2 ^ (min ((IntKind.wrap .u64 (r : Int)) : Int).toNat 8)) = ((128 / 2 ^ r : Nat) : Int) ∧ 0 ≤ IntKind.wrap .u64 (r : Int) ∧ 0 ≤ IntKind.wrap .i64 (7 - (r : Int)) ∧
    IntKind.wrap .u8 ((IntKind.wrap .u8 ((1 : Nat) : Int)) * 2 ^ (min ((IntKind.wrap .i64 (7 - (r : Int))) : Int).toNat 8)) = ((128 / 2 ^ r : Nat) : Int) ∧ IntKind.wrap .u8 ((IntKind.wrap .u8 ((0 : Nat) : Int)) * 2 ^ (min ((IntKind.wrap .i64 (7 - (r : Int))) : Int).toNat 8)) = 0 := by
  have : r = 0 ∨ r = 1 ∨ r = 2 ∨ r = 3 ∨ r = 4 ∨ r = 5 ∨ r = 6 ∨ r = 7 := by omega
  rcases this with rfl | rfl | rfl | rfl | rfl | rfl | rfl | rfl
  all_goals exact ⟨by decide, by decide, by decide, by decide, by decide⟩
theorem u64N {n : Nat} (h : n < 2 ^ 64) : IntKind.wrap .u64 (n : Int) = n := by
  unfold IntKind.wrap
  simp only [IntKind.bits, IntKind.signed]
  simp
  omega
theorem dec_no {p : Prop} [Decidable p] (h : ¬ p) : ¬ (decide p = true) := by simpa using h
theorem set_get_self {l : List Int} {j : Nat} (h : j < l.length) : l.set j (l.getD j default) = l := by
  apply List.ext_getElem
  · simp
  · intro n h1 h2
    rw [List.getElem_set]
    split
    · subst_vars; simp [List.getD, h]
    · rfl
section
variable {x y : List Int} {j w : Nat} (hj : j < x.length) (hw : x.getD j default = (w : Int)) (hw2 : w < 2 ^ 62)
include hj hw hw2
theorem spec_bit {n : Nat} {out : List Int} {used bit : Nat} (h : Bw out used) (hb : bit ≤ 61) (hu : used < 40000) : l_spec_l06Bytes_0 x y (j : Int) (n + 1) out (used : Int) (bit : Int) = l_spec_l06Bytes_0 x y (j : Int) n (bwPut w out used bit) ((used + 1 : Nat) : Int) (IntKind.wrap .i64 ((bit : Int) - 1)) := by
  obtain ⟨h1, h2, h3⟩ := h
  rw [l_spec_l06Bytes_0]
  have e5 : ∀ {α : Type} (z : Option α), need true z = z := fun _ => rfl
  have e6 : atI x (j : Int) = (w : Int) := hw
  have e7 : inB (j : Int) x.length = true := by unfold inB; simp; omega
  obtain ⟨p1, p2, p3, p4, p5⟩ := place_ok (used % 8) (by omega)
  rw [decide_eq_true (show (0 : Int) ≤ (bit : Int) by omega), if_pos rfl, tmod8, e7, e6, u64N (show bit < 2 ^ 64 by omega), Int.toNat_natCast, bit_one hw2 hb, wrapS (k := used) (by omega),
    decide_eq_true (show (0 : Int) ≤ (bit : Int) by omega)]
  unfold bwPut
  by_cases hr : used % 8 = 0
  · have ho : out.length = used / 8 := by omega
    rw [if_pos hr, decide_eq_true (show ((used % 8 : Nat) : Int) = 0 by omega), if_pos rfl, decide_eq_true (show (out.length + 1) * 1 ≤ 17592186044416 by omega), decide_eq_true (show out.length + 1 ≤ 17592186044416 by omega)]
    simp only [e5]
    by_cases hbit : w / 2 ^ bit % 2 = 1
    · rw [if_pos (decide_eq_true (show ((w / 2 ^ bit % 2 : Nat) : Int) = 1 by omega)), if_pos hbit]
      have e8 : IntKind.wrap .i64 (((out.length + 1 : Nat) : Int) - 1) = ((used / 8 : Nat) : Int) := by
        rw [show ((out.length + 1 : Nat) : Int) - 1 = ((out.length : Nat) : Int) by omega, wrapN (by omega), ho]
      unfold v_spec_l06Bytes_12
      rw [e8, decide_eq_true p2, show inB ((used / 8 : Nat) : Int) (out.length + 1) = true by unfold inB; simp; omega]
      simp only [e5, tmod8, p1, Int.toNat_natCast]
      rfl
    · rw [if_neg (dec_no (show ¬ ((w / 2 ^ bit % 2 : Nat) : Int) = 1 by omega)), if_neg hbit]
  · have ho : out.length = used / 8 + 1 := by omega
    rw [if_neg hr, decide_eq_false (show ¬ ((used % 8 : Nat) : Int) = 0 by omega), if_neg (by decide)]
    simp only [e5]
    by_cases hbit : w / 2 ^ bit % 2 = 1
    · rw [if_pos (decide_eq_true (show ((w / 2 ^ bit % 2 : Nat) : Int) = 1 by omega)), if_pos hbit]
      have e8 : IntKind.wrap .i64 (((out.length : Nat) : Int) - 1) = ((used / 8 : Nat) : Int) := by
        rw [show ((out.length : Nat) : Int) - 1 = ((used / 8 : Nat) : Int) by omega, wrapN (by omega)]
      unfold v_spec_l06Bytes_13
      rw [e8, decide_eq_true p2, show inB ((used / 8 : Nat) : Int) out.length = true by unfold inB; simp; omega]
      simp only [e5, tmod8, p1, Int.toNat_natCast]
      rfl
    · rw [if_neg (dec_no (show ¬ ((w / 2 ^ bit % 2 : Nat) : Int) = 1 by omega)), if_neg hbit]
theorem impl_bit {n : Nat} {out : List Int} {used bit : Nat} (h : Bw out used) (hb : bit ≤ 61) (hu : used < 40000) : l_impl_BytesOfWords_0 x y (j : Int) (n + 1) out (used : Int) (bit : Int) = l_impl_BytesOfWords_0 x y (j : Int) n (bwPut w out used bit) ((used + 1 : Nat) : Int) (IntKind.wrap .i64 ((bit : Int) - 1)) := by
  obtain ⟨h1, h2, h3⟩ := h
  rw [l_impl_BytesOfWords_0]
  have e5 : ∀ {α : Type} (z : Option α), need true z = z := fun _ => rfl
  have e6 : atI x (j : Int) = (w : Int) := hw
  obtain ⟨p1, p2, p3, p4, p5⟩ := place_ok (used % 8) (by omega)
  unfold v_impl_BytesOfWords_19
  rw [decide_eq_true (show (0 : Int) ≤ (bit : Int) by omega), if_pos rfl, tmod8, tdiv8, e6, Int.toNat_natCast, bit_one hw2 hb, wrapS (k := used) (by omega), wrapN (n := used / 8) (by omega), decide_eq_true p3]
  have hv : IntKind.wrap .u8 ((IntKind.wrap .u8 ((w / 2 ^ bit % 2 : Nat) : Int)) * 2 ^ (min ((IntKind.wrap .i64 (7 - ((used % 8 : Nat) : Int))) : Int).toNat 8)) = if w / 2 ^ bit % 2 = 1 then ((128 / 2 ^ (used % 8) : Nat) : Int) else 0 := by
    by_cases hbit : w / 2 ^ bit % 2 = 1
    · rw [if_pos hbit, hbit]; exact p4
    · rw [if_neg hbit, show w / 2 ^ bit % 2 = 0 by omega]; exact p5
  rw [hv]
  unfold bwPut
  have hfin : ∀ o : List Int, used / 8 < o.length → (∀ e ∈ o, 0 ≤ e ∧ e < 256) →
      o.set (used / 8) (bitop .or .u8 (o.getD (used / 8) default) (if w / 2 ^ bit % 2 = 1 then ((128 / 2 ^ (used % 8) : Nat) : Int) else 0)) = if w / 2 ^ bit % 2 = 1 then o.set (used / 8) (bitop .or .u8 (o.getD (used / 8) default) ((128 / 2 ^ (used % 8) : Nat) : Int)) else o := by
    intro o hl he
    by_cases hbit : w / 2 ^ bit % 2 = 1
    · rw [if_pos hbit, if_pos hbit]
    · rw [if_neg hbit, if_neg hbit]
      have hm : o.getD (used / 8) default ∈ o := by
        simp [List.getD, hl]
      obtain ⟨g1, g2⟩ := he _ hm
      rw [or_zero g1 g2, set_get_self hl]
  by_cases hr : used % 8 = 0
  · have ho : out.length = used / 8 := by omega
    rw [if_pos hr, decide_eq_true (show ((used % 8 : Nat) : Int) = 0 by omega), if_pos rfl, decide_eq_true (show (out.length + 1) * 1 ≤ 17592186044416 by omega), decide_eq_true (show out.length + 1 ≤ 17592186044416 by omega),
      show inB ((used / 8 : Nat) : Int) (out.length + 1) = true by unfold inB; simp; omega]
    simp only [e5]
    rw [← hfin (out ++ [0]) (by rw [List.length_append]; simp; omega) (fun e he => by
      rcases List.mem_append.1 he with h | h
      · exact h3 e h
      · rw [List.mem_singleton.1 h]; omega)]
    rfl
  · have ho : out.length = used / 8 + 1 := by omega
    rw [if_neg hr, decide_eq_false (show ¬ ((used % 8 : Nat) : Int) = 0 by omega), if_neg (by decide), show inB ((used / 8 : Nat) : Int) out.length = true by unfold inB; simp; omega]
    simp only [e5]
    rw [← hfin out (by omega) h3]
    rfl
theorem word_all : ∀ (b n : Nat) (out : List Int) (used : Nat), b ≤ 62 → b < n → Bw out used → used + b ≤ 40000 →
    ∃ r, Bw r (used + b) ∧ l_spec_l06Bytes_0 x y (j : Int) n out (used : Int) ((b : Int) - 1) = some (((used + b : Nat) : Int), r) ∧ l_impl_BytesOfWords_0 x y (j : Int) n out (used : Int) ((b : Int) - 1) = some (((used + b : Nat) : Int), r) := by
  intro b
  induction b with
  | zero =>
    intro n out used _ hn h _
    cases n with
    | zero => omega
    | succ n =>
      refine ⟨out, h, ?_, ?_⟩
      · rw [l_spec_l06Bytes_0]; rfl
      · rw [l_impl_BytesOfWords_0]; rfl
  | succ b ih =>
    intro n out used hb hn h hu
    cases n with
    | zero => omega
    | succ n =>
      obtain ⟨r, r1, r2, r3⟩ := ih n (bwPut w out used b) (used + 1) (by omega) (by omega) (bwPut_ok h (by omega)) (by omega)
      have e1 : ((b + 1 : Nat) : Int) - 1 = (b : Int) := by omega
      have e2 : IntKind.wrap .i64 ((b : Int) - 1) = (b : Int) - 1 := wrapI (by omega) (by omega)
      refine ⟨r, by rw [show used + (b + 1) = used + 1 + b by omega]; exact r1, ?_, ?_⟩
      · rw [e1, spec_bit hj hw hw2 h (by omega) (by omega), e2, r2, show used + (b + 1) = used + 1 + b by omega]
      · rw [e1, impl_bit hj hw hw2 h (by omega) (by omega), e2, r3, show used + (b + 1) = used + 1 + b by omega]
end
def okW (x y : List Int) (j : Nat) : Prop := 0 ≤ x.getD j default ∧ x.getD j default < 2 ^ (y.getD j default).toNat
instance (x y : List Int) (j : Nat) : Decidable (okW x y j) := by unfold okW; infer_instance
theorem size_pow {s : Int} (h1 : 1 ≤ s) (h2 : s ≤ 62) : ∃ b : Nat, 1 ≤ b ∧ b ≤ 62 ∧ s = (b : Int) ∧ IntKind.wrap .i64 (1 * 2 ^ (min s.toNat 64)) = ((2 ^ b : Nat) : Int) ∧ IntKind.wrap .u64 s = s ∧ (2 : Nat) ^ b ≤ 2 ^ 62 ∧ IntKind.wrap .i64 (s - 1) = s - 1 := by
  refine ⟨s.toNat, by omega, by omega, by omega, ?_, ?_, Nat.pow_le_pow_right (by omega) (by omega), wrapI (by omega) (by omega)⟩
  · rw [Nat.min_eq_left (by omega), Int.one_mul]
    have hp : 2 ^ s.toNat ≤ 2 ^ 62 := Nat.pow_le_pow_right (by omega) (by omega)
    have : (2 : Int) ^ s.toNat = ((2 ^ s.toNat : Nat) : Int) := by exact_mod_cast rfl
    rw [this, wrapN (by omega)]
  · have := u64N (n := s.toNat) (by omega)
    rw [show ((s.toNat : Nat) : Int) = s by omega] at this; exact this
section
variable {x y : List Int} (hl : x.length = y.length) (hs : Szs y)
include hl hs
theorem bytes_all : ∀ (n k : Nat) (out : List Int) (used : Nat), k ≤ x.length → x.length - k < n → Bw out used → used ≤ 62 * k → 
    ((∀ j, k ≤ j → j < x.length → okW x y j) → ∃ r u, Bw r u ∧ (k < x.length → used < u) ∧ used ≤ u ∧ u ≤ 62 * x.length ∧ l_spec_l06Bytes_1 x y n out (used : Int) (k : Int) = some r ∧ l_spec_BytesOfWords_0 x y n (k : Int) = some (false, default, ()) ∧ l_impl_BytesOfWords_1 x y n out (used : Int) (k : Int) = some (false, default, r)) ∧
    ((¬ ∀ j, k ≤ j → j < x.length → okW x y j) → l_spec_BytesOfWords_0 x y n (k : Int) = some (true, ([], false), default) ∧ l_impl_BytesOfWords_1 x y n out (used : Int) (k : Int) = some (true, ([], false), default)) := by
  intro n
  induction n with
  | zero => intro k out used _ h; omega
  | succ n ih =>
    intro k out used hk hn hB hu
    have e5 : ∀ {α : Type} (z : Option α), need true z = z := fun _ => rfl
    obtain ⟨hs1, hs2⟩ := hs
    by_cases hlt : k < x.length
    · obtain ⟨g1, g2⟩ := hs2 k (by omega)
      obtain ⟨b, b1, b2, b3, b4, b5, b6, b7⟩ := size_pow g1 g2
      have d1 : (decide ((k : Int) < ((List.length x : Nat) : Int))) = true := decide_eq_true (by omega)
      have d2 : inB (k : Int) x.length = true := by unfold inB; simp; omega
      have d3 : inB (k : Int) y.length = true := by unfold inB; simp; omega
      have e1 : atI x (k : Int) = x.getD k default := rfl
      have e2 : atI y (k : Int) = y.getD k default := rfl
      have hm : IntKind.wrap .i64 (((2 ^ b : Nat) : Int) - 1) = ((2 ^ b : Nat) : Int) - 1 := by
        have hpos : 1 ≤ 2 ^ b := Nat.one_le_two_pow
        generalize 2 ^ b = P at b6 hpos ⊢
        exact wrapI (by omega) (by omega)
      have hin : m_spec_l00In (x.getD k default) 0 (((2 ^ b : Nat) : Int) - 1) = decide (okW x y k) := by
        have hiff : okW x y k ↔ 0 ≤ x.getD k default ∧ x.getD k default < ((2 ^ b : Nat) : Int) := by
          unfold okW
          rw [b3, Int.toNat_natCast]
          have : (2 : Int) ^ b = ((2 ^ b : Nat) : Int) := by exact_mod_cast rfl
          rw [this]
        unfold m_spec_l00In
        by_cases c1 : 0 ≤ x.getD k default
        · rw [decide_eq_true c1, if_pos rfl]
          exact decide_eq_decide.2 ⟨fun h => hiff.2 ⟨c1, by omega⟩, fun h => by have := hiff.1 h; omega⟩
        · rw [decide_eq_false c1, if_neg (by decide)]
          exact (decide_eq_false fun h => c1 (hiff.1 h).1).symm
      have hspec : l_spec_BytesOfWords_0 x y (n + 1) (k : Int) = if okW x y k then l_spec_BytesOfWords_0 x y n ((k + 1 : Nat) : Int) else some (true, ([], false), default) := by
        rw [l_spec_BytesOfWords_0, d1, if_pos rfl, d2, d3, e1, e2, b5, b4, hm, hin, decide_eq_true (show 0 ≤ y.getD k default by omega), wrapS (by omega)]
        simp only [e5, decide_eq_true_eq]
      by_cases hok : okW x y k
      · obtain ⟨w, hw⟩ : ∃ w : Nat, x.getD k default = (w : Int) := ⟨(x.getD k default).toNat, by have := hok.1; omega⟩
        have hw2 : w < 2 ^ b := by
          have := hok.2
          rw [hw, b3, Int.toNat_natCast] at this
          exact_mod_cast this
        obtain ⟨r, r1, r2, r3⟩ := word_all (x := x) (y := y) (j := k) (w := w) hlt hw (by omega) b (Int.toNat (IntKind.wrap .i64 (y.getD k default - 1)) + 2) out used b2 (by rw [b7, b3]; omega) hB (by omega)
        have hspec1 : l_spec_l06Bytes_1 x y (n + 1) out (used : Int) (k : Int) = l_spec_l06Bytes_1 x y n r ((used + b : Nat) : Int) ((k + 1 : Nat) : Int) := by
          rw [l_spec_l06Bytes_1, d1, if_pos rfl, d3, e2, b7]
          rw [b7] at r2
          rw [b3] at r2 ⊢
          rw [r2, wrapS (by omega)]
          rfl
        have himpl1 : l_impl_BytesOfWords_1 x y (n + 1) out (used : Int) (k : Int) = l_impl_BytesOfWords_1 x y n r ((used + b : Nat) : Int) ((k + 1 : Nat) : Int) := by
          rw [l_impl_BytesOfWords_1, d1, if_pos rfl, d2, d3, e1, e2, b4, b7]
          rw [b7] at r3
          rw [decide_eq_false (show ¬ x.getD k default < 0 by rw [hw]; omega), if_neg (show ¬ (false = true) by decide), decide_eq_true (show 0 ≤ y.getD k default by omega), decide_eq_false (show ¬ ((2 ^ b : Nat) : Int) ≤ x.getD k default by rw [hw]; omega), if_neg (show ¬ (false = true) by decide)]
          rw [b3] at r3 ⊢
          rw [r3, wrapS (by omega)]
          rfl
        obtain ⟨i1, i2⟩ := ih (k + 1) r (used + b) (by omega) (by omega) r1 (by omega)
        rw [hspec, if_pos hok, hspec1, himpl1]
        refine ⟨fun hall => ?_, fun hnot => ?_⟩
        · obtain ⟨r', u, v1, v2, v3, v4, v5, v6, v7⟩ := i1 fun j h1 h2 => hall j (by omega) h2
          exact ⟨r', u, v1, fun _ => by omega, by omega, v4, v5, v6, v7⟩
        · refine i2 fun h => hnot fun j h1 h2 => ?_
          by_cases hj : j = k
          · subst hj; exact hok
          · exact h j (by omega) h2
      · refine ⟨fun hall => absurd (hall k (Nat.le_refl _) hlt) hok, fun _ => ?_⟩
        rw [hspec, if_neg hok]
        refine ⟨rfl, ?_⟩
        rw [l_impl_BytesOfWords_1, d1, if_pos rfl, d2, d3, e1, e2, b4]
        by_cases c1 : x.getD k default < 0
        · rw [decide_eq_true c1]; rfl
        · rw [decide_eq_false c1, if_neg (show ¬ (false = true) by decide), decide_eq_true (show 0 ≤ y.getD k default by omega)]
          have : ((2 ^ b : Nat) : Int) ≤ x.getD k default := by
            apply Int.not_lt.1
            intro h
            apply hok
            refine ⟨by omega, ?_⟩
            rw [b3, Int.toNat_natCast]
            exact_mod_cast h
          rw [decide_eq_true this]
          rfl
    · have d1 : (decide ((k : Int) < ((List.length x : Nat) : Int))) = false := decide_eq_false (by omega)
      refine ⟨fun _ => ⟨out, used, hB, fun h => absurd h hlt, Nat.le_refl _, by omega, ?_, ?_, ?_⟩, fun h => absurd (fun j h1 h2 => by omega) h⟩
      · rw [l_spec_l06Bytes_1, d1]; rfl
      · rw [l_spec_BytesOfWords_0, d1]; rfl
      · rw [l_impl_BytesOfWords_1, d1]; rfl
end
/-- sizes that hold: words that fit -/
theorem bytes_ok {x y : List Int} (hl : x.length = y.length) (hs : Szs y) (h : ∀ j, j < x.length → okW x y j) (hm : m_impl_areSizes y = true) (hp : p_impl_areSizes y = true) :
    m_impl_BytesOfWords x y = (m_spec_l06Bytes x y, true) ∧ p_impl_BytesOfWords x y = true ∧ p_spec_l06Bytes x y = true ∧ (1 ≤ x.length → 1 ≤ (m_spec_l06Bytes x y).length) ∧ (m_spec_l06Bytes x y).length ≤ 4096 := by
  obtain ⟨k1, _⟩ := bytes_all hl hs (Int.toNat (((List.length x : Nat) : Int) - 0) + 2) 0 [] 0 (by omega) (by omega) ⟨rfl, by omega, fun e he => by cases he⟩ (by omega)
  obtain ⟨r, u, v1, v2, v3, v4, v5, v6, v7⟩ := k1 fun j _ h2 => h j h2
  replace v5 : l_spec_l06Bytes_1 x y (Int.toNat (((List.length x : Nat) : Int) - 0) + 2) [] 0 0 = some r := v5
  replace v7 : l_impl_BytesOfWords_1 x y (Int.toNat (((List.length x : Nat) : Int) - 0) + 2) [] 0 0 = some (false, default, r) := v7
  have hle : (decide (((List.length x : Nat) : Int) = ((List.length y : Nat) : Int))) = true := decide_eq_true (by omega)
  unfold m_impl_BytesOfWords p_impl_BytesOfWords m_spec_l06Bytes p_spec_l06Bytes
  rw [hle, hm, hp, v5, v7]
  refine ⟨rfl, rfl, rfl, ?_, ?_⟩
  · show 1 ≤ x.length → 1 ≤ (List.map b8 r).length
    intro h1
    rw [List.length_map, v1.1]
    have := v2 (by omega); omega
  · show (List.map b8 r).length ≤ 4096
    rw [List.length_map, v1.1]
    have := hs.1; omega
end Go.Proofs
namespace Go.Proofs
open Go.Ab
theorem posRange {r : Nat} (hp : m_impl_isPositive r = true) : m_impl_isRange (fneg .f32 r) r = true := by
  unfold m_impl_isPositive at hp
  obtain ⟨a1, a2⟩ := and_of hp
  obtain ⟨n1, n2⟩ := neg_range a1 a2
  unfold m_impl_isRange
  have a1' : m_impl_IsFinite r = true := a1
  have n1' : m_impl_IsFinite (fneg .f32 r) = true := n1
  simp [a1', n1', n2]
theorem bits_of {b : Int} (hb : m_impl_areBits b = true) : 2 ≤ b ∧ b ≤ 16 := by
  unfold m_impl_areBits at hb
  have := and_of hb
  exact ⟨of_decide_eq_true this.1, of_decide_eq_true this.2⟩
theorem step3 {k : Nat} {A : Nat} {acc c : Int} (h0 : 0 ≤ acc) (h1 : acc < (A : Int)) (c0 : 0 ≤ c) (c1 : c < (k : Int)) (hb : A * k ≤ 2 ^ 62) :
    IntKind.wrap .i64 (IntKind.wrap .i64 (acc * (k : Int)) + c) = acc * k + c ∧ 0 ≤ acc * k + c ∧ acc * k + c < ((A * k : Nat) : Int) := by
  obtain ⟨a, rfl⟩ : ∃ a : Nat, acc = a := ⟨acc.toNat, by omega⟩
  obtain ⟨d, rfl⟩ : ∃ d : Nat, c = d := ⟨c.toNat, by omega⟩
  have ha : a + 1 ≤ A := by omega
  have h3 : (a + 1) * k ≤ A * k := Nat.mul_le_mul_right _ ha
  rw [Nat.add_mul, Nat.one_mul] at h3
  have e : (a : Int) * (k : Int) = ((a * k : Nat) : Int) := by exact_mod_cast rfl
  rw [e, wrapN (by omega)]
  have e2 : ((a * k : Nat) : Int) + (d : Int) = ((a * k + d : Nat) : Int) := by exact_mod_cast rfl
  rw [e2, wrapN (by omega)]
  exact ⟨rfl, by omega, by omega⟩
theorem cube_pow {k : Nat} {b : Int} (h1 : 2 ≤ b) (h2 : b ≤ 16) (hk : k = 2 ^ b.toNat) : k * k * k = 2 ^ (3 * b).toNat ∧ 4 * k * k * k = 2 ^ (2 + 3 * b).toNat ∧ k * k * k ≤ 2 ^ 48 ∧ k ≤ 2 ^ 16 ∧ k * k ≤ 2 ^ 32 := by
  have e1 : (3 * b).toNat = b.toNat + b.toNat + b.toNat := by omega
  have e2 : (2 + 3 * b).toNat = 2 + (b.toNat + b.toNat + b.toNat) := by omega
  have g1 : k * k * k = 2 ^ (b.toNat + b.toNat + b.toNat) := by rw [hk, Nat.pow_add, Nat.pow_add]
  have g2 : k * k = 2 ^ (b.toNat + b.toNat) := by rw [hk, Nat.pow_add]
  refine ⟨by rw [e1, g1], by rw [e2, Nat.pow_add, ← g1, Nat.mul_assoc, Nat.mul_assoc, Nat.mul_assoc], ?_, ?_, ?_⟩
  · rw [g1]; exact Nat.pow_le_pow_right (by omega) (by omega)
  · rw [hk]; exact Nat.pow_le_pow_right (by omega) (by omega)
  · rw [g2]; exact Nat.pow_le_pow_right (by omega) (by omega)
theorem vec_ok {x y z r : Nat} {b : Int} (hr : m_impl_isPositive r = true) (hb : m_impl_areBits b = true) :
    p_impl_PackVector (x, y, z) r b = true ∧ (m_spec_l06Vector (x, y, z) = true → m_impl_PackVector (x, y, z) r b = (m_spec_l06PackVector (x, y, z) r b, true) ∧ p_spec_l06PackVector (x, y, z) r b = true ∧ 0 ≤ m_spec_l06PackVector (x, y, z) r b ∧ m_spec_l06PackVector (x, y, z) r b < 2 ^ (3 * b).toNat) ∧
    (m_spec_l06Vector (x, y, z) = false → (m_impl_PackVector (x, y, z) r b).2 = false) := by
  obtain ⟨h1, h2⟩ := bits_of hb
  obtain ⟨k, k1, k2, k3, k4, k5, k6⟩ := codes_ok h1 h2
  have hp2 : p_impl_codes b = true := by unfold p_impl_codes; simp; omega
  have hc : m_impl_codes b = k := by unfold m_impl_codes; exact k3
  obtain ⟨q1, q2, q3, q4, q5⟩ := cube_pow h1 h2 k6
  unfold m_spec_l06Vector p_impl_PackVector m_impl_PackVector
  (try unfold v_impl_PackVector_0)
  by_cases hx : feq .f32 x x = true
  · obtain ⟨n1, n2, n3⟩ := codeOf_ok hx (posRange hr) h1 h2
    obtain ⟨m1, m2⟩ := codeOf_range hx (posRange hr) h1 h2
    by_cases hy : feq .f32 y y = true
    · obtain ⟨o1, o2, o3⟩ := codeOf_ok hy (posRange hr) h1 h2
      obtain ⟨w1, w2⟩ := codeOf_range hy (posRange hr) h1 h2
      by_cases hz : feq .f32 z z = true
      · obtain ⟨s1, s2, s3⟩ := codeOf_ok hz (posRange hr) h1 h2
        obtain ⟨u1, u2⟩ := codeOf_range hz (posRange hr) h1 h2
        have hpow : (2 : Int) ^ (min (IntKind.wrap .u64 b).toNat 64) = (k : Int) := by
          rw [k4, Nat.min_eq_left (by omega), k6]; exact_mod_cast rfl
        have hps : p_spec_l06PackVector (x, y, z) r b = true := by
          unfold p_spec_l06PackVector
          rw [n2, o2, s2, k4]; simp; omega
        rw [hc] at m2 w2 u2
        obtain ⟨t1, t2, t3⟩ := step3 (k := k) (A := k) m1 m2 w1 w2 (by omega)
        obtain ⟨t4, t5, t6⟩ := step3 (k := k) (A := k * k) t2 t3 u1 u2 (by omega)
        have hms : m_spec_l06PackVector (x, y, z) r b = ((m_impl_codeOf x (fneg .f32 r) r b) * k + m_impl_codeOf y (fneg .f32 r) r b) * k + m_impl_codeOf z (fneg .f32 r) r b := by
          unfold m_spec_l06PackVector
          (try unfold v_spec_l06PackVector_1)
          (try unfold v_spec_l06PackVector_0)
          rw [n3, o3, s3, hpow, t1, t4]
        have hmi : IntKind.wrap .i64 (IntKind.wrap .i64 (IntKind.wrap .i64 (IntKind.wrap .i64 (IntKind.wrap .i64 (IntKind.wrap .i64 (0 * m_impl_codes b) + m_impl_codeOf x (fneg .f32 r) r b) * m_impl_codes b) + m_impl_codeOf y (fneg .f32 r) r b) * m_impl_codes b) + m_impl_codeOf z (fneg .f32 r) r b) = m_spec_l06PackVector (x, y, z) r b := by
          rw [hms, hc, Int.zero_mul, show IntKind.wrap .i64 0 = 0 by decide, Int.zero_add, show IntKind.wrap .i64 (m_impl_codeOf x (fneg .f32 r) r b) = m_impl_codeOf x (fneg .f32 r) r b from wrapI (by omega) (by omega), t1, t4]
        simp only [hr, hb, hx, hy, hz, n1, o1, s1, hps, hmi, hp2, if_true]
        refine ⟨by simp, fun _ => ⟨by first | rfl | trivial, by first | rfl | trivial, by rw [hms]; exact t5, ?_⟩, fun h => by cases h⟩
        rw [hms]
        have : (2 : Int) ^ (3 * b).toNat = ((2 ^ (3 * b).toNat : Nat) : Int) := by exact_mod_cast rfl
        rw [this, ← q1]; exact t6
      · have hz' : feq .f32 z z = false := by simpa using hz
        simp [hr, hb, hx, hy, hz', n1, o1, hp2]
    · have hy' : feq .f32 y y = false := by simpa using hy
      simp [hr, hb, hx, hy', n1, hp2]
  · have hx' : feq .f32 x x = false := by simpa using hx
    simp [hr, hb, hx']
theorem turn_ok {t : Nat × Nat × Nat × Nat} {b : Int} (hb : m_impl_areBits b = true) :
    p_impl_PackTurn t b = true ∧ (m_spec_l06Turn t = true → m_impl_PackTurn t b = (m_spec_l06Pack t b, true) ∧ p_spec_l06Pack t b = true ∧ 0 ≤ m_spec_l06Pack t b ∧ m_spec_l06Pack t b < 2 ^ (2 + 3 * b).toNat) ∧
    (m_spec_l06Turn t = false → (m_impl_PackTurn t b).2 = false) := by
  obtain ⟨h1, h2⟩ := bits_of hb
  have e3 : m_impl_areFinite (m_impl_Turn_numbers t) = m_impl_areFinite t := rfl
  have hp0 : p_impl_MendTurn t = true := (mend_eq t).2.1
  have hp1 : p_spec_l02Mend t = true := (mend_eq t).2.2
  unfold m_impl_PackTurn p_impl_PackTurn
  rw [e3, (fin_turn t).1, hp0, hb]
  by_cases hf : m_impl_areFinite t = true
  · have ht := (fin_turn t).2 hf
    obtain ⟨r, g1, g2, g3, g4, g5, g6⟩ := pack_all ht h1 h2
    have hr : 0 ≤ r ∧ r < 2 ^ (2 + 3 * b).toNat := by
      obtain ⟨z, hz1, hz2, e1, e2⟩ := best_eq (b := b) ht
      have gz : Option.getD (l_spec_l06Pack_0 t b 5 0 1) default = z := by rw [e2]; rfl
      have gi : Option.getD (l_impl_PackTurn_0 t b 6 0 0) default = (false, default, z) := by rw [e1]; rfl
      have hz := And.intro hz1 hz2
      rw [gz] at g5
      rw [impl_code ht h1 h2 gi hz (by omega), show IntKind.wrap .i64 (0 + 1) = 1 by decide, impl_code ht h1 h2 gi hz (by omega), show IntKind.wrap .i64 (1 + 1) = 2 by decide, impl_code ht h1 h2 gi hz (by omega), show IntKind.wrap .i64 (2 + 1) = 3 by decide, impl_code ht h1 h2 gi hz (by omega), show IntKind.wrap .i64 (3 + 1) = 4 by decide] at g5
      have g5' : packCode (m_impl_MendTurn t) b z (packCode (m_impl_MendTurn t) b z (packCode (m_impl_MendTurn t) b z (packCode (m_impl_MendTurn t) b z z 0) 1) 2) 3 = r := by
        have : some (packCode (m_impl_MendTurn t) b z (packCode (m_impl_MendTurn t) b z (packCode (m_impl_MendTurn t) b z (packCode (m_impl_MendTurn t) b z z 0) 1) 2) 3) = some r := g5
        exact Option.some.inj this
      rw [← g5']
      obtain ⟨k, k1, k2, k3, k4, k5, k6⟩ := codes_ok h1 h2
      have hc : m_impl_codes b = k := by unfold m_impl_codes; exact k3
      obtain ⟨q1, q2, q3, q4, q5⟩ := cube_pow h1 h2 k6
      have hcr : ∀ i : Int, 0 ≤ i → i < 4 → 0 ≤ m_impl_codeOf (packSign (m_impl_MendTurn t) z i) 3208642560 1061158912 b ∧ m_impl_codeOf (packSign (m_impl_MendTurn t) z i) 3208642560 1061158912 b < (k : Int) := by
        intro i i0 i1
        rw [← hc]
        obtain ⟨f1, f2, f3, f4⟩ := mend_fin ht
        have hf := at_four (P := fun x => feq .f32 (fsub .f32 x x) 0 = true) f1 f2 f3 f4 i0 i1
        refine codeOf_range ?_ turnRange h1 h2
        unfold packSign
        split
        · exact fin_self (fin_neg hf)
        · exact fin_self hf
      have hstep : ∀ (A : Nat) (acc i : Int), i ≠ z → 0 ≤ i → i < 4 → 0 ≤ acc → acc < (A : Int) → A * k ≤ 2 ^ 62 → 0 ≤ packCode (m_impl_MendTurn t) b z acc i ∧ packCode (m_impl_MendTurn t) b z acc i < ((A * k : Nat) : Int) := by
        intro A acc i hne i0 i1 a0 a1 hA
        unfold packCode
        rw [if_neg (show ¬ (decide (i = z)) = true by simpa using hne), hc]
        obtain ⟨c0, c1⟩ := hcr i i0 i1
        obtain ⟨t1, t2, t3⟩ := step3 (k := k) (A := A) a0 a1 c0 c1 hA
        rw [t1]; exact ⟨t2, t3⟩
      have hsame : ∀ acc : Int, packCode (m_impl_MendTurn t) b z acc z = acc := by
        intro acc; unfold packCode; rw [if_pos (decide_eq_true rfl)]
      have hA1 : 4 * k ≤ 2 ^ 62 := by omega
      have hA2 : 4 * k * k ≤ 2 ^ 62 := by rw [Nat.mul_assoc]; omega
      have hA3 : 4 * k * k * k ≤ 2 ^ 62 := by rw [q2]; exact Nat.pow_le_pow_right (by omega) (by omega)
      have hpow : (2 : Int) ^ (2 + 3 * b).toNat = ((4 * k * k * k : Nat) : Int) := by rw [q2]; exact_mod_cast rfl
      rw [hpow]
      have : z = 0 ∨ z = 1 ∨ z = 2 ∨ z = 3 := by omega
      rcases this with rfl | rfl | rfl | rfl
      · rw [hsame]
        obtain ⟨a1, a2⟩ := hstep 4 0 1 (by decide) (by decide) (by decide) (by omega) (by omega) hA1
        obtain ⟨a3, a4⟩ := hstep (4 * k) _ 2 (by decide) (by decide) (by decide) a1 a2 hA2
        exact hstep (4 * k * k) _ 3 (by decide) (by decide) (by decide) a3 a4 hA3
      · obtain ⟨a1, a2⟩ := hstep 4 1 0 (by decide) (by decide) (by decide) (by omega) (by omega) hA1
        rw [hsame]
        obtain ⟨a3, a4⟩ := hstep (4 * k) _ 2 (by decide) (by decide) (by decide) a1 a2 hA2
        exact hstep (4 * k * k) _ 3 (by decide) (by decide) (by decide) a3 a4 hA3
      · obtain ⟨a1, a2⟩ := hstep 4 2 0 (by decide) (by decide) (by decide) (by omega) (by omega) hA1
        obtain ⟨a3, a4⟩ := hstep (4 * k) _ 1 (by decide) (by decide) (by decide) a1 a2 hA2
        rw [hsame]
        exact hstep (4 * k * k) _ 3 (by decide) (by decide) (by decide) a3 a4 hA3
      · obtain ⟨a1, a2⟩ := hstep 4 3 0 (by decide) (by decide) (by decide) (by omega) (by omega) hA1
        obtain ⟨a3, a4⟩ := hstep (4 * k) _ 1 (by decide) (by decide) (by decide) a1 a2 hA2
        rw [hsame]
        exact hstep (4 * k * k) _ 2 (by decide) (by decide) (by decide) a3 a4 hA3
    have hm : m_spec_l06Pack t b = r := by unfold m_spec_l06Pack; rw [g6]; rfl
    have hps : p_spec_l06Pack t b = true := by unfold p_spec_l06Pack; rw [hp1, g3, g6]; rfl
    rw [hm, hps, hf]
    refine ⟨?_, fun _ => ⟨?_, rfl, hr⟩, fun h => by cases h⟩
    · rw [g1, g2, g4, g5]; rfl
    · rw [g1, g5]; rfl
  · have hf' : m_impl_areFinite t = false := by simpa using hf
    rw [hf']
    exact ⟨rfl, fun h => (by cases h), fun _ => rfl⟩
theorem sizes_true {y : List Int} (h : Szs y) : m_impl_areSizes y = true ∧ p_impl_areSizes y = true := by
  have key : ∀ (n k : Nat), k ≤ y.length → y.length - k < n → l_impl_areSizes_0 y n (k : Int) = some (false, default, ()) := by
    intro n
    induction n with
    | zero => intro k _ h; omega
    | succ n ih =>
      intro k hk hn
      have h512 := h.1
      rw [l_impl_areSizes_0]
      by_cases hlt : k < y.length
      · have := h.2 k hlt
        have e3 : atI y (k : Int) = y.getD k default := rfl
        rw [decide_eq_true (show (k : Int) < ((List.length y : Nat) : Int) by omega), show inB (k : Int) y.length = true by unfold inB; simp; omega, e3, decide_eq_false (show ¬ y.getD k default < 1 by omega), decide_eq_false (show ¬ 62 < y.getD k default by omega), wrapS (by omega)]
        exact ih (k + 1) (by omega) (by omega)
      · rw [decide_eq_false (show ¬ (k : Int) < ((List.length y : Nat) : Int) by omega)]; rfl
  have h512 := h.1
  have o1 : l_impl_areSizes_0 y (Int.toNat (((List.length y : Nat) : Int) - 0) + 2) 0 = some (false, default, ()) := key _ 0 (by omega) (by omega)
  unfold m_impl_areSizes p_impl_areSizes
  rw [o1]
  exact ⟨decide_eq_true (show ((List.length y : Nat) : Int) ≤ 512 by omega), rfl⟩
theorem parts_eq (c : Int × Int × Nat) (h1 : 2 ≤ c.1) (h2 : c.1 ≤ 16) (h3 : 2 ≤ c.2.1) (h4 : c.2.1 ≤ 16) (len : Nat) (hl : len ≤ 12) :
    m_spec_l06Parts c (len : Int) = 3 * c.2.1 :: List.replicate len (2 + 3 * c.1) ∧ m_impl_Packing_sizes c (len : Int) = 3 * c.2.1 :: List.replicate len (2 + 3 * c.1) ∧ p_spec_l06Parts c (len : Int) = true ∧ p_impl_Packing_sizes c (len : Int) = true := by
  have e1 : IntKind.wrap .i64 (2 + IntKind.wrap .i64 (3 * c.1)) = 2 + 3 * c.1 := by rw [wrapI (n := 3 * c.1) (by omega) (by omega)]; exact wrapI (by omega) (by omega)
  have e2 : IntKind.wrap .i64 (3 * c.2.1) = 3 * c.2.1 := wrapI (by omega) (by omega)
  have key : ∀ (n k : Nat) (z : List Int), k ≤ len → len - k < n → z.length = k + 1 → l_spec_l06Parts_0 c (len : Int) n z (k : Int) = some (z ++ List.replicate (len - k) (2 + 3 * c.1)) ∧ l_impl_Packing_sizes_0 c (len : Int) n z (k : Int) = some (z ++ List.replicate (len - k) (2 + 3 * c.1)) := by
    intro n
    induction n with
    | zero => intro k _ _ h; omega
    | succ n ih =>
      intro k z hk hn hz
      rw [l_spec_l06Parts_0, l_impl_Packing_sizes_0, e1]
      by_cases hlt : k < len
      · obtain ⟨i1, i2⟩ := ih (k + 1) (z ++ [2 + 3 * c.1]) (by omega) (by omega) (by simp [hz])
        rw [decide_eq_true (show (k : Int) < (len : Int) by omega), decide_eq_true (show (z.length + 1) * 8 ≤ 17592186044416 by omega), decide_eq_true (show z.length + 1 ≤ 17592186044416 by omega), wrapS (by omega)]
        have e : z ++ List.replicate (len - k) (2 + 3 * c.1) = z ++ [2 + 3 * c.1] ++ List.replicate (len - (k + 1)) (2 + 3 * c.1) := by
          rw [show len - k = (len - (k + 1)) + 1 by omega, List.replicate_succ, List.append_assoc]; rfl
        rw [e]
        exact ⟨i1, i2⟩
      · rw [decide_eq_false (show ¬ (k : Int) < (len : Int) by omega), show len - k = 0 by omega, List.replicate_zero, List.append_nil]
        exact ⟨rfl, rfl⟩
  obtain ⟨i1, i2⟩ := key (Int.toNat ((len : Int) - 0) + 2) 0 [3 * c.2.1] (by omega) (by omega) rfl
  replace i1 : l_spec_l06Parts_0 c (len : Int) (Int.toNat ((len : Int) - 0) + 2) [3 * c.2.1] 0 = some (3 * c.2.1 :: List.replicate len (2 + 3 * c.1)) := i1
  replace i2 : l_impl_Packing_sizes_0 c (len : Int) (Int.toNat ((len : Int) - 0) + 2) [3 * c.2.1] 0 = some (3 * c.2.1 :: List.replicate len (2 + 3 * c.1)) := i2
  unfold m_spec_l06Parts m_impl_Packing_sizes p_spec_l06Parts p_impl_Packing_sizes
  rw [e2, i1, i2]
  exact ⟨rfl, rfl, rfl, rfl⟩
theorem turns_all (c : Int × Int × Nat) (hb : m_impl_areBits c.1 = true) (p : Nat × Nat × Nat × List (Nat × Nat × Nat × Nat)) (hl : p.2.2.2.length ≤ 12) : ∀ (n k : Nat) (z : List Int), k ≤ p.2.2.2.length → p.2.2.2.length - k < n → z.length ≤ k + 1 →
    (∃ r : List Int, r.length = z.length + (p.2.2.2.length - k) ∧ (∀ i, i < z.length → r.getD i default = z.getD i default) ∧ (∀ i, z.length ≤ i → i < r.length → 0 ≤ r.getD i default ∧ r.getD i default < 2 ^ (2 + 3 * c.1).toNat) ∧ l_spec_l06Pose_0 c p n z (k : Int) = some (false, default, r) ∧ l_impl_PackPose_0 c p n z (k : Int) = some (false, default, r)) ∨
    (l_spec_l06Pose_0 c p n z (k : Int) = some (true, ([], false), default) ∧ l_impl_PackPose_0 c p n z (k : Int) = some (true, ([], false), default)) := by
  intro n
  induction n with
  | zero => intro k _ _ h; omega
  | succ n ih =>
    intro k z hk hn hz
    rw [l_spec_l06Pose_0, l_impl_PackPose_0]
    by_cases hlt : k < p.2.2.2.length
    · have d1 : (decide ((k : Int) < ((List.length p.2.2.2 : Nat) : Int))) = true := decide_eq_true (by omega)
      have d2 : inB (k : Int) p.2.2.2.length = true := by unfold inB; simp; omega
      obtain ⟨t1, t2, t3⟩ := turn_ok (t := atI p.2.2.2 (k : Int)) hb
      rw [d1, d2, t1]
      by_cases hf : m_spec_l06Turn (atI p.2.2.2 (k : Int)) = true
      · obtain ⟨u1, u2, u3, u4⟩ := t2 hf
        rw [hf, u1, u2, decide_eq_true (show (z.length + 1) * 8 ≤ 17592186044416 by omega), decide_eq_true (show z.length + 1 ≤ 17592186044416 by omega), wrapS (by omega)]
        rcases ih (k + 1) (z ++ [m_spec_l06Pack (atI p.2.2.2 (k : Int)) c.1]) (by omega) (by omega) (by simp; omega) with ⟨r, r1, r2, r3, r4, r5⟩ | ⟨r4, r5⟩
        · left
          rw [List.length_append] at r1 r2 r3
          simp only [List.length_singleton] at r1 r2 r3
          refine ⟨r, by omega, fun i hi => ?_, fun i h1 h2 => ?_, r4, r5⟩
          · rw [r2 i (by omega)]
            simp [List.getD, List.getElem?_append_left hi]
          · by_cases hi : i = z.length
            · subst hi
              rw [r2 _ (by omega)]
              simp [List.getD]
              exact ⟨u3, u4⟩
            · exact r3 i (by omega) h2
        · exact .inr ⟨r4, r5⟩
      · have hf' : m_spec_l06Turn (atI p.2.2.2 (k : Int)) = false := by simpa using hf
        right
        rw [hf', t3 hf']
        exact ⟨rfl, rfl⟩
    · left
      rw [decide_eq_false (show ¬ (k : Int) < ((List.length p.2.2.2 : Nat) : Int) by omega)]
      exact ⟨z, by omega, fun _ _ => rfl, fun i h1 h2 => by omega, rfl, rfl⟩
theorem pose_ok (c : Int × Int × Nat) (p : Nat × Nat × Nat × List (Nat × Nat × Nat × Nat)) (hv : m_impl_ValidPacking c = true) :
    m_impl_PackPose c p = m_spec_l06Pose c p ∧ p_impl_PackPose c p = true ∧ p_spec_l06Pose c p = true ∧ ((m_spec_l06Pose c p).2 = true → 1 ≤ (m_spec_l06Pose c p).1.length ∧ (m_spec_l06Pose c p).1.length ≤ 4096) ∧ ((m_spec_l06Pose c p).2 = false → m_spec_l06Pose c p = ([], false)) := by
  have hv' := hv
  unfold m_impl_ValidPacking at hv'
  obtain ⟨b1, hv'⟩ := and_of hv'
  obtain ⟨b2, b3⟩ := and_of hv'
  obtain ⟨h1, h2⟩ := bits_of b1
  obtain ⟨h3, h4⟩ := bits_of b2
  have e1 : m_spec_l03Few p = m_impl_isPose p := rfl
  obtain ⟨v1, v2, v3⟩ := vec_ok (x := p.1) (y := p.2.1) (z := p.2.2.1) b3 b2
  unfold m_impl_PackPose m_spec_l06Pose p_impl_PackPose p_spec_l06Pose v_impl_PackPose_0
  rw [hv, e1, v1]
  by_cases hp : m_impl_isPose p = true
  · have hl : 1 ≤ p.2.2.2.length ∧ p.2.2.2.length ≤ 12 := by
      unfold m_impl_isPose at hp
      obtain ⟨a1, a2⟩ := and_of hp
      have := of_decide_eq_true a1
      have := of_decide_eq_true a2
      omega
    rw [hp]
    by_cases hvec : m_spec_l06Vector (p.1, p.2.1, p.2.2.1) = true
    · obtain ⟨w1, w2, w3, w4⟩ := v2 hvec
      rw [hvec, w1, w2]
      obtain ⟨g1, g2, g3, g4⟩ := parts_eq c h1 h2 h3 h4 p.2.2.2.length hl.2
      rw [g1, g2, g3, g4]
      dsimp only
      generalize m_spec_l06PackVector (p.1, p.2.1, p.2.2.1) c.2.2 c.2.1 = V at *
      rcases turns_all c b1 p hl.2 (Int.toNat (((List.length p.2.2.2 : Nat) : Int) - 0) + 2) 0 [V] (by omega) (by omega) (by simp) with ⟨r, r1, r2, r3, r4, r5⟩ | ⟨r4, r5⟩
      · replace r4 : l_spec_l06Pose_0 c p (Int.toNat (((List.length p.2.2.2 : Nat) : Int) - 0) + 2) [V] 0 = some (false, default, r) := r4
        replace r5 : l_impl_PackPose_0 c p (Int.toNat (((List.length p.2.2.2 : Nat) : Int) - 0) + 2) [V] 0 = some (false, default, r) := r5
        rw [r4, r5]
        have rl : r.length = (3 * c.2.1 :: List.replicate p.2.2.2.length (2 + 3 * c.1)).length := by
          rw [r1]; simp [Nat.add_comm]
        have hget : ∀ j, j < p.2.2.2.length + 1 → (3 * c.2.1 :: List.replicate p.2.2.2.length (2 + 3 * c.1)).getD j default = if j = 0 then 3 * c.2.1 else 2 + 3 * c.1 := by
          intro j hj
          cases j with
          | zero => rfl
          | succ j =>
            rw [List.getD_cons_succ, if_neg (by omega)]
            simp [List.getD, List.getElem?_replicate, show j < p.2.2.2.length by omega]
        have hS : Szs (3 * c.2.1 :: List.replicate p.2.2.2.length (2 + 3 * c.1)) := by
          refine ⟨by rw [← rl, r1]; simp; omega, fun j hj => ?_⟩
          rw [hget j (by simpa using hj)]
          split <;> omega
        have hok : ∀ j, j < r.length → okW r (3 * c.2.1 :: List.replicate p.2.2.2.length (2 + 3 * c.1)) j := by
          intro j hj
          unfold okW
          rw [hget j (by rw [rl] at hj; simpa using hj)]
          by_cases h0 : j = 0
          · subst h0
            rw [if_pos rfl, r2 0 (by simp)]
            exact ⟨w3, w4⟩
          · rw [if_neg h0]
            exact r3 j (by simp; omega) hj
        obtain ⟨hm, hpS⟩ := sizes_true hS
        obtain ⟨q1, q2, q3, q4, q5⟩ := bytes_ok rl hS hok hm hpS
        dsimp only [Option.getD_some, Option.isSome_some]
        rw [q1, q2, q3]
        refine ⟨rfl, rfl, rfl, fun _ => ⟨q4 (by rw [r1]; simp only [List.length_singleton]; omega), q5⟩, fun h => by cases h⟩
      · replace r4 : l_spec_l06Pose_0 c p (Int.toNat (((List.length p.2.2.2 : Nat) : Int) - 0) + 2) [V] 0 = some (true, ([], false), default) := r4
        replace r5 : l_impl_PackPose_0 c p (Int.toNat (((List.length p.2.2.2 : Nat) : Int) - 0) + 2) [V] 0 = some (true, ([], false), default) := r5
        rw [r4, r5]
        exact ⟨rfl, rfl, rfl, fun h => (by cases h), fun _ => rfl⟩
    · have hvec' : m_spec_l06Vector (p.1, p.2.1, p.2.2.1) = false := by simpa using hvec
      rw [hvec', v3 hvec']
      exact ⟨rfl, rfl, rfl, fun h => (by cases h), fun _ => rfl⟩
  · have hp' : m_impl_isPose p = false := by simpa using hp
    rw [hp']
    exact ⟨rfl, rfl, rfl, fun h => (by cases h), fun _ => rfl⟩
end Go.Proofs
namespace Go.Proofs
open Go.Ab
theorem b8_u8 (l : List UInt8) : List.map b8 (List.map Go.Ab.u8 l) = l := by
  rw [List.map_map]
  conv => rhs; rw [← List.map_id l]
  refine List.map_congr_left fun x _ => ?_
  show UInt8.ofNat (((x.toNat : Nat) : Int).toNat) = x
  rw [Int.toNat_natCast]; exact UInt8.ofNat_toNat
theorem poses_all (c : Int × Int × Nat) (hv : m_impl_ValidPacking c = true) (x : List PoseT) (hl : x.length ≤ 1048576) : ∀ (n k : Nat) (z : List UInt8), k ≤ x.length → x.length - k < n → k ≤ z.length → z.length ≤ 4096 →
    (∃ r : List UInt8, r.length ≤ 4096 ∧ x.length ≤ r.length ∧ l_spec_PackPoses_0 c x n z (k : Int) = some (false, default, r) ∧ l_impl_PackPoses_0 c x n (List.map Go.Ab.u8 z) (k : Int) = some (false, default, List.map Go.Ab.u8 r)) ∨
    (l_spec_PackPoses_0 c x n z (k : Int) = some (true, ([], false), default) ∧ l_impl_PackPoses_0 c x n (List.map Go.Ab.u8 z) (k : Int) = some (true, ([], false), default)) := by
  intro n
  induction n with
  | zero => intro k z _ h; omega
  | succ n ih =>
    intro k z hk hn hkz hz
    rw [l_spec_PackPoses_0, l_impl_PackPoses_0]
    by_cases hlt : k < x.length
    · obtain ⟨k1, k2, k3, k4, k5⟩ := pose_ok c (atI x (k : Int)) hv
      rw [decide_eq_true (show (k : Int) < ((List.length x : Nat) : Int) by omega), show inB (k : Int) x.length = true by unfold inB; simp; omega, k1, k2, k3, show inB 0 x.length = true by unfold inB; simp; omega]
      by_cases h2 : (m_spec_l06Pose c (atI x (k : Int))).2 = true
      · obtain ⟨g1, g2⟩ := k4 h2
        rw [h2]
        generalize (m_spec_l06Pose c (atI x (k : Int))).1 = B at *
        by_cases hlen : (((List.length (atI x (k : Int)).2.2.2 : Nat) : Int) = ((List.length (atI x 0).2.2.2 : Nat) : Int))
        · rw [decide_eq_true hlen, List.length_map]
          have e1 : IntKind.wrap .i64 (((List.length z : Nat) : Int) + ((List.length B : Nat) : Int)) = ((z.length + B.length : Nat) : Int) := by rw [← Int.natCast_add]; exact wrapN (by omega)
          rw [e1]
          by_cases hbig : (4096 : Int) < ((z.length + B.length : Nat) : Int)
          · right
            rw [decide_eq_true hbig]; exact ⟨rfl, rfl⟩
          · rw [decide_eq_false hbig, wrapS (by omega), decide_eq_true (show z.length + B.length ≤ 4611686018427387904 by omega), decide_eq_true (show (z.length + B.length) * 1 ≤ 17592186044416 by omega), decide_eq_true (show z.length + B.length ≤ 17592186044416 by omega), ← List.map_append]
            exact ih (k + 1) (z ++ B) (by omega) (by omega) (by rw [List.length_append]; omega) (by rw [List.length_append]; omega)
        · right
          rw [decide_eq_false hlen]; exact ⟨rfl, rfl⟩
      · right
        have h2' : (m_spec_l06Pose c (atI x (k : Int))).2 = false := by simpa using h2
        rw [h2']; exact ⟨rfl, rfl⟩
    · left
      rw [decide_eq_false (show ¬ (k : Int) < ((List.length x : Nat) : Int) by omega)]
      exact ⟨z, hz, by omega, rfl, rfl⟩
theorem packPoses_eq (c : Int × Int × Nat) (x : List PoseT) (hl : x.length ≤ 1048576) : m_impl_PackPoses c x = m_spec_PackPoses c x ∧ p_impl_PackPoses c x = true ∧ p_spec_PackPoses c x = true := by
  have e1 : m_spec_l06Is c = m_impl_ValidPacking c := rfl
  unfold m_impl_PackPoses m_spec_PackPoses p_impl_PackPoses p_spec_PackPoses
  rw [e1]
  by_cases hv : m_impl_ValidPacking c = true
  · rw [hv]
    rcases poses_all c hv x hl (Int.toNat (((List.length x : Nat) : Int) - 0) + 2) 0 [] (by omega) (by omega) (by simp) (by simp) with ⟨r, r1, r2, r3, r4⟩ | ⟨r3, r4⟩
    · replace r3 : l_spec_PackPoses_0 c x (Int.toNat (((List.length x : Nat) : Int) - 0) + 2) ([] : List UInt8) 0 = some (false, default, r) := r3
      replace r4 : l_impl_PackPoses_0 c x (Int.toNat (((List.length x : Nat) : Int) - 0) + 2) [] 0 = some (false, default, List.map Go.Ab.u8 r) := r4
      rw [r3, r4, decide_eq_false (show ¬ (4096 : Int) < ((List.length x : Nat) : Int) by omega)]
      refine ⟨?_, rfl, rfl⟩
      show (List.map b8 (List.map Go.Ab.u8 r), true) = (r, true)
      rw [b8_u8]
    · replace r3 : l_spec_PackPoses_0 c x (Int.toNat (((List.length x : Nat) : Int) - 0) + 2) ([] : List UInt8) 0 = some (true, ([], false), default) := r3
      replace r4 : l_impl_PackPoses_0 c x (Int.toNat (((List.length x : Nat) : Int) - 0) + 2) [] 0 = some (true, ([], false), default) := r4
      rw [r3, r4]
      by_cases hb : (4096 : Int) < ((List.length x : Nat) : Int)
      · rw [decide_eq_true hb]; exact ⟨rfl, rfl, rfl⟩
      · rw [decide_eq_false hb]; exact ⟨rfl, rfl, rfl⟩
  · have hv' : m_impl_ValidPacking c = false := by simpa using hv
    rw [hv']
    exact ⟨rfl, rfl, rfl⟩
theorem law_PackPoses (x : Int) (y : Int) (z : Nat) (_ : (Lit.int .i64 x).wf = true) (_ : (Lit.int .i64 y).wf = true) (_ : Canon .f32 z)
    (l : List PoseT) (hl : l.length ≤ maxLen) (hq : ∀ q ∈ l, Canon .f32 q.1 ∧ Canon .f32 q.2.1 ∧ Canon .f32 q.2.2.1 ∧ q.2.2.2.length ≤ maxLen ∧ (∀ qq ∈ q.2.2.2, Canon .f32 qq.1 ∧ Canon .f32 qq.2.1 ∧ Canon .f32 qq.2.2.1 ∧ Canon .f32 qq.2.2.2)) :
    g_laws_FnExactPackPoses [.agg [.int .i64 x, .int .i64 y, .flt .f32 z], .sl (List.map en1 l)] = some (.bool true) := by
  have key : p_laws_FnExactPackPoses (x, y, z) l = true ∧ m_laws_FnExactPackPoses (x, y, z) l = true := by
    unfold p_laws_FnExactPackPoses m_laws_FnExactPackPoses
    have e0 : m_laws_toPacking (x, y, z) = (x, y, z) := rfl
    rw [e0]
    generalize (x, y, z) = q at *
    obtain ⟨s1, s2⟩ := sz_PoseS l hl fun p hp => (hq p hp).2.2.2.1
    by_cases hs : m_laws_szPoseS l 1048576 < 0
    · simp [hs, s1]
    · obtain ⟨j1, j2⟩ := s2 hs
      obtain ⟨c1, c2, c3⟩ := packPoses_eq q l j1
      simp [hs, s1, to_PoseS l j1 j2, c1, c2, c3, eq_PoseS l j1 j2]
  unfold g_laws_FnExactPackPoses
  simp only [dc_en1_map, key.1, key.2, if_true]
end Go.Proofs
