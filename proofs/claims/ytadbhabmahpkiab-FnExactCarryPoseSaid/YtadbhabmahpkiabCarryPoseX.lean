/- What functions that FnExactCarryPose reaches compute, and that the program's and the reference's answers are the same. No conditions. -/
import Derived.Test.YtadbhabmahpkiabCarryPoseY0
set_option maxRecDepth 100000
set_option maxHeartbeats 4000000
set_option linter.all false
namespace Go.Proofs
open Go.Ab
end Go.Proofs
namespace Go.Ab
/-- a list of known length is filled, an element a round -/
theorem fill_loop {β : Type} (l : Nat → List β → Int → Option (List β)) (len : Nat) (F : Nat → β) (hlen : len < 2 ^ 62)
    (H : ∀ (n : Nat) (z : List β) (k : Nat), k < len → z.length = len → l (n + 1) z (k : Int) = l n (z.set k (F k)) (IntKind.wrap .i64 ((k : Int) + 1)))
    (H' : ∀ (n : Nat) (z : List β) (k : Nat), ¬ k < len → l (n + 1) z (k : Int) = some z) :
    ∀ (n : Nat) (z : List β) (k : Nat), k ≤ len → z.length = len → len - k < n → l n z (k : Int) = some (z.take k ++ (List.range' k (len - k)).map F)
  | 0, z, k, _, _, h => by omega
  | n + 1, z, k, hk, hz, h => by
    by_cases hlt : k < len
    · rw [H n z k hlt hz, wrapS (by omega), fill_loop l len F hlen H H' n _ (k + 1) (by omega) (by rw [List.length_set]; exact hz) (by omega), show len - k = (len - (k + 1)) + 1 by omega, List.range'_succ, List.map_cons]
      congr 1
      rw [List.take_succ_eq_append_getElem (by rw [List.length_set]; omega), List.take_set_of_le (Nat.le_refl _), List.getElem_set_self, List.append_assoc, List.singleton_append]
    · rw [H' n z k hlt, show len - k = 0 by omega]
      have : k = z.length := by omega
      subst this
      simp
/-- elements are put at the end, one a round -/
theorem app_loop {β : Type} (l : Nat → List β → Int → Option (List β)) (len : Nat) (F : Nat → β) (hlen : len < 2 ^ 62) (P : Nat → Nat → Prop)
    (H : ∀ (n : Nat) (z : List β) (k : Nat), k < len → P k z.length → l (n + 1) z (k : Int) = l n (z ++ [F k]) (IntKind.wrap .i64 ((k : Int) + 1)))
    (H' : ∀ (n : Nat) (z : List β) (k : Nat), ¬ k < len → l (n + 1) z (k : Int) = some z) (hP : ∀ k j, k < len → P k j → P (k + 1) (j + 1)) :
    ∀ (n : Nat) (z : List β) (k : Nat), k ≤ len → P k z.length → len - k < n → l n z (k : Int) = some (z ++ (List.range' k (len - k)).map F)
  | 0, z, k, _, _, h => by omega
  | n + 1, z, k, hk, hp, h => by
    by_cases hlt : k < len
    · rw [H n z k hlt hp, wrapS (by omega), app_loop l len F hlen P H H' hP n _ (k + 1) (by omega) (by rw [List.length_append]; exact hP _ _ hlt hp) (by omega), show len - k = (len - (k + 1)) + 1 by omega, List.range'_succ, List.map_cons]
      simp
    · rw [H' n z k hlt, show len - k = 0 by omega]
      simp
theorem map_range_shift {β : Type} {F G : Nat → β} {k j m : Nat} (h : ∀ i, i < m → F (k + i) = G (j + i)) : (List.range' k m).map F = (List.range' j m).map G := by
  induction m generalizing k j with
  | zero => rfl
  | succ m ih =>
    have h0 := h 0 (by omega)
    rw [Nat.add_zero, Nat.add_zero] at h0
    rw [List.range'_succ, List.range'_succ, List.map_cons, List.map_cons, h0, ih fun i hi => by
      have := h (i + 1) (by omega)
      rw [show k + (i + 1) = k + 1 + i by omega, show j + (i + 1) = j + 1 + i by omega] at this
      exact this]
/-- marks -/
def marks {α : Type} (f : Int → α) (g : Int → Int) : Int → Nat → List α
  | _, 0 => []
  | m, n + 1 => f m :: marks f g (g m) n
def iter (g : Int → Int) : Nat → Int → Int
  | 0, m => m
  | n + 1, m => iter g n (g m)
theorem marks_len {α : Type} (f : Int → α) (g : Int → Int) : ∀ (n : Nat) (m : Int), (marks f g m n).length = n
  | 0, _ => rfl
  | n + 1, m => by rw [marks, List.length_cons, marks_len f g n]
theorem marks_get {α : Type} [Inhabited α] (f : Int → α) (g : Int → Int) : ∀ (n : Nat) (m : Int) (i : Nat), i < n → (marks f g m n).getD i default = f (iter g i m)
  | 0, _, _, h => by omega
  | n + 1, m, 0, _ => rfl
  | n + 1, m, i + 1, h => by
    rw [marks, List.getD_cons_succ, marks_get f g n (g m) i (by omega)]; rfl
theorem iter_succ (g : Int → Int) : ∀ (i : Nat) (m : Int), g (iter g i m) = iter g (i + 1) m
  | 0, _ => rfl
  | i + 1, m => by rw [iter, iter_succ g i (g m)]; rfl
theorem iter_add {g : Int → Int} {c : Nat} (hg : ∀ m : Int, 0 ≤ m → m ≤ 2 ^ 60 → g m = m + c) : ∀ (n : Nat) (m : Int), 0 ≤ m → m + ((c * n : Nat) : Int) ≤ 2 ^ 60 → iter g n m = m + ((c * n : Nat) : Int)
  | 0, m, _, _ => by simp [iter]
  | n + 1, m, h0, h => by
    rw [Nat.mul_succ] at h ⊢
    rw [iter, hg m h0 (by omega), iter_add hg n _ (by omega) (by omega)]
    omega
theorem mark_loop {α : Type} (l : Nat → List α → Int → Int → Option (Int × List α)) (f : Int → α) (g : Int → Int)
    (H : ∀ n z m k, l (n + 1) z m k = if (decide (k < ((z.length : Nat) : Int))) = true then need (inB k z.length) (l n (z.set k.toNat (f m)) (g m) (IntKind.wrap .i64 (k + 1))) else some (m, z)) :
    ∀ (n : Nat) (z : List α) (m : Int) (k : Nat), z.length < 2 ^ 62 → k ≤ z.length → z.length - k < n → l n z m (k : Int) = some (iter g (z.length - k) m, z.take k ++ marks f g m (z.length - k))
  | 0, z, m, k, _, _, h => by omega
  | n + 1, z, m, k, hz, hk, h => by
    rw [H]
    by_cases hlt : k < z.length
    · rw [if_pos (by simp; omega), inB_nat]
      unfold need
      rw [if_pos (by simpa using hlt), wrapS (by omega), Int.toNat_natCast, mark_loop l f g H n _ (g m) (k + 1) (by rw [List.length_set]; exact hz) (by rw [List.length_set]; omega) (by rw [List.length_set]; omega), List.length_set,
        show z.length - k = (z.length - (k + 1)) + 1 by omega]
      congr 2
      rw [List.take_succ_eq_append_getElem (by rw [List.length_set]; omega), List.take_set_of_le (Nat.le_refl _), List.getElem_set_self, List.append_assoc, List.singleton_append]
      rfl
    · rw [if_neg (by simp; omega), show z.length - k = 0 by omega]
      have : k = z.length := by omega
      subst this
      simp [iter, marks]
theorem mark_all {α : Type} (l : Nat → List α → Int → Int → Option (Int × List α)) (f : Int → α) (g : Int → Int) (x : List α) (m : Int) (hx : x.length < 2 ^ 62)
    (H : ∀ n z m k, l (n + 1) z m k = if (decide (k < ((z.length : Nat) : Int))) = true then need (inB k z.length) (l n (z.set k.toNat (f m)) (g m) (IntKind.wrap .i64 (k + 1))) else some (m, z)) :
    l (Int.toNat (((x.length : Nat) : Int) - 0) + 2) x m 0 = some (iter g x.length m, marks f g m x.length) := by
  have := mark_loop l f g H (Int.toNat (((x.length : Nat) : Int) - 0) + 2) x m 0 hx (Nat.zero_le _) (by omega)
  simpa using this
theorem held_all {α : Type} [Inhabited α] (l : Nat → Int → Int → Option (Bool × Int × Int)) (f : Int → α) (g : Int → Int) (e : α → Int → Bool) (x : List α) (m : Int) (len : Nat) (hx : x = marks f g m len) (hl : len < 2 ^ 62) (he : ∀ m, e (f m) m = true)
    (H : ∀ n m k, l (n + 1) m k = if (decide (k < ((x.length : Nat) : Int))) = true then need (inB k x.length) (if e (atI x k) m = true then l n (g m) (IntKind.wrap .i64 (k + 1)) else some (true, -1, default)) else some (false, default, m)) :
    l (Int.toNat (((x.length : Nat) : Int) - 0) + 2) m 0 = some (false, default, iter g len m) := by
  have hlen : x.length = len := by rw [hx, marks_len]
  have key : ∀ (n k : Nat), k ≤ len → len - k < n → l n (iter g k m) (k : Int) = some (false, default, iter g len m) := by
    intro n
    induction n with
    | zero => intro k _ h; omega
    | succ n ih =>
      intro k hk h
      rw [H, hlen]
      by_cases hlt : k < len
      · rw [if_pos (by simp; omega), inB_nat]
        unfold need
        rw [if_pos (by simpa using hlt), atI_nat, hx, marks_get f g len m k hlt, if_pos (he _), wrapS (by omega), iter_succ g, ih (k + 1) (by omega) (by omega)]
      · rw [if_neg (by simp; omega), show k = len by omega]
  have := key (Int.toNat (((x.length : Nat) : Int) - 0) + 2) 0 (Nat.zero_le _) (by omega)
  exact this
/-- a whole number made a float is itself -/
theorem feq_ofInt (n : Int) : feq .f32 (ofInt .f32 n) (ofInt .f32 n) = true := by
  rw [feq_self_iff]
  have h : isNaN .f32 (ofInt .f32 n) = false := by
    unfold isNaN ofInt
    show (FloatKind.f32.format.read (FloatKind.f32.nearest n)).isNaN = false
    rcases read_nearest .f32 (decide (n < 0)) n.natAbs 0 with ⟨m', e', h, _⟩ | h
    all_goals
      have h2 : FloatKind.f32.format.read (FloatKind.f32.nearest n) = _ := h
      rw [h2]; rfl
  rw [h]; rfl
end Go.Ab
namespace Go.Proofs
open Go.Ab
theorem sameFloat_refl (x : Nat) : m_laws_sameFloat x x = true := by
  unfold m_laws_sameFloat
  by_cases h : feq .f64 x x = true
  · simp [h]
  · simp [h]
end Go.Proofs
namespace Go.Proofs
open Go.Ab
theorem eq_Vector (a : Nat × Nat × Nat) : m_laws_eqVector a a = true := by unfold m_laws_eqVector; simp [sameFloat_refl]
end Go.Proofs
namespace Go.Proofs
open Go.Ab
theorem eq_Turn (a : Nat × Nat × Nat × Nat) : m_laws_eqTurn a a = true := by unfold m_laws_eqTurn; simp [sameFloat_refl]
theorem eq_TurnS (x : List (Nat × Nat × Nat × Nat)) (h : x.length ≤ 1048576) : m_laws_eqTurnS x x = true ∧ p_laws_eqTurnS x x = true := by
  unfold m_laws_eqTurnS p_laws_eqTurnS
  rw [show l_laws_eqTurnS_0 x x (Int.toNat (((List.length x : Nat) : Int) - 0) + 2) 0 = some (false, default, ()) from eq_loop _ x m_laws_eqTurn eq_Turn (by omega) fun _ _ => rfl]; simp
theorem to_TurnS (x : List (Nat × Nat × Nat × Nat)) (h : x.length ≤ 1048576) : m_laws_toTurnS x = x ∧ p_laws_toTurnS x = true := by
  unfold m_laws_toTurnS p_laws_toTurnS
  rw [show l_laws_toTurnS_0 x (Int.toNat (((List.length x : Nat) : Int) - 0) + 2) (List.replicate (Int.toNat ((List.length x : Nat) : Int)) (0, 0, 0, 0)) 0 = some x by
    rw [copy_all (l_laws_toTurnS_0 x) x m_laws_toTurn _ (by omega) fun _ _ _ => rfl]
    congr 1
    exact List.map_id x]
  refine ⟨rfl, ?_⟩
  simp; omega
theorem sz_TurnS (x : List (Nat × Nat × Nat × Nat)) (n : Int) (hx : x.length ≤ maxLen) (h0 : 0 ≤ n) (hn : n ≤ 1048576) (hs : ¬ (m_laws_szTurnS x n < 0)) : x.length ≤ 1048576 ∧ 0 ≤ m_laws_szTurnS x n ∧ m_laws_szTurnS x n ≤ 1048576 := by
  unfold m_laws_szTurnS at hs ⊢
  have hx' : x.length ≤ 9223372036854775807 := by unfold maxLen at hx; omega
  rw [wrapI (by omega) (by omega)] at hs ⊢
  by_cases h : n - ((List.length x : Nat) : Int) < 0
  · simp [h] at hs
  · rw [if_neg (by simpa using h)]; omega
end Go.Proofs
namespace Go.Proofs
open Go.Ab
theorem eq_Pose (x : Nat × Nat × Nat × List (Nat × Nat × Nat × Nat)) (h : x.2.2.2.length ≤ 1048576) : m_laws_eqPose x x = true ∧ p_laws_eqPose x x = true := by
  unfold m_laws_eqPose p_laws_eqPose
  simp [eq_Vector, eq_TurnS _ h]
theorem to_Pose (x : Nat × Nat × Nat × List (Nat × Nat × Nat × Nat)) (h : x.2.2.2.length ≤ 1048576) : m_laws_toPose x = x ∧ p_laws_toPose x = true := by
  unfold m_laws_toPose p_laws_toPose
  exact ⟨by simp [to_TurnS _ h, m_laws_toVector], (to_TurnS _ h).2⟩
theorem sz_Pose (x : Nat × Nat × Nat × List (Nat × Nat × Nat × Nat)) (n : Int) (hx : x.2.2.2.length ≤ maxLen) (h0 : 0 ≤ n) (hn : n ≤ 1048576) (hs : ¬ (m_laws_szPose x n < 0)) : x.2.2.2.length ≤ 1048576 ∧ 0 ≤ m_laws_szPose x n ∧ m_laws_szPose x n ≤ 1048576 := by
  unfold m_laws_szPose at hs ⊢
  by_cases h : m_laws_szTurnS x.2.2.2 n < 0
  · simp [h] at hs
  · have := sz_TurnS x.2.2.2 n hx h0 hn h
    simpa [h] using this
end Go.Proofs
namespace Go.Proofs
open Go.Ab
def gT (m : Int) : Int := IntKind.wrap .i64 ((IntKind.wrap .i64 ((IntKind.wrap .i64 ((IntKind.wrap .i64 (m + 1)) + 1)) + 1)) + 1)
theorem gT_add (m : Int) (h0 : 0 ≤ m) (h : m ≤ 2 ^ 60) : gT m = m + (4 : Nat) := by
  unfold gT
  rw [wrapI (n := m + 1) (by omega) (by omega), wrapI (n := m + 1 + 1) (by omega) (by omega), wrapI (n := m + 1 + 1 + 1) (by omega) (by omega), wrapI (by omega) (by omega)]
  omega
def fT (m : Int) : Nat × Nat × Nat × Nat := (ofInt .f32 m, ofInt .f32 (IntKind.wrap .i64 (m + 1)), ofInt .f32 (IntKind.wrap .i64 ((IntKind.wrap .i64 (m + 1)) + 1)), ofInt .f32 (IntKind.wrap .i64 ((IntKind.wrap .i64 ((IntKind.wrap .i64 (m + 1)) + 1)) + 1)))
theorem mark_TurnS (x : List (Nat × Nat × Nat × Nat)) (m : Int) (h : x.length ≤ 1048576) : m_laws_markTurnS x m = (iter gT x.length m, marks fT gT m x.length) ∧ p_laws_markTurnS x m = true := by
  unfold m_laws_markTurnS p_laws_markTurnS
  rw [show l_laws_markTurnS_0 (Int.toNat (((List.length x : Nat) : Int) - 0) + 2) x m 0 = some (iter gT x.length m, marks fT gT m x.length) from mark_all _ fT gT x m (by omega) fun _ _ _ _ => rfl]
  exact ⟨rfl, by simp [marks_len]⟩
theorem mark_Pose (x : Nat × Nat × Nat × List (Nat × Nat × Nat × Nat)) (m : Int) (h : x.2.2.2.length ≤ 1048576) : m_laws_markPose x m = (iter gT x.2.2.2.length m, marks fT gT m x.2.2.2.length) ∧ p_laws_markPose x m = true := by
  unfold m_laws_markPose p_laws_markPose
  rw [(mark_TurnS _ m h).1, (mark_TurnS _ m h).2]
  exact ⟨rfl, by simp [marks_len]⟩
end Go.Proofs
namespace Go.Proofs
open Go.Ab
theorem held_TurnS (n : Nat) (m : Int) (h : n ≤ 1048576) : m_laws_heldTurnS (marks fT gT m n) m = iter gT n m ∧ p_laws_heldTurnS (marks fT gT m n) m = true := by
  unfold m_laws_heldTurnS p_laws_heldTurnS
  rw [show l_laws_heldTurnS_0 (marks fT gT m n) (Int.toNat (((List.length (marks fT gT m n) : Nat) : Int) - 0) + 2) m 0 = some (false, default, iter gT n m) from
    held_all _ fT gT (fun a m => feq .f32 a.1 (ofInt .f32 m) && (feq .f32 a.2.1 (ofInt .f32 (IntKind.wrap .i64 (m + 1))) && (feq .f32 a.2.2.1 (ofInt .f32 (IntKind.wrap .i64 ((IntKind.wrap .i64 (m + 1)) + 1))) && feq .f32 a.2.2.2 (ofInt .f32 (IntKind.wrap .i64 ((IntKind.wrap .i64 ((IntKind.wrap .i64 (m + 1)) + 1)) + 1)))))) _ m n rfl (by omega) (fun m => by
      simp [fT, feq_ofInt]) fun n m k => by
      show (if (decide (k < _)) = true then _ else _) = _
      split
      · congr 1
        split
        · rename_i h1; rw [h1]
          split
          · rename_i h2; rw [h2]
            split
            · rename_i h3; rw [h3]
              split
              · rename_i h4; rw [h4]; rfl
              · rename_i h4; rw [(Bool.not_eq_true _).mp h4]; first | rfl | (simp; done)
            · rename_i h3; rw [(Bool.not_eq_true _).mp h3]; first | rfl | (simp; done)
          · rename_i h2; rw [(Bool.not_eq_true _).mp h2]; first | rfl | (simp; done)
        · rename_i h1; rw [(Bool.not_eq_true _).mp h1]; first | rfl | (simp; done)
      · rfl]
  exact ⟨by simp, rfl⟩
theorem held_Pose (a b c : Nat) (n : Nat) (m : Int) (h : n ≤ 1048576) (h0 : 0 ≤ m) (h1 : m ≤ 2 ^ 30) : m_laws_heldPose (a, b, c, marks fT gT m n) m = iter gT n m ∧ p_laws_heldPose (a, b, c, marks fT gT m n) m = true := by
  unfold m_laws_heldPose p_laws_heldPose
  rw [(held_TurnS n m h).1, (held_TurnS n m h).2]
  have : ¬ iter gT n m < 0 := by rw [iter_add (g := gT) (c := 4) gT_add _ _ h0 (by omega)]; omega
  exact ⟨by simp [this], rfl⟩
end Go.Proofs
namespace Go.Proofs
open Go.Ab
theorem to_Int64S (x : List Int) (h : x.length ≤ 1048576) : m_laws_toInt64S x = x ∧ p_laws_toInt64S x = true := by
  unfold m_laws_toInt64S p_laws_toInt64S
  rw [show l_laws_toInt64S_0 x (Int.toNat (((List.length x : Nat) : Int) - 0) + 2) (List.replicate (Int.toNat ((List.length x : Nat) : Int)) 0) 0 = some x by
    rw [copy_all (l_laws_toInt64S_0 x) x id _ (by omega) fun _ _ _ => rfl]
    congr 1
    exact List.map_id x]
  refine ⟨rfl, ?_⟩
  simp; omega
end Go.Proofs
namespace Go.Proofs
open Go.Ab
theorem eq_Int64S (x : List Int) (h : x.length ≤ 1048576) : m_laws_eqInt64S x x = true ∧ p_laws_eqInt64S x x = true := by
  unfold m_laws_eqInt64S p_laws_eqInt64S
  rw [show l_laws_eqInt64S_0 x x (Int.toNat (((List.length x : Nat) : Int) - 0) + 2) 0 = some (false, default, ()) from eq_loop _ x (fun a b => decide (a = b)) (fun _ => by simp) (by omega) fun _ _ => rfl]; simp
end Go.Proofs
namespace Go.Proofs
open Go.Ab
def gI (m : Int) : Int := IntKind.wrap .i64 (m + 1)
theorem gI_add (m : Int) (h0 : 0 ≤ m) (h : m ≤ 2 ^ 60) : gI m = m + (1 : Nat) := wrapI (by omega) (by omega)
theorem mark_Int64S (x : List Int) (m : Int) (h : x.length ≤ 1048576) : m_laws_markInt64S x m = (iter gI x.length m, marks id gI m x.length) ∧ p_laws_markInt64S x m = true := by
  unfold m_laws_markInt64S p_laws_markInt64S
  rw [show l_laws_markInt64S_0 (Int.toNat (((List.length x : Nat) : Int) - 0) + 2) x m 0 = some (iter gI x.length m, marks id gI m x.length) from mark_all _ id gI x m (by omega) fun _ _ _ _ => rfl]
  exact ⟨rfl, by simp [marks_len]⟩
end Go.Proofs
namespace Go.Proofs
open Go.Ab
abbrev Ps : Type := Nat × Nat × Nat × List (Nat × Nat × Nat × Nat)
theorem l00In_iff (a b c : Int) : m_spec_l00In a b c = (decide (b ≤ a) && decide (a ≤ c)) := by
  unfold m_spec_l00In; cases decide (b ≤ a) <;> simp
theorem carry_all (p : Ps) (y : List Int) (by_ : Nat) (hp : p.2.2.2.length ≤ 12) (hy : y.length ≤ 12) : ∀ (n k : Nat) (z : List (Nat × Nat × Nat × Nat)), k ≤ y.length → y.length - k < n → z.length = k →
    (∃ r : List (Nat × Nat × Nat × Nat), r.length = y.length ∧ l_spec_CarryPose_0 p y by_ n z (k : Int) = some (false, default, r) ∧ l_impl_CarryPose_0 p y by_ n (z ++ List.replicate (y.length - k) m_impl_NoTurn) (k : Int) = some (false, default, r)) ∨
    (l_spec_CarryPose_0 p y by_ n z (k : Int) = some (true, ((0, 0, 0, []), false), default) ∧ l_impl_CarryPose_0 p y by_ n (z ++ List.replicate (y.length - k) m_impl_NoTurn) (k : Int) = some (true, ((0, 0, 0, []), false), default)) := by
  intro n
  induction n with
  | zero => intro k _ _ h; omega
  | succ n ih =>
    intro k z hk hn hz
    rw [l_spec_CarryPose_0, l_impl_CarryPose_0]
    by_cases hlt : k < y.length
    · have d1 : (decide ((k : Int) < ((List.length y : Nat) : Int))) = true := decide_eq_true (by omega)
      have d2 : inB (k : Int) y.length = true := by unfold inB; simp; omega
      have e2 : atI y (k : Int) = y.getD k default := rfl
      rw [d1, d2, e2, l00In_iff, wrapI (by omega) (by omega)]
      generalize y.getD k default = v
      have hrep : z ++ List.replicate (y.length - k) m_impl_NoTurn = z ++ [m_impl_NoTurn] ++ List.replicate (y.length - (k + 1)) m_impl_NoTurn := by
        rw [show y.length - k = (y.length - (k + 1)) + 1 by omega, List.replicate_succ, List.append_assoc]; rfl
      have hset : ∀ t, (z ++ List.replicate (y.length - k) m_impl_NoTurn).set k t = z ++ [t] ++ List.replicate (y.length - (k + 1)) m_impl_NoTurn := by
        intro t
        rw [hrep, List.append_assoc, List.set_append_right _ _ (by omega), hz, Nat.sub_self, List.append_assoc]; rfl
      have hin : inB (k : Int) (z ++ List.replicate (y.length - k) m_impl_NoTurn).length = true := by unfold inB; simp; omega
      by_cases h1 : -1 ≤ v ∧ v ≤ ((List.length p.2.2.2 : Nat) : Int) - 1
      · have f1 : (decide (-1 ≤ v) && decide (v ≤ ((List.length p.2.2.2 : Nat) : Int) - 1)) = true := by simp; omega
        have f2 : decide (v < -1) = false := by simp; omega
        have f3 : decide (((List.length p.2.2.2 : Nat) : Int) ≤ v) = false := by simp; omega
        rw [f1, f2, f3, decide_eq_true (show (z.length + 1) * 16 ≤ 17592186044416 by omega), decide_eq_true (show z.length + 1 ≤ 17592186044416 by omega), wrapS (k := k) (by omega), hin, Int.toNat_natCast, hset]
        by_cases h0 : 0 ≤ v
        · have f4 : decide (0 ≤ v) = true := by simpa using h0
          have f5 : inB v p.2.2.2.length = true := by unfold inB; simp; omega
          rw [f4, f5]
          exact ih (k + 1) (z ++ [atI p.2.2.2 v]) (by omega) (by omega) (by simp [hz])
        · have f4 : decide (0 ≤ v) = false := by simpa using h0
          rw [f4, hrep]
          exact ih (k + 1) (z ++ [m_impl_NoTurn]) (by omega) (by omega) (by simp [hz])
      · right
        have f1 : (decide (-1 ≤ v) && decide (v ≤ ((List.length p.2.2.2 : Nat) : Int) - 1)) = false := by
          rw [Bool.and_eq_false_iff, decide_eq_false_iff_not, decide_eq_false_iff_not]; omega
        rw [f1]
        refine ⟨rfl, ?_⟩
        by_cases h2 : v < -1
        · rw [decide_eq_true h2]; rfl
        · rw [decide_eq_false h2, decide_eq_true (show ((List.length p.2.2.2 : Nat) : Int) ≤ v by omega)]; rfl
    · left
      rw [decide_eq_false (show ¬ (k : Int) < ((List.length y : Nat) : Int) by omega), show y.length - k = 0 by omega, List.replicate_zero, List.append_nil]
      exact ⟨z, by omega, rfl, rfl⟩
theorem core_CarryPose (p : Ps) (y : List Int) (b : Nat) : p_impl_CarryPose p y b = true ∧ p_spec_CarryPose p y b = true ∧ m_impl_CarryPose p y b = m_spec_CarryPose p y b ∧ (m_spec_CarryPose p y b).1.2.2.2.length ≤ 1048576 := by
  have e1 : m_spec_l03Few p = m_impl_isPose p := rfl
  have e2 : m_spec_l01Scale = m_impl_ScaleVector := rfl
  unfold p_impl_CarryPose p_spec_CarryPose m_impl_CarryPose m_spec_CarryPose m_impl_restOf p_impl_restOf m_slices_Repeat p_slices_Repeat
  rw [e1, e2]
  by_cases hp : m_impl_isPose p = true
  · have hp12 : p.2.2.2.length ≤ 12 := by
      unfold m_impl_isPose at hp
      have := of_decide_eq_true (and_of hp).2
      omega
    rw [hp]
    by_cases h1 : ((List.length y : Nat) : Int) < 1
    · rw [decide_eq_true h1]; exact ⟨rfl, rfl, rfl, Nat.zero_le _⟩
    · rw [decide_eq_false h1]
      by_cases h2 : (12 : Int) < ((List.length y : Nat) : Int)
      · rw [decide_eq_true h2]; exact ⟨rfl, rfl, rfl, Nat.zero_le _⟩
      · rw [decide_eq_false h2]
        have e : atI [m_impl_NoTurn] 0 = m_impl_NoTurn := rfl
        have d1 : decide (0 ≤ ((List.length y : Nat) : Int)) = true := by simp
        have d2 : decide (((List.length y : Nat) : Int) ≤ 12) = true := by simp; omega
        rw [e, d1, d2, Int.toNat_natCast]
        have h := carry_all p y b hp12 (by omega) (Int.toNat (((List.length y : Nat) : Int) - 0) + 2) 0 [] (Nat.zero_le _) (by omega) rfl
        rw [List.nil_append, Nat.sub_zero] at h
        rcases h with ⟨r, r1, r2, r3⟩ | ⟨r2, r3⟩
        · replace r2 : l_spec_CarryPose_0 p y b (Int.toNat (((List.length y : Nat) : Int) - 0) + 2) [] 0 = some (false, default, r) := r2
          replace r3 : l_impl_CarryPose_0 p y b (Int.toNat (((List.length y : Nat) : Int) - 0) + 2) (List.replicate y.length m_impl_NoTurn) 0 = some (false, default, r) := r3
          rw [r2, r3]
          exact ⟨rfl, rfl, rfl, by show r.length ≤ 1048576; omega⟩
        · replace r2 : l_spec_CarryPose_0 p y b (Int.toNat (((List.length y : Nat) : Int) - 0) + 2) [] 0 = some (true, ((0, 0, 0, []), false), default) := r2
          replace r3 : l_impl_CarryPose_0 p y b (Int.toNat (((List.length y : Nat) : Int) - 0) + 2) (List.replicate y.length m_impl_NoTurn) 0 = some (true, ((0, 0, 0, []), false), default) := r3
          rw [r2, r3]
          exact ⟨rfl, rfl, rfl, Nat.zero_le _⟩
  · have hp' : m_impl_isPose p = false := by simpa using hp
    rw [hp']; exact ⟨rfl, rfl, rfl, Nat.zero_le _⟩
theorem law_CarryPose (a b c : Nat) (l : List (Nat × Nat × Nat × Nat)) (_ : Canon .f32 a) (_ : Canon .f32 b) (_ : Canon .f32 c) (hl : l.length ≤ maxLen) (_ : ∀ q ∈ l, Canon .f32 q.1 ∧ Canon .f32 q.2.1 ∧ Canon .f32 q.2.2.1 ∧ Canon .f32 q.2.2.2)
    (y : List Int) (_ : y.length ≤ maxLen) (_ : ∀ q ∈ y, (Lit.int .i64 q).wf = true) (s : Nat) (_ : Canon .f32 s) :
    g_laws_FnExactCarryPose [.agg [.flt .f32 a, .flt .f32 b, .flt .f32 c, .sl (List.map en0 l)], .sl (List.map (AV.int .i64) y), .flt .f32 s] = some (.bool true) := by
  have key : p_laws_FnExactCarryPose (a, b, c, l) y s = true ∧ m_laws_FnExactCarryPose (a, b, c, l) y s = true := by
    unfold p_laws_FnExactCarryPose m_laws_FnExactCarryPose v_laws_FnExactCarryPose_0
    generalize hp : (a, b, c, l) = p at *
    by_cases hy : (1048576 : Int) < ((List.length y : Nat) : Int)
    · simp [hy]
    · by_cases hs : m_laws_szPose p 1048576 < 0
      · simp [hs, hy]
      · obtain ⟨j1, j2, j3⟩ := sz_Pose p _ (by rw [← hp]; exact hl) (by omega) (by omega) hs
        have ky : y.length ≤ 1048576 := by omega
        obtain ⟨c1, c2, c3, c4⟩ := core_CarryPose p y s
        rw [(to_Pose p j1).1, (to_Int64S y ky).1, c3]
        generalize (m_spec_CarryPose p y s) = r at *
        have i0' : iter gT p.2.2.2.length 1 = 1 + ((4 * p.2.2.2.length : Nat) : Int) := by rw [iter_add (g := gT) (c := 4) gT_add _ _ (by omega) (by omega)]
        have i1 : ¬ iter gI y.length (iter gT p.2.2.2.length 1) < 0 := by rw [i0', iter_add (g := gI) (c := 1) gI_add _ _ (by omega) (by omega)]; omega
        have i2 : ¬ iter gT r.1.2.2.2.length 1 < 0 := by rw [iter_add (g := gT) (c := 4) gT_add _ _ (by omega) (by omega)]; omega
        simp [hs, hy, to_Pose p j1, to_Int64S y ky, c1, c2, eq_Pose p j1, eq_Pose r.1 c4, eq_Int64S y ky, mark_Pose p _ j1, mark_Int64S y _ ky, mark_Pose r.1 1 c4, held_Pose _ _ _ _ 1 c4, marks_len, i1, i2]
  unfold g_laws_FnExactCarryPose
  simp only [dc_en0_map, dI64_map, key.1, key.2, if_true]
end Go.Proofs
