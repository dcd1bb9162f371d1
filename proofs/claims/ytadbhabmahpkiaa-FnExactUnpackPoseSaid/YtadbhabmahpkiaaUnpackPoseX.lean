/- What functions that FnExactUnpackPose reaches compute, and that the program's and the reference's answers are the same. No conditions. -/
import Derived.Test.YtadbhabmahpkiaaUnpackPoseY1
set_option maxRecDepth 100000
set_option maxHeartbeats 4000000
set_option linter.all false
namespace Go.Proofs
open Go.Ab
end Go.Proofs
namespace Go.Ab
/-- a list of known length is filled, an element a round -/
theorem fill_loop {β : Type} (l : Nat → List β → Int → Option (List β)) (len : Nat) (F : Nat → β) (hlen : len < 2 ^ 62)
    (H : ∀ (n : Nat) (z : List β) (k : Nat), k < len → z.length = len → l (n + 1) z (k : Int) = l n (z.set k (F k)) (IntKind.wrap .i64 ((k : Int) + 1)))
    (H' : ∀ (n : Nat) (z : List β) (k : Nat), ¬ k < len → l (n + 1) z (k : Int) = some z) :
    ∀ (n : Nat) (z : List β) (k : Nat), k ≤ len → z.length = len → len - k < n → l n z (k : Int) = some (z.take k ++ (List.range' k (len - k)).map F)
  | 0, z, k, _, _, h => by omega
  | n + 1, z, k, hk, hz, h => by
    by_cases hlt : k < len
    · rw [H n z k hlt hz, wrapS (by omega), fill_loop l len F hlen H H' n _ (k + 1) (by omega) (by rw [List.length_set]; exact hz) (by omega), show len - k = (len - (k + 1)) + 1 by omega, List.range'_succ, List.map_cons]
      congr 1
      rw [List.take_succ_eq_append_getElem (by rw [List.length_set]; omega), List.take_set_of_le (Nat.le_refl _), List.getElem_set_self, List.append_assoc, List.singleton_append]
    · rw [H' n z k hlt, show len - k = 0 by omega]
      have : k = z.length := by omega
      subst this
      simp
/-- elements are put at the end, one a round -/
theorem app_loop {β : Type} (l : Nat → List β → Int → Option (List β)) (len : Nat) (F : Nat → β) (hlen : len < 2 ^ 62) (P : Nat → Nat → Prop)
    (H : ∀ (n : Nat) (z : List β) (k : Nat), k < len → P k z.length → l (n + 1) z (k : Int) = l n (z ++ [F k]) (IntKind.wrap .i64 ((k : Int) + 1)))
    (H' : ∀ (n : Nat) (z : List β) (k : Nat), ¬ k < len → l (n + 1) z (k : Int) = some z) (hP : ∀ k j, k < len → P k j → P (k + 1) (j + 1)) :
    ∀ (n : Nat) (z : List β) (k : Nat), k ≤ len → P k z.length → len - k < n → l n z (k : Int) = some (z ++ (List.range' k (len - k)).map F)
  | 0, z, k, _, _, h => by omega
  | n + 1, z, k, hk, hp, h => by
    by_cases hlt : k < len
    · rw [H n z k hlt hp, wrapS (by omega), app_loop l len F hlen P H H' hP n _ (k + 1) (by omega) (by rw [List.length_append]; exact hP _ _ hlt hp) (by omega), show len - k = (len - (k + 1)) + 1 by omega, List.range'_succ, List.map_cons]
      simp
    · rw [H' n z k hlt, show len - k = 0 by omega]
      simp
theorem map_range_shift {β : Type} {F G : Nat → β} {k j m : Nat} (h : ∀ i, i < m → F (k + i) = G (j + i)) : (List.range' k m).map F = (List.range' j m).map G := by
  induction m generalizing k j with
  | zero => rfl
  | succ m ih =>
    have h0 := h 0 (by omega)
    rw [Nat.add_zero, Nat.add_zero] at h0
    rw [List.range'_succ, List.range'_succ, List.map_cons, List.map_cons, h0, ih fun i hi => by
      have := h (i + 1) (by omega)
      rw [show k + (i + 1) = k + 1 + i by omega, show j + (i + 1) = j + 1 + i by omega] at this
      exact this]
/-- marks -/
def marks {α : Type} (f : Int → α) (g : Int → Int) : Int → Nat → List α
  | _, 0 => []
  | m, n + 1 => f m :: marks f g (g m) n
def iter (g : Int → Int) : Nat → Int → Int
  | 0, m => m
  | n + 1, m => iter g n (g m)
theorem marks_len {α : Type} (f : Int → α) (g : Int → Int) : ∀ (n : Nat) (m : Int), (marks f g m n).length = n
  | 0, _ => rfl
  | n + 1, m => by rw [marks, List.length_cons, marks_len f g n]
theorem marks_get {α : Type} [Inhabited α] (f : Int → α) (g : Int → Int) : ∀ (n : Nat) (m : Int) (i : Nat), i < n → (marks f g m n).getD i default = f (iter g i m)
  | 0, _, _, h => by omega
  | n + 1, m, 0, _ => rfl
  | n + 1, m, i + 1, h => by
    rw [marks, List.getD_cons_succ, marks_get f g n (g m) i (by omega)]; rfl
theorem iter_succ (g : Int → Int) : ∀ (i : Nat) (m : Int), g (iter g i m) = iter g (i + 1) m
  | 0, _ => rfl
  | i + 1, m => by rw [iter, iter_succ g i (g m)]; rfl
theorem iter_add {g : Int → Int} {c : Nat} (hg : ∀ m : Int, 0 ≤ m → m ≤ 2 ^ 60 → g m = m + c) : ∀ (n : Nat) (m : Int), 0 ≤ m → m + ((c * n : Nat) : Int) ≤ 2 ^ 60 → iter g n m = m + ((c * n : Nat) : Int)
  | 0, m, _, _ => by simp [iter]
  | n + 1, m, h0, h => by
    rw [Nat.mul_succ] at h ⊢
    rw [iter, hg m h0 (by omega), iter_add hg n _ (by omega) (by omega)]
    omega
theorem mark_loop {α : Type} (l : Nat → List α → Int → Int → Option (Int × List α)) (f : Int → α) (g : Int → Int)
    (H : ∀ n z m k, l (n + 1) z m k = if (decide (k < ((z.length : Nat) : Int))) = true then need (inB k z.length) (l n (z.set k.toNat (f m)) (g m) (IntKind.wrap .i64 (k + 1))) else some (m, z)) :
    ∀ (n : Nat) (z : List α) (m : Int) (k : Nat), z.length < 2 ^ 62 → k ≤ z.length → z.length - k < n → l n z m (k : Int) = some (iter g (z.length - k) m, z.take k ++ marks f g m (z.length - k))
  | 0, z, m, k, _, _, h => by omega
  | n + 1, z, m, k, hz, hk, h => by
    rw [H]
    by_cases hlt : k < z.length
    · rw [if_pos (by simp; omega), inB_nat]
      unfold need
      rw [if_pos (by simpa using hlt), wrapS (by omega), Int.toNat_natCast, mark_loop l f g H n _ (g m) (k + 1) (by rw [List.length_set]; exact hz) (by rw [List.length_set]; omega) (by rw [List.length_set]; omega), List.length_set,
        show z.length - k = (z.length - (k + 1)) + 1 by omega]
      congr 2
      rw [List.take_succ_eq_append_getElem (by rw [List.length_set]; omega), List.take_set_of_le (Nat.le_refl _), List.getElem_set_self, List.append_assoc, List.singleton_append]
      rfl
    · rw [if_neg (by simp; omega), show z.length - k = 0 by omega]
      have : k = z.length := by omega
      subst this
      simp [iter, marks]
theorem mark_all {α : Type} (l : Nat → List α → Int → Int → Option (Int × List α)) (f : Int → α) (g : Int → Int) (x : List α) (m : Int) (hx : x.length < 2 ^ 62)
    (H : ∀ n z m k, l (n + 1) z m k = if (decide (k < ((z.length : Nat) : Int))) = true then need (inB k z.length) (l n (z.set k.toNat (f m)) (g m) (IntKind.wrap .i64 (k + 1))) else some (m, z)) :
    l (Int.toNat (((x.length : Nat) : Int) - 0) + 2) x m 0 = some (iter g x.length m, marks f g m x.length) := by
  have := mark_loop l f g H (Int.toNat (((x.length : Nat) : Int) - 0) + 2) x m 0 hx (Nat.zero_le _) (by omega)
  simpa using this
theorem held_all {α : Type} [Inhabited α] (l : Nat → Int → Int → Option (Bool × Int × Int)) (f : Int → α) (g : Int → Int) (e : α → Int → Bool) (x : List α) (m : Int) (len : Nat) (hx : x = marks f g m len) (hl : len < 2 ^ 62) (he : ∀ m, e (f m) m = true)
    (H : ∀ n m k, l (n + 1) m k = if (decide (k < ((x.length : Nat) : Int))) = true then need (inB k x.length) (if e (atI x k) m = true then l n (g m) (IntKind.wrap .i64 (k + 1)) else some (true, -1, default)) else some (false, default, m)) :
    l (Int.toNat (((x.length : Nat) : Int) - 0) + 2) m 0 = some (false, default, iter g len m) := by
  have hlen : x.length = len := by rw [hx, marks_len]
  have key : ∀ (n k : Nat), k ≤ len → len - k < n → l n (iter g k m) (k : Int) = some (false, default, iter g len m) := by
    intro n
    induction n with
    | zero => intro k _ h; omega
    | succ n ih =>
      intro k hk h
      rw [H, hlen]
      by_cases hlt : k < len
      · rw [if_pos (by simp; omega), inB_nat]
        unfold need
        rw [if_pos (by simpa using hlt), atI_nat, hx, marks_get f g len m k hlt, if_pos (he _), wrapS (by omega), iter_succ g, ih (k + 1) (by omega) (by omega)]
      · rw [if_neg (by simp; omega), show k = len by omega]
  have := key (Int.toNat (((x.length : Nat) : Int) - 0) + 2) 0 (Nat.zero_le _) (by omega)
  exact this
/-- a whole number made a float is itself -/
theorem feq_ofInt (n : Int) : feq .f32 (ofInt .f32 n) (ofInt .f32 n) = true := by
  rw [feq_self_iff]
  have h : isNaN .f32 (ofInt .f32 n) = false := by
    unfold isNaN ofInt
    show (FloatKind.f32.format.read (FloatKind.f32.nearest n)).isNaN = false
    rcases read_nearest .f32 (decide (n < 0)) n.natAbs 0 with ⟨m', e', h, _⟩ | h
    all_goals
      have h2 : FloatKind.f32.format.read (FloatKind.f32.nearest n) = _ := h
      rw [h2]; rfl
  rw [h]; rfl
end Go.Ab
namespace Go.Proofs
open Go.Ab
theorem sameFloat_refl (x : Nat) : m_laws_sameFloat x x = true := by
  unfold m_laws_sameFloat
  by_cases h : feq .f64 x x = true
  · simp [h]
  · simp [h]
end Go.Proofs
namespace Go.Proofs
open Go.Ab
theorem eq_Vector (a : Nat × Nat × Nat) : m_laws_eqVector a a = true := by unfold m_laws_eqVector; simp [sameFloat_refl]
end Go.Proofs
namespace Go.Proofs
open Go.Ab
theorem eq_Turn (a : Nat × Nat × Nat × Nat) : m_laws_eqTurn a a = true := by unfold m_laws_eqTurn; simp [sameFloat_refl]
theorem eq_TurnS (x : List (Nat × Nat × Nat × Nat)) (h : x.length ≤ 1048576) : m_laws_eqTurnS x x = true ∧ p_laws_eqTurnS x x = true := by
  unfold m_laws_eqTurnS p_laws_eqTurnS
  rw [show l_laws_eqTurnS_0 x x (Int.toNat (((List.length x : Nat) : Int) - 0) + 2) 0 = some (false, default, ()) from eq_loop _ x m_laws_eqTurn eq_Turn (by omega) fun _ _ => rfl]; simp
theorem eq_Pose (x : Nat × Nat × Nat × List (Nat × Nat × Nat × Nat)) (h : x.2.2.2.length ≤ 1048576) : m_laws_eqPose x x = true ∧ p_laws_eqPose x x = true := by
  unfold m_laws_eqPose p_laws_eqPose
  simp [eq_Vector, eq_TurnS _ h]
end Go.Proofs
namespace Go.Proofs
open Go.Ab
def gT (m : Int) : Int := IntKind.wrap .i64 ((IntKind.wrap .i64 ((IntKind.wrap .i64 ((IntKind.wrap .i64 (m + 1)) + 1)) + 1)) + 1)
theorem gT_add (m : Int) (h0 : 0 ≤ m) (h : m ≤ 2 ^ 60) : gT m = m + (4 : Nat) := by
  unfold gT
  rw [wrapI (n := m + 1) (by omega) (by omega), wrapI (n := m + 1 + 1) (by omega) (by omega), wrapI (n := m + 1 + 1 + 1) (by omega) (by omega), wrapI (by omega) (by omega)]
  omega
def fT (m : Int) : Nat × Nat × Nat × Nat := (ofInt .f32 m, ofInt .f32 (IntKind.wrap .i64 (m + 1)), ofInt .f32 (IntKind.wrap .i64 ((IntKind.wrap .i64 (m + 1)) + 1)), ofInt .f32 (IntKind.wrap .i64 ((IntKind.wrap .i64 ((IntKind.wrap .i64 (m + 1)) + 1)) + 1)))
theorem mark_TurnS (x : List (Nat × Nat × Nat × Nat)) (m : Int) (h : x.length ≤ 1048576) : m_laws_markTurnS x m = (iter gT x.length m, marks fT gT m x.length) ∧ p_laws_markTurnS x m = true := by
  unfold m_laws_markTurnS p_laws_markTurnS
  rw [show l_laws_markTurnS_0 (Int.toNat (((List.length x : Nat) : Int) - 0) + 2) x m 0 = some (iter gT x.length m, marks fT gT m x.length) from mark_all _ fT gT x m (by omega) fun _ _ _ _ => rfl]
  exact ⟨rfl, by simp [marks_len]⟩
theorem mark_Pose (x : Nat × Nat × Nat × List (Nat × Nat × Nat × Nat)) (m : Int) (h : x.2.2.2.length ≤ 1048576) : m_laws_markPose x m = (iter gT x.2.2.2.length m, marks fT gT m x.2.2.2.length) ∧ p_laws_markPose x m = true := by
  unfold m_laws_markPose p_laws_markPose
  rw [(mark_TurnS _ m h).1, (mark_TurnS _ m h).2]
  exact ⟨rfl, by simp [marks_len]⟩
end Go.Proofs
namespace Go.Proofs
open Go.Ab
theorem held_TurnS (n : Nat) (m : Int) (h : n ≤ 1048576) : m_laws_heldTurnS (marks fT gT m n) m = iter gT n m ∧ p_laws_heldTurnS (marks fT gT m n) m = true := by
  unfold m_laws_heldTurnS p_laws_heldTurnS
  rw [show l_laws_heldTurnS_0 (marks fT gT m n) (Int.toNat (((List.length (marks fT gT m n) : Nat) : Int) - 0) + 2) m 0 = some (false, default, iter gT n m) from
    held_all _ fT gT (fun a m => feq .f32 a.1 (ofInt .f32 m) && (feq .f32 a.2.1 (ofInt .f32 (IntKind.wrap .i64 (m + 1))) && (feq .f32 a.2.2.1 (ofInt .f32 (IntKind.wrap .i64 ((IntKind.wrap .i64 (m + 1)) + 1))) && feq .f32 a.2.2.2 (ofInt .f32 (IntKind.wrap .i64 ((IntKind.wrap .i64 ((IntKind.wrap .i64 (m + 1)) + 1)) + 1)))))) _ m n rfl (by omega) (fun m => by
      simp [fT, feq_ofInt]) fun n m k => by
      show (if (decide (k < _)) = true then _ else _) = _
      split
      · congr 1
        split
        · rename_i h1; rw [h1]
          split
          · rename_i h2; rw [h2]
            split
            · rename_i h3; rw [h3]
              split
              · rename_i h4; rw [h4]; rfl
              · rename_i h4; rw [(Bool.not_eq_true _).mp h4]; first | rfl | (simp; done)
            · rename_i h3; rw [(Bool.not_eq_true _).mp h3]; first | rfl | (simp; done)
          · rename_i h2; rw [(Bool.not_eq_true _).mp h2]; first | rfl | (simp; done)
        · rename_i h1; rw [(Bool.not_eq_true _).mp h1]; first | rfl | (simp; done)
      · rfl]
  exact ⟨by simp, rfl⟩
theorem held_Pose (a b c : Nat) (n : Nat) (m : Int) (h : n ≤ 1048576) (h0 : 0 ≤ m) (h1 : m ≤ 2 ^ 30) : m_laws_heldPose (a, b, c, marks fT gT m n) m = iter gT n m ∧ p_laws_heldPose (a, b, c, marks fT gT m n) m = true := by
  unfold m_laws_heldPose p_laws_heldPose
  rw [(held_TurnS n m h).1, (held_TurnS n m h).2]
  have : ¬ iter gT n m < 0 := by rw [iter_add (g := gT) (c := 4) gT_add _ _ h0 (by omega)]; omega
  exact ⟨by simp [this], rfl⟩
end Go.Proofs
namespace Go.Proofs
open Go.Ab
def m_impl_isRange (x0 : Nat) (x1 : Nat) : Bool := (if (m_impl_IsFinite x0) = true then (if (m_impl_IsFinite x1) = true then (flt .f32 x0 x1) else false) else false)
end Go.Proofs
namespace Go.Proofs
open Go.Ab
theorem codes_ok {b : Int} (h1 : 2 ≤ b) (h2 : b ≤ 16) : ∃ k : Nat, 4 ≤ k ∧ k ≤ 65536 ∧ IntKind.wrap .i64 (1 * 2 ^ (min b.toNat 64)) = (k : Int) ∧ IntKind.wrap .u64 b = b ∧ IntKind.wrap .i64 ((k : Int) - 1) = ((k - 1 : Nat) : Int) ∧ k = 2 ^ b.toNat := by
  have : b = 2 ∨ b = 3 ∨ b = 4 ∨ b = 5 ∨ b = 6 ∨ b = 7 ∨ b = 8 ∨ b = 9 ∨ b = 10 ∨ b = 11 ∨ b = 12 ∨ b = 13 ∨ b = 14 ∨ b = 15 ∨ b = 16 := by omega
  rcases this with rfl | rfl | rfl | rfl | rfl | rfl | rfl | rfl | rfl | rfl | rfl | rfl | rfl | rfl | rfl
  all_goals exact ⟨_, by decide, by decide, by decide, by decide, by decide, rfl⟩
theorem numberOf_ok {x0 : Int} {x1 x2 : Nat} {x3 : Int} (hr : m_impl_isRange x1 x2 = true) (h1 : 2 ≤ x3) (h2 : x3 ≤ 16) (h3 : 0 ≤ x0) (h4 : x0 < 2 ^ x3.toNat) :
    p_impl_numberOf x0 x1 x2 x3 = true ∧ p_spec_l06Number x0 x1 x2 x3 = true ∧ m_spec_l06Number x0 x1 x2 x3 = m_impl_numberOf x0 x1 x2 x3 := by
  obtain ⟨k, k1, k2, k3, k4, k5, k6⟩ := codes_ok h1 h2
  simp only [m_impl_isRange, m_impl_IsFinite] at hr
  have hx : ∃ c : Nat, x0 = c := ⟨x0.toNat, by omega⟩
  obtain ⟨c, rfl⟩ := hx
  have hck : c ≤ k - 1 := by
    have : (c : Int) < (k : Int) := by rw [k6]; exact_mod_cast h4
    omega
  have hm : m_spec_l06Most x3 = ((k - 1 : Nat) : Int) := by unfold m_spec_l06Most; rw [k4, k3, k5]
  have hc : m_impl_codes x3 = k := by unfold m_impl_codes; exact k3
  obtain ⟨f1, hr⟩ := and_of hr
  obtain ⟨f2, hr⟩ := and_of hr
  have key := number_narrow f1 f2 hr hck (by omega) (by omega)
  refine ⟨?_, ?_, ?_⟩
  · unfold p_impl_numberOf p_impl_codes
    rw [hc, k5]
    simp only [Bool.and_eq_true, decide_eq_true_eq]
    exact ⟨by omega, key⟩
  · unfold p_spec_l06Number p_spec_l06Most p_spec_l01Narrow
    rw [hm, k4]
    simp only [Bool.and_eq_true, decide_eq_true_eq]
    exact ⟨by omega, key⟩
  · have e : ∀ a b c d, m_impl_numberOf a b c d = narrow (fadd .f64 (widen b) (fmul .f64 (fsub .f64 (widen c) (widen b)) (fdiv .f64 (ofInt .f64 a) (ofInt .f64 (IntKind.wrap .i64 ((m_impl_codes d) - 1)))))) := fun _ _ _ _ => rfl
    rw [e]
    unfold m_spec_l06Number m_spec_l01Narrow
    rw [hm, hc, k5]
end Go.Proofs
namespace Go.Proofs
open Go.Ab
theorem bits_facts {b : Int} (h1 : 2 ≤ b) (h2 : b ≤ 16) : IntKind.wrap .i64 (2 * b) = 2 * b ∧ IntKind.wrap .u64 (2 * b) = 2 * b ∧ IntKind.wrap .i64 (3 * b) = 3 * b ∧ IntKind.wrap .u64 (3 * b) = 3 * b ∧ IntKind.wrap .u64 b = b ∧
    IntKind.wrap .i64 (1 * 2 ^ (min (3 * b).toNat 64)) = ((2 ^ (3 * b).toNat : Nat) : Int) ∧ IntKind.wrap .i64 (((2 ^ (3 * b).toNat : Nat) : Int) - 1) = ((2 ^ (3 * b).toNat : Nat) : Int) - 1 := by
  have : b = 2 ∨ b = 3 ∨ b = 4 ∨ b = 5 ∨ b = 6 ∨ b = 7 ∨ b = 8 ∨ b = 9 ∨ b = 10 ∨ b = 11 ∨ b = 12 ∨ b = 13 ∨ b = 14 ∨ b = 15 ∨ b = 16 := by omega
  rcases this with rfl | rfl | rfl | rfl | rfl | rfl | rfl | rfl | rfl | rfl | rfl | rfl | rfl | rfl | rfl
  all_goals exact ⟨by decide, by decide, by decide, by decide, by decide, by decide, by decide⟩
theorem fdiv_nat (a n : Nat) : Int.fdiv (a : Int) (2 ^ n) = ((a / 2 ^ n : Nat) : Int) := by
  rw [Int.fdiv_eq_ediv_of_nonneg _ (by exact_mod_cast Nat.zero_le (2 ^ n))]
  exact_mod_cast rfl
theorem tdiv_nat (a n : Nat) : Int.tdiv (a : Int) (n : Int) = ((a / n : Nat) : Int) := by
  rw [Int.tdiv_eq_ediv_of_nonneg (by omega)]
  exact_mod_cast rfl
theorem tmod_nat (a n : Nat) : Int.tmod (a : Int) (n : Int) = ((a % n : Nat) : Int) := by
  rw [Int.tmod_eq_emod_of_nonneg (by omega)]
  exact_mod_cast rfl
end Go.Proofs
namespace Go.Proofs
open Go.Ab
theorem mend_eq (t : Nat × Nat × Nat × Nat) : m_impl_MendTurn t = m_spec_l02Mend t ∧ p_impl_MendTurn t = true ∧ p_spec_l02Mend t = true := by
  refine ⟨?_, sqrt_narrow _, sqrt_narrow _⟩
  unfold m_impl_MendTurn m_spec_l02Mend m_impl_isLength
  have e : m_impl_LengthOfTurn t = m_spec_l01Sqrt (m_spec_l02Inner t t) := rfl
  rw [e]
  generalize m_spec_l01Sqrt (m_spec_l02Inner t t) = n
  have e2 : m_impl_IsFinite n = m_spec_l01Finite n := rfl
  rw [e2]
  by_cases h0 : feq .f32 n 0 = true <;> by_cases h1 : m_spec_l01Finite n = true <;> simp [h0, h1, m_impl_NoTurn, m_spec_l02No]
end Go.Proofs
namespace Go.Proofs
open Go.Ab
theorem partRange : m_impl_isRange 3208642560 1061158912 = true := by decide
theorem turnParts {w : Nat} {b : Int} (h1 : 2 ≤ b) (h2 : b ≤ 16) (hw : w < 2 ^ (3 * b + 2).toNat) :
    ∃ (p : Nat) (a m l : Int), p < 4 ∧ m_impl_parts w b = ((p : Int), a, m, l) ∧ Int.fdiv (w : Int) (2 ^ (min ((IntKind.wrap .u64 (IntKind.wrap .i64 (3 * b))) : Int).toNat 64)) = (p : Int) ∧
    bitop .and .i64 (Int.fdiv (w : Int) (2 ^ (min ((IntKind.wrap .u64 (IntKind.wrap .i64 (2 * b))) : Int).toNat 64))) (m_spec_l06Most b) = a ∧
    bitop .and .i64 (Int.fdiv (w : Int) (2 ^ (min ((IntKind.wrap .u64 b) : Int).toNat 64))) (m_spec_l06Most b) = m ∧
    bitop .and .i64 (w : Int) (m_spec_l06Most b) = l ∧ p_impl_parts w b = true ∧
    (∀ q, q = a ∨ q = m ∨ q = l → p_impl_numberOf q 3208642560 1061158912 b = true ∧ p_spec_l06Number q 3208642560 1061158912 b = true ∧ m_spec_l06Number q 3208642560 1061158912 b = m_impl_numberOf q 3208642560 1061158912 b) := by
  obtain ⟨k, k1, k2, k3, k4, k5, k6⟩ := codes_ok h1 h2
  obtain ⟨f1, f2, f3, f4, f5, f6, f7⟩ := bits_facts h1 h2
  have hc : m_impl_codes b = k := by unfold m_impl_codes; exact k3
  have hm : m_spec_l06Most b = ((2 ^ b.toNat - 1 : Nat) : Int) := by unfold m_spec_l06Most; rw [k4, k3, k5, k6]
  have hw63 : w < 2 ^ 63 := Nat.lt_of_lt_of_le hw (Nat.pow_le_pow_right (by omega) (by omega))
  have d1 : w / k < 2 ^ 63 := Nat.lt_of_le_of_lt (Nat.div_le_self _ _) hw63
  have d2 : w / k / k < 2 ^ 63 := Nat.lt_of_le_of_lt (Nat.div_le_self _ _) d1
  have d3 : w / k / k / k < 2 ^ 63 := Nat.lt_of_le_of_lt (Nat.div_le_self _ _) d2
  have pp : m_impl_parts w b = (((w / k / k / k : Nat) : Int), ((w / k / k % k : Nat) : Int), ((w / k % k : Nat) : Int), ((w % k : Nat) : Int)) := by
    unfold m_impl_parts; simp only [hc, tdiv_nat, wrapN d1, wrapN d2, wrapN d3, tmod_nat]
  have hbk : b.toNat < 63 := by omega
  have q1 : bitop .and .i64 (w : Int) (m_spec_l06Most b) = ((w % k : Nat) : Int) := by rw [hm, bit_and_mask hw63 hbk, k6]
  have q2 : bitop .and .i64 (Int.fdiv (w : Int) (2 ^ (min ((IntKind.wrap .u64 b) : Int).toNat 64))) (m_spec_l06Most b) = ((w / k % k : Nat) : Int) := by
    rw [f5, Nat.min_eq_left (by omega), fdiv_nat, hm, ← k6, k6, bit_and_mask (by rw [← k6]; exact d1) hbk]
  have q3 : bitop .and .i64 (Int.fdiv (w : Int) (2 ^ (min ((IntKind.wrap .u64 (IntKind.wrap .i64 (2 * b))) : Int).toNat 64))) (m_spec_l06Most b) = ((w / k / k % k : Nat) : Int) := by
    have e : (2 * b).toNat = b.toNat + b.toNat := by omega
    rw [f1, f2, Nat.min_eq_left (by omega), fdiv_nat, hm, e, Nat.pow_add, ← k6, ← Nat.div_div_eq_div_mul, k6, bit_and_mask (by rw [← k6]; exact d2) hbk]
  have q4 : Int.fdiv (w : Int) (2 ^ (min ((IntKind.wrap .u64 (IntKind.wrap .i64 (3 * b))) : Int).toNat 64)) = ((w / k / k / k : Nat) : Int) := by
    have e : (3 * b).toNat = b.toNat + b.toNat + b.toNat := by omega
    rw [f3, f4, Nat.min_eq_left (by omega), fdiv_nat, e, Nat.pow_add, Nat.pow_add, ← k6, ← Nat.div_div_eq_div_mul, ← Nat.div_div_eq_div_mul]
  have hp4 : w / k / k / k < 4 := by
    have e : (3 * b + 2).toNat = b.toNat + b.toNat + b.toNat + 2 := by omega
    rw [e, Nat.pow_add, Nat.pow_add, Nat.pow_add, ← k6] at hw
    rw [Nat.div_div_eq_div_mul, Nat.div_div_eq_div_mul]
    have hk3 : 0 < k * (k * k) := Nat.mul_pos (by omega) (Nat.mul_pos (by omega) (by omega))
    rw [Nat.div_lt_iff_lt_mul hk3]
    have e2 : k * k * k = k * (k * k) := Nat.mul_assoc _ _ _
    rw [e2] at hw
    omega
  have lt : ∀ x : Nat, ((x % k : Nat) : Int) < 2 ^ b.toNat := by
    intro x
    have := Nat.mod_lt x (show 0 < k by omega)
    rw [k6] at this ⊢
    exact_mod_cast this
  have key := fun x : Nat => numberOf_ok (x0 := ((x % k : Nat) : Int)) partRange h1 h2 (by omega) (lt x)
  have hp2 : p_impl_codes b = true := by unfold p_impl_codes; simp; omega
  refine ⟨w / k / k / k, _, _, _, hp4, pp, q4, q3, q2, q1, ?_, ?_⟩
  · unfold p_impl_parts
    rw [hc, hp2]
    simp; omega
  · intro q h
    rcases h with rfl | rfl | rfl
    · exact key _
    · exact key _
    · exact key _
theorem sqrt_zero : m_spec_l01Sqrt 0 = 0 := by decide
theorem openTurn {w : Nat} {b : Int} (h1 : 2 ≤ b) (h2 : b ≤ 16) (hw : w < 2 ^ (3 * b + 2).toNat) :
    m_spec_l06Unpack w b = m_impl_MendTurn (v_impl_UnpackTurn_4 w b, v_impl_UnpackTurn_5 w b, v_impl_UnpackTurn_6 w b, v_impl_UnpackTurn_7 w b) ∧ p_spec_l06Unpack w b = true ∧ p_impl_parts w b = true ∧
    (Option.isSome (l_impl_UnpackTurn_0 w b 6 (0, 0, 0, 0) 1065353216 0 0)) = true ∧ (inB (m_impl_parts w b).1 4) = true := by
  obtain ⟨p, a, m, l, hp, e0, e1, e2, e3, e4, e5, e6⟩ := turnParts h1 h2 hw
  obtain ⟨f1, f2, f3, f4, f5, f6, f7⟩ := bits_facts h1 h2
  obtain ⟨k, k1, k2, k3, k4, k5, k6⟩ := codes_ok h1 h2
  obtain ⟨a1, a2, a3⟩ := e6 a (.inl rfl)
  obtain ⟨m1, m2, m3⟩ := e6 m (.inr (.inl rfl))
  obtain ⟨l1, l2, l3⟩ := e6 l (.inr (.inr rfl))
  have hmost : p_spec_l06Most b = true := by unfold p_spec_l06Most; rw [k4]; simp; omega
  have hM : ∀ t, p_spec_l02Mend t = true := fun t => (mend_eq t).2.2
  have hS : ∀ t, p_spec_l01Sqrt t = true := fun t => sqrt_narrow t
  have hR : ∀ t, m_impl_RootNumber t = m_spec_l01Sqrt t := fun t => rfl
  have hpu : p_spec_l06Unpack w b = true := by
    unfold p_spec_l06Unpack
    simp only [e1, e2, e3, e4, a2, m2, l2, hmost, hM, hS, ite_self, Bool.and_self, Bool.and_true, Bool.true_and]
    simp only [Bool.and_eq_true, decide_eq_true_eq, f1, f2, f3, f4, f5]
    omega
  have hb4 : inB (p : Int) 4 = true := by unfold inB; simp; omega
  refine ⟨?_, hpu, e5, ?_, ?_⟩
  rotate_left
  · have : p = 0 ∨ p = 1 ∨ p = 2 ∨ p = 3 := by omega
    rcases this with rfl | rfl | rfl | rfl <;> simp [l_impl_UnpackTurn_0, e0, atI, inB, need, a1, m1, l1, show IntKind.wrap .i64 1 = 1 by decide, show IntKind.wrap .i64 2 = 2 by decide, show IntKind.wrap .i64 3 = 3 by decide, show IntKind.wrap .i64 4 = 4 by decide]
  · rw [e0]; exact hb4
  · unfold m_spec_l06Unpack v_impl_UnpackTurn_4 v_impl_UnpackTurn_5 v_impl_UnpackTurn_6 v_impl_UnpackTurn_7 v_spec_l06Unpack_3 v_spec_l06Unpack_0 v_spec_l06Unpack_1 v_spec_l06Unpack_2
    simp only [e1, e2, e3, e4, a3, m3, l3, (mend_eq _).1, hR]
    generalize hA : m_impl_numberOf a 3208642560 1061158912 b = A
    generalize hB : m_impl_numberOf m 3208642560 1061158912 b = B
    generalize hC : m_impl_numberOf l 3208642560 1061158912 b = C
    generalize hL : fsub .f32 (fsub .f32 (fsub .f32 1065353216 (fmul .f32 A A)) (fmul .f32 B B)) (fmul .f32 C C) = L
    have hl : Option.getD (l_impl_UnpackTurn_0 w b 6 (0, 0, 0, 0) 1065353216 0 0) default = (L, if p = 0 then (0, A, B, C) else if p = 1 then (A, 0, B, C) else if p = 2 then (A, B, 0, C) else (A, B, C, 0)) := by
      have : p = 0 ∨ p = 1 ∨ p = 2 ∨ p = 3 := by omega
      rcases this with rfl | rfl | rfl | rfl <;> simp [l_impl_UnpackTurn_0, v_impl_UnpackTurn_3, e0, atI, inB, need, a1, m1, l1, hA, hB, hC, hL, show IntKind.wrap .i64 1 = 1 by decide, show IntKind.wrap .i64 2 = 2 by decide, show IntKind.wrap .i64 3 = 3 by decide, show IntKind.wrap .i64 4 = 4 by decide]
    rw [hl, e0]
    by_cases h : flt .f32 0 L = true
    · have : p = 0 ∨ p = 1 ∨ p = 2 ∨ p = 3 := by omega
      rcases this with rfl | rfl | rfl | rfl <;> simp [h, atI]
    · have h' : flt .f32 0 L = false := by simpa using h
      have : p = 0 ∨ p = 1 ∨ p = 2 ∨ p = 3 := by omega
      rcases this with rfl | rfl | rfl | rfl <;> simp [h', atI, sqrt_zero]
end Go.Proofs
namespace Go.Proofs
open Go.Ab
theorem parts_ok {w : Nat} {r : Nat} {b : Int} (h1 : 2 ≤ b) (h2 : b ≤ 16) (hw : w < 2 ^ (3 * b).toNat) (hp : m_impl_isPositive r = true) :
    m_spec_l06OpenVector w r b = ((m_impl_numberOf (m_impl_parts w b).2.1 (fneg .f32 r) r b), (m_impl_numberOf (m_impl_parts w b).2.2.1 (fneg .f32 r) r b), (m_impl_numberOf (m_impl_parts w b).2.2.2 (fneg .f32 r) r b)) ∧
    p_spec_l06OpenVector w r b = true ∧ p_impl_parts w b = true ∧ p_impl_numberOf (m_impl_parts w b).2.1 (fneg .f32 r) r b = true ∧ p_impl_numberOf (m_impl_parts w b).2.2.1 (fneg .f32 r) r b = true ∧ p_impl_numberOf (m_impl_parts w b).2.2.2 (fneg .f32 r) r b = true := by
  obtain ⟨k, k1, k2, k3, k4, k5, k6⟩ := codes_ok h1 h2
  obtain ⟨f1, f2, f3, f4, f5, f6, f7⟩ := bits_facts h1 h2
  have hc : m_impl_codes b = k := by unfold m_impl_codes; exact k3
  have hm : m_spec_l06Most b = ((2 ^ b.toNat - 1 : Nat) : Int) := by unfold m_spec_l06Most; rw [k4, k3, k5, k6]
  have hw63 : w < 2 ^ 63 := Nat.lt_of_lt_of_le hw (Nat.pow_le_pow_right (by omega) (by omega))
  have d1 : w / k < 2 ^ 63 := Nat.lt_of_le_of_lt (Nat.div_le_self _ _) hw63
  have d2 : w / k / k < 2 ^ 63 := Nat.lt_of_le_of_lt (Nat.div_le_self _ _) d1
  have p1 : (m_impl_parts w b).2.2.2 = ((w % k : Nat) : Int) := by
    unfold m_impl_parts; rw [hc]; exact tmod_nat _ _
  have p2 : (m_impl_parts w b).2.2.1 = ((w / k % k : Nat) : Int) := by
    unfold m_impl_parts; rw [hc, tdiv_nat, wrapN d1]; exact tmod_nat _ _
  have p3 : (m_impl_parts w b).2.1 = ((w / k / k % k : Nat) : Int) := by
    unfold m_impl_parts; rw [hc, tdiv_nat, wrapN d1, tdiv_nat, wrapN d2]; exact tmod_nat _ _
  have hbk : b.toNat < 63 := by omega
  have q1 : bitop .and .i64 (w : Int) (m_spec_l06Most b) = ((w % k : Nat) : Int) := by rw [hm, bit_and_mask hw63 hbk, k6]
  have q2 : bitop .and .i64 (Int.fdiv (w : Int) (2 ^ (min ((IntKind.wrap .u64 b) : Int).toNat 64))) (m_spec_l06Most b) = ((w / k % k : Nat) : Int) := by
    rw [f5, Nat.min_eq_left (by omega), fdiv_nat, hm, ← k6, k6, bit_and_mask (by rw [← k6]; exact d1) hbk]
  have q3 : bitop .and .i64 (Int.fdiv (w : Int) (2 ^ (min ((IntKind.wrap .u64 (IntKind.wrap .i64 (2 * b))) : Int).toNat 64))) (m_spec_l06Most b) = ((w / k / k % k : Nat) : Int) := by
    have e : (2 * b).toNat = b.toNat + b.toNat := by omega
    rw [f1, f2, Nat.min_eq_left (by omega), fdiv_nat, hm, e, Nat.pow_add, ← k6, ← Nat.div_div_eq_div_mul, k6, bit_and_mask (by rw [← k6]; exact d2) hbk]
  have hr : m_impl_isRange (fneg .f32 r) r = true := by
    unfold m_impl_isPositive at hp
    obtain ⟨a1, a2⟩ := and_of hp
    obtain ⟨n1, n2⟩ := neg_range a1 a2
    unfold m_impl_isRange
    have a1' : m_impl_IsFinite r = true := a1
    have n1' : m_impl_IsFinite (fneg .f32 r) = true := n1
    simp [a1', n1', n2]
  have lt : ∀ x : Nat, ((x % k : Nat) : Int) < 2 ^ b.toNat := by
    intro x
    have := Nat.mod_lt x (show 0 < k by omega)
    rw [k6] at this ⊢
    exact_mod_cast this
  have key := fun x : Nat => numberOf_ok (x0 := ((x % k : Nat) : Int)) hr h1 h2 (by omega) (lt x)
  have hp1 : p_spec_l06Most b = true := by unfold p_spec_l06Most; rw [k4]; simp; omega
  have hp2 : p_impl_codes b = true := by unfold p_impl_codes; simp; omega
  refine ⟨?_, ?_, ?_, ?_, ?_, ?_⟩
  · unfold m_spec_l06OpenVector v_spec_l06OpenVector_0
    rw [q1, q2, q3, p1, p2, p3, (key _).2.2, (key _).2.2, (key _).2.2]
  · unfold p_spec_l06OpenVector
    rw [q1, q2, q3, (key _).2.1, (key _).2.1, (key _).2.1, hp1, f1, f2, f5]
    simp; omega
  · unfold p_impl_parts
    rw [hc, hp2]
    simp; omega
  · rw [p3]; exact (key _).1
  · rw [p2]; exact (key _).1
  · rw [p1]; exact (key _).1
end Go.Proofs
namespace Go.Proofs
open Go.Ab
/-- sizes of codes: at most 512, each 1 .. 62 -/
def Szs (y : List Int) : Prop := y.length ≤ 512 ∧ ∀ j : Nat, j < y.length → 1 ≤ y.getD j default ∧ y.getD j default ≤ 62
end Go.Proofs
namespace Go.Proofs
open Go.Ab
def l_spec_BytesOfWords_0 (x0 : (List Int)) (x1 : (List Int)) : Nat → Int → Option (Bool × ((List UInt8) × Bool) × Unit)
  | 0, _ => none
  | n + 1, z0_0 => (if (decide (z0_0 < ((List.length x0 : Nat) : Int))) = true then (need (inB z0_0 (List.length x0)) (need (inB z0_0 (List.length x1)) (need (decide (0 ≤ (IntKind.wrap .u64 (atI x1 z0_0)))) (if (m_spec_l00In (atI x0 z0_0) 0 (IntKind.wrap .i64 ((IntKind.wrap .i64 (1 * 2 ^ (min ((IntKind.wrap .u64 (atI x1 z0_0)) : Int).toNat 64))) - 1))) = true then (l_spec_BytesOfWords_0 x0 x1 n (IntKind.wrap .i64 (z0_0 + 1))) else (some (true, (([] : List UInt8), false), default)))))) else (some (false, default, ())))
end Go.Proofs
namespace Go.Proofs
open Go.Ab
/-- one bit more -/
def bwPut (w : Nat) (out : List Int) (used bit : Nat) : List Int :=
  let o := if used % 8 = 0 then out ++ [0] else out
  if w / 2 ^ bit % 2 = 1 then o.set (used / 8) (bitop .or .u8 (o.getD (used / 8) default) ((128 / 2 ^ (used % 8) : Nat) : Int)) else o
/-- so many bits in the bytes -/
def Bw (out : List Int) (used : Nat) : Prop := out.length = (used + 7) / 8 ∧ used ≤ 40000 ∧ ∀ e ∈ out, 0 ≤ e ∧ e < 256
theorem or_range (x y : Int) : 0 ≤ bitop .or .u8 x y ∧ bitop .or .u8 x y < 256 := by
  unfold bitop
  show 0 ≤ IntKind.wrap .u8 _ ∧ IntKind.wrap .u8 _ < 256
  generalize (((BitVec.ofInt (IntKind.bits .u8) x ||| BitVec.ofInt (IntKind.bits .u8) y).toNat : Nat) : Int) = v
  have h : IntKind.wrap .u8 v = v % 256 := by
    unfold IntKind.wrap
    simp only [IntKind.bits, IntKind.signed]
    simp
  rw [h]; omega
theorem or_zero {x : Int} (h0 : 0 ≤ x) (h : x < 256) : bitop .or .u8 x 0 = x := by
  unfold bitop
  show IntKind.wrap .u8 (((BitVec.ofInt 8 x ||| BitVec.ofInt 8 0).toNat : Nat) : Int) = x
  have e : BitVec.ofInt 8 x ||| BitVec.ofInt 8 0 = BitVec.ofInt 8 x := by
    rw [show BitVec.ofInt 8 0 = 0#8 by decide, BitVec.or_zero]
  rw [e, BitVec.toNat_ofInt]
  have h : ∀ v : Int, IntKind.wrap .u8 v = v % 256 := by
    intro v
    unfold IntKind.wrap
    simp only [IntKind.bits, IntKind.signed]
    simp
  rw [h]
  omega
theorem bwPut_ok {w : Nat} {out : List Int} {used bit : Nat} (h : Bw out used) (hu : used < 40000) : Bw (bwPut w out used bit) (used + 1) := by
  obtain ⟨h1, h2, h3⟩ := h
  unfold bwPut
  have ho : (if used % 8 = 0 then out ++ [0] else out).length = (used + 1 + 7) / 8 ∧ ∀ e ∈ (if used % 8 = 0 then out ++ [0] else out), 0 ≤ e ∧ e < 256 := by
    by_cases hr : used % 8 = 0
    · rw [if_pos hr, List.length_append, h1]
      refine ⟨by simp; omega, fun e he => ?_⟩
      rcases List.mem_append.1 he with h | h
      · exact h3 e h
      · rw [List.mem_singleton.1 h]; omega
    · rw [if_neg hr, h1]
      exact ⟨by omega, h3⟩
  generalize (if used % 8 = 0 then out ++ [0] else out) = o at *
  dsimp only
  split
  · refine ⟨by rw [List.length_set]; exact ho.1, by omega, fun e he => ?_⟩
    rcases List.mem_or_eq_of_mem_set he with h | h
    · exact ho.2 e h
    · rw [h]; exact or_range _ _
  · exact ⟨ho.1, by omega, ho.2⟩
theorem fdiv_nat' (a n : Nat) : Int.fdiv (a : Int) (2 ^ n) = ((a / 2 ^ n : Nat) : Int) := by
  rw [Int.fdiv_eq_ediv_of_nonneg _ (by exact_mod_cast Nat.zero_le (2 ^ n))]
  exact_mod_cast rfl
theorem tmod8 (a : Nat) : Int.tmod (a : Int) 8 = ((a % 8 : Nat) : Int) := by
  rw [Int.tmod_eq_emod_of_nonneg (by omega)]
  exact_mod_cast rfl
theorem tdiv8 (a : Nat) : Int.tdiv (a : Int) 8 = ((a / 8 : Nat) : Int) := by
  rw [Int.tdiv_eq_ediv_of_nonneg (by omega)]
  exact_mod_cast rfl
theorem bit_one {w bit : Nat} (hw : w < 2 ^ 62) (hb : bit ≤ 61) : bitop .and .i64 (Int.fdiv (w : Int) (2 ^ (min bit 64))) 1 = ((w / 2 ^ bit % 2 : Nat) : Int) := by
  rw [Nat.min_eq_left (by omega), fdiv_nat']
  have := bit_and_mask (n := w / 2 ^ bit) (k := 1) (Nat.lt_of_le_of_lt (Nat.div_le_self _ _) (by omega)) (by omega)
  exact this
theorem place_ok (r : Nat) (h : r < 8) : Int.fdiv 128 (2 ^ (min ((IntKind.wrap .u64 (r : Int)) : Int).toNat 8)) = ((128 / 2 ^ r : Nat) : Int) ∧ 0 ≤ IntKind.wrap .u64 (r : Int) ∧ 0 ≤ IntKind.wrap .i64 (7 - (r : Int)) ∧
    IntKind.wrap .u8 ((IntKind.wrap .u8 ((1 : Nat) : Int)) * 2 ^ (min ((IntKind.wrap .i64 (7 - (r : Int))) : Int).toNat 8)) = ((128 / 2 ^ r : Nat) : Int) ∧ IntKind.wrap .u8 ((IntKind.wrap .u8 ((0 : Nat) : Int)) * 2 ^ (min ((IntKind.wrap .i64 (7 - (r : Int))) : Int).toNat 8)) = 0 := by
  have : r = 0 ∨ r = 1 ∨ r = 2 ∨ r = 3 ∨ r = 4 ∨ r = 5 ∨ r = 6 ∨ r = 7 := by omega
  rcases this with rfl | rfl | rfl | rfl | rfl | rfl | rfl | rfl
  all_goals exact ⟨by decide, by decide, by decide, by decide, by decide⟩
theorem u64N {n : Nat} (h : n < 2 ^ 64) : IntKind.wrap .u64 (n : Int) = n := by
  unfold IntKind.wrap
  simp only [IntKind.bits, IntKind.signed]
  simp
  omega
theorem dec_no {p : Prop} [Decidable p] (h : ¬ p) : ¬ (decide p = true) := by simpa using h
theorem set_get_self {l : List Int} {j : Nat} (h : j < l.length) : l.set j (l.getD j default) = l := by
  apply List.ext_getElem
  · simp
  · intro n h1 h2
    rw [List.getElem_set]
    split
    · subst_vars; simp [List.getD, h]
    · rfl
section
variable {x y : List Int} {j w : Nat} (hj : j < x.length) (hw : x.getD j default = (w : Int)) (hw2 : w < 2 ^ 62)
include hj hw hw2
theorem spec_bit {n : Nat} {out : List Int} {used bit : Nat} (h : Bw out used) (hb : bit ≤ 61) (hu : used < 40000) : l_spec_l06Bytes_0 x y (j : Int) (n + 1) out (used : Int) (bit : Int) = l_spec_l06Bytes_0 x y (j : Int) n (bwPut w out used bit) ((used + 1 : Nat) : Int) (IntKind.wrap .i64 ((bit : Int) - 1)) := by
  obtain ⟨h1, h2, h3⟩ := h
  rw [l_spec_l06Bytes_0]
  have e5 : ∀ {α : Type} (z : Option α), need true z = z := fun _ => rfl
  have e6 : atI x (j : Int) = (w : Int) := hw
  have e7 : inB (j : Int) x.length = true := by unfold inB; simp; omega
  obtain ⟨p1, p2, p3, p4, p5⟩ := place_ok (used % 8) (by omega)
  rw [decide_eq_true (show (0 : Int) ≤ (bit : Int) by omega), if_pos rfl, tmod8, e7, e6, u64N (show bit < 2 ^ 64 by omega), Int.toNat_natCast, bit_one hw2 hb, wrapS (k := used) (by omega),
    decide_eq_true (show (0 : Int) ≤ (bit : Int) by omega)]
  unfold bwPut
  by_cases hr : used % 8 = 0
  · have ho : out.length = used / 8 := by omega
    rw [if_pos hr, decide_eq_true (show ((used % 8 : Nat) : Int) = 0 by omega), if_pos rfl, decide_eq_true (show (out.length + 1) * 1 ≤ 17592186044416 by omega), decide_eq_true (show out.length + 1 ≤ 17592186044416 by omega)]
    simp only [e5]
    by_cases hbit : w / 2 ^ bit % 2 = 1
    · rw [if_pos (decide_eq_true (show ((w / 2 ^ bit % 2 : Nat) : Int) = 1 by omega)), if_pos hbit]
      have e8 : IntKind.wrap .i64 (((out.length + 1 : Nat) : Int) - 1) = ((used / 8 : Nat) : Int) := by
        rw [show ((out.length + 1 : Nat) : Int) - 1 = ((out.length : Nat) : Int) by omega, wrapN (by omega), ho]
      unfold v_spec_l06Bytes_12
      rw [e8, decide_eq_true p2, show inB ((used / 8 : Nat) : Int) (out.length + 1) = true by unfold inB; simp; omega]
      simp only [e5, tmod8, p1, Int.toNat_natCast]
      rfl
    · rw [if_neg (dec_no (show ¬ ((w / 2 ^ bit % 2 : Nat) : Int) = 1 by omega)), if_neg hbit]
  · have ho : out.length = used / 8 + 1 := by omega
    rw [if_neg hr, decide_eq_false (show ¬ ((used % 8 : Nat) : Int) = 0 by omega), if_neg (by decide)]
    simp only [e5]
    by_cases hbit : w / 2 ^ bit % 2 = 1
    · rw [if_pos (decide_eq_true (show ((w / 2 ^ bit % 2 : Nat) : Int) = 1 by omega)), if_pos hbit]
      have e8 : IntKind.wrap .i64 (((out.length : Nat) : Int) - 1) = ((used / 8 : Nat) : Int) := by
        rw [show ((out.length : Nat) : Int) - 1 = ((used / 8 : Nat) : Int) by omega, wrapN (by omega)]
      unfold v_spec_l06Bytes_13
      rw [e8, decide_eq_true p2, show inB ((used / 8 : Nat) : Int) out.length = true by unfold inB; simp; omega]
      simp only [e5, tmod8, p1, Int.toNat_natCast]
      rfl
    · rw [if_neg (dec_no (show ¬ ((w / 2 ^ bit % 2 : Nat) : Int) = 1 by omega)), if_neg hbit]
theorem impl_bit {n : Nat} {out : List Int} {used bit : Nat} (h : Bw out used) (hb : bit ≤ 61) (hu : used < 40000) : l_impl_BytesOfWords_0 x y (j : Int) (n + 1) out (used : Int) (bit : Int) = l_impl_BytesOfWords_0 x y (j : Int) n (bwPut w out used bit) ((used + 1 : Nat) : Int) (IntKind.wrap .i64 ((bit : Int) - 1)) := by
  obtain ⟨h1, h2, h3⟩ := h
  rw [l_impl_BytesOfWords_0]
  have e5 : ∀ {α : Type} (z : Option α), need true z = z := fun _ => rfl
  have e6 : atI x (j : Int) = (w : Int) := hw
  obtain ⟨p1, p2, p3, p4, p5⟩ := place_ok (used % 8) (by omega)
  unfold v_impl_BytesOfWords_19
  rw [decide_eq_true (show (0 : Int) ≤ (bit : Int) by omega), if_pos rfl, tmod8, tdiv8, e6, Int.toNat_natCast, bit_one hw2 hb, wrapS (k := used) (by omega), wrapN (n := used / 8) (by omega), decide_eq_true p3]
  have hv : IntKind.wrap .u8 ((IntKind.wrap .u8 ((w / 2 ^ bit % 2 : Nat) : Int)) * 2 ^ (min ((IntKind.wrap .i64 (7 - ((used % 8 : Nat) : Int))) : Int).toNat 8)) = if w / 2 ^ bit % 2 = 1 then ((128 / 2 ^ (used % 8) : Nat) : Int) else 0 := by
    by_cases hbit : w / 2 ^ bit % 2 = 1
    · rw [if_pos hbit, hbit]; exact p4
    · rw [if_neg hbit, show w / 2 ^ bit % 2 = 0 by omega]; exact p5
  rw [hv]
  unfold bwPut
  have hfin : ∀ o : List Int, used / 8 < o.length → (∀ e ∈ o, 0 ≤ e ∧ e < 256) →
      o.set (used / 8) (bitop .or .u8 (o.getD (used / 8) default) (if w / 2 ^ bit % 2 = 1 then ((128 / 2 ^ (used % 8) : Nat) : Int) else 0)) = if w / 2 ^ bit % 2 = 1 then o.set (used / 8) (bitop .or .u8 (o.getD (used / 8) default) ((128 / 2 ^ (used % 8) : Nat) : Int)) else o := by
    intro o hl he
    by_cases hbit : w / 2 ^ bit % 2 = 1
    · rw [if_pos hbit, if_pos hbit]
    · rw [if_neg hbit, if_neg hbit]
      have hm : o.getD (used / 8) default ∈ o := by
        simp [List.getD, hl]
      obtain ⟨g1, g2⟩ := he _ hm
      rw [or_zero g1 g2, set_get_self hl]
  by_cases hr : used % 8 = 0
  · have ho : out.length = used / 8 := by omega
    rw [if_pos hr, decide_eq_true (show ((used % 8 : Nat) : Int) = 0 by omega), if_pos rfl, decide_eq_true (show (out.length + 1) * 1 ≤ 17592186044416 by omega), decide_eq_true (show out.length + 1 ≤ 17592186044416 by omega),
      show inB ((used / 8 : Nat) : Int) (out.length + 1) = true by unfold inB; simp; omega]
    simp only [e5]
    rw [← hfin (out ++ [0]) (by rw [List.length_append]; simp; omega) (fun e he => by
      rcases List.mem_append.1 he with h | h
      · exact h3 e h
      · rw [List.mem_singleton.1 h]; omega)]
    rfl
  · have ho : out.length = used / 8 + 1 := by omega
    rw [if_neg hr, decide_eq_false (show ¬ ((used % 8 : Nat) : Int) = 0 by omega), if_neg (by decide), show inB ((used / 8 : Nat) : Int) out.length = true by unfold inB; simp; omega]
    simp only [e5]
    rw [← hfin out (by omega) h3]
    rfl
theorem word_all : ∀ (b n : Nat) (out : List Int) (used : Nat), b ≤ 62 → b < n → Bw out used → used + b ≤ 40000 →
    ∃ r, Bw r (used + b) ∧ l_spec_l06Bytes_0 x y (j : Int) n out (used : Int) ((b : Int) - 1) = some (((used + b : Nat) : Int), r) ∧ l_impl_BytesOfWords_0 x y (j : Int) n out (used : Int) ((b : Int) - 1) = some (((used + b : Nat) : Int), r) := by
  intro b
  induction b with
  | zero =>
    intro n out used _ hn h _
    cases n with
    | zero => omega
    | succ n =>
      refine ⟨out, h, ?_, ?_⟩
      · rw [l_spec_l06Bytes_0]; rfl
      · rw [l_impl_BytesOfWords_0]; rfl
  | succ b ih =>
    intro n out used hb hn h hu
    cases n with
    | zero => omega
    | succ n =>
      obtain ⟨r, r1, r2, r3⟩ := ih n (bwPut w out used b) (used + 1) (by omega) (by omega) (bwPut_ok h (by omega)) (by omega)
      have e1 : ((b + 1 : Nat) : Int) - 1 = (b : Int) := by omega
      have e2 : IntKind.wrap .i64 ((b : Int) - 1) = (b : Int) - 1 := wrapI (by omega) (by omega)
      refine ⟨r, by rw [show used + (b + 1) = used + 1 + b by omega]; exact r1, ?_, ?_⟩
      · rw [e1, spec_bit hj hw hw2 h (by omega) (by omega), e2, r2, show used + (b + 1) = used + 1 + b by omega]
      · rw [e1, impl_bit hj hw hw2 h (by omega) (by omega), e2, r3, show used + (b + 1) = used + 1 + b by omega]
end
def okW (x y : List Int) (j : Nat) : Prop := 0 ≤ x.getD j default ∧ x.getD j default < 2 ^ (y.getD j default).toNat
instance (x y : List Int) (j : Nat) : Decidable (okW x y j) := by unfold okW; infer_instance
theorem size_pow {s : Int} (h1 : 1 ≤ s) (h2 : s ≤ 62) : ∃ b : Nat, 1 ≤ b ∧ b ≤ 62 ∧ s = (b : Int) ∧ IntKind.wrap .i64 (1 * 2 ^ (min s.toNat 64)) = ((2 ^ b : Nat) : Int) ∧ IntKind.wrap .u64 s = s ∧ (2 : Nat) ^ b ≤ 2 ^ 62 ∧ IntKind.wrap .i64 (s - 1) = s - 1 := by
  refine ⟨s.toNat, by omega, by omega, by omega, ?_, ?_, Nat.pow_le_pow_right (by omega) (by omega), wrapI (by omega) (by omega)⟩
  · rw [Nat.min_eq_left (by omega), Int.one_mul]
    have hp : 2 ^ s.toNat ≤ 2 ^ 62 := Nat.pow_le_pow_right (by omega) (by omega)
    have : (2 : Int) ^ s.toNat = ((2 ^ s.toNat : Nat) : Int) := by exact_mod_cast rfl
    rw [this, wrapN (by omega)]
  · have := u64N (n := s.toNat) (by omega)
    rw [show ((s.toNat : Nat) : Int) = s by omega] at this; exact this
section
variable {x y : List Int} (hl : x.length = y.length) (hs : Szs y)
include hl hs
theorem bytes_all : ∀ (n k : Nat) (out : List Int) (used : Nat), k ≤ x.length → x.length - k < n → Bw out used → used ≤ 62 * k → 
    ((∀ j, k ≤ j → j < x.length → okW x y j) → ∃ r u, Bw r u ∧ (k < x.length → used < u) ∧ used ≤ u ∧ u ≤ 62 * x.length ∧ l_spec_l06Bytes_1 x y n out (used : Int) (k : Int) = some r ∧ l_spec_BytesOfWords_0 x y n (k : Int) = some (false, default, ()) ∧ l_impl_BytesOfWords_1 x y n out (used : Int) (k : Int) = some (false, default, r)) ∧
    ((¬ ∀ j, k ≤ j → j < x.length → okW x y j) → l_spec_BytesOfWords_0 x y n (k : Int) = some (true, ([], false), default) ∧ l_impl_BytesOfWords_1 x y n out (used : Int) (k : Int) = some (true, ([], false), default)) := by
  intro n
  induction n with
  | zero => intro k out used _ h; omega
  | succ n ih =>
    intro k out used hk hn hB hu
    have e5 : ∀ {α : Type} (z : Option α), need true z = z := fun _ => rfl
    obtain ⟨hs1, hs2⟩ := hs
    by_cases hlt : k < x.length
    · obtain ⟨g1, g2⟩ := hs2 k (by omega)
      obtain ⟨b, b1, b2, b3, b4, b5, b6, b7⟩ := size_pow g1 g2
      have d1 : (decide ((k : Int) < ((List.length x : Nat) : Int))) = true := decide_eq_true (by omega)
      have d2 : inB (k : Int) x.length = true := by unfold inB; simp; omega
      have d3 : inB (k : Int) y.length = true := by unfold inB; simp; omega
      have e1 : atI x (k : Int) = x.getD k default := rfl
      have e2 : atI y (k : Int) = y.getD k default := rfl
      have hm : IntKind.wrap .i64 (((2 ^ b : Nat) : Int) - 1) = ((2 ^ b : Nat) : Int) - 1 := by
        have hpos : 1 ≤ 2 ^ b := Nat.one_le_two_pow
        generalize 2 ^ b = P at b6 hpos ⊢
        exact wrapI (by omega) (by omega)
      have hin : m_spec_l00In (x.getD k default) 0 (((2 ^ b : Nat) : Int) - 1) = decide (okW x y k) := by
        have hiff : okW x y k ↔ 0 ≤ x.getD k default ∧ x.getD k default < ((2 ^ b : Nat) : Int) := by
          unfold okW
          rw [b3, Int.toNat_natCast]
          have : (2 : Int) ^ b = ((2 ^ b : Nat) : Int) := by exact_mod_cast rfl
          rw [this]
        unfold m_spec_l00In
        by_cases c1 : 0 ≤ x.getD k default
        · rw [decide_eq_true c1, if_pos rfl]
          exact decide_eq_decide.2 ⟨fun h => hiff.2 ⟨c1, by omega⟩, fun h => by have := hiff.1 h; omega⟩
        · rw [decide_eq_false c1, if_neg (by decide)]
          exact (decide_eq_false fun h => c1 (hiff.1 h).1).symm
      have hspec : l_spec_BytesOfWords_0 x y (n + 1) (k : Int) = if okW x y k then l_spec_BytesOfWords_0 x y n ((k + 1 : Nat) : Int) else some (true, ([], false), default) := by
        rw [l_spec_BytesOfWords_0, d1, if_pos rfl, d2, d3, e1, e2, b5, b4, hm, hin, decide_eq_true (show 0 ≤ y.getD k default by omega), wrapS (by omega)]
        simp only [e5, decide_eq_true_eq]
      by_cases hok : okW x y k
      · obtain ⟨w, hw⟩ : ∃ w : Nat, x.getD k default = (w : Int) := ⟨(x.getD k default).toNat, by have := hok.1; omega⟩
        have hw2 : w < 2 ^ b := by
          have := hok.2
          rw [hw, b3, Int.toNat_natCast] at this
          exact_mod_cast this
        obtain ⟨r, r1, r2, r3⟩ := word_all (x := x) (y := y) (j := k) (w := w) hlt hw (by omega) b (Int.toNat (IntKind.wrap .i64 (y.getD k default - 1)) + 2) out used b2 (by rw [b7, b3]; omega) hB (by omega)
        have hspec1 : l_spec_l06Bytes_1 x y (n + 1) out (used : Int) (k : Int) = l_spec_l06Bytes_1 x y n r ((used + b : Nat) : Int) ((k + 1 : Nat) : Int) := by
          rw [l_spec_l06Bytes_1, d1, if_pos rfl, d3, e2, b7]
          rw [b7] at r2
          rw [b3] at r2 ⊢
          rw [r2, wrapS (by omega)]
          rfl
        have himpl1 : l_impl_BytesOfWords_1 x y (n + 1) out (used : Int) (k : Int) = l_impl_BytesOfWords_1 x y n r ((used + b : Nat) : Int) ((k + 1 : Nat) : Int) := by
          rw [l_impl_BytesOfWords_1, d1, if_pos rfl, d2, d3, e1, e2, b4, b7]
          rw [b7] at r3
          rw [decide_eq_false (show ¬ x.getD k default < 0 by rw [hw]; omega), if_neg (show ¬ (false = true) by decide), decide_eq_true (show 0 ≤ y.getD k default by omega), decide_eq_false (show ¬ ((2 ^ b : Nat) : Int) ≤ x.getD k default by rw [hw]; omega), if_neg (show ¬ (false = true) by decide)]
          rw [b3] at r3 ⊢
          rw [r3, wrapS (by omega)]
          rfl
        obtain ⟨i1, i2⟩ := ih (k + 1) r (used + b) (by omega) (by omega) r1 (by omega)
        rw [hspec, if_pos hok, hspec1, himpl1]
        refine ⟨fun hall => ?_, fun hnot => ?_⟩
        · obtain ⟨r', u, v1, v2, v3, v4, v5, v6, v7⟩ := i1 fun j h1 h2 => hall j (by omega) h2
          exact ⟨r', u, v1, fun _ => by omega, by omega, v4, v5, v6, v7⟩
        · refine i2 fun h => hnot fun j h1 h2 => ?_
          by_cases hj : j = k
          · subst hj; exact hok
          · exact h j (by omega) h2
      · refine ⟨fun hall => absurd (hall k (Nat.le_refl _) hlt) hok, fun _ => ?_⟩
        rw [hspec, if_neg hok]
        refine ⟨rfl, ?_⟩
        rw [l_impl_BytesOfWords_1, d1, if_pos rfl, d2, d3, e1, e2, b4]
        by_cases c1 : x.getD k default < 0
        · rw [decide_eq_true c1]; rfl
        · rw [decide_eq_false c1, if_neg (show ¬ (false = true) by decide), decide_eq_true (show 0 ≤ y.getD k default by omega)]
          have : ((2 ^ b : Nat) : Int) ≤ x.getD k default := by
            apply Int.not_lt.1
            intro h
            apply hok
            refine ⟨by omega, ?_⟩
            rw [b3, Int.toNat_natCast]
            exact_mod_cast h
          rw [decide_eq_true this]
          rfl
    · have d1 : (decide ((k : Int) < ((List.length x : Nat) : Int))) = false := decide_eq_false (by omega)
      refine ⟨fun _ => ⟨out, used, hB, fun h => absurd h hlt, Nat.le_refl _, by omega, ?_, ?_, ?_⟩, fun h => absurd (fun j h1 h2 => by omega) h⟩
      · rw [l_spec_l06Bytes_1, d1]; rfl
      · rw [l_spec_BytesOfWords_0, d1]; rfl
      · rw [l_impl_BytesOfWords_1, d1]; rfl
end
/-- sizes that hold: words that fit -/
theorem bytes_ok {x y : List Int} (hl : x.length = y.length) (hs : Szs y) (h : ∀ j, j < x.length → okW x y j) (hm : m_impl_areSizes y = true) (hp : p_impl_areSizes y = true) :
    m_impl_BytesOfWords x y = (m_spec_l06Bytes x y, true) ∧ p_impl_BytesOfWords x y = true ∧ p_spec_l06Bytes x y = true ∧ (1 ≤ x.length → 1 ≤ (m_spec_l06Bytes x y).length) ∧ (m_spec_l06Bytes x y).length ≤ 4096 := by
  obtain ⟨k1, _⟩ := bytes_all hl hs (Int.toNat (((List.length x : Nat) : Int) - 0) + 2) 0 [] 0 (by omega) (by omega) ⟨rfl, by omega, fun e he => by cases he⟩ (by omega)
  obtain ⟨r, u, v1, v2, v3, v4, v5, v6, v7⟩ := k1 fun j _ h2 => h j h2
  replace v5 : l_spec_l06Bytes_1 x y (Int.toNat (((List.length x : Nat) : Int) - 0) + 2) [] 0 0 = some r := v5
  replace v7 : l_impl_BytesOfWords_1 x y (Int.toNat (((List.length x : Nat) : Int) - 0) + 2) [] 0 0 = some (false, default, r) := v7
  have hle : (decide (((List.length x : Nat) : Int) = ((List.length y : Nat) : Int))) = true := decide_eq_true (by omega)
  unfold m_impl_BytesOfWords p_impl_BytesOfWords m_spec_l06Bytes p_spec_l06Bytes
  rw [hle, hm, hp, v5, v7]
  refine ⟨rfl, rfl, rfl, ?_, ?_⟩
  · show 1 ≤ x.length → 1 ≤ (List.map b8 r).length
    intro h1
    rw [List.length_map, v1.1]
    have := v2 (by omega); omega
  · show (List.map b8 r).length ≤ 4096
    rw [List.length_map, v1.1]
    have := hs.1; omega
end Go.Proofs
namespace Go.Proofs
open Go.Ab
def bitAt (x : List UInt8) (u : Nat) : Int := IntKind.wrap .i64 (bitop .and .u8 (Int.fdiv (Go.Ab.u8 (x.getD (u / 8) default)) (2 ^ (7 - u % 8))) 1)
theorem bitAt_01 (x : List UInt8) (u : Nat) : bitAt x u = 0 ∨ bitAt x u = 1 := by
  unfold bitAt bitop
  generalize Int.fdiv _ _ = v
  show IntKind.wrap .i64 (IntKind.wrap .u8 (((BitVec.ofInt 8 v &&& BitVec.ofInt 8 1).toNat : Nat) : Int)) = 0 ∨ IntKind.wrap .i64 (IntKind.wrap .u8 (((BitVec.ofInt 8 v &&& BitVec.ofInt 8 1).toNat : Nat) : Int)) = 1
  rw [show BitVec.ofInt 8 1 = 1#8 by decide, BitVec.toNat_and]
  have : (BitVec.ofInt 8 v).toNat &&& (1#8).toNat ≤ 1 := Nat.and_le_right
  generalize (BitVec.ofInt 8 v).toNat &&& (1#8).toNat = b at *
  have : b = 0 ∨ b = 1 := by omega
  rcases this with rfl | rfl
  · left; decide
  · right; decide
theorem or_bit {w : Nat} {b : Int} (hw : w < 2 ^ 62) (hb : b = 0 ∨ b = 1) : bitop .or .i64 (IntKind.wrap .i64 ((w : Int) * 2)) b = 2 * (w : Int) + b := by
  have e : (w : Int) * 2 = ((2 * w : Nat) : Int) := by omega
  rw [e, wrapN (by omega)]
  unfold bitop
  show IntKind.wrap .i64 (((BitVec.ofInt 64 ((2 * w : Nat) : Int) ||| BitVec.ofInt 64 b).toNat : Nat) : Int) = _
  have e2 : BitVec.ofInt 64 ((2 * w : Nat) : Int) = BitVec.ofNat 64 (2 * w) := by
    apply BitVec.eq_of_toNat_eq
    rw [BitVec.toNat_ofInt, BitVec.toNat_ofNat]
    omega
  rw [e2, BitVec.toNat_or, BitVec.toNat_ofNat, Nat.mod_eq_of_lt (by omega)]
  rcases hb with rfl | rfl
  · rw [show (BitVec.ofInt 64 0).toNat = 0 by decide, Nat.or_zero, wrapN (by omega)]; omega
  · rw [show (BitVec.ofInt 64 1).toNat = 1 by decide, show 2 * w ||| 1 = 2 * w + 1 from ?_, wrapN (by omega)]
    · omega
    · have := Nat.two_pow_add_eq_or_of_lt (i := 1) (b := 1) (by omega) w
      rw [show 2 ^ 1 * w = 2 * w by omega] at this
      exact this.symm
theorem shift_ok (u : Nat) : min (IntKind.wrap .u64 (IntKind.wrap .i64 (7 - ((u % 8 : Nat) : Int)))).toNat 8 = 7 - u % 8 ∧ 0 ≤ IntKind.wrap .u64 (IntKind.wrap .i64 (7 - ((u % 8 : Nat) : Int))) ∧ min (IntKind.wrap .i64 (7 - ((u % 8 : Nat) : Int))).toNat 8 = 7 - u % 8 ∧ 0 ≤ IntKind.wrap .i64 (7 - ((u % 8 : Nat) : Int)) := by
  have h8 : u % 8 < 8 := by omega
  generalize u % 8 = r at *
  have : r = 0 ∨ r = 1 ∨ r = 2 ∨ r = 3 ∨ r = 4 ∨ r = 5 ∨ r = 6 ∨ r = 7 := by omega
  rcases this with rfl | rfl | rfl | rfl | rfl | rfl | rfl | rfl
  all_goals exact ⟨by decide, by decide, by decide, by decide⟩
/-- so many bits into a word -/
def wRun (x : List UInt8) : Nat → Nat → Int → Int
  | 0, _, w => w
  | m + 1, u, w => wRun x m (u + 1) (2 * w + bitAt x u)
theorem wRun_range (x : List UInt8) : ∀ (m u i : Nat) (w : Int), 0 ≤ w → w < 2 ^ i → 0 ≤ wRun x m u w ∧ wRun x m u w < 2 ^ (i + m)
  | 0, u, i, w, h0, h => ⟨h0, h⟩
  | m + 1, u, i, w, h0, h => by
    have hb := bitAt_01 x u
    have := wRun_range x m (u + 1) (i + 1) (2 * w + bitAt x u) (by omega) (by rw [Int.pow_succ]; omega)
    rw [show i + (m + 1) = i + 1 + m by omega]
    exact this
section
variable {x : List UInt8} {y : List Int} {j s : Nat} (hj : j < y.length) (hs : y.getD j default = (s : Int)) (hs2 : s ≤ 62) (hx : x.length ≤ 5000)
include hj hs hs2 hx
theorem spec_word (z : List Int) : ∀ (m n u i : Nat) (w : Int), i + m = s → m < n → u + m ≤ 8 * x.length → 0 ≤ w → w < 2 ^ i →
    l_spec_l06Words_1 x y z (j : Int) n (u : Int) w (i : Int) = some (((u + m : Nat) : Int), wRun x m u w)
  | 0, 0, _, _, _, _, h, _, _, _ => by omega
  | 0, n + 1, u, i, w, hi, _, _, _, _ => by
    have e7 : inB (j : Int) y.length = true := by unfold inB; simp; omega
    have e2 : atI y (j : Int) = (s : Int) := hs
    rw [l_spec_l06Words_1, e7, e2, decide_eq_false (show ¬ (i : Int) < (s : Int) by omega)]
    rfl
  | m + 1, 0, _, _, _, _, h, _, _, _ => by omega
  | m + 1, n + 1, u, i, w, hi, hn, hu, h0, hw => by
    have e7 : inB (j : Int) y.length = true := by unfold inB; simp; omega
    have e2 : atI y (j : Int) = (s : Int) := hs
    obtain ⟨p1, p2, p3, p4⟩ := shift_ok u
    obtain ⟨v, rfl⟩ : ∃ v : Nat, w = (v : Int) := ⟨w.toNat, by omega⟩
    have hv : v < 2 ^ 62 := by
      have h1 : v < 2 ^ i := by exact_mod_cast hw
      exact Nat.lt_of_lt_of_le h1 (Nat.pow_le_pow_right (by omega) (by omega))
    have hb := bitAt_01 x u
    rw [l_spec_l06Words_1, e7, e2, decide_eq_true (show (i : Int) < (s : Int) by omega)]
    unfold v_spec_l06Words_43
    rw [tmod8, tdiv8, p1, decide_eq_true p2, wrapN (n := u / 8) (by omega), show inB ((u / 8 : Nat) : Int) x.length = true by unfold inB; simp; omega, wrapS (k := u) (by omega), wrapS (k := i) (by omega)]
    have hbit : IntKind.wrap .i64 (bitop .and .u8 (Int.fdiv (Go.Ab.u8 (atI x ((u / 8 : Nat) : Int))) (2 ^ (7 - u % 8))) 1) = bitAt x u := rfl
    rw [hbit, or_bit hv hb]
    have ih := spec_word z m n (u + 1) (i + 1) (2 * (v : Int) + bitAt x u) (by omega) (by omega) (by omega) (by omega) (by rw [Int.pow_succ]; omega)
    rw [show u + (m + 1) = u + 1 + m by omega]
    exact ih
theorem impl_word : ∀ (m n u i : Nat) (l : List Int), j < l.length → i + m = s → m < n → u + m ≤ 8 * x.length → 0 ≤ l.getD j default → l.getD j default < 2 ^ i →
    l_impl_WordsOfBytes_1 x y (j : Int) n l (u : Int) (i : Int) = some (((u + m : Nat) : Int), l.set j (wRun x m u (l.getD j default)))
  | 0, 0, _, _, _, _, _, h, _, _, _ => by omega
  | 0, n + 1, u, i, l, hl, hi, _, _, _, _ => by
    have e2 : atI y (j : Int) = (s : Int) := hs
    rw [l_impl_WordsOfBytes_1, e2, decide_eq_false (show ¬ (i : Int) < (s : Int) by omega), wRun, set_get_self hl]
    rfl
  | m + 1, 0, _, _, _, _, _, h, _, _, _ => by omega
  | m + 1, n + 1, u, i, l, hl, hi, hn, hu, h0, hw => by
    have e2 : atI y (j : Int) = (s : Int) := hs
    have e3 : atI l (j : Int) = l.getD j default := rfl
    obtain ⟨p1, p2, p3, p4⟩ := shift_ok u
    generalize hg : l.getD j default = w at *
    obtain ⟨v, rfl⟩ : ∃ v : Nat, w = (v : Int) := ⟨w.toNat, by omega⟩
    have hv : v < 2 ^ 62 := by
      have h1 : v < 2 ^ i := by exact_mod_cast hw
      exact Nat.lt_of_lt_of_le h1 (Nat.pow_le_pow_right (by omega) (by omega))
    have hb := bitAt_01 x u
    rw [l_impl_WordsOfBytes_1, e2, e3, decide_eq_true (show (i : Int) < (s : Int) by omega)]
    unfold v_impl_WordsOfBytes_48
    rw [tmod8, tdiv8, p3, decide_eq_true p4, wrapN (n := u / 8) (by omega), show inB ((u / 8 : Nat) : Int) x.length = true by unfold inB; simp; omega, show inB (j : Int) l.length = true by unfold inB; simp; omega, wrapS (k := u) (by omega), wrapS (k := i) (by omega)]
    have hbit : IntKind.wrap .i64 (bitop .and .u8 (Int.fdiv (Go.Ab.u8 (atI x ((u / 8 : Nat) : Int))) (2 ^ (7 - u % 8))) 1) = bitAt x u := rfl
    rw [hbit, or_bit hv hb]
    have hset : (l.set j (2 * (v : Int) + bitAt x u)).getD j default = 2 * (v : Int) + bitAt x u := by simp [List.getD, hl]
    have ih := impl_word m n (u + 1) (i + 1) (l.set j (2 * (v : Int) + bitAt x u)) (by simpa using hl) (by omega) (by omega) (by omega) (by rw [hset]; omega) (by rw [hset, Int.pow_succ]; omega)
    rw [hset, List.set_set] at ih
    rw [show u + (m + 1) = u + 1 + m by omega]
    exact ih
end
def sumTo (y : List Int) : Nat → Nat → Nat
  | 0, _ => 0
  | m + 1, k => (y.getD k default).toNat + sumTo y m (k + 1)
section
variable {x : List UInt8} {y : List Int} (hs : Szs y)
include hs
theorem sumTo_le : ∀ (m k : Nat), k + m = y.length → sumTo y m k ≤ 62 * m
  | 0, _, _ => Nat.zero_le _
  | m + 1, k, h => by
    have := sumTo_le m (k + 1) (by omega)
    have := hs.2 k (by omega)
    unfold sumTo; omega
theorem sum_all : ∀ (m n k a : Nat), k + m = y.length → m < n → a ≤ 62 * k → l_spec_l06Words_0 x y n (a : Int) (k : Int) = some ((a + sumTo y m k : Nat) : Int) ∧ l_impl_WordsOfBytes_0 x y n (a : Int) (k : Int) = some ((a + sumTo y m k : Nat) : Int)
  | 0, 0, _, _, _, h, _ => by omega
  | 0, n + 1, k, a, hk, _, _ => by
    rw [l_spec_l06Words_0, l_impl_WordsOfBytes_0, decide_eq_false (show ¬ (k : Int) < ((List.length y : Nat) : Int) by omega)]
    exact ⟨rfl, rfl⟩
  | m + 1, 0, _, _, _, h, _ => by omega
  | m + 1, n + 1, k, a, hk, hn, ha => by
    have hk62 := hs.2 k (by omega)
    have e2 : atI y (k : Int) = (((y.getD k default).toNat : Nat) : Int) := by show y.getD k default = _; omega
    have h512 := hs.1
    have e3 : IntKind.wrap .i64 ((a : Int) + (((y.getD k default).toNat : Nat) : Int)) = ((a + (y.getD k default).toNat : Nat) : Int) := by rw [← Int.natCast_add]; exact wrapN (by omega)
    have ih := sum_all m n (k + 1) (a + (y.getD k default).toNat) (by omega) (by omega) (by omega)
    rw [l_spec_l06Words_0, l_impl_WordsOfBytes_0, decide_eq_true (show (k : Int) < ((List.length y : Nat) : Int) by omega), show inB (k : Int) y.length = true by unfold inB; simp; omega, e2, e3, wrapS (by omega), sumTo, ← Nat.add_assoc]
    exact ih
end
/-- the words -/
def wAll (x : List UInt8) (y : List Int) : Nat → Nat → Nat → List Int
  | 0, _, _ => []
  | m + 1, k, u => wRun x (y.getD k default).toNat u 0 :: wAll x y m (k + 1) (u + (y.getD k default).toNat)
theorem wAll_len (x : List UInt8) (y : List Int) : ∀ (m k u : Nat), (wAll x y m k u).length = m
  | 0, _, _ => rfl
  | m + 1, k, u => by rw [wAll, List.length_cons, wAll_len x y m]
theorem wAll_get (x : List UInt8) (y : List Int) : ∀ (m k u i : Nat), i < m → ∃ u', (wAll x y m k u).getD i default = wRun x (y.getD (k + i) default).toNat u' 0
  | 0, _, _, _, h => by omega
  | m + 1, k, u, 0, h => ⟨u, rfl⟩
  | m + 1, k, u, i + 1, h => by
    obtain ⟨u', h'⟩ := wAll_get x y m (k + 1) (u + (y.getD k default).toNat) i (by omega)
    refine ⟨u', ?_⟩
    rw [wAll, List.getD_cons_succ, h', show k + 1 + i = k + (i + 1) by omega]
section
variable {x : List UInt8} {y : List Int} (hs : Szs y) (hx : x.length ≤ 5000)
include hs hx
theorem words_all : ∀ (m n k u : Nat) (z : List Int), k + m = y.length → m < n → z.length = k → u + sumTo y m k ≤ 8 * x.length →
    l_spec_l06Words_2 x y n z (u : Int) (k : Int) = some (z ++ wAll x y m k u) ∧ l_impl_WordsOfBytes_2 x y n (z ++ List.replicate m 0) (u : Int) (k : Int) = some (z ++ wAll x y m k u)
  | 0, 0, _, _, _, _, h, _, _ => by omega
  | 0, n + 1, k, u, z, hk, _, _, _ => by
    rw [l_spec_l06Words_2, l_impl_WordsOfBytes_2, decide_eq_false (show ¬ (k : Int) < ((List.length y : Nat) : Int) by omega)]
    exact ⟨by rw [wAll, List.append_nil]; rfl, by rw [wAll]; rfl⟩
  | m + 1, 0, _, _, _, _, h, _, _ => by omega
  | m + 1, n + 1, k, u, z, hk, hn, hz, hu => by
    have h512 := hs.1
    have hk62 := hs.2 k (by omega)
    generalize hg : (y.getD k default).toNat = s at *
    have hs' : y.getD k default = (s : Int) := by omega
    rw [sumTo, hg] at hu
    have e2 : atI y (k : Int) = (s : Int) := hs'
    have r1 := spec_word (x := x) (y := y) (j := k) (s := s) (by omega) hs' (by omega) hx z s (Int.toNat ((s : Int) - 0) + 2) u 0 0 (by omega) (by omega) (by omega) (by omega) (by decide)
    have hget : (z ++ List.replicate (m + 1) (0 : Int)).getD k default = 0 := by simp [List.getD, hz]
    have hset : ∀ v : Int, (z ++ List.replicate (m + 1) (0 : Int)).set k v = (z ++ [v]) ++ List.replicate m 0 := by
      intro v
      rw [List.set_append_right _ _ (by omega), hz, Nat.sub_self, List.replicate_succ, List.set_cons_zero, List.append_assoc]
      rfl
    have r2 := impl_word (x := x) (y := y) (j := k) (s := s) (by omega) hs' (by omega) hx s (Int.toNat ((s : Int) - 0) + 2) u 0 (z ++ List.replicate (m + 1) 0) (by simp; omega) (by omega) (by omega) (by omega) (by rw [hget]; omega) (by rw [hget]; decide)
    rw [hget, hset] at r2
    replace r1 : l_spec_l06Words_1 x y z (k : Int) (Int.toNat ((s : Int) - 0) + 2) (u : Int) 0 0 = some (((u + s : Nat) : Int), wRun x s u 0) := r1
    replace r2 : l_impl_WordsOfBytes_1 x y (k : Int) (Int.toNat ((s : Int) - 0) + 2) (z ++ List.replicate (m + 1) 0) (u : Int) 0 = some (((u + s : Nat) : Int), (z ++ [wRun x s u 0]) ++ List.replicate m 0) := r2
    obtain ⟨i1, i2⟩ := words_all m n (k + 1) (u + s) (z ++ [wRun x s u 0]) (by omega) (by omega) (by simp [hz]) (by omega)
    have hw : z ++ wAll x y (m + 1) k u = (z ++ [wRun x s u 0]) ++ wAll x y m (k + 1) (u + s) := by rw [wAll, hg, List.append_assoc]; rfl
    rw [hw]
    have d1 : (decide ((k : Int) < ((List.length y : Nat) : Int))) = true := decide_eq_true (by omega)
    have d2 : inB (k : Int) y.length = true := by unfold inB; simp; omega
    refine ⟨?_, ?_⟩
    · rw [l_spec_l06Words_2, d1, e2, r1, wrapS (by omega), decide_eq_true (show (z.length + 1) * 8 ≤ 17592186044416 by omega), decide_eq_true (show z.length + 1 ≤ 17592186044416 by omega)]
      exact i1
    · rw [l_impl_WordsOfBytes_2, d1, d2, e2, r2, wrapS (by omega)]
      exact i2
end
end Go.Proofs
namespace Go.Proofs
open Go.Ab
theorem bits_of {b : Int} (hb : m_impl_areBits b = true) : 2 ≤ b ∧ b ≤ 16 := by
  unfold m_impl_areBits at hb
  have := and_of hb
  exact ⟨of_decide_eq_true this.1, of_decide_eq_true this.2⟩
theorem sizes_true {y : List Int} (h : Szs y) : m_impl_areSizes y = true ∧ p_impl_areSizes y = true := by
  have key : ∀ (n k : Nat), k ≤ y.length → y.length - k < n → l_impl_areSizes_0 y n (k : Int) = some (false, default, ()) := by
    intro n
    induction n with
    | zero => intro k _ h; omega
    | succ n ih =>
      intro k hk hn
      have h512 := h.1
      rw [l_impl_areSizes_0]
      by_cases hlt : k < y.length
      · have := h.2 k hlt
        have e3 : atI y (k : Int) = y.getD k default := rfl
        rw [decide_eq_true (show (k : Int) < ((List.length y : Nat) : Int) by omega), show inB (k : Int) y.length = true by unfold inB; simp; omega, e3, decide_eq_false (show ¬ y.getD k default < 1 by omega), decide_eq_false (show ¬ 62 < y.getD k default by omega), wrapS (by omega)]
        exact ih (k + 1) (by omega) (by omega)
      · rw [decide_eq_false (show ¬ (k : Int) < ((List.length y : Nat) : Int) by omega)]; rfl
  have h512 := h.1
  have o1 : l_impl_areSizes_0 y (Int.toNat (((List.length y : Nat) : Int) - 0) + 2) 0 = some (false, default, ()) := key _ 0 (by omega) (by omega)
  unfold m_impl_areSizes p_impl_areSizes
  rw [o1]
  exact ⟨decide_eq_true (show ((List.length y : Nat) : Int) ≤ 512 by omega), rfl⟩
theorem parts_eq (c : Int × Int × Nat) (h1 : 2 ≤ c.1) (h2 : c.1 ≤ 16) (h3 : 2 ≤ c.2.1) (h4 : c.2.1 ≤ 16) (len : Nat) (hl : len ≤ 12) :
    m_spec_l06Parts c (len : Int) = 3 * c.2.1 :: List.replicate len (2 + 3 * c.1) ∧ m_impl_Packing_sizes c (len : Int) = 3 * c.2.1 :: List.replicate len (2 + 3 * c.1) ∧ p_spec_l06Parts c (len : Int) = true ∧ p_impl_Packing_sizes c (len : Int) = true := by
  have e1 : IntKind.wrap .i64 (2 + IntKind.wrap .i64 (3 * c.1)) = 2 + 3 * c.1 := by rw [wrapI (n := 3 * c.1) (by omega) (by omega)]; exact wrapI (by omega) (by omega)
  have e2 : IntKind.wrap .i64 (3 * c.2.1) = 3 * c.2.1 := wrapI (by omega) (by omega)
  have key : ∀ (n k : Nat) (z : List Int), k ≤ len → len - k < n → z.length = k + 1 → l_spec_l06Parts_0 c (len : Int) n z (k : Int) = some (z ++ List.replicate (len - k) (2 + 3 * c.1)) ∧ l_impl_Packing_sizes_0 c (len : Int) n z (k : Int) = some (z ++ List.replicate (len - k) (2 + 3 * c.1)) := by
    intro n
    induction n with
    | zero => intro k _ _ h; omega
    | succ n ih =>
      intro k z hk hn hz
      rw [l_spec_l06Parts_0, l_impl_Packing_sizes_0, e1]
      by_cases hlt : k < len
      · obtain ⟨i1, i2⟩ := ih (k + 1) (z ++ [2 + 3 * c.1]) (by omega) (by omega) (by simp [hz])
        rw [decide_eq_true (show (k : Int) < (len : Int) by omega), decide_eq_true (show (z.length + 1) * 8 ≤ 17592186044416 by omega), decide_eq_true (show z.length + 1 ≤ 17592186044416 by omega), wrapS (by omega)]
        have e : z ++ List.replicate (len - k) (2 + 3 * c.1) = z ++ [2 + 3 * c.1] ++ List.replicate (len - (k + 1)) (2 + 3 * c.1) := by
          rw [show len - k = (len - (k + 1)) + 1 by omega, List.replicate_succ, List.append_assoc]; rfl
        rw [e]
        exact ⟨i1, i2⟩
      · rw [decide_eq_false (show ¬ (k : Int) < (len : Int) by omega), show len - k = 0 by omega, List.replicate_zero, List.append_nil]
        exact ⟨rfl, rfl⟩
  obtain ⟨i1, i2⟩ := key (Int.toNat ((len : Int) - 0) + 2) 0 [3 * c.2.1] (by omega) (by omega) rfl
  replace i1 : l_spec_l06Parts_0 c (len : Int) (Int.toNat ((len : Int) - 0) + 2) [3 * c.2.1] 0 = some (3 * c.2.1 :: List.replicate len (2 + 3 * c.1)) := i1
  replace i2 : l_impl_Packing_sizes_0 c (len : Int) (Int.toNat ((len : Int) - 0) + 2) [3 * c.2.1] 0 = some (3 * c.2.1 :: List.replicate len (2 + 3 * c.1)) := i2
  unfold m_spec_l06Parts m_impl_Packing_sizes p_spec_l06Parts p_impl_Packing_sizes
  rw [e2, i1, i2]
  exact ⟨rfl, rfl, rfl, rfl⟩
end Go.Proofs
namespace Go.Proofs
open Go.Ab
theorem words_core {x : List UInt8} {y : List Int} (hs : Szs y) : p_spec_l06Words x y = true ∧ p_impl_WordsOfBytes x y = true ∧
    m_impl_WordsOfBytes x y = (if (m_spec_l06Words x y).2 = true then m_spec_l06Words x y else ([], false)) ∧ ((m_spec_l06Words x y).2 = true → (m_spec_l06Words x y).1.length = y.length ∧ ∀ j, j < y.length → okW (m_spec_l06Words x y).1 y j) := by
  obtain ⟨ha, z3⟩ := sizes_true hs
  unfold m_impl_WordsOfBytes p_impl_WordsOfBytes m_spec_l06Words p_spec_l06Words
  rw [ha, z3]
  have h512 := hs.1
  have hsum := sumTo_le hs y.length 0 (by omega)
  obtain ⟨s1, s2⟩ := sum_all (x := x) hs y.length (Int.toNat (((List.length y : Nat) : Int) - 0) + 2) 0 0 (by omega) (by omega) (by omega)
  replace s1 : l_spec_l06Words_0 x y (Int.toNat (((List.length y : Nat) : Int) - 0) + 2) 0 0 = some ((0 + sumTo y y.length 0 : Nat) : Int) := s1
  replace s2 : l_impl_WordsOfBytes_0 x y (Int.toNat (((List.length y : Nat) : Int) - 0) + 2) 0 0 = some ((0 + sumTo y y.length 0 : Nat) : Int) := s2
  rw [Nat.zero_add] at s1 s2
  generalize hS : sumTo y y.length 0 = S at *
  have e8 : IntKind.wrap .i64 (Int.tdiv (IntKind.wrap .i64 ((S : Int) + 7)) 8) = (((S + 7) / 8 : Nat) : Int) := by
    rw [show (S : Int) + 7 = ((S + 7 : Nat) : Int) by omega, wrapN (by omega), tdiv8, wrapN (by omega)]
  have v1 : v_spec_l06Words_0 x y = (((S + 7) / 8 : Nat) : Int) := by
    unfold v_spec_l06Words_0; rw [s1]; exact e8
  have v2 : v_impl_WordsOfBytes_0 x y = (((S + 7) / 8 : Nat) : Int) := by
    unfold v_impl_WordsOfBytes_0; rw [s2]; exact e8
  unfold v_impl_WordsOfBytes_369 v_impl_WordsOfBytes_370
  rw [v1, v2, s1, s2]
  by_cases hb : x.length = (S + 7) / 8
  · have hb' : (decide (((List.length x : Nat) : Int) = (((S + 7) / 8 : Nat) : Int))) = true := decide_eq_true (by omega)
    rw [hb']
    obtain ⟨w1, w2⟩ := words_all (x := x) hs (by omega) y.length (Int.toNat (((List.length y : Nat) : Int) - 0) + 2) 0 0 [] (by omega) (by omega) rfl (by omega)
    rw [List.nil_append] at w1 w2
    rw [List.nil_append] at w2
    replace w1 : l_spec_l06Words_2 x y (Int.toNat (((List.length y : Nat) : Int) - 0) + 2) [] 0 0 = some (wAll x y y.length 0 0) := w1
    replace w2 : l_impl_WordsOfBytes_2 x y (Int.toNat (((List.length y : Nat) : Int) - 0) + 2) (List.replicate (Int.toNat ((List.length y : Nat) : Int)) 0) 0 0 = some (wAll x y y.length 0 0) := w2
    have hlen := wAll_len x y y.length 0 0
    have hok : ∀ j, j < (wAll x y y.length 0 0).length → okW (wAll x y y.length 0 0) y j := by
      intro j hj
      rw [hlen] at hj
      obtain ⟨u', hu'⟩ := wAll_get x y y.length 0 0 j hj
      unfold okW
      rw [hu', Nat.zero_add]
      have := wRun_range x (y.getD j default).toNat u' 0 0 (by omega) (by decide)
      rw [Nat.zero_add] at this
      exact this
    generalize wAll x y y.length 0 0 = w at *
    obtain ⟨b1, b2, b3, b4, b5⟩ := bytes_ok (x := w) (y := y) hlen hs hok ha z3
    rw [w1, w2]
    simp only [Option.getD_some, Option.isSome_some, b1, b2, b3]
    have n1 : (decide (0 ≤ ((List.length y : Nat) : Int)) && ((decide (((List.length y : Nat) : Int) * 8 ≤ 70368744177664)) && ((decide (((List.length y : Nat) : Int) ≤ 70368744177664)) && true))) = true := by simp; omega
    have hok' : ∀ j, j < y.length → okW w y j := fun j hj => hok j (by omega)
    by_cases hq : m_spec_l06Bytes w y = x
    · simp [hq, hlen]
      exact ⟨by omega, hok'⟩
    · simp [hq]; omega
  · have hb' : (decide (((List.length x : Nat) : Int) = (((S + 7) / 8 : Nat) : Int))) = false := decide_eq_false (by omega)
    rw [hb']
    exact ⟨rfl, rfl, rfl, fun h => by cases h⟩
theorem openVec_ok {w : Nat} {r : Nat} {b : Int} (hb : m_impl_areBits b = true) (hw : w < 2 ^ (3 * b).toNat) (hr : m_impl_isPositive r = true) :
    m_impl_UnpackVector w r b = (m_spec_l06OpenVector w r b, true) ∧ p_impl_UnpackVector w r b = true ∧ p_spec_l06OpenVector w r b = true := by
  obtain ⟨h1, h2⟩ := bits_of hb
  obtain ⟨f1, f2, f3, f4, f5, f6, f7⟩ := bits_facts h1 h2
  have hc : m_impl_codes (3 * b) = ((2 ^ (3 * b).toNat : Nat) : Int) := by unfold m_impl_codes; exact f6
  have hpc : p_impl_codes (3 * b) = true := by unfold p_impl_codes; simp; omega
  obtain ⟨n1, n2, n3, n4, n5, n6⟩ := parts_ok (w := w) (r := r) h1 h2 hw hr
  have h0 : ¬ (w : Int) < 0 := by omega
  have h1' : ¬ ((2 ^ (3 * b).toNat : Nat) : Int) ≤ (w : Int) := by omega
  unfold m_impl_UnpackVector p_impl_UnpackVector
  simp only [hr, hb, f3, f6, hc, hpc, h0, h1', n1, n2, n3, n4, n5, n6, decide_true, decide_false, if_true, if_false, Bool.false_eq_true]
  simp
theorem openTurn_ok {w : Nat} {b : Int} (hb : m_impl_areBits b = true) (hw : w < 2 ^ (3 * b + 2).toNat) :
    m_impl_UnpackTurn w b = (m_spec_l06Unpack w b, true) ∧ p_impl_UnpackTurn w b = true ∧ p_spec_l06Unpack w b = true := by
  obtain ⟨h1, h2⟩ := bits_of hb
  have hM : ∀ t, p_impl_MendTurn t = true := fun t => (mend_eq t).2.1
  have hS : ∀ t, p_impl_RootNumber t = true := fun t => sqrt_narrow t
  obtain ⟨f1, f2, f3, f4, f5, f6, f7⟩ := bits_facts h1 h2
  have g5 : IntKind.wrap .i64 (4 * ((2 ^ (3 * b).toNat : Nat) : Int)) = ((2 ^ (3 * b + 2).toNat : Nat) : Int) := by
    have : b = 2 ∨ b = 3 ∨ b = 4 ∨ b = 5 ∨ b = 6 ∨ b = 7 ∨ b = 8 ∨ b = 9 ∨ b = 10 ∨ b = 11 ∨ b = 12 ∨ b = 13 ∨ b = 14 ∨ b = 15 ∨ b = 16 := by omega
    rcases this with rfl | rfl | rfl | rfl | rfl | rfl | rfl | rfl | rfl | rfl | rfl | rfl | rfl | rfl | rfl
    all_goals decide
  have hc : m_impl_codes (3 * b) = ((2 ^ (3 * b).toNat : Nat) : Int) := by unfold m_impl_codes; exact f6
  have hpc : p_impl_codes (3 * b) = true := by unfold p_impl_codes; simp; omega
  obtain ⟨n1, n2, n3, n4, n5⟩ := openTurn (w := w) h1 h2 hw
  have h0 : ¬ (w : Int) < 0 := by omega
  have h1' : ¬ ((2 ^ (3 * b + 2).toNat : Nat) : Int) ≤ (w : Int) := by omega
  unfold m_impl_UnpackTurn p_impl_UnpackTurn
  simp only [hb, f3, hc, hpc, g5, h0, h1', n1, n2, n3, n4, n5, hM, hS, decide_true, decide_false, if_true, if_false, Bool.false_eq_true]
  simp
theorem open_all (c : Int × Int × Nat) (N : Int) (s : List UInt8) (len : Nat) (hl : len ≤ 12) (Y : List Int) (e1 : m_spec_l06Parts c N = Y) (e2 : m_impl_Packing_sizes c N = Y) (w : List Int) (e3 : (m_spec_l06Words s Y).1 = w) (e4 : (m_impl_WordsOfBytes s Y).1 = w) (hw : w.length = len + 1)
    (hb : m_impl_areBits c.1 = true) (hr : ∀ j, j < len → 0 ≤ w.getD (j + 1) default ∧ w.getD (j + 1) default < 2 ^ (3 * c.1 + 2).toNat) : ∀ (n k : Nat) (z : List (Nat × Nat × Nat × Nat)), k ≤ len → len - k < n → z.length = k →
    ∃ r : List (Nat × Nat × Nat × Nat), r.length = len ∧ l_spec_l06Open_0 c N s n z ((k + 1 : Nat) : Int) = some r ∧ l_impl_UnpackPose_0 c N s n z (k : Int) = some (false, default, r) := by
  intro n
  induction n with
  | zero => intro k _ _ h; omega
  | succ n ih =>
    intro k z hk hn hz
    rw [l_spec_l06Open_0, l_impl_UnpackPose_0, e1, e2, e3, e4]
    have hd : (List.drop 1 w).length = len := by simp [hw]
    rw [hd, hw]
    by_cases hlt : k < len
    · obtain ⟨q1, q2⟩ := hr k hlt
      have a1 : atI w ((k + 1 : Nat) : Int) = w.getD (k + 1) default := rfl
      have a2 : atI (List.drop 1 w) (k : Int) = w.getD (k + 1) default := by
        show (List.drop 1 w).getD k default = _
        simp [List.getD, Nat.add_comm]
      rw [a1, a2]
      obtain ⟨u, hu⟩ : ∃ u : Nat, w.getD (k + 1) default = (u : Int) := ⟨(w.getD (k + 1) default).toNat, by omega⟩
      rw [hu] at q2 ⊢
      obtain ⟨t1, t2, t3⟩ := openTurn_ok (w := u) hb (by exact_mod_cast q2)
      rw [t1, t2, t3]
      obtain ⟨r, r1, r2, r3⟩ := ih (k + 1) (z ++ [m_spec_l06Unpack (u : Int) c.1]) (by omega) (by omega) (by simp [hz])
      refine ⟨r, r1, ?_, ?_⟩
      · rw [decide_eq_true (show ((k + 1 : Nat) : Int) < ((len + 1 : Nat) : Int) by omega), show inB ((k + 1 : Nat) : Int) (len + 1) = true by unfold inB; simp; omega, decide_eq_true (show (z.length + 1) * 16 ≤ 17592186044416 by omega), decide_eq_true (show z.length + 1 ≤ 17592186044416 by omega), wrapS (k := k + 1) (by omega)]
        exact r2
      · rw [decide_eq_true (show (k : Int) < ((len : Nat) : Int) by omega), show inB (k : Int) len = true by unfold inB; simp; omega, decide_eq_true (show (z.length + 1) * 16 ≤ 17592186044416 by omega), decide_eq_true (show z.length + 1 ≤ 17592186044416 by omega), wrapS (k := k) (by omega)]
        exact r3
    · refine ⟨z, by omega, ?_, ?_⟩
      · rw [decide_eq_false (show ¬ ((k + 1 : Nat) : Int) < ((len + 1 : Nat) : Int) by omega)]; rfl
      · rw [decide_eq_false (show ¬ (k : Int) < ((len : Nat) : Int) by omega)]; rfl
theorem core_UnpackPose (c : Int × Int × Nat) (N : Int) (s : List UInt8) : m_impl_UnpackPose c N s = m_spec_UnpackPose c N s ∧ p_impl_UnpackPose c N s = true ∧ p_spec_UnpackPose c N s = true ∧ (m_spec_UnpackPose c N s).1.2.2.2.length ≤ 12 := by
  have e1 : m_spec_l06Is c = m_impl_ValidPacking c := rfl
  have e2 : m_spec_l06Count N = m_impl_isCount N := rfl
  unfold m_impl_UnpackPose m_spec_UnpackPose p_impl_UnpackPose p_spec_UnpackPose
  rw [e1, e2]
  by_cases hv : m_impl_ValidPacking c = true
  · have hv' := hv
    unfold m_impl_ValidPacking at hv'
    obtain ⟨b1, hv'⟩ := and_of hv'
    obtain ⟨b2, b3⟩ := and_of hv'
    obtain ⟨h1, h2⟩ := bits_of b1
    obtain ⟨h3, h4⟩ := bits_of b2
    rw [hv]
    by_cases hc : m_impl_isCount N = true
    · have hN : 1 ≤ N ∧ N ≤ 12 := by
        unfold m_impl_isCount at hc
        obtain ⟨a1, a2⟩ := and_of hc
        exact ⟨of_decide_eq_true a1, of_decide_eq_true a2⟩
      rw [hc]
      obtain ⟨len, rfl⟩ : ∃ len : Nat, N = (len : Int) := ⟨N.toNat, by omega⟩
      obtain ⟨g1, g2, g3, g4⟩ := parts_eq c h1 h2 h3 h4 len (by omega)
      unfold m_spec_l06Open p_spec_l06Open
      generalize hY : (3 * c.2.1 :: List.replicate len (2 + 3 * c.1)) = Y at *
      have hget : ∀ j, j < len + 1 → Y.getD j default = if j = 0 then 3 * c.2.1 else 2 + 3 * c.1 := by
        intro j hj
        rw [← hY]
        cases j with
        | zero => rfl
        | succ j =>
          rw [List.getD_cons_succ, if_neg (by omega)]
          simp [List.getD, List.getElem?_replicate, show j < len by omega]
      have hYl : Y.length = len + 1 := by rw [← hY]; simp
      have hS : Szs Y := by
        refine ⟨by omega, fun j hj => ?_⟩
        rw [hget j (by omega)]
        split <;> omega
      obtain ⟨w1, w2, w3, w4⟩ := words_core (x := s) hS
      have oa := open_all c (len : Int) s len (by omega) Y g1 g2
      rw [g1, g2, g3, g4, w1, w2]
      cases hW : (m_spec_l06Words s Y).2 with
      | false =>
        rw [hW] at w3
        rw [w3]
        exact ⟨rfl, rfl, rfl, Nat.zero_le _⟩
      | true =>
        obtain ⟨wl, wok⟩ := w4 hW
        rw [hW, if_pos rfl] at w3
        have w31 : (m_impl_WordsOfBytes s Y).1 = (m_spec_l06Words s Y).1 := by rw [w3]
        have w32 : (m_impl_WordsOfBytes s Y).2 = true := by rw [w3]; exact hW
        generalize hw : (m_spec_l06Words s Y).1 = w at *
        rw [w31, w32]
        have hr : ∀ j, j < len → 0 ≤ w.getD (j + 1) default ∧ w.getD (j + 1) default < 2 ^ (3 * c.1 + 2).toNat := by
          intro j hj
          have h := wok (j + 1) (by omega)
          unfold okW at h
          rw [hget (j + 1) (by omega), if_neg (by omega)] at h
          rw [show 3 * c.1 + 2 = 2 + 3 * c.1 by omega]
          exact h
        have hl0 : (List.drop 1 w).length = len := by simp; omega
        obtain ⟨r, r1, r2, r3⟩ := oa w rfl w31 (by omega) b1 hr (len + 2) 0 [] (by omega) (by omega) rfl
        replace r2 : l_spec_l06Open_0 c (len : Int) s (Int.toNat (((List.length w : Nat) : Int) - 1) + 2) [] 1 = some r := by
          rw [show Int.toNat (((List.length w : Nat) : Int) - 1) + 2 = len + 2 by omega]; exact r2
        replace r3 : l_impl_UnpackPose_0 c (len : Int) s (Int.toNat (((List.length (List.drop 1 w) : Nat) : Int) - 0) + 2) [] 0 = some (false, default, r) := by
          rw [hl0, show Int.toNat ((len : Int) - 0) + 2 = len + 2 by omega]; exact r3
        rw [r2, r3]
        have h0 := wok 0 (by omega)
        unfold okW at h0
        rw [hget 0 (by omega), if_pos rfl] at h0
        have a0 : atI w 0 = w.getD 0 default := rfl
        rw [a0]
        obtain ⟨u, hu⟩ : ∃ u : Nat, w.getD 0 default = (u : Int) := ⟨(w.getD 0 default).toNat, by omega⟩
        rw [hu] at h0 ⊢
        obtain ⟨v1, v2, v3⟩ := openVec_ok (w := u) b2 (by exact_mod_cast h0.2) b3
        rw [v1, v2, v3]
        have i0 : inB 0 w.length = true := by unfold inB; simp; omega
        have i1 : decide ((1 : Nat) ≤ w.length) = true := by simp; omega
        rw [i0, i1]
        exact ⟨rfl, rfl, rfl, by show r.length ≤ 12; omega⟩
    · have hc' : m_impl_isCount N = false := by simpa using hc
      rw [hc']
      exact ⟨rfl, rfl, rfl, Nat.zero_le _⟩
  · have hv' : m_impl_ValidPacking c = false := by simpa using hv
    rw [hv']
    exact ⟨rfl, rfl, rfl, Nat.zero_le _⟩
theorem law_UnpackPose (x : Int) (y : Int) (z : Nat) (_ : (Lit.int .i64 x).wf = true) (_ : (Lit.int .i64 y).wf = true) (_ : Canon .f32 z) (N : Int) (_ : (Lit.int .i64 N).wf = true) (s : List UInt8) (_ : s.length ≤ maxLen) :
    g_laws_FnExactUnpackPose [.agg [.int .i64 x, .int .i64 y, .flt .f32 z], .int .i64 N, .str s] = some (.bool true) := by
  have key : p_laws_FnExactUnpackPose (x, y, z) N s = true ∧ m_laws_FnExactUnpackPose (x, y, z) N s = true := by
    unfold p_laws_FnExactUnpackPose m_laws_FnExactUnpackPose v_laws_FnExactUnpackPose_0
    have e0 : m_laws_toPacking (x, y, z) = (x, y, z) := rfl
    rw [e0]
    generalize (x, y, z) = q at *
    by_cases hx : (1048576 : Int) < ((List.length s : Nat) : Int)
    · simp [hx]
    · obtain ⟨c1, c2, c3, c4⟩ := core_UnpackPose q N s
      rw [c1]
      generalize (m_spec_UnpackPose q N s) = r at *
      have kr : r.1.2.2.2.length ≤ 1048576 := by omega
      have i2 : ¬ iter gT r.1.2.2.2.length 1 < 0 := by rw [iter_add (g := gT) (c := 4) gT_add _ _ (by omega) (by omega)]; omega
      simp [hx, c2, c3, eq_Pose r.1 kr, mark_Pose r.1 1 kr, held_Pose _ _ _ _ 1 kr, marks_len, i2]
  unfold g_laws_FnExactUnpackPose
  simp only [key.1, key.2, if_true]
end Go.Proofs
