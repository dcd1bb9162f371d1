/- What functions that FnExactValidClip reaches compute, and that the program's and the reference's answers are the same. No conditions. -/
import Derived.Test.YtlpbpdjledpfbacValidClipY1
set_option maxRecDepth 100000
set_option maxHeartbeats 4000000
set_option linter.all false
namespace Go.Proofs
open Go.Ab
end Go.Proofs
namespace Go.Ab
/-- a list of known length is filled, an element a round -/
theorem fill_loop {β : Type} (l : Nat → List β → Int → Option (List β)) (len : Nat) (F : Nat → β) (hlen : len < 2 ^ 62)
    (H : ∀ (n : Nat) (z : List β) (k : Nat), k < len → z.length = len → l (n + 1) z (k : Int) = l n (z.set k (F k)) (IntKind.wrap .i64 ((k : Int) + 1)))
    (H' : ∀ (n : Nat) (z : List β) (k : Nat), ¬ k < len → l (n + 1) z (k : Int) = some z) :
    ∀ (n : Nat) (z : List β) (k : Nat), k ≤ len → z.length = len → len - k < n → l n z (k : Int) = some (z.take k ++ (List.range' k (len - k)).map F)
  | 0, z, k, _, _, h => by omega
  | n + 1, z, k, hk, hz, h => by
    by_cases hlt : k < len
    · rw [H n z k hlt hz, wrapS (by omega), fill_loop l len F hlen H H' n _ (k + 1) (by omega) (by rw [List.length_set]; exact hz) (by omega), show len - k = (len - (k + 1)) + 1 by omega, List.range'_succ, List.map_cons]
      congr 1
      rw [List.take_succ_eq_append_getElem (by rw [List.length_set]; omega), List.take_set_of_le (Nat.le_refl _), List.getElem_set_self, List.append_assoc, List.singleton_append]
    · rw [H' n z k hlt, show len - k = 0 by omega]
      have : k = z.length := by omega
      subst this
      simp
/-- elements are put at the end, one a round -/
theorem app_loop {β : Type} (l : Nat → List β → Int → Option (List β)) (len : Nat) (F : Nat → β) (hlen : len < 2 ^ 62) (P : Nat → Nat → Prop)
    (H : ∀ (n : Nat) (z : List β) (k : Nat), k < len → P k z.length → l (n + 1) z (k : Int) = l n (z ++ [F k]) (IntKind.wrap .i64 ((k : Int) + 1)))
    (H' : ∀ (n : Nat) (z : List β) (k : Nat), ¬ k < len → l (n + 1) z (k : Int) = some z) (hP : ∀ k j, k < len → P k j → P (k + 1) (j + 1)) :
    ∀ (n : Nat) (z : List β) (k : Nat), k ≤ len → P k z.length → len - k < n → l n z (k : Int) = some (z ++ (List.range' k (len - k)).map F)
  | 0, z, k, _, _, h => by omega
  | n + 1, z, k, hk, hp, h => by
    by_cases hlt : k < len
    · rw [H n z k hlt hp, wrapS (by omega), app_loop l len F hlen P H H' hP n _ (k + 1) (by omega) (by rw [List.length_append]; exact hP _ _ hlt hp) (by omega), show len - k = (len - (k + 1)) + 1 by omega, List.range'_succ, List.map_cons]
      simp
    · rw [H' n z k hlt, show len - k = 0 by omega]
      simp
theorem map_range_shift {β : Type} {F G : Nat → β} {k j m : Nat} (h : ∀ i, i < m → F (k + i) = G (j + i)) : (List.range' k m).map F = (List.range' j m).map G := by
  induction m generalizing k j with
  | zero => rfl
  | succ m ih =>
    have h0 := h 0 (by omega)
    rw [Nat.add_zero, Nat.add_zero] at h0
    rw [List.range'_succ, List.range'_succ, List.map_cons, List.map_cons, h0, ih fun i hi => by
      have := h (i + 1) (by omega)
      rw [show k + (i + 1) = k + 1 + i by omega, show j + (i + 1) = j + 1 + i by omega] at this
      exact this]
/-- marks -/
def marks {α : Type} (f : Int → α) (g : Int → Int) : Int → Nat → List α
  | _, 0 => []
  | m, n + 1 => f m :: marks f g (g m) n
def iter (g : Int → Int) : Nat → Int → Int
  | 0, m => m
  | n + 1, m => iter g n (g m)
theorem marks_len {α : Type} (f : Int → α) (g : Int → Int) : ∀ (n : Nat) (m : Int), (marks f g m n).length = n
  | 0, _ => rfl
  | n + 1, m => by rw [marks, List.length_cons, marks_len f g n]
theorem marks_get {α : Type} [Inhabited α] (f : Int → α) (g : Int → Int) : ∀ (n : Nat) (m : Int) (i : Nat), i < n → (marks f g m n).getD i default = f (iter g i m)
  | 0, _, _, h => by omega
  | n + 1, m, 0, _ => rfl
  | n + 1, m, i + 1, h => by
    rw [marks, List.getD_cons_succ, marks_get f g n (g m) i (by omega)]; rfl
theorem iter_succ (g : Int → Int) : ∀ (i : Nat) (m : Int), g (iter g i m) = iter g (i + 1) m
  | 0, _ => rfl
  | i + 1, m => by rw [iter, iter_succ g i (g m)]; rfl
theorem iter_add {g : Int → Int} {c : Nat} (hg : ∀ m : Int, 0 ≤ m → m ≤ 2 ^ 60 → g m = m + c) : ∀ (n : Nat) (m : Int), 0 ≤ m → m + ((c * n : Nat) : Int) ≤ 2 ^ 60 → iter g n m = m + ((c * n : Nat) : Int)
  | 0, m, _, _ => by simp [iter]
  | n + 1, m, h0, h => by
    rw [Nat.mul_succ] at h ⊢
    rw [iter, hg m h0 (by omega), iter_add hg n _ (by omega) (by omega)]
    omega
theorem mark_loop {α : Type} (l : Nat → List α → Int → Int → Option (Int × List α)) (f : Int → α) (g : Int → Int)
    (H : ∀ n z m k, l (n + 1) z m k = if (decide (k < ((z.length : Nat) : Int))) = true then need (inB k z.length) (l n (z.set k.toNat (f m)) (g m) (IntKind.wrap .i64 (k + 1))) else some (m, z)) :
    ∀ (n : Nat) (z : List α) (m : Int) (k : Nat), z.length < 2 ^ 62 → k ≤ z.length → z.length - k < n → l n z m (k : Int) = some (iter g (z.length - k) m, z.take k ++ marks f g m (z.length - k))
  | 0, z, m, k, _, _, h => by omega
  | n + 1, z, m, k, hz, hk, h => by
    rw [H]
    by_cases hlt : k < z.length
    · rw [if_pos (by simp; omega), inB_nat]
      unfold need
      rw [if_pos (by simpa using hlt), wrapS (by omega), Int.toNat_natCast, mark_loop l f g H n _ (g m) (k + 1) (by rw [List.length_set]; exact hz) (by rw [List.length_set]; omega) (by rw [List.length_set]; omega), List.length_set,
        show z.length - k = (z.length - (k + 1)) + 1 by omega]
      congr 2
      rw [List.take_succ_eq_append_getElem (by rw [List.length_set]; omega), List.take_set_of_le (Nat.le_refl _), List.getElem_set_self, List.append_assoc, List.singleton_append]
      rfl
    · rw [if_neg (by simp; omega), show z.length - k = 0 by omega]
      have : k = z.length := by omega
      subst this
      simp [iter, marks]
theorem mark_all {α : Type} (l : Nat → List α → Int → Int → Option (Int × List α)) (f : Int → α) (g : Int → Int) (x : List α) (m : Int) (hx : x.length < 2 ^ 62)
    (H : ∀ n z m k, l (n + 1) z m k = if (decide (k < ((z.length : Nat) : Int))) = true then need (inB k z.length) (l n (z.set k.toNat (f m)) (g m) (IntKind.wrap .i64 (k + 1))) else some (m, z)) :
    l (Int.toNat (((x.length : Nat) : Int) - 0) + 2) x m 0 = some (iter g x.length m, marks f g m x.length) := by
  have := mark_loop l f g H (Int.toNat (((x.length : Nat) : Int) - 0) + 2) x m 0 hx (Nat.zero_le _) (by omega)
  simpa using this
theorem held_all {α : Type} [Inhabited α] (l : Nat → Int → Int → Option (Bool × Int × Int)) (f : Int → α) (g : Int → Int) (e : α → Int → Bool) (x : List α) (m : Int) (len : Nat) (hx : x = marks f g m len) (hl : len < 2 ^ 62) (he : ∀ m, e (f m) m = true)
    (H : ∀ n m k, l (n + 1) m k = if (decide (k < ((x.length : Nat) : Int))) = true then need (inB k x.length) (if e (atI x k) m = true then l n (g m) (IntKind.wrap .i64 (k + 1)) else some (true, -1, default)) else some (false, default, m)) :
    l (Int.toNat (((x.length : Nat) : Int) - 0) + 2) m 0 = some (false, default, iter g len m) := by
  have hlen : x.length = len := by rw [hx, marks_len]
  have key : ∀ (n k : Nat), k ≤ len → len - k < n → l n (iter g k m) (k : Int) = some (false, default, iter g len m) := by
    intro n
    induction n with
    | zero => intro k _ h; omega
    | succ n ih =>
      intro k hk h
      rw [H, hlen]
      by_cases hlt : k < len
      · rw [if_pos (by simp; omega), inB_nat]
        unfold need
        rw [if_pos (by simpa using hlt), atI_nat, hx, marks_get f g len m k hlt, if_pos (he _), wrapS (by omega), iter_succ g, ih (k + 1) (by omega) (by omega)]
      · rw [if_neg (by simp; omega), show k = len by omega]
  have := key (Int.toNat (((x.length : Nat) : Int) - 0) + 2) 0 (Nat.zero_le _) (by omega)
  exact this
/-- a whole number made a float is itself -/
theorem feq_ofInt (n : Int) : feq .f32 (ofInt .f32 n) (ofInt .f32 n) = true := by
  rw [feq_self_iff]
  have h : isNaN .f32 (ofInt .f32 n) = false := by
    unfold isNaN ofInt
    show (FloatKind.f32.format.read (FloatKind.f32.nearest n)).isNaN = false
    rcases read_nearest .f32 (decide (n < 0)) n.natAbs 0 with ⟨m', e', h, _⟩ | h
    all_goals
      have h2 : FloatKind.f32.format.read (FloatKind.f32.nearest n) = _ := h
      rw [h2]; rfl
  rw [h]; rfl
end Go.Ab
namespace Go.Proofs
open Go.Ab
theorem sameFloat_refl (x : Nat) : m_laws_sameFloat x x = true := by
  unfold m_laws_sameFloat
  by_cases h : feq .f64 x x = true
  · simp [h]
  · simp [h]
end Go.Proofs
namespace Go.Proofs
open Go.Ab
theorem eq_Vector (a : Nat × Nat × Nat) : m_laws_eqVector a a = true := by unfold m_laws_eqVector; simp [sameFloat_refl]
end Go.Proofs
namespace Go.Proofs
open Go.Ab
abbrev K5 : Type := Int × Nat × Nat × Nat × Nat
abbrev B4 : Type := Int × Nat × Nat × Nat
abbrev ClipT : Type := Int × Int × List (List K5) × List B4
theorem eq_Turn (a : Nat × Nat × Nat × Nat) : m_laws_eqTurn a a = true := by unfold m_laws_eqTurn; simp [sameFloat_refl]
theorem eq_Key (a : K5) : m_laws_eqKey a a = true := by unfold m_laws_eqKey; simp [eq_Turn]
theorem eq_RootKey (a : B4) : m_laws_eqRootKey a a = true := by unfold m_laws_eqRootKey; simp [eq_Vector]
theorem eq_KeyS (x : List K5) (h : x.length ≤ 1048576) : m_laws_eqKeyS x x = true ∧ p_laws_eqKeyS x x = true := by
  unfold m_laws_eqKeyS p_laws_eqKeyS
  rw [show l_laws_eqKeyS_0 x x (Int.toNat (((List.length x : Nat) : Int) - 0) + 2) 0 = some (false, default, ()) from eq_loop _ x m_laws_eqKey eq_Key (by omega) fun _ _ => rfl]; simp
theorem eq_RootKeyS (x : List B4) (h : x.length ≤ 1048576) : m_laws_eqRootKeyS x x = true ∧ p_laws_eqRootKeyS x x = true := by
  unfold m_laws_eqRootKeyS p_laws_eqRootKeyS
  rw [show l_laws_eqRootKeyS_0 x x (Int.toNat (((List.length x : Nat) : Int) - 0) + 2) 0 = some (false, default, ()) from eq_loop _ x m_laws_eqRootKey eq_RootKey (by omega) fun _ _ => rfl]; simp
theorem to_KeyS (x : List K5) (h : x.length ≤ 1048576) : m_laws_toKeyS x = x ∧ p_laws_toKeyS x = true := by
  unfold m_laws_toKeyS p_laws_toKeyS
  rw [show l_laws_toKeyS_0 x (Int.toNat (((List.length x : Nat) : Int) - 0) + 2) (List.replicate (Int.toNat ((List.length x : Nat) : Int)) (0, 0, 0, 0, 0)) 0 = some x by
    rw [copy_all (l_laws_toKeyS_0 x) x m_laws_toKey _ (by omega) fun _ _ _ => rfl]
    congr 1
    exact List.map_id x]
  refine ⟨rfl, ?_⟩
  simp; omega
theorem to_RootKeyS (x : List B4) (h : x.length ≤ 1048576) : m_laws_toRootKeyS x = x ∧ p_laws_toRootKeyS x = true := by
  unfold m_laws_toRootKeyS p_laws_toRootKeyS
  rw [show l_laws_toRootKeyS_0 x (Int.toNat (((List.length x : Nat) : Int) - 0) + 2) (List.replicate (Int.toNat ((List.length x : Nat) : Int)) (0, 0, 0, 0)) 0 = some x by
    rw [copy_all (l_laws_toRootKeyS_0 x) x m_laws_toRootKey _ (by omega) fun _ _ _ => rfl]
    congr 1
    exact List.map_id x]
  refine ⟨rfl, ?_⟩
  simp; omega
/-- all lists of a list are short -/
def ShortS (x : List (List K5)) : Prop := x.length ≤ 1048576 ∧ ∀ k, k < x.length → (x.getD k default).length ≤ 1048576
theorem map_getD {α : Type} [Inhabited α] (x : List α) : (List.range' 0 x.length).map (fun k => x.getD k default) = x := by
  apply List.ext_getElem (by simp)
  intro i h1 h2
  simp [h2]
theorem to_KeySS (x : List (List K5)) (h : ShortS x) : m_laws_toKeySS x = x ∧ p_laws_toKeySS x = true := by
  obtain ⟨h1, h2⟩ := h
  unfold m_laws_toKeySS p_laws_toKeySS
  have := fill_loop (l_laws_toKeySS_0 x) x.length (fun k => x.getD k default) (by omega) (fun n z k hk hz => by
      show (if (decide ((k : Int) < ((List.length x : Nat) : Int))) = true then _ else _) = _
      rw [if_pos (by simp; omega), inB_nat, inB_nat, atI_nat, (to_KeyS _ (h2 k hk)).1, (to_KeyS _ (h2 k hk)).2, Int.toNat_natCast]
      unfold need
      rw [if_pos (by simp; omega), if_pos rfl, if_pos (by simp; omega)]) (fun n z k hk => by
      show (if (decide ((k : Int) < ((List.length x : Nat) : Int))) = true then _ else _) = _
      rw [if_neg (by simp; omega)]) (Int.toNat (((List.length x : Nat) : Int) - 0) + 2) (List.replicate (Int.toNat ((List.length x : Nat) : Int)) []) 0 (Nat.zero_le _) (by simp) (by omega)
  have this2 : l_laws_toKeySS_0 x (Int.toNat (((List.length x : Nat) : Int) - 0) + 2) (List.replicate (Int.toNat ((List.length x : Nat) : Int)) []) 0 = some x := by
    refine this.trans ?_
    simp only [List.take_zero, List.nil_append, Nat.sub_zero]
    rw [map_getD]
  rw [this2]
  refine ⟨rfl, ?_⟩
  simp; omega
theorem eq_KeySS (x : List (List K5)) (h : ShortS x) : m_laws_eqKeySS x x = true ∧ p_laws_eqKeySS x x = true := by
  obtain ⟨h1, h2⟩ := h
  unfold m_laws_eqKeySS p_laws_eqKeySS
  have := all_loop (l_laws_eqKeySS_0 x x) x.length (fun _ => true) (by omega) (fun n k hk => by
      show (if (decide ((k : Int) < ((List.length x : Nat) : Int))) = true then _ else _) = _
      rw [if_pos (by simp; omega), inB_nat, atI_nat, (eq_KeyS _ (h2 k hk)).1, (eq_KeyS _ (h2 k hk)).2]
      unfold need
      rw [if_pos (by simp; omega), if_pos (by simp; omega), if_pos rfl]) (fun n k hk => by
      show (if (decide ((k : Int) < ((List.length x : Nat) : Int))) = true then _ else _) = _
      rw [if_neg (by simp; omega)]) (Int.toNat (((List.length x : Nat) : Int) - 0) + 2) 0 (Nat.zero_le _) (by omega)
  rw [show ((0 : Nat) : Int) = 0 from rfl, all_range_true (fun _ _ _ => rfl), if_pos rfl] at this
  rw [this]; simp
theorem sz_KeyS (x : List K5) (n : Int) (hx : x.length ≤ maxLen) (h0 : 0 ≤ n) (hn : n ≤ 1048576) : (m_laws_szKeyS x n < 0) ∨ (m_laws_szKeyS x n = n - x.length ∧ (x.length : Int) ≤ n) := by
  unfold m_laws_szKeyS
  have hx' : x.length ≤ 9223372036854775807 := by unfold maxLen at hx; omega
  rw [wrapI (by omega) (by omega)]
  by_cases h : n - ((List.length x : Nat) : Int) < 0
  · left; simp [h]
  · right; rw [if_neg (by simpa using h)]; exact ⟨rfl, by omega⟩
theorem sz_RootKeyS (x : List B4) (n : Int) (hx : x.length ≤ maxLen) (h0 : 0 ≤ n) (hn : n ≤ 1048576) (hs : ¬ (m_laws_szRootKeyS x n < 0)) : x.length ≤ 1048576 ∧ 0 ≤ m_laws_szRootKeyS x n ∧ m_laws_szRootKeyS x n ≤ 1048576 := by
  unfold m_laws_szRootKeyS at hs ⊢
  have hx' : x.length ≤ 9223372036854775807 := by unfold maxLen at hx; omega
  rw [wrapI (by omega) (by omega)] at hs ⊢
  by_cases h : n - ((List.length x : Nat) : Int) < 0
  · simp [h] at hs
  · rw [if_neg (by simpa using h)]; omega
theorem sz_loop (x : List (List K5)) (hl : x.length ≤ 1048576) (hx : ∀ k, k < x.length → (x.getD k default).length ≤ maxLen) : ∀ (n : Nat) (left : Int) (k : Nat), 0 ≤ left → left ≤ 1048576 → k ≤ x.length → x.length - k < n →
    l_laws_szKeySS_0 x n left (k : Int) = some (true, -1, default) ∨ ∃ r, l_laws_szKeySS_0 x n left (k : Int) = some (false, default, r) ∧ 0 ≤ r ∧ r ≤ 1048576 ∧ ∀ i, k ≤ i → i < x.length → (x.getD i default).length ≤ 1048576
  | 0, left, k, _, _, _, h => by omega
  | n + 1, left, k, h0, h1, hk, h => by
    have e : l_laws_szKeySS_0 x (n + 1) left (k : Int) = (if (decide ((k : Int) < ((List.length x : Nat) : Int))) = true then (need (inB (k : Int) (List.length x)) (if (decide ((m_laws_szKeyS (atI x (k : Int)) left) < 0)) = true then (some (true, (-1), default)) else (l_laws_szKeySS_0 x n (m_laws_szKeyS (atI x (k : Int)) left) (IntKind.wrap .i64 ((k : Int) + 1))))) else (some (false, default, left))) := rfl
    rw [e]
    by_cases hlt : k < x.length
    · rw [if_pos (by simp; omega), inB_nat]
      unfold need
      rw [if_pos (by simp; omega), atI_nat, wrapS (by omega)]
      rcases sz_KeyS (x.getD k default) left (hx k hlt) h0 h1 with hs | ⟨hs, hs2⟩
      · left; rw [if_pos (by simpa using hs)]
      · rw [if_neg (by rw [hs]; simp only [decide_eq_true_eq]; omega), hs]
        rcases sz_loop x hl hx n (left - ((x.getD k default).length : Nat)) (k + 1) (by omega) (by omega) (by omega) (by omega) with h | ⟨r, g1, g2, g3, g4⟩
        · left; exact h
        · right
          refine ⟨r, g1, g2, g3, fun i hi1 hi2 => ?_⟩
          by_cases hik : i = k
          · subst hik; omega
          · exact g4 i (by omega) hi2
    · right
      rw [if_neg (by simp; omega)]
      exact ⟨left, rfl, h0, h1, fun i hi1 hi2 => by omega⟩
theorem sz_KeySS (x : List (List K5)) (n : Int) (hl : x.length ≤ maxLen) (hx : ∀ k, k < x.length → (x.getD k default).length ≤ maxLen) (h0 : 0 ≤ n) (hn : n ≤ 1048576) :
    p_laws_szKeySS x n = true ∧ (¬ (m_laws_szKeySS x n < 0) → ShortS x ∧ 0 ≤ m_laws_szKeySS x n ∧ m_laws_szKeySS x n ≤ 1048576) := by
  unfold p_laws_szKeySS m_laws_szKeySS
  have hx' : x.length ≤ 9223372036854775807 := by unfold maxLen at hl; omega
  rw [wrapI (by omega) (by omega)]
  by_cases h : n - ((List.length x : Nat) : Int) < 0
  · simp [h]
  · have hl' : x.length ≤ 1048576 := by omega
    rcases sz_loop x hl' hx (Int.toNat (((List.length x : Nat) : Int) - 0) + 2) (n - ((List.length x : Nat) : Int)) 0 (by omega) (by omega) (Nat.zero_le _) (by omega) with e | ⟨r, e, g2, g3, g4⟩
    · rw [show ((0 : Nat) : Int) = 0 from rfl] at e
      rw [e]; simp [h]
    · rw [show ((0 : Nat) : Int) = 0 from rfl] at e
      rw [e]
      refine ⟨by simp, fun _ => ⟨⟨hl', fun k hk => g4 k (Nat.zero_le _) hk⟩, ?_⟩⟩
      simp [h]; omega
def ShortC (c : ClipT) : Prop := ShortS c.2.2.1 ∧ c.2.2.2.length ≤ 1048576
def HasC' (c : ClipT) : Prop := c.2.2.1.length ≤ maxLen ∧ (∀ k, k < c.2.2.1.length → (c.2.2.1.getD k default).length ≤ maxLen) ∧ c.2.2.2.length ≤ maxLen
theorem sz_Clip (c : ClipT) (n : Int) (hc : HasC' c) (h0 : 0 ≤ n) (hn : n ≤ 1048576) : p_laws_szClip c n = true ∧ (¬ (m_laws_szClip c n < 0) → ShortC c ∧ 0 ≤ m_laws_szClip c n ∧ m_laws_szClip c n ≤ 1048576) := by
  obtain ⟨a1, a2⟩ := sz_KeySS c.2.2.1 n hc.1 hc.2.1 h0 hn
  unfold p_laws_szClip m_laws_szClip
  refine ⟨a1, fun h => ?_⟩
  by_cases h1 : m_laws_szKeySS c.2.2.1 n < 0
  · simp [h1] at h
  · obtain ⟨b1, b2, b3⟩ := a2 h1
    by_cases h2 : m_laws_szRootKeyS c.2.2.2 (m_laws_szKeySS c.2.2.1 n) < 0
    · simp [h1, h2] at h
    · obtain ⟨d1, d2, d3⟩ := sz_RootKeyS c.2.2.2 _ hc.2.2 b2 b3 h2
      refine ⟨⟨b1, d1⟩, ?_⟩
      simp [h1, h2]; omega
theorem to_Clip (c : ClipT) (h : ShortC c) : m_laws_toClip c = c ∧ p_laws_toClip c = true := by
  unfold m_laws_toClip p_laws_toClip
  rw [(to_KeySS _ h.1).1, (to_KeySS _ h.1).2, (to_RootKeyS _ h.2).1, (to_RootKeyS _ h.2).2]
  exact ⟨rfl, rfl⟩
theorem eq_Clip (c : ClipT) (h : ShortC c) : m_laws_eqClip c c = true ∧ p_laws_eqClip c c = true := by
  unfold m_laws_eqClip p_laws_eqClip
  rw [(eq_KeySS _ h.1).1, (eq_KeySS _ h.1).2, (eq_RootKeyS _ h.2).1, (eq_RootKeyS _ h.2).2]
  simp
theorem has_of {x : List (List K5)} (h : ∀ q ∈ x, List.length q ≤ maxLen ∧ (∀ qq ∈ q, (Lit.int .i64 qq.1).wf = true ∧ Canon .f32 qq.2.1 ∧ Canon .f32 qq.2.2.1 ∧ Canon .f32 qq.2.2.2.1 ∧ Canon .f32 qq.2.2.2.2)) : ∀ k, k < x.length → (x.getD k default).length ≤ maxLen := by
  intro k hk
  rw [← atI_nat, atI_lt x hk]
  exact (h _ (List.getElem_mem hk)).1
end Go.Proofs
namespace Go.Proofs
open Go.Ab
theorem l00In_iff (a b c : Int) : m_spec_l00In a b c = (decide (b ≤ a) && decide (a ≤ c)) := by
  unfold m_spec_l00In; cases decide (b ≤ a) <;> simp
def lastOf (t : Nat → Int) (k : Nat) : Int := if k = 0 then -1 else t (k - 1)
def cI (t : Nat → Int) (L : Int) (k : Nat) : Bool := !(decide (t k ≤ lastOf t k)) && !(decide (L < t k))
def cS (t : Nat → Int) (L : Int) (k : Nat) : Bool := (decide (0 ≤ t k) && decide (t k ≤ L)) && (decide (k = 0) || !(decide (t k ≤ t (k - 1))))
theorem all_snoc (c : Nat → Bool) (m : Nat) : (List.range' 0 (m + 1)).all c = ((List.range' 0 m).all c && c m) := by
  rw [List.range'_concat]; simp
theorem all_cIS (t : Nat → Int) (L : Int) : ∀ m, (List.range' 0 m).all (cI t L) = (List.range' 0 m).all (cS t L)
  | 0 => rfl
  | m + 1 => by
    rw [all_snoc, all_snoc, all_cIS t L m]
    cases hq : (List.range' 0 m).all (cS t L) with
    | false => rfl
    | true =>
      rw [Bool.true_and, Bool.true_and]
      unfold cI cS lastOf
      by_cases h0 : m = 0
      · subst h0
        by_cases h1 : t 0 ≤ -1
        · have : ¬ 0 ≤ t 0 := by omega
          simp [h1, this]
        · have h2 : 0 ≤ t 0 := by omega
          by_cases h3 : L < t 0
          · have : ¬ t 0 ≤ L := by omega
            simp [h1, h2, h3, this]
          · have : t 0 ≤ L := by omega
            simp [h1, h2, h3, this]
      · have hp : cS t L (m - 1) = true := List.all_eq_true.1 hq (m - 1) (by rw [List.mem_range']; exact ⟨m - 1, by omega, by omega⟩)
        unfold cS at hp
        simp only [Bool.and_eq_true, decide_eq_true_eq] at hp
        have hp0 := hp.1.1
        by_cases h1 : t m ≤ t (m - 1)
        · simp [h0, h1]
        · have h2 : 0 ≤ t m := by omega
          by_cases h3 : L < t m
          · have : ¬ t m ≤ L := by omega
            simp [h0, h1, h2, h3, this]
          · have : t m ≤ L := by omega
            simp [h0, h1, h2, h3, this]
theorem impl_valid (l : Nat → Int → Int → Option (Bool × Bool × Unit)) (t : Nat → Int) (len : Nat) (L : Int) (hlen : len < 2 ^ 62)
    (H : ∀ (n : Nat) (last : Int) (k : Nat), k < len → l (n + 1) last (k : Int) = if (decide (t k ≤ last)) = true then some (true, false, default) else if (decide (L < t k)) = true then some (true, false, default) else l n (t k) (IntKind.wrap .i64 ((k : Int) + 1)))
    (H' : ∀ (n : Nat) (last : Int) (k : Nat), ¬ k < len → l (n + 1) last (k : Int) = some (false, default, ())) :
    ∀ (n k : Nat), k ≤ len → len - k < n → l n (lastOf t k) (k : Int) = some (if (List.range' k (len - k)).all (cI t L) = true then (false, default, ()) else (true, false, default))
  | 0, k, _, h => by omega
  | n + 1, k, hk, h => by
    by_cases hlt : k < len
    · rw [H n _ k hlt, show len - k = (len - (k + 1)) + 1 by omega, List.range'_succ, List.all_cons, wrapS (by omega)]
      have ih := impl_valid l t len L hlen H H' n (k + 1) (by omega) (by omega)
      have e : lastOf t (k + 1) = t k := by unfold lastOf; simp
      rw [e] at ih
      rw [ih]
      have ec : cI t L k = (!(decide (t k ≤ lastOf t k)) && !(decide (L < t k))) := rfl
      rw [ec]
      cases decide (t k ≤ lastOf t k) <;> cases decide (L < t k) <;> first | rfl | simp
    · rw [H' n _ k hlt, show len - k = 0 by omega]
      rfl
theorem atI_times (t : Nat → Int) {len k : Nat} (h : k < len) : atI ((List.range' 0 len).map t) (k : Int) = t k := by
  rw [atI_nat, List.getD_eq_getElem?_getD]
  simp [h]
theorem spec_times (t : Nat → Int) (len : Nat) (L : Int) (hlen : len ≤ 1048576) : l_spec_l05Times_0 ((List.range' 0 len).map t) L (Int.toNat (((List.length ((List.range' 0 len).map t) : Nat) : Int) - 0) + 2) 0 = some (if (List.range' 0 len).all (cS t L) = true then (false, default, ()) else (true, false, default)) := by
  have hL : ((List.range' 0 len).map t).length = len := by simp
  have := all_loop (l_spec_l05Times_0 ((List.range' 0 len).map t) L) len (cS t L) (by omega) (fun n k hk => by
      show (if (decide ((k : Int) < ((List.length ((List.range' 0 len).map t) : Nat) : Int))) = true then _ else _) = _
      rw [if_pos (by rw [hL]; simp; omega), inB_nat, hL, atI_times t hk]
      unfold need
      rw [if_pos (by simp; omega), l00In_iff]
      have ec : cS t L k = ((decide (0 ≤ t k) && decide (t k ≤ L)) && (decide (k = 0) || !(decide (t k ≤ t (k - 1))))) := rfl
      rw [ec]
      by_cases h0 : k = 0
      · subst h0
        cases decide (0 ≤ t 0) && decide (t 0 ≤ L) <;> simp
      · have ew : IntKind.wrap .i64 ((k : Int) - 1) = ((k - 1 : Nat) : Int) := by rw [wrapI (by omega) (by omega)]; omega
        rw [ew, inB_nat, atI_times t (show k - 1 < len by omega)]
        have e1 : decide (k - 1 < len) = true := by simp; omega
        have e2 : decide ((0 : Int) < (k : Int)) = true := by simp; omega
        rw [e1, e2]
        cases decide (0 ≤ t k) && decide (t k ≤ L) <;> cases decide (t k ≤ t (k - 1)) <;> simp [h0]) (fun n k hk => by
      show (if (decide ((k : Int) < ((List.length ((List.range' 0 len).map t) : Nat) : Int))) = true then _ else _) = _
      rw [if_neg (by rw [hL]; simp; omega)]) (Int.toNat (((List.length ((List.range' 0 len).map t) : Nat) : Int) - 0) + 2) 0 (Nat.zero_le _) (by omega)
  exact this
def tK (x : List K5) (k : Nat) : Int := (x.getD k default).1
def tR (x : List B4) (k : Nat) : Int := (x.getD k default).1
theorem at_eq (x : List K5) (h : x.length ≤ 1048576) : m_spec_l05At x = (List.range' 0 x.length).map (tK x) ∧ p_spec_l05At x = true := by
  have := app_loop (l_spec_l05At_0 x) x.length (tK x) (by omega) (fun k j => k = j) (fun n z k hk hj => by
      show (if (decide ((k : Int) < ((List.length x : Nat) : Int))) = true then _ else _) = _
      rw [if_pos (by simp; omega), inB_nat, atI_nat]
      unfold need
      rw [if_pos (by simp; omega), if_pos (by simp; omega), if_pos (by simp; omega)]
      rfl) (fun n z k hk => by
      show (if (decide ((k : Int) < ((List.length x : Nat) : Int))) = true then _ else _) = _
      rw [if_neg (by simp; omega)]) (fun k j _ h => by omega) (Int.toNat (((List.length x : Nat) : Int) - 0) + 2) [] 0 (Nat.zero_le _) (by simp) (by omega)
  have e : l_spec_l05At_0 x (Int.toNat (((List.length x : Nat) : Int) - 0) + 2) [] 0 = some ((List.range' 0 x.length).map (tK x)) := this
  unfold m_spec_l05At p_spec_l05At
  rw [e]; exact ⟨rfl, rfl⟩
theorem rootAt_eq (x : List B4) (h : x.length ≤ 1048576) : m_spec_l05RootAt x = (List.range' 0 x.length).map (tR x) ∧ p_spec_l05RootAt x = true := by
  have := app_loop (l_spec_l05RootAt_0 x) x.length (tR x) (by omega) (fun k j => k = j) (fun n z k hk hj => by
      show (if (decide ((k : Int) < ((List.length x : Nat) : Int))) = true then _ else _) = _
      rw [if_pos (by simp; omega), inB_nat, atI_nat]
      unfold need
      rw [if_pos (by simp; omega), if_pos (by simp; omega), if_pos (by simp; omega)]
      rfl) (fun n z k hk => by
      show (if (decide ((k : Int) < ((List.length x : Nat) : Int))) = true then _ else _) = _
      rw [if_neg (by simp; omega)]) (fun k j _ h => by omega) (Int.toNat (((List.length x : Nat) : Int) - 0) + 2) [] 0 (Nat.zero_le _) (by simp) (by omega)
  have e : l_spec_l05RootAt_0 x (Int.toNat (((List.length x : Nat) : Int) - 0) + 2) [] 0 = some ((List.range' 0 x.length).map (tR x)) := this
  unfold m_spec_l05RootAt p_spec_l05RootAt
  rw [e]; exact ⟨rfl, rfl⟩
/-- what a track has to be -/
def okT (t : Nat → Int) (len : Nat) (L : Int) : Bool := (List.range' 0 len).all (cS t L) && (decide (1 ≤ (len : Int)) && decide ((len : Int) ≤ 12))
theorem times_ok (t : Nat → Int) (len : Nat) (L : Int) (hlen : len ≤ 1048576) : m_spec_l05Times ((List.range' 0 len).map t) L = okT t len L ∧ p_spec_l05Times ((List.range' 0 len).map t) L = true := by
  unfold m_spec_l05Times p_spec_l05Times okT
  rw [spec_times t len L hlen]
  cases (List.range' 0 len).all (cS t L) with
  | false => simp
  | true =>
    simp only [if_true, Option.getD_some, Option.isSome_some, Bool.false_eq_true, if_false, Bool.true_and, List.length_map, List.length_range', and_true]
    by_cases h : (1 : Int) ≤ (len : Int)
    · simp [h]
    · simp [h]
theorem key_ok (x : List K5) (L : Int) (h : x.length ≤ 1048576) : m_impl_Key_valid ((), (), ()) x L = okT (tK x) x.length L ∧ p_impl_Key_valid ((), (), ()) x L = true := by
  have := impl_valid (l_impl_Key_valid_0 x L) (tK x) x.length L (by omega) (fun n last k hk => by
      show (if (decide ((k : Int) < ((List.length x : Nat) : Int))) = true then _ else _) = _
      rw [if_pos (by simp; omega), inB_nat, atI_nat]
      unfold need
      rw [if_pos (by simp; omega)]
      rfl) (fun n last k hk => by
      show (if (decide ((k : Int) < ((List.length x : Nat) : Int))) = true then _ else _) = _
      rw [if_neg (by simp; omega)]) (Int.toNat (((List.length x : Nat) : Int) - 0) + 2) 0 (Nat.zero_le _) (by omega)
  have e : l_impl_Key_valid_0 x L (Int.toNat (((List.length x : Nat) : Int) - 0) + 2) (-1) 0 = some (if (List.range' 0 x.length).all (cI (tK x) L) = true then (false, default, ()) else (true, false, default)) := this
  unfold m_impl_Key_valid p_impl_Key_valid okT
  rw [e, all_cIS]
  cases (List.range' 0 x.length).all (cS (tK x) L) with
  | false => simp
  | true =>
    simp only [if_true, Option.getD_some, Option.isSome_some, Bool.false_eq_true, if_false, Bool.true_and, and_true]
    by_cases h : (1 : Int) ≤ ((List.length x : Nat) : Int)
    · simp [h]
    · simp [h]
theorem root_ok (x : List B4) (L : Int) (h : x.length ≤ 1048576) : m_impl_RootKey_valid ((), (), ()) x L = okT (tR x) x.length L ∧ p_impl_RootKey_valid ((), (), ()) x L = true := by
  have := impl_valid (l_impl_RootKey_valid_0 x L) (tR x) x.length L (by omega) (fun n last k hk => by
      show (if (decide ((k : Int) < ((List.length x : Nat) : Int))) = true then _ else _) = _
      rw [if_pos (by simp; omega), inB_nat, atI_nat]
      unfold need
      rw [if_pos (by simp; omega)]
      rfl) (fun n last k hk => by
      show (if (decide ((k : Int) < ((List.length x : Nat) : Int))) = true then _ else _) = _
      rw [if_neg (by simp; omega)]) (Int.toNat (((List.length x : Nat) : Int) - 0) + 2) 0 (Nat.zero_le _) (by omega)
  have e : l_impl_RootKey_valid_0 x L (Int.toNat (((List.length x : Nat) : Int) - 0) + 2) (-1) 0 = some (if (List.range' 0 x.length).all (cI (tR x) L) = true then (false, default, ()) else (true, false, default)) := this
  unfold m_impl_RootKey_valid p_impl_RootKey_valid okT
  rw [e, all_cIS]
  cases (List.range' 0 x.length).all (cS (tR x) L) with
  | false => simp
  | true =>
    simp only [if_true, Option.getD_some, Option.isSome_some, Bool.false_eq_true, if_false, Bool.true_and, and_true]
    by_cases h : (1 : Int) ≤ ((List.length x : Nat) : Int)
    · simp [h]
    · simp [h]
def okTracks (c : ClipT) : Bool := (List.range' 0 c.2.2.1.length).all fun k => okT (tK (c.2.2.1.getD k default)) (c.2.2.1.getD k default).length c.1
def okClip (c : ClipT) : Bool := (decide (1 ≤ c.1) && decide (c.1 ≤ 1000)) && ((decide (0 ≤ c.2.1) && decide (c.2.1 ≤ 2)) && ((decide (1 ≤ ((List.length c.2.2.1 : Nat) : Int)) && decide (((List.length c.2.2.1 : Nat) : Int) ≤ 12)) && (okTracks c && okT (tR c.2.2.2) c.2.2.2.length c.1)))
theorem spec_tracks (c : ClipT) (h : ShortC c) : l_spec_l05Is_0 c (Int.toNat (((List.length c.2.2.1 : Nat) : Int) - 0) + 2) 0 = some (if okTracks c = true then (false, default, ()) else (true, false, default)) := by
  have h1 := h.1.1
  have := all_loop (l_spec_l05Is_0 c) c.2.2.1.length (fun k => okT (tK (c.2.2.1.getD k default)) (c.2.2.1.getD k default).length c.1) (by omega) (fun n k hk => by
      show (if (decide ((k : Int) < ((List.length c.2.2.1 : Nat) : Int))) = true then _ else _) = _
      have hs := h.1.2 k hk
      rw [if_pos (by simp; omega), inB_nat, atI_nat, (at_eq _ hs).1, (at_eq _ hs).2, (times_ok _ _ _ hs).1, (times_ok _ _ _ hs).2]
      unfold need
      rw [if_pos (by simp; omega), if_pos rfl, if_pos rfl]) (fun n k hk => by
      show (if (decide ((k : Int) < ((List.length c.2.2.1 : Nat) : Int))) = true then _ else _) = _
      rw [if_neg (by simp; omega)]) (Int.toNat (((List.length c.2.2.1 : Nat) : Int) - 0) + 2) 0 (Nat.zero_le _) (by omega)
  exact this
theorem impl_tracks (c : ClipT) (h : ShortC c) : l_impl_ValidClip_0 c (Int.toNat (((List.length c.2.2.1 : Nat) : Int) - 0) + 2) 0 = some (if okTracks c = true then (false, default, ()) else (true, false, default)) := by
  have h1 := h.1.1
  have := all_loop (l_impl_ValidClip_0 c) c.2.2.1.length (fun k => okT (tK (c.2.2.1.getD k default)) (c.2.2.1.getD k default).length c.1) (by omega) (fun n k hk => by
      show (if (decide ((k : Int) < ((List.length c.2.2.1 : Nat) : Int))) = true then _ else _) = _
      have hs := h.1.2 k hk
      rw [if_pos (by simp; omega), inB_nat, atI_nat, (key_ok _ _ hs).1, (key_ok _ _ hs).2]
      unfold need
      rw [if_pos (by simp; omega), if_pos rfl]) (fun n k hk => by
      show (if (decide ((k : Int) < ((List.length c.2.2.1 : Nat) : Int))) = true then _ else _) = _
      rw [if_neg (by simp; omega)]) (Int.toNat (((List.length c.2.2.1 : Nat) : Int) - 0) + 2) 0 (Nat.zero_le _) (by omega)
  exact this
theorem core_ValidClip (c : ClipT) (h : ShortC c) : p_impl_ValidClip c = true ∧ p_spec_l05Is c = true ∧ m_impl_ValidClip c = okClip c ∧ m_spec_l05Is c = okClip c := by
  unfold p_impl_ValidClip p_spec_l05Is m_impl_ValidClip m_spec_l05Is okClip
  rw [spec_tracks c h, impl_tracks c h, l00In_iff, l00In_iff, (root_ok _ _ h.2).1, (root_ok _ _ h.2).2, (rootAt_eq _ h.2).1, (rootAt_eq _ h.2).2, (times_ok _ _ _ h.2).1, (times_ok _ _ _ h.2).2]
  have f : ∀ a b : Int, decide (a < b) = !(decide (b ≤ a)) := by
    intro a b
    by_cases hh : a < b
    · have : ¬ b ≤ a := by omega
      simp [hh, this]
    · have : b ≤ a := by omega
      simp [hh, this]
  rw [f c.1 1, f 1000 c.1, f c.2.1 0, f 2 c.2.1, f _ 1, f 12 _]
  cases decide (1 ≤ c.1) <;> cases decide (c.1 ≤ 1000) <;> cases decide (0 ≤ c.2.1) <;> cases decide (c.2.1 ≤ 2) <;> cases decide (1 ≤ ((List.length c.2.2.1 : Nat) : Int)) <;> cases decide (((List.length c.2.2.1 : Nat) : Int) ≤ 12) <;> cases okTracks c <;> simp
end Go.Proofs
namespace Go.Proofs
open Go.Ab
theorem law_ValidClip (a b : Int) (x : List (List K5)) (y : List B4) (_ : (Lit.int .i64 a).wf = true) (_ : (Lit.int .i64 b).wf = true) (hx : x.length ≤ maxLen)
    (hq : ∀ q ∈ x, List.length q ≤ maxLen ∧ (∀ qq ∈ q, (Lit.int .i64 qq.1).wf = true ∧ Canon .f32 qq.2.1 ∧ Canon .f32 qq.2.2.1 ∧ Canon .f32 qq.2.2.2.1 ∧ Canon .f32 qq.2.2.2.2)) (hy : y.length ≤ maxLen)
    (_ : ∀ q ∈ y, (Lit.int .i64 q.1).wf = true ∧ Canon .f32 q.2.1 ∧ Canon .f32 q.2.2.1 ∧ Canon .f32 q.2.2.2) :
    g_laws_FnExactValidClip [.agg [.int .i64 a, .int .i64 b, .sl (List.map en1 x), .sl (List.map en2 y)]] = some (.bool true) := by
  have key : p_laws_FnExactValidClip (a, b, x, y) = true ∧ m_laws_FnExactValidClip (a, b, x, y) = true := by
    unfold p_laws_FnExactValidClip m_laws_FnExactValidClip p_spec_ValidClip m_spec_ValidClip
    have hc : HasC' (a, b, x, y) := ⟨hx, has_of hq, hy⟩
    obtain ⟨s1, s2⟩ := sz_Clip (a, b, x, y) 1048576 hc (by omega) (by omega)
    by_cases hs : m_laws_szClip (a, b, x, y) 1048576 < 0
    · simp [hs, s1]
    · obtain ⟨k1, k2, k3⟩ := s2 hs
      obtain ⟨c1, c2, c3, c4⟩ := core_ValidClip (a, b, x, y) k1
      simp [hs, s1, to_Clip _ k1, c1, c2, c3, c4, eq_Clip _ k1]
  unfold g_laws_FnExactValidClip
  simp only [dc_en1_map, dc_en2_map, key.1, key.2, if_true]
end Go.Proofs
