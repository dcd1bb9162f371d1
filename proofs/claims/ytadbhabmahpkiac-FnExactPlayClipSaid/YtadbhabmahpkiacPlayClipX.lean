/- What functions that FnExactPlayClip reaches compute, and that the program's and the reference's answers are the same. No conditions. -/
import Derived.Test.YtadbhabmahpkiacPlayClipY1
set_option maxRecDepth 100000
set_option maxHeartbeats 4000000
set_option linter.all false
namespace Go.Proofs
open Go.Ab
end Go.Proofs
namespace Go.Ab
open Ieee
theorem feq_self_iff {x : Nat} : feq .f32 x x = !(isNaN .f32 x) := by
 cases h : FloatKind.f32.decode x with
 | number s m e =>
  have hn : isNaN .f32 x = false := by unfold isNaN; show (FloatKind.f32.decode x).isNaN = false; rw [h]; rfl
  have o := order_ex (ex32 h) (ex32 h)
  unfold feq ford Format.order
  rw [o,hn,Int.compare_eq_eq.2 rfl]; rfl
 | infinity s =>
  have hn : isNaN .f32 x = false := by unfold isNaN; show (FloatKind.f32.decode x).isNaN = false; rw [h]; rfl
  have h' : FloatKind.f32.format.read x = .infinity s := h
  unfold feq ford Format.order
  rw [h',hn]; cases s <;> rfl
 | nan s t =>
  have hn : isNaN .f32 x = true := by unfold isNaN; show (FloatKind.f32.decode x).isNaN = true; rw [h]; rfl
  have h' : FloatKind.f32.format.read x = .nan s t := h
  unfold feq ford Format.order
  rw [h',hn]; rfl
end Go.Ab
namespace Go.Ab
/-- a list of known length is filled,an element a round -/
theorem fill_loop {β : Type} (l : Nat → List β → Int → Option (List β)) (len : Nat) (F : Nat → β) (hlen : len < 2 ^ 62)
  (H : ∀ (n : Nat) (z : List β) (k : Nat),k < len → z.length = len → l (n + 1) z (k : Int) = l n (z.set k (F k)) (IntKind.wrap .i64 ((k : Int) + 1)))
  (H' : ∀ (n : Nat) (z : List β) (k : Nat),¬ k < len → l (n + 1) z (k : Int) = some z) :
  ∀ (n : Nat) (z : List β) (k : Nat),k ≤ len → z.length = len → len - k < n → l n z (k : Int) = some (z.take k ++ (List.range' k (len - k)).map F)
 | 0,z,k,_,_,h => by omega
 | n + 1,z,k,hk,hz,h => by
  by_cases hlt : k < len
  ·rw [H n z k hlt hz,wrapS (by omega),fill_loop l len F hlen H H' n _ (k + 1) (by omega) (by rw [List.length_set]; exact hz) (by omega),show len - k = (len - (k + 1)) + 1 by omega,List.range'_succ,List.map_cons]
   congr 1
   rw [List.take_succ_eq_append_getElem (by rw [List.length_set]; omega),List.take_set_of_le (Nat.le_refl _),List.getElem_set_self,List.append_assoc,List.singleton_append]
  ·rw [H' n z k hlt,show len - k = 0 by omega]
   have : k = z.length := by omega
   subst this
   simp
/-- elements are put at the end,one a round -/
theorem app_loop {β : Type} (l : Nat → List β → Int → Option (List β)) (len : Nat) (F : Nat → β) (hlen : len < 2 ^ 62) (P : Nat → Nat → Prop)
  (H : ∀ (n : Nat) (z : List β) (k : Nat),k < len → P k z.length → l (n + 1) z (k : Int) = l n (z ++ [F k]) (IntKind.wrap .i64 ((k : Int) + 1)))
  (H' : ∀ (n : Nat) (z : List β) (k : Nat),¬ k < len → l (n + 1) z (k : Int) = some z) (hP : ∀ k j,k < len → P k j → P (k + 1) (j + 1)) :
  ∀ (n : Nat) (z : List β) (k : Nat),k ≤ len → P k z.length → len - k < n → l n z (k : Int) = some (z ++ (List.range' k (len - k)).map F)
 | 0,z,k,_,_,h => by omega
 | n + 1,z,k,hk,hp,h => by
  by_cases hlt : k < len
  ·rw [H n z k hlt hp,wrapS (by omega),app_loop l len F hlen P H H' hP n _ (k + 1) (by omega) (by rw [List.length_append]; exact hP _ _ hlt hp) (by omega),show len - k = (len - (k + 1)) + 1 by omega,List.range'_succ,List.map_cons]
   simp
  ·rw [H' n z k hlt,show len - k = 0 by omega]
   simp
theorem map_range_shift {β : Type} {F G : Nat → β} {k j m : Nat} (h : ∀ i,i < m → F (k + i) = G (j + i)) : (List.range' k m).map F = (List.range' j m).map G := by
 induction m generalizing k j with
 | zero => rfl
 | succ m ih =>
  have h0 := h 0 (by omega)
  rw [Nat.add_zero,Nat.add_zero] at h0
  rw [List.range'_succ,List.range'_succ,List.map_cons,List.map_cons,h0,ih fun i hi => by
   have := h (i + 1) (by omega)
   rw [show k + (i + 1) = k + 1 + i by omega,show j + (i + 1) = j + 1 + i by omega] at this
   exact this]
/-- marks -/
def marks {α : Type} (f : Int → α) (g : Int → Int) : Int → Nat → List α
 | _,0 => []
 | m,n + 1 => f m :: marks f g (g m) n
def iter (g : Int → Int) : Nat → Int → Int
 | 0,m => m
 | n + 1,m => iter g n (g m)
theorem marks_len {α : Type} (f : Int → α) (g : Int → Int) : ∀ (n : Nat) (m : Int),(marks f g m n).length = n
 | 0,_ => rfl
 | n + 1,m => by rw [marks,List.length_cons,marks_len f g n]
theorem marks_get {α : Type} [Inhabited α] (f : Int → α) (g : Int → Int) : ∀ (n : Nat) (m : Int) (i : Nat),i < n → (marks f g m n).getD i default = f (iter g i m)
 | 0,_,_,h => by omega
 | n + 1,m,0,_ => rfl
 | n + 1,m,i + 1,h => by
  rw [marks,List.getD_cons_succ,marks_get f g n (g m) i (by omega)]; rfl
theorem iter_succ (g : Int → Int) : ∀ (i : Nat) (m : Int),g (iter g i m) = iter g (i + 1) m
 | 0,_ => rfl
 | i + 1,m => by rw [iter,iter_succ g i (g m)]; rfl
theorem iter_add {g : Int → Int} {c : Nat} (hg : ∀ m : Int,0 ≤ m → m ≤ 2 ^ 60 → g m = m + c) : ∀ (n : Nat) (m : Int),0 ≤ m → m + ((c * n : Nat) : Int) ≤ 2 ^ 60 → iter g n m = m + ((c * n : Nat) : Int)
 | 0,m,_,_ => by simp [iter]
 | n + 1,m,h0,h => by
  rw [Nat.mul_succ] at h ⊢
  rw [iter,hg m h0 (by omega),iter_add hg n _ (by omega) (by omega)]
  omega
theorem mark_loop {α : Type} (l : Nat → List α → Int → Int → Option (Int × List α)) (f : Int → α) (g : Int → Int)
  (H : ∀ n z m k,l (n + 1) z m k = if (decide (k < ((z.length : Nat) : Int))) = true then need (inB k z.length) (l n (z.set k.toNat (f m)) (g m) (IntKind.wrap .i64 (k + 1))) else some (m,z)) :
  ∀ (n : Nat) (z : List α) (m : Int) (k : Nat),z.length < 2 ^ 62 → k ≤ z.length → z.length - k < n → l n z m (k : Int) = some (iter g (z.length - k) m,z.take k ++ marks f g m (z.length - k))
 | 0,z,m,k,_,_,h => by omega
 | n + 1,z,m,k,hz,hk,h => by
  rw [H]
  by_cases hlt : k < z.length
  ·rw [if_pos (by simp; omega),inB_nat]
   unfold need
   rw [if_pos (by simpa using hlt),wrapS (by omega),Int.toNat_natCast,mark_loop l f g H n _ (g m) (k + 1) (by rw [List.length_set]; exact hz) (by rw [List.length_set]; omega) (by rw [List.length_set]; omega),List.length_set,
    show z.length - k = (z.length - (k + 1)) + 1 by omega]
   congr 2
   rw [List.take_succ_eq_append_getElem (by rw [List.length_set]; omega),List.take_set_of_le (Nat.le_refl _),List.getElem_set_self,List.append_assoc,List.singleton_append]
   rfl
  ·rw [if_neg (by simp; omega),show z.length - k = 0 by omega]
   have : k = z.length := by omega
   subst this
   simp [iter,marks]
theorem mark_all {α : Type} (l : Nat → List α → Int → Int → Option (Int × List α)) (f : Int → α) (g : Int → Int) (x : List α) (m : Int) (hx : x.length < 2 ^ 62)
  (H : ∀ n z m k,l (n + 1) z m k = if (decide (k < ((z.length : Nat) : Int))) = true then need (inB k z.length) (l n (z.set k.toNat (f m)) (g m) (IntKind.wrap .i64 (k + 1))) else some (m,z)) :
  l (Int.toNat (((x.length : Nat) : Int) - 0) + 2) x m 0 = some (iter g x.length m,marks f g m x.length) := by
 have := mark_loop l f g H (Int.toNat (((x.length : Nat) : Int) - 0) + 2) x m 0 hx (Nat.zero_le _) (by omega)
 simpa using this
theorem held_all {α : Type} [Inhabited α] (l : Nat → Int → Int → Option (Bool × Int × Int)) (f : Int → α) (g : Int → Int) (e : α → Int → Bool) (x : List α) (m : Int) (len : Nat) (hx : x = marks f g m len) (hl : len < 2 ^ 62) (he : ∀ m,e (f m) m = true)
  (H : ∀ n m k,l (n + 1) m k = if (decide (k < ((x.length : Nat) : Int))) = true then need (inB k x.length) (if e (atI x k) m = true then l n (g m) (IntKind.wrap .i64 (k + 1)) else some (true,-1,default)) else some (false,default,m)) :
  l (Int.toNat (((x.length : Nat) : Int) - 0) + 2) m 0 = some (false,default,iter g len m) := by
 have hlen : x.length = len := by rw [hx,marks_len]
 have key : ∀ (n k : Nat),k ≤ len → len - k < n → l n (iter g k m) (k : Int) = some (false,default,iter g len m) := by
  intro n
  induction n with
  | zero => intro k _ h; omega
  | succ n ih =>
   intro k hk h
   rw [H,hlen]
   by_cases hlt : k < len
   ·rw [if_pos (by simp; omega),inB_nat]
    unfold need
    rw [if_pos (by simpa using hlt),atI_nat,hx,marks_get f g len m k hlt,if_pos (he _),wrapS (by omega),iter_succ g,ih (k + 1) (by omega) (by omega)]
   ·rw [if_neg (by simp; omega),show k = len by omega]
 have := key (Int.toNat (((x.length : Nat) : Int) - 0) + 2) 0 (Nat.zero_le _) (by omega)
 exact this
/-- a whole number made a float is itself -/
theorem feq_ofInt (n : Int) : feq .f32 (ofInt .f32 n) (ofInt .f32 n) = true := by
 rw [feq_self_iff]
 have h : isNaN .f32 (ofInt .f32 n) = false := by
  unfold isNaN ofInt
  show (FloatKind.f32.format.read (FloatKind.f32.nearest n)).isNaN = false
  rcases read_nearest .f32 (decide (n < 0)) n.natAbs 0 with ⟨m',e',h,_⟩ | h
  all_goals
   have h2 : FloatKind.f32.format.read (FloatKind.f32.nearest n) = _ := h
   rw [h2]; rfl
 rw [h]; rfl
end Go.Ab
namespace Go.Proofs
open Go.Ab
theorem sameFloat_refl (x : Nat) : m_laws_sameFloat x x = true := by
 unfold m_laws_sameFloat
 by_cases h : feq .f64 x x = true
 ·simp [h]
 ·simp [h]
end Go.Proofs
namespace Go.Proofs
open Go.Ab
theorem eq_Vector (a : Nat × Nat × Nat) : m_laws_eqVector a a = true := by unfold m_laws_eqVector; simp [sameFloat_refl]
end Go.Proofs
namespace Go.Proofs
open Go.Ab
abbrev K5 : Type := Int × Nat × Nat × Nat × Nat
abbrev B4 : Type := Int × Nat × Nat × Nat
abbrev ClipT : Type := Int × Int × List (List K5) × List B4
theorem eq_Turn (a : Nat × Nat × Nat × Nat) : m_laws_eqTurn a a = true := by unfold m_laws_eqTurn; simp [sameFloat_refl]
theorem eq_Key (a : K5) : m_laws_eqKey a a = true := by unfold m_laws_eqKey; simp [eq_Turn]
theorem eq_RootKey (a : B4) : m_laws_eqRootKey a a = true := by unfold m_laws_eqRootKey; simp [eq_Vector]
theorem eq_KeyS (x : List K5) (h : x.length ≤ 1048576) : m_laws_eqKeyS x x = true ∧ p_laws_eqKeyS x x = true := by
 unfold m_laws_eqKeyS p_laws_eqKeyS
 rw [show l_laws_eqKeyS_0 x x (Int.toNat (((List.length x : Nat) : Int) - 0) + 2) 0 = some (false,default,()) from eq_loop _ x m_laws_eqKey eq_Key (by omega) fun _ _ => rfl]; simp
theorem eq_RootKeyS (x : List B4) (h : x.length ≤ 1048576) : m_laws_eqRootKeyS x x = true ∧ p_laws_eqRootKeyS x x = true := by
 unfold m_laws_eqRootKeyS p_laws_eqRootKeyS
 rw [show l_laws_eqRootKeyS_0 x x (Int.toNat (((List.length x : Nat) : Int) - 0) + 2) 0 = some (false,default,()) from eq_loop _ x m_laws_eqRootKey eq_RootKey (by omega) fun _ _ => rfl]; simp
theorem to_KeyS (x : List K5) (h : x.length ≤ 1048576) : m_laws_toKeyS x = x ∧ p_laws_toKeyS x = true := by
 unfold m_laws_toKeyS p_laws_toKeyS
 rw [show l_laws_toKeyS_0 x (Int.toNat (((List.length x : Nat) : Int) - 0) + 2) (List.replicate (Int.toNat ((List.length x : Nat) : Int)) (0,0,0,0,0)) 0 = some x by
  rw [copy_all (l_laws_toKeyS_0 x) x m_laws_toKey _ (by omega) fun _ _ _ => rfl]
  congr 1
  exact List.map_id x]
 refine ⟨rfl,?_⟩
 simp; omega
theorem to_RootKeyS (x : List B4) (h : x.length ≤ 1048576) : m_laws_toRootKeyS x = x ∧ p_laws_toRootKeyS x = true := by
 unfold m_laws_toRootKeyS p_laws_toRootKeyS
 rw [show l_laws_toRootKeyS_0 x (Int.toNat (((List.length x : Nat) : Int) - 0) + 2) (List.replicate (Int.toNat ((List.length x : Nat) : Int)) (0,0,0,0)) 0 = some x by
  rw [copy_all (l_laws_toRootKeyS_0 x) x m_laws_toRootKey _ (by omega) fun _ _ _ => rfl]
  congr 1
  exact List.map_id x]
 refine ⟨rfl,?_⟩
 simp; omega
/-- all lists of a list are short -/
def ShortS (x : List (List K5)) : Prop := x.length ≤ 1048576 ∧ ∀ k,k < x.length → (x.getD k default).length ≤ 1048576
theorem map_getD {α : Type} [Inhabited α] (x : List α) : (List.range' 0 x.length).map (fun k => x.getD k default) = x := by
 apply List.ext_getElem (by simp)
 intro i h1 h2
 simp [h2]
theorem short_mem {x : List (List K5)} (h : ShortS x) : ∀ q ∈ x,q.length ≤ 1048576 := by
 intro q hq
 obtain ⟨i,hi⟩ := List.mem_iff_getElem?.1 hq
 have hlt := (List.getElem?_eq_some_iff.1 hi).1
 have := h.2 i hlt
 rwa [List.getD_eq_getElem?_getD,hi] at this
theorem to_KeySS (x : List (List K5)) (h : ShortS x) : m_laws_toKeySS x = x ∧ p_laws_toKeySS x = true := by
 have hm := short_mem h
 obtain ⟨h1,h2⟩ := h
 unfold m_laws_toKeySS p_laws_toKeySS
 refine ⟨?_,?_⟩
 ·have : List.map m_laws_toKeyS x = List.map id x := List.map_congr_left fun q hq => (to_KeyS q (hm q hq)).1
  rw [this,List.map_id]
 ·simp only [Bool.and_eq_true,decide_eq_true_eq,List.all_eq_true]
  exact ⟨by omega,by omega,fun q hq => (to_KeyS q (hm q hq)).2⟩
theorem eq_KeySS (x : List (List K5)) (h : ShortS x) : m_laws_eqKeySS x x = true ∧ p_laws_eqKeySS x x = true := by
 obtain ⟨h1,h2⟩ := h
 unfold m_laws_eqKeySS p_laws_eqKeySS
 have := all_loop (l_laws_eqKeySS_0 x x) x.length (fun _ => true) (by omega) (fun n k hk => by
   show (if (decide ((k : Int) < ((List.length x : Nat) : Int))) = true then _ else _) = _
   rw [if_pos (by simp; omega),inB_nat,atI_nat,(eq_KeyS _ (h2 k hk)).1,(eq_KeyS _ (h2 k hk)).2]
   unfold need
   rw [if_pos (by simp; omega),if_pos (by simp; omega),if_pos rfl]) (fun n k hk => by
   show (if (decide ((k : Int) < ((List.length x : Nat) : Int))) = true then _ else _) = _
   rw [if_neg (by simp; omega)]) (Int.toNat (((List.length x : Nat) : Int) - 0) + 2) 0 (Nat.zero_le _) (by omega)
 rw [show ((0 : Nat) : Int) = 0 from rfl,all_range_true (fun _ _ _ => rfl),if_pos rfl] at this
 rw [this]; simp
theorem sz_KeyS (x : List K5) (n : Int) (hx : x.length ≤ maxLen) (h0 : 0 ≤ n) (hn : n ≤ 1048576) : (m_laws_szKeyS x n < 0) ∨ (m_laws_szKeyS x n = n - x.length ∧ (x.length : Int) ≤ n) := by
 unfold m_laws_szKeyS
 have hx' : x.length ≤ 9223372036854775807 := by unfold maxLen at hx; omega
 rw [wrapI (by omega) (by omega)]
 by_cases h : n - ((List.length x : Nat) : Int) < 0
 ·left; simp [h]
 ·right; rw [if_neg (by simpa using h)]; exact ⟨rfl,by omega⟩
theorem sz_RootKeyS (x : List B4) (n : Int) (hx : x.length ≤ maxLen) (h0 : 0 ≤ n) (hn : n ≤ 1048576) (hs : ¬ (m_laws_szRootKeyS x n < 0)) : x.length ≤ 1048576 ∧ 0 ≤ m_laws_szRootKeyS x n ∧ m_laws_szRootKeyS x n ≤ 1048576 := by
 unfold m_laws_szRootKeyS at hs ⊢
 have hx' : x.length ≤ 9223372036854775807 := by unfold maxLen at hx; omega
 rw [wrapI (by omega) (by omega)] at hs ⊢
 by_cases h : n - ((List.length x : Nat) : Int) < 0
 ·simp [h] at hs
 ·rw [if_neg (by simpa using h)]; omega
theorem sz_loop (x : List (List K5)) (hl : x.length ≤ 1048576) (hx : ∀ k,k < x.length → (x.getD k default).length ≤ maxLen) : ∀ (n : Nat) (left : Int) (k : Nat),0 ≤ left → left ≤ 1048576 → k ≤ x.length → x.length - k < n →
  l_laws_szKeySS_0 x n left (k : Int) = some (true,-1,default) ∨ ∃ r,l_laws_szKeySS_0 x n left (k : Int) = some (false,default,r) ∧ 0 ≤ r ∧ r ≤ 1048576 ∧ ∀ i,k ≤ i → i < x.length → (x.getD i default).length ≤ 1048576
 | 0,left,k,_,_,_,h => by omega
 | n + 1,left,k,h0,h1,hk,h => by
  have e : l_laws_szKeySS_0 x (n + 1) left (k : Int) = (if (decide ((k : Int) < ((List.length x : Nat) : Int))) = true then (need (inB (k : Int) (List.length x)) (if (decide ((m_laws_szKeyS (atI x (k : Int)) left) < 0)) = true then (some (true,(-1),default)) else (l_laws_szKeySS_0 x n (m_laws_szKeyS (atI x (k : Int)) left) (IntKind.wrap .i64 ((k : Int) + 1))))) else (some (false,default,left))) := rfl
  rw [e]
  by_cases hlt : k < x.length
  ·rw [if_pos (by simp; omega),inB_nat]
   unfold need
   rw [if_pos (by simp; omega),atI_nat,wrapS (by omega)]
   rcases sz_KeyS (x.getD k default) left (hx k hlt) h0 h1 with hs | ⟨hs,hs2⟩
   ·left; rw [if_pos (by simpa using hs)]
   ·rw [if_neg (by rw [hs]; simp only [decide_eq_true_eq]; omega),hs]
    rcases sz_loop x hl hx n (left - ((x.getD k default).length : Nat)) (k + 1) (by omega) (by omega) (by omega) (by omega) with h | ⟨r,g1,g2,g3,g4⟩
    ·left; exact h
    ·right
     refine ⟨r,g1,g2,g3,fun i hi1 hi2 => ?_⟩
     by_cases hik : i = k
     ·subst hik; omega
     ·exact g4 i (by omega) hi2
  ·right
   rw [if_neg (by simp; omega)]
   exact ⟨left,rfl,h0,h1,fun i hi1 hi2 => by omega⟩
theorem sz_KeySS (x : List (List K5)) (n : Int) (hl : x.length ≤ maxLen) (hx : ∀ k,k < x.length → (x.getD k default).length ≤ maxLen) (h0 : 0 ≤ n) (hn : n ≤ 1048576) :
  p_laws_szKeySS x n = true ∧ (¬ (m_laws_szKeySS x n < 0) → ShortS x ∧ 0 ≤ m_laws_szKeySS x n ∧ m_laws_szKeySS x n ≤ 1048576) := by
 unfold p_laws_szKeySS m_laws_szKeySS
 have hx' : x.length ≤ 9223372036854775807 := by unfold maxLen at hl; omega
 rw [wrapI (by omega) (by omega)]
 by_cases h : n - ((List.length x : Nat) : Int) < 0
 ·simp [h]
 ·have hl' : x.length ≤ 1048576 := by omega
  rcases sz_loop x hl' hx (Int.toNat (((List.length x : Nat) : Int) - 0) + 2) (n - ((List.length x : Nat) : Int)) 0 (by omega) (by omega) (Nat.zero_le _) (by omega) with e | ⟨r,e,g2,g3,g4⟩
  ·rw [show ((0 : Nat) : Int) = 0 from rfl] at e
   rw [e]; simp [h]
  ·rw [show ((0 : Nat) : Int) = 0 from rfl] at e
   rw [e]
   refine ⟨by simp,fun _ => ⟨⟨hl',fun k hk => g4 k (Nat.zero_le _) hk⟩,?_⟩⟩
   simp [h]; omega
def ShortC (c : ClipT) : Prop := ShortS c.2.2.1 ∧ c.2.2.2.length ≤ 1048576
def HasC' (c : ClipT) : Prop := c.2.2.1.length ≤ maxLen ∧ (∀ k,k < c.2.2.1.length → (c.2.2.1.getD k default).length ≤ maxLen) ∧ c.2.2.2.length ≤ maxLen
theorem sz_Clip (c : ClipT) (n : Int) (hc : HasC' c) (h0 : 0 ≤ n) (hn : n ≤ 1048576) : p_laws_szClip c n = true ∧ (¬ (m_laws_szClip c n < 0) → ShortC c ∧ 0 ≤ m_laws_szClip c n ∧ m_laws_szClip c n ≤ 1048576) := by
 obtain ⟨a1,a2⟩ := sz_KeySS c.2.2.1 n hc.1 hc.2.1 h0 hn
 unfold p_laws_szClip m_laws_szClip
 refine ⟨a1,fun h => ?_⟩
 by_cases h1 : m_laws_szKeySS c.2.2.1 n < 0
 ·simp [h1] at h
 ·obtain ⟨b1,b2,b3⟩ := a2 h1
  by_cases h2 : m_laws_szRootKeyS c.2.2.2 (m_laws_szKeySS c.2.2.1 n) < 0
  ·simp [h1,h2] at h
  ·obtain ⟨d1,d2,d3⟩ := sz_RootKeyS c.2.2.2 _ hc.2.2 b2 b3 h2
   refine ⟨⟨b1,d1⟩,?_⟩
   simp [h1,h2]; omega
theorem to_Clip (c : ClipT) (h : ShortC c) : m_laws_toClip c = c ∧ p_laws_toClip c = true := by
 unfold m_laws_toClip p_laws_toClip
 rw [(to_KeySS _ h.1).1,(to_KeySS _ h.1).2,(to_RootKeyS _ h.2).1,(to_RootKeyS _ h.2).2]
 exact ⟨rfl,rfl⟩
theorem eq_Clip (c : ClipT) (h : ShortC c) : m_laws_eqClip c c = true ∧ p_laws_eqClip c c = true := by
 unfold m_laws_eqClip p_laws_eqClip
 rw [(eq_KeySS _ h.1).1,(eq_KeySS _ h.1).2,(eq_RootKeyS _ h.2).1,(eq_RootKeyS _ h.2).2]
 simp
theorem has_of {x : List (List K5)} (h : ∀ q ∈ x,List.length q ≤ maxLen ∧ (∀ qq ∈ q,(Lit.int .i64 qq.1).wf = true ∧ Canon .f32 qq.2.1 ∧ Canon .f32 qq.2.2.1 ∧ Canon .f32 qq.2.2.2.1 ∧ Canon .f32 qq.2.2.2.2)) : ∀ k,k < x.length → (x.getD k default).length ≤ maxLen := by
 intro k hk
 rw [← atI_nat,atI_lt x hk]
 exact (h _ (List.getElem_mem hk)).1
end Go.Proofs
namespace Go.Proofs
open Go.Ab
theorem l00In_iff (a b c : Int) : m_spec_l00In a b c = (decide (b ≤ a) && decide (a ≤ c)) := by
 unfold m_spec_l00In; cases decide (b ≤ a) <;> simp
def lastOf (t : Nat → Int) (k : Nat) : Int := if k = 0 then -1 else t (k - 1)
def cI (t : Nat → Int) (L : Int) (k : Nat) : Bool := !(decide (t k ≤ lastOf t k)) && !(decide (L < t k))
def cS (t : Nat → Int) (L : Int) (k : Nat) : Bool := (decide (0 ≤ t k) && decide (t k ≤ L)) && (decide (k = 0) || !(decide (t k ≤ t (k - 1))))
theorem all_snoc (c : Nat → Bool) (m : Nat) : (List.range' 0 (m + 1)).all c = ((List.range' 0 m).all c && c m) := by
 rw [List.range'_concat]; simp
theorem all_cIS (t : Nat → Int) (L : Int) : ∀ m,(List.range' 0 m).all (cI t L) = (List.range' 0 m).all (cS t L)
 | 0 => rfl
 | m + 1 => by
  rw [all_snoc,all_snoc,all_cIS t L m]
  cases hq : (List.range' 0 m).all (cS t L) with
  | false => rfl
  | true =>
   rw [Bool.true_and,Bool.true_and]
   unfold cI cS lastOf
   by_cases h0 : m = 0
   ·subst h0
    by_cases h1 : t 0 ≤ -1
    ·have : ¬ 0 ≤ t 0 := by omega
     simp [h1,this]
    ·have h2 : 0 ≤ t 0 := by omega
     by_cases h3 : L < t 0
     ·have : ¬ t 0 ≤ L := by omega
      simp [h1,h2,h3,this]
     ·have : t 0 ≤ L := by omega
      simp [h1,h2,h3,this]
   ·have hp : cS t L (m - 1) = true := List.all_eq_true.1 hq (m - 1) (by rw [List.mem_range']; exact ⟨m - 1,by omega,by omega⟩)
    unfold cS at hp
    simp only [Bool.and_eq_true,decide_eq_true_eq] at hp
    have hp0 := hp.1.1
    by_cases h1 : t m ≤ t (m - 1)
    ·simp [h0,h1]
    ·have h2 : 0 ≤ t m := by omega
     by_cases h3 : L < t m
     ·have : ¬ t m ≤ L := by omega
      simp [h0,h1,h2,h3,this]
     ·have : t m ≤ L := by omega
      simp [h0,h1,h2,h3,this]
theorem impl_valid (l : Nat → Int → Int → Option (Bool × Bool × Unit)) (t : Nat → Int) (len : Nat) (L : Int) (hlen : len < 2 ^ 62)
  (H : ∀ (n : Nat) (last : Int) (k : Nat),k < len → l (n + 1) last (k : Int) = if (decide (t k ≤ last)) = true then some (true,false,default) else if (decide (L < t k)) = true then some (true,false,default) else l n (t k) (IntKind.wrap .i64 ((k : Int) + 1)))
  (H' : ∀ (n : Nat) (last : Int) (k : Nat),¬ k < len → l (n + 1) last (k : Int) = some (false,default,())) :
  ∀ (n k : Nat),k ≤ len → len - k < n → l n (lastOf t k) (k : Int) = some (if (List.range' k (len - k)).all (cI t L) = true then (false,default,()) else (true,false,default))
 | 0,k,_,h => by omega
 | n + 1,k,hk,h => by
  by_cases hlt : k < len
  ·rw [H n _ k hlt,show len - k = (len - (k + 1)) + 1 by omega,List.range'_succ,List.all_cons,wrapS (by omega)]
   have ih := impl_valid l t len L hlen H H' n (k + 1) (by omega) (by omega)
   have e : lastOf t (k + 1) = t k := by unfold lastOf; simp
   rw [e] at ih
   rw [ih]
   have ec : cI t L k = (!(decide (t k ≤ lastOf t k)) && !(decide (L < t k))) := rfl
   rw [ec]
   cases decide (t k ≤ lastOf t k) <;> cases decide (L < t k) <;> first | rfl | simp
  ·rw [H' n _ k hlt,show len - k = 0 by omega]
   rfl
theorem atI_times (t : Nat → Int) {len k : Nat} (h : k < len) : atI ((List.range' 0 len).map t) (k : Int) = t k := by
 rw [atI_nat,List.getD_eq_getElem?_getD]
 simp [h]
theorem spec_times (t : Nat → Int) (len : Nat) (L : Int) (hlen : len ≤ 1048576) : l_spec_l05Times_0 ((List.range' 0 len).map t) L (Int.toNat (((List.length ((List.range' 0 len).map t) : Nat) : Int) - 0) + 2) 0 = some (if (List.range' 0 len).all (cS t L) = true then (false,default,()) else (true,false,default)) := by
 have hL : ((List.range' 0 len).map t).length = len := by simp
 have := all_loop (l_spec_l05Times_0 ((List.range' 0 len).map t) L) len (cS t L) (by omega) (fun n k hk => by
   show (if (decide ((k : Int) < ((List.length ((List.range' 0 len).map t) : Nat) : Int))) = true then _ else _) = _
   rw [if_pos (by rw [hL]; simp; omega),inB_nat,hL,atI_times t hk]
   unfold need
   rw [if_pos (by simp; omega),l00In_iff]
   have ec : cS t L k = ((decide (0 ≤ t k) && decide (t k ≤ L)) && (decide (k = 0) || !(decide (t k ≤ t (k - 1))))) := rfl
   rw [ec]
   by_cases h0 : k = 0
   ·subst h0
    cases decide (0 ≤ t 0) && decide (t 0 ≤ L) <;> simp
   ·have ew : IntKind.wrap .i64 ((k : Int) - 1) = ((k - 1 : Nat) : Int) := by rw [wrapI (by omega) (by omega)]; omega
    rw [ew,inB_nat,atI_times t (show k - 1 < len by omega)]
    have e1 : decide (k - 1 < len) = true := by simp; omega
    have e2 : decide ((0 : Int) < (k : Int)) = true := by simp; omega
    rw [e1,e2]
    cases decide (0 ≤ t k) && decide (t k ≤ L) <;> cases decide (t k ≤ t (k - 1)) <;> simp [h0]) (fun n k hk => by
   show (if (decide ((k : Int) < ((List.length ((List.range' 0 len).map t) : Nat) : Int))) = true then _ else _) = _
   rw [if_neg (by rw [hL]; simp; omega)]) (Int.toNat (((List.length ((List.range' 0 len).map t) : Nat) : Int) - 0) + 2) 0 (Nat.zero_le _) (by omega)
 exact this
def tK (x : List K5) (k : Nat) : Int := (x.getD k default).1
def tR (x : List B4) (k : Nat) : Int := (x.getD k default).1
theorem at_eq (x : List K5) (h : x.length ≤ 1048576) : m_spec_l05At x = (List.range' 0 x.length).map (tK x) ∧ p_spec_l05At x = true := by
 have := app_loop (l_spec_l05At_0 x) x.length (tK x) (by omega) (fun k j => k = j) (fun n z k hk hj => by
   show (if (decide ((k : Int) < ((List.length x : Nat) : Int))) = true then _ else _) = _
   rw [if_pos (by simp; omega),inB_nat,atI_nat]
   unfold need
   rw [if_pos (by simp; omega),if_pos (by simp; omega),if_pos (by simp; omega)]
   rfl) (fun n z k hk => by
   show (if (decide ((k : Int) < ((List.length x : Nat) : Int))) = true then _ else _) = _
   rw [if_neg (by simp; omega)]) (fun k j _ h => by omega) (Int.toNat (((List.length x : Nat) : Int) - 0) + 2) [] 0 (Nat.zero_le _) (by simp) (by omega)
 have e : l_spec_l05At_0 x (Int.toNat (((List.length x : Nat) : Int) - 0) + 2) [] 0 = some ((List.range' 0 x.length).map (tK x)) := this
 unfold m_spec_l05At p_spec_l05At
 rw [e]; exact ⟨rfl,rfl⟩
theorem rootAt_eq (x : List B4) (h : x.length ≤ 1048576) : m_spec_l05RootAt x = (List.range' 0 x.length).map (tR x) ∧ p_spec_l05RootAt x = true := by
 have := app_loop (l_spec_l05RootAt_0 x) x.length (tR x) (by omega) (fun k j => k = j) (fun n z k hk hj => by
   show (if (decide ((k : Int) < ((List.length x : Nat) : Int))) = true then _ else _) = _
   rw [if_pos (by simp; omega),inB_nat,atI_nat]
   unfold need
   rw [if_pos (by simp; omega),if_pos (by simp; omega),if_pos (by simp; omega)]
   rfl) (fun n z k hk => by
   show (if (decide ((k : Int) < ((List.length x : Nat) : Int))) = true then _ else _) = _
   rw [if_neg (by simp; omega)]) (fun k j _ h => by omega) (Int.toNat (((List.length x : Nat) : Int) - 0) + 2) [] 0 (Nat.zero_le _) (by simp) (by omega)
 have e : l_spec_l05RootAt_0 x (Int.toNat (((List.length x : Nat) : Int) - 0) + 2) [] 0 = some ((List.range' 0 x.length).map (tR x)) := this
 unfold m_spec_l05RootAt p_spec_l05RootAt
 rw [e]; exact ⟨rfl,rfl⟩
/-- what a track has to be -/
def okT (t : Nat → Int) (len : Nat) (L : Int) : Bool := (List.range' 0 len).all (cS t L) && (decide (1 ≤ (len : Int)) && decide ((len : Int) ≤ 12))
theorem times_ok (t : Nat → Int) (len : Nat) (L : Int) (hlen : len ≤ 1048576) : m_spec_l05Times ((List.range' 0 len).map t) L = okT t len L ∧ p_spec_l05Times ((List.range' 0 len).map t) L = true := by
 unfold m_spec_l05Times p_spec_l05Times okT
 rw [spec_times t len L hlen]
 cases (List.range' 0 len).all (cS t L) with
 | false => simp
 | true =>
  simp only [if_true,Option.getD_some,Option.isSome_some,Bool.false_eq_true,if_false,Bool.true_and,List.length_map,List.length_range',and_true]
  by_cases h : (1 : Int) ≤ (len : Int)
  ·simp [h]
  ·simp [h]
theorem key_ok (x : List K5) (L : Int) (h : x.length ≤ 1048576) : m_impl_Key_valid ((),(),()) x L = okT (tK x) x.length L ∧ p_impl_Key_valid ((),(),()) x L = true := by
 have := impl_valid (l_impl_Key_valid_0 x L) (tK x) x.length L (by omega) (fun n last k hk => by
   show (if (decide ((k : Int) < ((List.length x : Nat) : Int))) = true then _ else _) = _
   rw [if_pos (by simp; omega),inB_nat,atI_nat]
   unfold need
   rw [if_pos (by simp; omega)]
   rfl) (fun n last k hk => by
   show (if (decide ((k : Int) < ((List.length x : Nat) : Int))) = true then _ else _) = _
   rw [if_neg (by simp; omega)]) (Int.toNat (((List.length x : Nat) : Int) - 0) + 2) 0 (Nat.zero_le _) (by omega)
 have e : l_impl_Key_valid_0 x L (Int.toNat (((List.length x : Nat) : Int) - 0) + 2) (-1) 0 = some (if (List.range' 0 x.length).all (cI (tK x) L) = true then (false,default,()) else (true,false,default)) := this
 unfold m_impl_Key_valid p_impl_Key_valid okT
 rw [e,all_cIS]
 cases (List.range' 0 x.length).all (cS (tK x) L) with
 | false => simp
 | true =>
  simp only [if_true,Option.getD_some,Option.isSome_some,Bool.false_eq_true,if_false,Bool.true_and,and_true]
  by_cases h : (1 : Int) ≤ ((List.length x : Nat) : Int)
  ·simp [h]
  ·simp [h]
theorem root_ok (x : List B4) (L : Int) (h : x.length ≤ 1048576) : m_impl_RootKey_valid ((),(),()) x L = okT (tR x) x.length L ∧ p_impl_RootKey_valid ((),(),()) x L = true := by
 have := impl_valid (l_impl_RootKey_valid_0 x L) (tR x) x.length L (by omega) (fun n last k hk => by
   show (if (decide ((k : Int) < ((List.length x : Nat) : Int))) = true then _ else _) = _
   rw [if_pos (by simp; omega),inB_nat,atI_nat]
   unfold need
   rw [if_pos (by simp; omega)]
   rfl) (fun n last k hk => by
   show (if (decide ((k : Int) < ((List.length x : Nat) : Int))) = true then _ else _) = _
   rw [if_neg (by simp; omega)]) (Int.toNat (((List.length x : Nat) : Int) - 0) + 2) 0 (Nat.zero_le _) (by omega)
 have e : l_impl_RootKey_valid_0 x L (Int.toNat (((List.length x : Nat) : Int) - 0) + 2) (-1) 0 = some (if (List.range' 0 x.length).all (cI (tR x) L) = true then (false,default,()) else (true,false,default)) := this
 unfold m_impl_RootKey_valid p_impl_RootKey_valid okT
 rw [e,all_cIS]
 cases (List.range' 0 x.length).all (cS (tR x) L) with
 | false => simp
 | true =>
  simp only [if_true,Option.getD_some,Option.isSome_some,Bool.false_eq_true,if_false,Bool.true_and,and_true]
  by_cases h : (1 : Int) ≤ ((List.length x : Nat) : Int)
  ·simp [h]
  ·simp [h]
def okTracks (c : ClipT) : Bool := (List.range' 0 c.2.2.1.length).all fun k => okT (tK (c.2.2.1.getD k default)) (c.2.2.1.getD k default).length c.1
def okClip (c : ClipT) : Bool := (decide (1 ≤ c.1) && decide (c.1 ≤ 1000)) && ((decide (0 ≤ c.2.1) && decide (c.2.1 ≤ 2)) && ((decide (1 ≤ ((List.length c.2.2.1 : Nat) : Int)) && decide (((List.length c.2.2.1 : Nat) : Int) ≤ 12)) && (okTracks c && okT (tR c.2.2.2) c.2.2.2.length c.1)))
theorem spec_tracks (c : ClipT) (h : ShortC c) : l_spec_l05Is_0 c (Int.toNat (((List.length c.2.2.1 : Nat) : Int) - 0) + 2) 0 = some (if okTracks c = true then (false,default,()) else (true,false,default)) := by
 have h1 := h.1.1
 have := all_loop (l_spec_l05Is_0 c) c.2.2.1.length (fun k => okT (tK (c.2.2.1.getD k default)) (c.2.2.1.getD k default).length c.1) (by omega) (fun n k hk => by
   show (if (decide ((k : Int) < ((List.length c.2.2.1 : Nat) : Int))) = true then _ else _) = _
   have hs := h.1.2 k hk
   rw [if_pos (by simp; omega),inB_nat,atI_nat,(at_eq _ hs).1,(at_eq _ hs).2,(times_ok _ _ _ hs).1,(times_ok _ _ _ hs).2]
   unfold need
   rw [if_pos (by simp; omega),if_pos rfl,if_pos rfl]) (fun n k hk => by
   show (if (decide ((k : Int) < ((List.length c.2.2.1 : Nat) : Int))) = true then _ else _) = _
   rw [if_neg (by simp; omega)]) (Int.toNat (((List.length c.2.2.1 : Nat) : Int) - 0) + 2) 0 (Nat.zero_le _) (by omega)
 exact this
theorem impl_tracks (c : ClipT) (h : ShortC c) : l_impl_ValidClip_0 c (Int.toNat (((List.length c.2.2.1 : Nat) : Int) - 0) + 2) 0 = some (if okTracks c = true then (false,default,()) else (true,false,default)) := by
 have h1 := h.1.1
 have := all_loop (l_impl_ValidClip_0 c) c.2.2.1.length (fun k => okT (tK (c.2.2.1.getD k default)) (c.2.2.1.getD k default).length c.1) (by omega) (fun n k hk => by
   show (if (decide ((k : Int) < ((List.length c.2.2.1 : Nat) : Int))) = true then _ else _) = _
   have hs := h.1.2 k hk
   rw [if_pos (by simp; omega),inB_nat,atI_nat,(key_ok _ _ hs).1,(key_ok _ _ hs).2]
   unfold need
   rw [if_pos (by simp; omega),if_pos rfl]) (fun n k hk => by
   show (if (decide ((k : Int) < ((List.length c.2.2.1 : Nat) : Int))) = true then _ else _) = _
   rw [if_neg (by simp; omega)]) (Int.toNat (((List.length c.2.2.1 : Nat) : Int) - 0) + 2) 0 (Nat.zero_le _) (by omega)
 exact this
theorem core_ValidClip (c : ClipT) (h : ShortC c) : p_impl_ValidClip c = true ∧ p_spec_l05Is c = true ∧ m_impl_ValidClip c = okClip c ∧ m_spec_l05Is c = okClip c := by
 unfold p_impl_ValidClip p_spec_l05Is m_impl_ValidClip m_spec_l05Is okClip
 rw [spec_tracks c h,impl_tracks c h,l00In_iff,l00In_iff,(root_ok _ _ h.2).1,(root_ok _ _ h.2).2,(rootAt_eq _ h.2).1,(rootAt_eq _ h.2).2,(times_ok _ _ _ h.2).1,(times_ok _ _ _ h.2).2]
 have f : ∀ a b : Int,decide (a < b) = !(decide (b ≤ a)) := by
  intro a b
  by_cases hh : a < b
  ·have : ¬ b ≤ a := by omega
   simp [hh,this]
  ·have : b ≤ a := by omega
   simp [hh,this]
 rw [f c.1 1,f 1000 c.1,f c.2.1 0,f 2 c.2.1,f _ 1,f 12 _]
 cases decide (1 ≤ c.1) <;> cases decide (c.1 ≤ 1000) <;> cases decide (0 ≤ c.2.1) <;> cases decide (c.2.1 ≤ 2) <;> cases decide (1 ≤ ((List.length c.2.2.1 : Nat) : Int)) <;> cases decide (((List.length c.2.2.1 : Nat) : Int) ≤ 12) <;> cases okTracks c <;> simp
end Go.Proofs
namespace Go.Proofs
open Go.Ab
theorem okT_have {t : Nat → Int} {len : Nat} {L : Int} (h : okT t len L = true) : 1 ≤ len ∧ len ≤ 12 ∧ (∀ k,k < len → 0 ≤ t k ∧ t k ≤ L) ∧ ∀ k,0 < k → k < len → t (k - 1) < t k := by
 unfold okT at h
 simp only [Bool.and_eq_true,decide_eq_true_eq,List.all_eq_true] at h
 obtain ⟨h1,h2,h3⟩ := h
 have hc : ∀ k,k < len → cS t L k = true := fun k hk => h1 k (by rw [List.mem_range']; exact ⟨k,hk,by omega⟩)
 refine ⟨by omega,by omega,fun k hk => ?_,fun k h0 hk => ?_⟩
 ·have := hc k hk
  unfold cS at this
  simp only [Bool.and_eq_true,decide_eq_true_eq] at this
  exact this.1
 ·have := hc k hk
  unfold cS at this
  simp only [Bool.and_eq_true,decide_eq_true_eq,Bool.or_eq_true,Bool.not_eq_true',decide_eq_false_iff_not] at this
  rcases this.2 with h | h <;> omega
/-- the first time behind 'a',from 'k' on,of so many -/
def fstT (t : Nat → Int) (a : Int) : Nat → Nat → Nat
 | 0,k => k
 | m + 1,k => if t k ≤ a then fstT t a m (k + 1) else k
theorem fstT_le (t : Nat → Int) (a : Int) : ∀ (m k : Nat),k ≤ fstT t a m k ∧ fstT t a m k ≤ k + m
 | 0,k => ⟨Nat.le_refl _,Nat.le_refl _⟩
 | m + 1,k => by
  unfold fstT
  split
  ·have := fstT_le t a m (k + 1); omega
  ·omega
theorem fstT_gt (t : Nat → Int) (a : Int) : ∀ (m k : Nat),fstT t a m k < k + m → a < t (fstT t a m k)
 | 0,k,h => by unfold fstT at h; omega
 | m + 1,k,h => by
  unfold fstT at h ⊢
  split
  ·rename_i hc; rw [if_pos hc] at h; exact fstT_gt t a m (k + 1) (by omega)
  ·omega
theorem fstT_lt (t : Nat → Int) (a : Int) : ∀ (m k i : Nat),k ≤ i → i < fstT t a m k → t i ≤ a
 | 0,k,i,h1,h2 => by unfold fstT at h2; omega
 | m + 1,k,i,h1,h2 => by
  unfold fstT at h2
  split at h2
  ·rename_i hc
   by_cases e : i = k
   ·subst e; exact hc
   ·exact fstT_lt t a m (k + 1) i (by omega) h2
  ·omega
theorem impl_fst (l : Nat → Int → Option Int) (t : Nat → Int) (a : Int) (len : Nat) (hlen : len < 2 ^ 62)
  (H : ∀ (n k : Nat),k < len → l (n + 1) (k : Int) = if (decide (t k ≤ a)) = true then l n (IntKind.wrap .i64 ((k : Int) + 1)) else some (k : Int))
  (H' : ∀ (n k : Nat),¬ k < len → l (n + 1) (k : Int) = some (k : Int)) : ∀ (n m k : Nat),k + m = len → m < n → l n (k : Int) = some ((fstT t a m k : Nat) : Int)
 | 0,m,k,_,h => by omega
 | n + 1,0,k,hk,h => by rw [H' n k (by omega)]; rfl
 | n + 1,m + 1,k,hk,h => by
  rw [H n k (by omega),fstT]
  by_cases hc : t k ≤ a
  ·rw [if_pos (by simpa using hc),if_pos hc,wrapS (by omega)]
   exact impl_fst l t a len hlen H H' n m (k + 1) (by omega) (by omega)
  ·rw [if_neg (by simpa using hc),if_neg hc]
theorem spec_fst (t : Nat → Int) (a kind : Int) (len : Nat) (hlen : len ≤ 12) : ∀ (n m k : Nat),k + 1 + m = len → m < n → l_spec_l05Find_0 ((List.range' 0 len).map t) a kind n (k : Int) = some (((fstT t a m (k + 1) - 1 : Nat)) : Int)
 | 0,m,k,_,h => by omega
 | n + 1,m,k,hk,h => by
  have hL : ((List.range' 0 len).map t).length = len := by simp
  show (if (decide ((IntKind.wrap .i64 ((k : Int) + 1)) < ((List.length ((List.range' 0 len).map t) : Nat) : Int))) = true then _ else _) = _
  rw [wrapS (by omega),hL,inB_nat]
  cases m with
  | zero =>
   rw [if_neg (by simp; omega)]
   simp [fstT]
  | succ m =>
   rw [if_pos (by simp; omega),atI_times t (show k + 1 < len by omega)]
   unfold need
   rw [if_pos (by simp; omega),fstT]
   by_cases hc : t (k + 1) ≤ a
   ·rw [if_pos (by simpa using hc),if_pos hc]
    exact spec_fst t a kind len hlen n m (k + 1) (by omega) (by omega)
   ·rw [if_neg (by simpa using hc),if_neg hc]
    simp
/-- the share of a time between two others -/
def shareOf (kind p a q : Int) : Nat := if kind = 2 then fmul .f32 (fmul .f32 (fdiv .f32 (ofInt .f32 (IntKind.wrap .i64 (a - p))) (ofInt .f32 (IntKind.wrap .i64 (q - p)))) (fdiv .f32 (ofInt .f32 (IntKind.wrap .i64 (a - p))) (ofInt .f32 (IntKind.wrap .i64 (q - p))))) (fsub .f32 1077936128 (fmul .f32 1073741824 (fdiv .f32 (ofInt .f32 (IntKind.wrap .i64 (a - p))) (ofInt .f32 (IntKind.wrap .i64 (q - p))))))
 else fdiv .f32 (ofInt .f32 (IntKind.wrap .i64 (a - p))) (ofInt .f32 (IntKind.wrap .i64 (q - p)))
/-- the index,and what is made there -/
def idxT (t : Nat → Int) (a : Int) (len : Nat) : Nat := fstT t a len 0
theorem find_ok (t : Nat → Int) (a kind L : Int) (len : Nat) (h : okT t len L = true) : p_spec_l05Find ((List.range' 0 len).map t) a kind = true ∧
  ∃ J : Nat,J < len ∧ (m_spec_l05Find ((List.range' 0 len).map t) a kind).1 = (J : Int) ∧ J = (if idxT t a len = 0 then 0 else idxT t a len - 1) ∧
   (J + 1 < len → t J < a → kind ≠ 0 → (m_spec_l05Find ((List.range' 0 len).map t) a kind).2 = shareOf kind (t J) a (t (J + 1))) := by
 obtain ⟨h1,h2,h3,h4⟩ := okT_have h
 have hL : ((List.range' 0 len).map t).length = len := by simp
 obtain ⟨m,rfl⟩ : ∃ m,len = m + 1 := ⟨len - 1,by omega⟩
 have sp := spec_fst t a kind (m + 1) h2 (Int.toNat (((List.length ((List.range' 0 (m + 1)).map t) : Nat) : Int) - 0) + 2) m 0 (by omega) (by rw [hL]; omega)
 have sp' : l_spec_l05Find_0 ((List.range' 0 (m + 1)).map t) a kind (Int.toNat (((List.length ((List.range' 0 (m + 1)).map t) : Nat) : Int) - 0) + 2) 0 = some (((fstT t a m 1 - 1 : Nat)) : Int) := sp
 have hb := fstT_le t a m 1
 generalize hJ : fstT t a m 1 - 1 = J at *
 have hJlt : J < m + 1 := by omega
 have hw : IntKind.wrap .i64 ((J : Int) + 1) = ((J + 1 : Nat) : Int) := wrapS (by omega)
 have eJ : J = (if idxT t a (m + 1) = 0 then 0 else idxT t a (m + 1) - 1) := by
  unfold idxT fstT
  by_cases hc : t 0 ≤ a
  ·rw [if_pos hc,Nat.zero_add,hJ,if_neg (by omega)]
  ·rw [if_neg hc,if_pos rfl]
   by_cases hm : m = 0
   ·subst hm; simp [fstT] at hJ; omega
   ·have : fstT t a m 1 = 1 := by
     obtain ⟨q,rfl⟩ : ∃ q,m = q + 1 := ⟨m - 1,by omega⟩
     have := h4 1 (by omega) (by omega)
     unfold fstT
     rw [if_neg (by simp at this; omega)]
    omega
 unfold p_spec_l05Find m_spec_l05Find v_spec_l05Find_0 v_spec_l05Find_3 v_spec_l05Find_2 v_spec_l05Find_1
 rw [sp']
 simp only [Option.getD_some,Option.isSome_some,hw,hL,inB_nat,Bool.true_and]
 have at1 := atI_times t hJlt
 simp only [at1]
 by_cases e1 : ((J + 1 : Nat) : Int) = ((m + 1 : Nat) : Int)
 ·refine ⟨by simp [e1],J,hJlt,by rw [if_pos (by simpa using e1)],eJ,fun q => by omega⟩
 ·have hJ1 : J + 1 < m + 1 := by omega
  have at2 := atI_times t hJ1
  simp only [at2]
  refine ⟨?_,J,hJlt,?_,eJ,fun _ q1 q2 => ?_⟩
  ·simp; omega
  ·rw [if_neg (by simpa using e1)]
   split
   ·rfl
   ·split <;> rfl
  ·rw [if_neg (by simpa using e1),if_neg (by simp; omega),if_neg (by simpa using q2)]
   unfold shareOf
   by_cases e2 : kind = 2 <;> simp [e2]
/-- the place of a root -/
def rootAt (x : List B4) (kind a : Int) : Nat × Nat × Nat :=
 if idxT (tR x) a x.length = 0 then (x.getD 0 default).2 else if idxT (tR x) a x.length = x.length ∨ tR x (idxT (tR x) a x.length - 1) = a ∨ kind = 0 then (x.getD (idxT (tR x) a x.length - 1) default).2
 else m_spec_l01Between (x.getD (idxT (tR x) a x.length - 1) default).2 (x.getD (idxT (tR x) a x.length) default).2 (shareOf kind (tR x (idxT (tR x) a x.length - 1)) a (tR x (idxT (tR x) a x.length)))
theorem root_impl (x : List B4) (kind a L : Int) (h : okT (tR x) x.length L = true) : (m_impl_RootKey_sample ((),(),()) x kind a).2 = rootAt x kind a ∧ p_impl_RootKey_sample ((),(),()) x kind a = true := by
 obtain ⟨h1,h2,h3,h4⟩ := okT_have h
 have fs := impl_fst (l_impl_RootKey_sample_0 x kind a) (tR x) a x.length (by omega) (fun n k hk => by
   show (if (decide ((k : Int) < ((List.length x : Nat) : Int))) = true then _ else _) = _
   rw [if_pos (by simp; omega),inB_nat,atI_nat]
   unfold need
   rw [if_pos (by simp; omega)]
   rfl) (fun n k hk => by
   show (if (decide ((k : Int) < ((List.length x : Nat) : Int))) = true then _ else _) = _
   rw [if_neg (by simp; omega)]) (Int.toNat (((List.length x : Nat) : Int) - 0) + 2) x.length 0 (by omega) (by omega)
 have fs' : l_impl_RootKey_sample_0 x kind a (Int.toNat (((List.length x : Nat) : Int) - 0) + 2) 0 = some ((idxT (tR x) a x.length : Nat) : Int) := fs
 have hb := fstT_le (tR x) a x.length 0
 have hg := fstT_gt (tR x) a x.length 0
 unfold m_impl_RootKey_sample p_impl_RootKey_sample v_impl_RootKey_sample_2 v_impl_RootKey_sample_1 v_impl_RootKey_sample_0 rootAt m_impl_share
 rw [fs']
 simp only [Option.getD_some,Option.isSome_some,Bool.true_and]
 have hI : idxT (tR x) a x.length = fstT (tR x) a x.length 0 := rfl
 rw [← hI] at hb hg
 generalize idxT (tR x) a x.length = I at *
 by_cases e0 : I = 0
 ·subst e0
  have : inB 0 x.length = true := by simp [inB]; omega
  rw [if_pos rfl,if_pos (by simp),if_pos (by simp),this]
  exact ⟨by unfold m_impl_rootTrack_2; rw [show atI x 0 = x.getD 0 default by rw [← atI_nat]; rfl],rfl⟩
 ·have ew : IntKind.wrap .i64 ((I : Int) - 1) = ((I - 1 : Nat) : Int) := by rw [wrapI (by omega) (by omega)]; omega
  have i1 : inB ((I - 1 : Nat) : Int) x.length = true := by rw [inB_nat]; simp; omega
  have n0 : decide ((I : Int) = 0) = false := by simp; omega
  simp only [ew,i1,n0,atI_nat,Bool.false_eq_true,if_false,Bool.true_and]
  rw [if_neg e0]
  by_cases e1 : I = x.length
  ·have n1 : decide ((I : Int) = ((List.length x : Nat) : Int)) = true := by simp; omega
   simp only [n1,if_true]
   rw [if_pos (.inl e1)]
   exact ⟨rfl,trivial⟩
  ·have i2 : inB (I : Int) x.length = true := by rw [inB_nat]; simp; omega
   have n1 : decide ((I : Int) = ((List.length x : Nat) : Int)) = false := by simp; omega
   simp only [n1,i2,Bool.false_eq_true,if_false]
   refine ⟨?_,by simp⟩
   have et : m_impl_rootTrack_1 (x.getD (I - 1) default) = tR x (I - 1) := rfl
   have et' : m_impl_rootTrack_1 (x.getD I default) = tR x I := rfl
   simp only [et,et']
   by_cases e2 : tR x (I - 1) = a
   ·rw [if_pos (show decide (tR x (I - 1) = a) = true by simpa using e2),if_pos (.inr (.inl e2))]; rfl
   ·rw [if_neg (show ¬ decide (tR x (I - 1) = a) = true by simpa using e2)]
    by_cases e3 : kind = 0
    ·rw [if_pos (show decide (kind = 0) = true by simpa using e3),if_pos (.inr (.inr e3))]; rfl
    ·rw [if_neg (show ¬ decide (kind = 0) = true by simpa using e3),if_neg (show ¬ (I = x.length ∨ tR x (I - 1) = a ∨ kind = 0) by rintro (h | h | h) <;> contradiction)]
     unfold m_impl_rootTrack_2 m_impl_rootTrack_3 shareOf
     have eb : m_impl_BetweenVectors = m_spec_l01Between := rfl
     rw [eb]
     by_cases e4 : kind = 2 <;> simp [e4]
theorem root_spec (x : List B4) (kind a L : Int) (h : okT (tR x) x.length L = true) : m_spec_l05Root x a kind = rootAt x kind a ∧ p_spec_l05Root x a kind = true := by
 obtain ⟨h1,h2,h3,h4⟩ := okT_have h
 obtain ⟨f1,J,hJ,f2,f3,f4⟩ := find_ok (tR x) a kind L x.length h
 have hb := fstT_le (tR x) a x.length 0
 have hg := fstT_gt (tR x) a x.length 0
 have hl := fstT_lt (tR x) a x.length 0
 have hI : idxT (tR x) a x.length = fstT (tR x) a x.length 0 := rfl
 rw [← hI] at hb hg hl
 have hL : ((List.range' 0 x.length).map (tR x)).length = x.length := by simp
 have hw : IntKind.wrap .i64 ((J : Int) + 1) = ((J + 1 : Nat) : Int) := wrapS (by omega)
 unfold m_spec_l05Root p_spec_l05Root m_spec_l05Inside p_spec_l05Inside rootAt
 rw [(rootAt_eq x (by omega)).1,(rootAt_eq x (by omega)).2,f1,f2,hw,hL,inB_nat,inB_nat,atI_times _ hJ,atI_nat,atI_nat]
 have d1 : decide (J < x.length) = true := by simp; omega
 rw [d1]
 generalize idxT (tR x) a x.length = I at *
 by_cases e0 : I = 0
 ·subst e0
  have hJ0 : J = 0 := f3
  subst hJ0
  have hlt : ¬ tR x 0 < a := by have := hg (by omega); omega
  rw [if_pos rfl]
  by_cases e3 : kind = 0
  ·simp [e3]
  ·by_cases e4 : ((0 + 1 : Nat) : Int) < ((List.length x : Nat) : Int)
   ·simp [e3,hlt]
   ·simp [e3,hlt]
 ·rw [if_neg e0] at f3 ⊢
  subst f3
  have hle := hl (I - 1) (Nat.zero_le _) (by omega)
  by_cases e3 : kind = 0
  ·rw [if_pos (show I = x.length ∨ tR x (I - 1) = a ∨ kind = 0 from .inr (.inr e3))]; simp [e3]
  ·by_cases e1 : I = x.length
   ·rw [if_pos (show I = x.length ∨ tR x (I - 1) = a ∨ kind = 0 from .inl e1)]
    have : ¬ ((I - 1 + 1 : Nat) : Int) < ((List.length x : Nat) : Int) := by omega
    simp only [e3,decide_false,Bool.false_eq_true,if_false,this]
    simp
   ·have hlt : ((I - 1 + 1 : Nat) : Int) < ((List.length x : Nat) : Int) := by omega
    by_cases e2 : tR x (I - 1) = a
    ·rw [if_pos (show I = x.length ∨ tR x (I - 1) = a ∨ kind = 0 from .inr (.inl e2))]
     have : ¬ tR x (I - 1) < a := by omega
     simp [e3,hlt,this]
    ·have hta : tR x (I - 1) < a := by omega
     rw [if_neg (show ¬ (I = x.length ∨ tR x (I - 1) = a ∨ kind = 0) by rintro (h | h | h) <;> contradiction),f4 (by omega) hta e3,show I - 1 + 1 = I by omega]
     rw [show I - 1 + 1 = I by omega] at hlt
     have : I < x.length := by omega
     simp [e3,hlt,hta,this]
end Go.Proofs
namespace Go.Proofs
open Go.Ab
abbrev T4 : Type := Nat × Nat × Nat × Nat
abbrev Ps : Type := Nat × Nat × Nat × List T4
theorem mend_eq (t : T4) : m_impl_MendTurn t = m_spec_l02Mend t ∧ p_impl_MendTurn t = true ∧ p_spec_l02Mend t = true := by
 refine ⟨?_,sqrt_narrow _,sqrt_narrow _⟩
 unfold m_impl_MendTurn m_spec_l02Mend m_impl_isLength
 have e : m_impl_LengthOfTurn t = m_spec_l01Sqrt (m_spec_l02Inner t t) := rfl
 rw [e]
 generalize m_spec_l01Sqrt (m_spec_l02Inner t t) = n
 have e2 : m_impl_IsFinite n = m_spec_l01Finite n := rfl
 rw [e2]
 by_cases h0 : feq .f32 n 0 = true <;> by_cases h1 : m_spec_l01Finite n = true <;> simp [h0,h1,m_impl_NoTurn,m_spec_l02No]
theorem near_eq (a b : T4) (s : Nat) : m_impl_NearTurn a b s = m_spec_l02Near a b s ∧ p_impl_NearTurn a b s = true ∧ p_spec_l02Near a b s = true := by
 refine ⟨?_,(mend_eq _).2.1,(mend_eq _).2.2⟩
 unfold m_impl_NearTurn m_spec_l02Near
 rw [(mend_eq _).1]
 rfl
end Go.Proofs
namespace Go.Proofs
open Go.Ab
/-- a turn on a track -/
def turnAt (x : List K5) (kind a : Int) : Nat × Nat × Nat × Nat :=
 if idxT (tK x) a x.length = 0 then (x.getD 0 default).2 else if idxT (tK x) a x.length = x.length ∨ tK x (idxT (tK x) a x.length - 1) = a ∨ kind = 0 then (x.getD (idxT (tK x) a x.length - 1) default).2
 else m_spec_l02Near (x.getD (idxT (tK x) a x.length - 1) default).2 (x.getD (idxT (tK x) a x.length) default).2 (shareOf kind (tK x (idxT (tK x) a x.length - 1)) a (tK x (idxT (tK x) a x.length)))
theorem turn_impl (x : List K5) (kind a L : Int) (h : okT (tK x) x.length L = true) : (m_impl_Key_sample ((),(),()) x kind a).2 = turnAt x kind a ∧ p_impl_Key_sample ((),(),()) x kind a = true := by
 obtain ⟨h1,h2,h3,h4⟩ := okT_have h
 have fs := impl_fst (l_impl_Key_sample_0 x kind a) (tK x) a x.length (by omega) (fun n k hk => by
   show (if (decide ((k : Int) < ((List.length x : Nat) : Int))) = true then _ else _) = _
   rw [if_pos (by simp; omega),inB_nat,atI_nat]
   unfold need
   rw [if_pos (by simp; omega)]
   rfl) (fun n k hk => by
   show (if (decide ((k : Int) < ((List.length x : Nat) : Int))) = true then _ else _) = _
   rw [if_neg (by simp; omega)]) (Int.toNat (((List.length x : Nat) : Int) - 0) + 2) x.length 0 (by omega) (by omega)
 have fs' : l_impl_Key_sample_0 x kind a (Int.toNat (((List.length x : Nat) : Int) - 0) + 2) 0 = some ((idxT (tK x) a x.length : Nat) : Int) := fs
 have hb := fstT_le (tK x) a x.length 0
 have hg := fstT_gt (tK x) a x.length 0
 unfold m_impl_Key_sample p_impl_Key_sample v_impl_Key_sample_2 v_impl_Key_sample_1 v_impl_Key_sample_0 turnAt m_impl_share
 rw [fs']
 simp only [Option.getD_some,Option.isSome_some,Bool.true_and]
 have hI : idxT (tK x) a x.length = fstT (tK x) a x.length 0 := rfl
 rw [← hI] at hb hg
 generalize idxT (tK x) a x.length = I at *
 by_cases e0 : I = 0
 ·subst e0
  have : inB 0 x.length = true := by simp [inB]; omega
  rw [if_pos rfl,if_pos (by simp),if_pos (by simp),this]
  exact ⟨by unfold m_impl_turnTrack_2; rw [show atI x 0 = x.getD 0 default by rw [← atI_nat]; rfl],rfl⟩
 ·have ew : IntKind.wrap .i64 ((I : Int) - 1) = ((I - 1 : Nat) : Int) := by rw [wrapI (by omega) (by omega)]; omega
  have i1 : inB ((I - 1 : Nat) : Int) x.length = true := by rw [inB_nat]; simp; omega
  have n0 : decide ((I : Int) = 0) = false := by simp; omega
  simp only [ew,i1,n0,atI_nat,Bool.false_eq_true,if_false,Bool.true_and]
  rw [if_neg e0]
  by_cases e1 : I = x.length
  ·have n1 : decide ((I : Int) = ((List.length x : Nat) : Int)) = true := by simp; omega
   simp only [n1,if_true]
   rw [if_pos (.inl e1)]
   exact ⟨rfl,trivial⟩
  ·have i2 : inB (I : Int) x.length = true := by rw [inB_nat]; simp; omega
   have n1 : decide ((I : Int) = ((List.length x : Nat) : Int)) = false := by simp; omega
   simp only [n1,i2,Bool.false_eq_true,if_false]
   have pn : ∀ a b s,p_impl_turnTrack_3 a b s = true := fun a b s => (near_eq a.2 b.2 s).2.1
   refine ⟨?_,by simp [pn]⟩
   have et : m_impl_turnTrack_1 (x.getD (I - 1) default) = tK x (I - 1) := rfl
   have et' : m_impl_turnTrack_1 (x.getD I default) = tK x I := rfl
   simp only [et,et']
   by_cases e2 : tK x (I - 1) = a
   ·rw [if_pos (show decide (tK x (I - 1) = a) = true by simpa using e2),if_pos (.inr (.inl e2))]; rfl
   ·rw [if_neg (show ¬ decide (tK x (I - 1) = a) = true by simpa using e2)]
    by_cases e3 : kind = 0
    ·rw [if_pos (show decide (kind = 0) = true by simpa using e3),if_pos (.inr (.inr e3))]; rfl
    ·rw [if_neg (show ¬ decide (kind = 0) = true by simpa using e3),if_neg (show ¬ (I = x.length ∨ tK x (I - 1) = a ∨ kind = 0) by rintro (h | h | h) <;> contradiction)]
     unfold m_impl_turnTrack_2 m_impl_turnTrack_3 shareOf
     have eb : m_impl_NearTurn = m_spec_l02Near := by funext a b s; exact (near_eq a b s).1
     rw [eb]
     by_cases e4 : kind = 2 <;> simp [e4]
theorem turn_spec (x : List K5) (kind a L : Int) (h : okT (tK x) x.length L = true) : m_spec_l05Turn x a kind = turnAt x kind a ∧ p_spec_l05Turn x a kind = true := by
 obtain ⟨h1,h2,h3,h4⟩ := okT_have h
 obtain ⟨f1,J,hJ,f2,f3,f4⟩ := find_ok (tK x) a kind L x.length h
 have hb := fstT_le (tK x) a x.length 0
 have hg := fstT_gt (tK x) a x.length 0
 have hl := fstT_lt (tK x) a x.length 0
 have hI : idxT (tK x) a x.length = fstT (tK x) a x.length 0 := rfl
 rw [← hI] at hb hg hl
 have hL : ((List.range' 0 x.length).map (tK x)).length = x.length := by simp
 have hw : IntKind.wrap .i64 ((J : Int) + 1) = ((J + 1 : Nat) : Int) := wrapS (by omega)
 unfold m_spec_l05Turn p_spec_l05Turn m_spec_l05Inside p_spec_l05Inside turnAt
 rw [(at_eq x (by omega)).1,(at_eq x (by omega)).2,f1,f2,hw,hL,inB_nat,inB_nat,atI_times _ hJ,atI_nat,atI_nat]
 have d1 : decide (J < x.length) = true := by simp; omega
 have pn : ∀ a b s,p_spec_l02Near a b s = true := fun a b s => (near_eq a b s).2.2
 simp only [pn]
 rw [d1]
 generalize idxT (tK x) a x.length = I at *
 by_cases e0 : I = 0
 ·subst e0
  have hJ0 : J = 0 := f3
  subst hJ0
  have hlt : ¬ tK x 0 < a := by have := hg (by omega); omega
  rw [if_pos rfl]
  by_cases e3 : kind = 0
  ·simp [e3]
  ·by_cases e4 : ((0 + 1 : Nat) : Int) < ((List.length x : Nat) : Int)
   ·simp [e3,hlt]
   ·simp [e3,hlt]
 ·rw [if_neg e0] at f3 ⊢
  subst f3
  have hle := hl (I - 1) (Nat.zero_le _) (by omega)
  by_cases e3 : kind = 0
  ·rw [if_pos (show I = x.length ∨ tK x (I - 1) = a ∨ kind = 0 from .inr (.inr e3))]; simp [e3]
  ·by_cases e1 : I = x.length
   ·rw [if_pos (show I = x.length ∨ tK x (I - 1) = a ∨ kind = 0 from .inl e1)]
    have : ¬ ((I - 1 + 1 : Nat) : Int) < ((List.length x : Nat) : Int) := by omega
    simp only [e3,decide_false,Bool.false_eq_true,if_false,this]
    simp
   ·have hlt : ((I - 1 + 1 : Nat) : Int) < ((List.length x : Nat) : Int) := by omega
    by_cases e2 : tK x (I - 1) = a
    ·rw [if_pos (show I = x.length ∨ tK x (I - 1) = a ∨ kind = 0 from .inr (.inl e2))]
     have : ¬ tK x (I - 1) < a := by omega
     simp [e3,hlt,this]
    ·have hta : tK x (I - 1) < a := by omega
     rw [if_neg (show ¬ (I = x.length ∨ tK x (I - 1) = a ∨ kind = 0) by rintro (h | h | h) <;> contradiction),f4 (by omega) hta e3,show I - 1 + 1 = I by omega]
     rw [show I - 1 + 1 = I by omega] at hlt
     have : I < x.length := by omega
     simp [e3,hlt,hta,this]
end Go.Proofs
namespace Go.Proofs
open Go.Ab
theorem eq_TurnS (x : List (Nat × Nat × Nat × Nat)) (h : x.length ≤ 1048576) : m_laws_eqTurnS x x = true ∧ p_laws_eqTurnS x x = true := by
 unfold m_laws_eqTurnS p_laws_eqTurnS
 rw [show l_laws_eqTurnS_0 x x (Int.toNat (((List.length x : Nat) : Int) - 0) + 2) 0 = some (false,default,()) from eq_loop _ x m_laws_eqTurn eq_Turn (by omega) fun _ _ => rfl]; simp
theorem eq_Pose (x : Nat × Nat × Nat × List (Nat × Nat × Nat × Nat)) (h : x.2.2.2.length ≤ 1048576) : m_laws_eqPose x x = true ∧ p_laws_eqPose x x = true := by
 unfold m_laws_eqPose p_laws_eqPose
 simp [eq_Vector,eq_TurnS _ h]
end Go.Proofs
namespace Go.Proofs
open Go.Ab
def gK (m : Int) : Int := IntKind.wrap .i64 ((IntKind.wrap .i64 ((IntKind.wrap .i64 ((IntKind.wrap .i64 ((IntKind.wrap .i64 (m + 1)) + 1)) + 1)) + 1)) + 1)
theorem gK_add (m : Int) (h0 : 0 ≤ m) (h : m ≤ 2 ^ 60) : gK m = m + (5 : Nat) := by
 unfold gK
 rw [wrapI (n := m + 1) (by omega) (by omega),wrapI (n := m + 1 + 1) (by omega) (by omega),wrapI (n := m + 1 + 1 + 1) (by omega) (by omega),wrapI (n := m + 1 + 1 + 1 + 1) (by omega) (by omega),wrapI (by omega) (by omega)]
 omega
def fK (z0_1 : Int) : K5 := (z0_1,(ofInt .f32 (IntKind.wrap .i64 (z0_1 + 1))),(ofInt .f32 (IntKind.wrap .i64 ((IntKind.wrap .i64 (z0_1 + 1)) + 1))),(ofInt .f32 (IntKind.wrap .i64 ((IntKind.wrap .i64 ((IntKind.wrap .i64 (z0_1 + 1)) + 1)) + 1))),(ofInt .f32 (IntKind.wrap .i64 ((IntKind.wrap .i64 ((IntKind.wrap .i64 ((IntKind.wrap .i64 (z0_1 + 1)) + 1)) + 1)) + 1))))
theorem mark_KeyS (x : List K5) (m : Int) (h : x.length ≤ 1048576) : m_laws_markKeyS x m = (iter gK x.length m,marks fK gK m x.length) ∧ p_laws_markKeyS x m = true := by
 unfold m_laws_markKeyS p_laws_markKeyS
 rw [mark_all l_laws_markKeyS_0 fK gK x m (by omega) fun _ _ _ _ => rfl]
 simp [marks_len]
def gR (m : Int) : Int := IntKind.wrap .i64 ((IntKind.wrap .i64 ((IntKind.wrap .i64 ((IntKind.wrap .i64 (m + 1)) + 1)) + 1)) + 1)
theorem gR_add (m : Int) (h0 : 0 ≤ m) (h : m ≤ 2 ^ 60) : gR m = m + (4 : Nat) := by
 unfold gR
 rw [wrapI (n := m + 1) (by omega) (by omega),wrapI (n := m + 1 + 1) (by omega) (by omega),wrapI (n := m + 1 + 1 + 1) (by omega) (by omega),wrapI (by omega) (by omega)]
 omega
def fR (z0_1 : Int) : B4 := (z0_1,(ofInt .f32 (IntKind.wrap .i64 (z0_1 + 1))),(ofInt .f32 (IntKind.wrap .i64 ((IntKind.wrap .i64 (z0_1 + 1)) + 1))),(ofInt .f32 (IntKind.wrap .i64 ((IntKind.wrap .i64 ((IntKind.wrap .i64 (z0_1 + 1)) + 1)) + 1))))
theorem mark_RootKeyS (x : List B4) (m : Int) (h : x.length ≤ 1048576) : m_laws_markRootKeyS x m = (iter gR x.length m,marks fR gR m x.length) ∧ p_laws_markRootKeyS x m = true := by
 unfold m_laws_markRootKeyS p_laws_markRootKeyS
 rw [mark_all l_laws_markRootKeyS_0 fR gR x m (by omega) fun _ _ _ _ => rfl]
 simp [marks_len]
theorem mark_SS : ∀ (x : List (List K5)) (k : Int),(∀ q ∈ x,q.length ≤ 1048576) → 0 ≤ k → k + 5242880 * (x.length : Int) ≤ 2 ^ 59 →
  0 ≤ (mkSS m_laws_markKeyS x k).1 ∧ (mkSS m_laws_markKeyS x k).1 ≤ k + 5242880 * (x.length : Int) ∧ pSS m_laws_markKeyS (fun x k => (p_laws_markKeyS x k && (decide (List.length (m_laws_markKeyS x k).2 = List.length x)))) x k = true
 | [],k,_,h0,_ => ⟨h0,by simp [mkSS],rfl⟩
 | q :: r,k,hq,h0,h1 => by
  have hql := hq q List.mem_cons_self
  obtain ⟨a1,a2⟩ := mark_KeyS q k hql
  simp only [List.length_cons] at h1
  have e : (m_laws_markKeyS q k).1 = k + ((5 * q.length : Nat) : Int) := by
   rw [a1]
   exact iter_add gK_add q.length k h0 (by omega)
  have ih := mark_SS r (m_laws_markKeyS q k).1 (fun z hz => hq z (List.mem_cons_of_mem _ hz)) (by omega) (by omega)
  refine ⟨ih.1,?_,?_⟩
  ·have := ih.2.1
   simp only [mkSS,List.length_cons]
   omega
  ·simp only [pSS,ih.2.2,a2,Bool.true_and,Bool.and_true,decide_eq_true_eq]
   rw [a1]; exact marks_len _ _ _ _
theorem mark_Clip (c : ClipT) (h : ShortC c) : p_laws_markClip c 1 = true ∧ ¬ (m_laws_markClip c 1).1 < 0 ∧ (m_laws_markClip c 1).2.1.length = c.2.2.1.length ∧ (m_laws_markClip c 1).2.2.length = c.2.2.2.length := by
 have hl := h.1.1
 obtain ⟨a1,a2,a3⟩ := mark_SS c.2.2.1 1 (short_mem h.1) (by omega) (by omega)
 have hr := h.2
 obtain ⟨b1,b2⟩ := mark_RootKeyS c.2.2.2 (mkSS m_laws_markKeyS c.2.2.1 1).1 hr
 have e : (iter gR c.2.2.2.length (mkSS m_laws_markKeyS c.2.2.1 1).1) = (mkSS m_laws_markKeyS c.2.2.1 1).1 + ((4 * c.2.2.2.length : Nat) : Int) := iter_add gR_add _ _ a1 (by omega)
 unfold p_laws_markClip m_laws_markClip p_laws_markKeySS m_laws_markKeySS
 simp only [b1,b2,a3,marks_len,mkSS_len,decide_true,Bool.and_true,e,and_true]
 refine ⟨by simp; omega,by omega⟩
end Go.Proofs
namespace Go.Proofs
open Go.Ab
def gT (m : Int) : Int := IntKind.wrap .i64 ((IntKind.wrap .i64 ((IntKind.wrap .i64 ((IntKind.wrap .i64 (m + 1)) + 1)) + 1)) + 1)
theorem gT_add (m : Int) (h0 : 0 ≤ m) (h : m ≤ 2 ^ 60) : gT m = m + (4 : Nat) := by
 unfold gT
 rw [wrapI (n := m + 1) (by omega) (by omega),wrapI (n := m + 1 + 1) (by omega) (by omega),wrapI (n := m + 1 + 1 + 1) (by omega) (by omega),wrapI (by omega) (by omega)]
 omega
def fT (m : Int) : Nat × Nat × Nat × Nat := (ofInt .f32 m,ofInt .f32 (IntKind.wrap .i64 (m + 1)),ofInt .f32 (IntKind.wrap .i64 ((IntKind.wrap .i64 (m + 1)) + 1)),ofInt .f32 (IntKind.wrap .i64 ((IntKind.wrap .i64 ((IntKind.wrap .i64 (m + 1)) + 1)) + 1)))
theorem mark_TurnS (x : List (Nat × Nat × Nat × Nat)) (m : Int) (h : x.length ≤ 1048576) : m_laws_markTurnS x m = (iter gT x.length m,marks fT gT m x.length) ∧ p_laws_markTurnS x m = true := by
 unfold m_laws_markTurnS p_laws_markTurnS
 rw [show l_laws_markTurnS_0 (Int.toNat (((List.length x : Nat) : Int) - 0) + 2) x m 0 = some (iter gT x.length m,marks fT gT m x.length) from mark_all _ fT gT x m (by omega) fun _ _ _ _ => rfl]
 exact ⟨rfl,by simp [marks_len]⟩
end Go.Proofs
namespace Go.Proofs
open Go.Ab
theorem held_TurnS (n : Nat) (m : Int) (h : n ≤ 1048576) : m_laws_heldTurnS (marks fT gT m n) m = iter gT n m ∧ p_laws_heldTurnS (marks fT gT m n) m = true := by
 unfold m_laws_heldTurnS p_laws_heldTurnS
 rw [show l_laws_heldTurnS_0 (marks fT gT m n) (Int.toNat (((List.length (marks fT gT m n) : Nat) : Int) - 0) + 2) m 0 = some (false,default,iter gT n m) from
  held_all _ fT gT (fun a m => feq .f32 a.1 (ofInt .f32 m) && (feq .f32 a.2.1 (ofInt .f32 (IntKind.wrap .i64 (m + 1))) && (feq .f32 a.2.2.1 (ofInt .f32 (IntKind.wrap .i64 ((IntKind.wrap .i64 (m + 1)) + 1))) && feq .f32 a.2.2.2 (ofInt .f32 (IntKind.wrap .i64 ((IntKind.wrap .i64 ((IntKind.wrap .i64 (m + 1)) + 1)) + 1)))))) _ m n rfl (by omega) (fun m => by
   simp [fT,feq_ofInt]) fun n m k => by
   show (if (decide (k < _)) = true then _ else _) = _
   split
   ·congr 1
    split
    ·rename_i h1; rw [h1]
     split
     ·rename_i h2; rw [h2]
      split
      ·rename_i h3; rw [h3]
       split
       ·rename_i h4; rw [h4]; rfl
       ·rename_i h4; rw [(Bool.not_eq_true _).mp h4]; first | rfl | (simp; done)
      ·rename_i h3; rw [(Bool.not_eq_true _).mp h3]; first | rfl | (simp; done)
     ·rename_i h2; rw [(Bool.not_eq_true _).mp h2]; first | rfl | (simp; done)
    ·rename_i h1; rw [(Bool.not_eq_true _).mp h1]; first | rfl | (simp; done)
   ·rfl]
 exact ⟨by simp,rfl⟩
end Go.Proofs
namespace Go.Proofs
open Go.Ab
theorem okClip_root {c : ClipT} (h : okClip c = true) : okT (tR c.2.2.2) c.2.2.2.length c.1 = true := by
 unfold okClip at h
 simp only [Bool.and_eq_true] at h
 exact h.2.2.2.2
theorem okClip_track {c : ClipT} (h : okClip c = true) (k : Nat) (hk : k < c.2.2.1.length) : okT (tK (c.2.2.1.getD k default)) (c.2.2.1.getD k default).length c.1 = true := by
 unfold okClip at h
 simp only [Bool.and_eq_true] at h
 exact List.all_eq_true.1 h.2.2.2.1 k (by rw [List.mem_range']; exact ⟨k,hk,by omega⟩)
/-- the turns of a clip -/
def turnsAt (c : ClipT) (a : Int) : List (Nat × Nat × Nat × Nat) := (List.range' 0 c.2.2.1.length).map fun k => turnAt (c.2.2.1.getD k default) c.2.1 a
theorem impl_turns (c : ClipT) (a : Int) (hk : okClip c = true) (hs : ShortC c) : l_impl_Clip_sample_0 c a (Int.toNat (((List.length c.2.2.1 : Nat) : Int) - 0) + 2) (List.replicate (Int.toNat ((List.length c.2.2.1 : Nat) : Int)) (0,0,0,0)) 0 = some (turnsAt c a) := by
 have h1 := hs.1.1
 have := fill_loop (l_impl_Clip_sample_0 c a) c.2.2.1.length (fun k => turnAt (c.2.2.1.getD k default) c.2.1 a) (by omega) (fun n z k hk' hz => by
   show (if (decide ((k : Int) < ((List.length c.2.2.1 : Nat) : Int))) = true then _ else _) = _
   obtain ⟨e1,e2⟩ := turn_impl (c.2.2.1.getD k default) c.2.1 a c.1 (okClip_track hk k hk')
   rw [if_pos (by simp; omega),inB_nat,inB_nat,atI_nat,e1,e2,Int.toNat_natCast]
   unfold need
   rw [if_pos (by simp; omega),if_pos rfl,if_pos (by simp; omega)]) (fun n z k hk => by
   show (if (decide ((k : Int) < ((List.length c.2.2.1 : Nat) : Int))) = true then _ else _) = _
   rw [if_neg (by simp; omega)]) (Int.toNat (((List.length c.2.2.1 : Nat) : Int) - 0) + 2) (List.replicate (Int.toNat ((List.length c.2.2.1 : Nat) : Int)) (0,0,0,0)) 0 (Nat.zero_le _) (by simp) (by omega)
 refine this.trans ?_
 simp only [List.take_zero,List.nil_append,Nat.sub_zero]
 rfl
theorem okClip_len {c : ClipT} (h : okClip c = true) : c.2.2.1.length ≤ 12 := by
 unfold okClip at h
 simp only [Bool.and_eq_true,decide_eq_true_eq] at h
 have := h.2.2.1.2
 omega
theorem spec_turns (c : ClipT) (a : Int) (hk : okClip c = true) : l_spec_l05Pose_0 c a (Int.toNat (((List.length c.2.2.1 : Nat) : Int) - 0) + 2) [] 0 = some (turnsAt c a) := by
 have h1 := okClip_len hk
 have := app_loop (l_spec_l05Pose_0 c a) c.2.2.1.length (fun k => turnAt (c.2.2.1.getD k default) c.2.1 a) (by omega) (fun k j => k = j) (fun n z k hk' hj => by
   show (if (decide ((k : Int) < ((List.length c.2.2.1 : Nat) : Int))) = true then _ else _) = _
   obtain ⟨e1,e2⟩ := turn_spec (c.2.2.1.getD k default) c.2.1 a c.1 (okClip_track hk k hk')
   rw [if_pos (by simp; omega),inB_nat,atI_nat,e1,e2]
   unfold need
   rw [if_pos (by simp; omega),if_pos rfl,if_pos (by simp; omega),if_pos (by simp; omega)]) (fun n z k hk => by
   show (if (decide ((k : Int) < ((List.length c.2.2.1 : Nat) : Int))) = true then _ else _) = _
   rw [if_neg (by simp; omega)]) (fun k j _ h => by omega) (Int.toNat (((List.length c.2.2.1 : Nat) : Int) - 0) + 2) [] 0 (Nat.zero_le _) (by simp) (by omega)
 exact this
theorem pose_eq (c : ClipT) (a : Int) (hk : okClip c = true) (hs : ShortC c) : p_impl_Clip_sample c a = true ∧ p_spec_l05Pose c a = true ∧ m_impl_Clip_sample c a = m_spec_l05Pose c a ∧ (m_spec_l05Pose c a).2.2.2.length ≤ 12 := by
 have hr := okClip_root hk
 have hl := okClip_len hk
 unfold p_impl_Clip_sample p_spec_l05Pose m_impl_Clip_sample m_spec_l05Pose p_impl_Clip_root m_impl_Clip_root
 rw [impl_turns c a hk hs,spec_turns c a hk,(root_impl _ _ _ _ hr).1,(root_impl _ _ _ _ hr).2,(root_spec _ _ _ _ hr).1,(root_spec _ _ _ _ hr).2]
 refine ⟨by simp; omega,by simp,rfl,?_⟩
 simp [turnsAt]; omega
theorem okClip_end {c : ClipT} (h : okClip c = true) : 1 ≤ c.1 ∧ c.1 ≤ 1000 := by
 unfold okClip at h
 simp only [Bool.and_eq_true,decide_eq_true_eq] at h
 exact h.1
end Go.Proofs
namespace Go.Proofs
open Go.Ab
abbrev Ps4 : Type := Nat × Nat × Nat × List (Nat × Nat × Nat × Nat)
/-- few poses of few turns -/
def Few (x : List Ps4) : Prop := x.length ≤ 64 ∧ ∀ q ∈ x,q.2.2.2.length ≤ 12
theorem few_getD {x : List Ps4} (h : Few x) {k : Nat} (hk : k < x.length) : (x.getD k default).2.2.2.length ≤ 12 := by
 refine h.2 _ ?_
 rw [List.getD_eq_getElem?_getD]
 simp [hk]
theorem eq_PoseS (x : List Ps4) (h : Few x) : m_laws_eqPoseS x x = true ∧ p_laws_eqPoseS x x = true := by
 have h1 := h.1
 unfold m_laws_eqPoseS p_laws_eqPoseS
 have := all_loop (l_laws_eqPoseS_0 x x) x.length (fun _ => true) (by omega) (fun n k hk => by
   show (if (decide ((k : Int) < ((List.length x : Nat) : Int))) = true then _ else _) = _
   have hq := few_getD h hk
   rw [if_pos (by simp; omega),inB_nat,atI_nat,(eq_Pose _ (by omega)).1,(eq_Pose _ (by omega)).2]
   unfold need
   rw [if_pos (by simp; omega),if_pos (by simp; omega),if_pos rfl]) (fun n k hk => by
   show (if (decide ((k : Int) < ((List.length x : Nat) : Int))) = true then _ else _) = _
   rw [if_neg (by simp; omega)]) (Int.toNat (((List.length x : Nat) : Int) - 0) + 2) 0 (Nat.zero_le _) (by omega)
 rw [show ((0 : Nat) : Int) = 0 from rfl,all_range_true (fun _ _ _ => rfl),if_pos rfl] at this
 rw [this]; simp
theorem w3_eq {k : Int} (h0 : 0 ≤ k) (h1 : k ≤ 2 ^ 40) : w3_laws_markPoseS k = k + 3 := by
 unfold w3_laws_markPoseS
 rw [wrapI (n := k + 1) (by omega) (by omega),wrapI (n := k + 1 + 1) (by omega) (by omega),wrapI (by omega) (by omega)]
 omega
theorem mkP_eq (p : Ps4) (k : Int) (h : p.2.2.2.length ≤ 12) (h0 : 0 ≤ k) (h1 : k ≤ 2 ^ 40) : (mkP_laws_markPoseS p k).1 = k + 3 + ((4 * p.2.2.2.length : Nat) : Int) ∧
  (mkP_laws_markPoseS p k).2 = (ofInt .f32 k,ofInt .f32 (IntKind.wrap .i64 (k + 1)),ofInt .f32 (IntKind.wrap .i64 ((IntKind.wrap .i64 (k + 1)) + 1)),marks fT gT (w3_laws_markPoseS k) p.2.2.2.length) ∧ p_laws_markTurnS p.2.2.2 (w3_laws_markPoseS k) = true ∧ (m_laws_markTurnS p.2.2.2 (w3_laws_markPoseS k)).2.length = p.2.2.2.length := by
 obtain ⟨a1,a2⟩ := mark_TurnS p.2.2.2 (w3_laws_markPoseS k) (by omega)
 unfold mkP_laws_markPoseS
 rw [a1]
 refine ⟨?_,rfl,a2,marks_len _ _ _ _⟩
 rw [w3_eq h0 h1]
 exact iter_add gT_add _ _ (by omega) (by omega)
theorem mark_PoseS : ∀ (x : List Ps4) (k : Int),(∀ q ∈ x,q.2.2.2.length ≤ 12) → 0 ≤ k → k + 51 * (x.length : Int) ≤ 2 ^ 40 →
  pSS mkP_laws_markPoseS (fun p k => (p_laws_markTurnS p.2.2.2 (w3_laws_markPoseS k) && (decide (List.length (m_laws_markTurnS p.2.2.2 (w3_laws_markPoseS k)).2 = List.length p.2.2.2)))) x k = true ∧
   ∀ i,i ≤ x.length → 0 ≤ ksSS mkP_laws_markPoseS x k i ∧ ksSS mkP_laws_markPoseS x k i ≤ k + 51 * (i : Int)
 | [],k,_,h0,_ => ⟨rfl,fun i hi => by cases i with
  | zero => exact ⟨by rw [ksSS_zero]; exact h0,by rw [ksSS_zero]; omega⟩
  | succ i => simp at hi⟩
 | q :: r,k,hq,h0,h1 => by
  simp only [List.length_cons] at h1
  have hql := hq q List.mem_cons_self
  obtain ⟨a1,a2,a3,a4⟩ := mkP_eq q k hql h0 (by omega)
  obtain ⟨b1,b2⟩ := mark_PoseS r (mkP_laws_markPoseS q k).1 (fun z hz => hq z (List.mem_cons_of_mem _ hz)) (by omega) (by omega)
  refine ⟨?_,fun i hi => ?_⟩
  ·simp only [pSS,b1,a3,a4,decide_true,Bool.and_true]
  ·cases i with
   | zero => exact ⟨by rw [ksSS_zero]; exact h0,by rw [ksSS_zero]; omega⟩
   | succ i =>
    have := b2 i (by simpa using hi)
    simp only [ksSS]
    omega
theorem held_loop (x : List Ps4) (h : Few x) : ∀ (n i : Nat),i ≤ x.length → x.length - i < n →
  l_laws_heldPoseS_0 (mkSS mkP_laws_markPoseS x 1).2 n (ksSS mkP_laws_markPoseS x 1 i) (i : Int) = some (false,default,ksSS mkP_laws_markPoseS x 1 x.length)
 | 0,i,_,hn => by omega
 | n + 1,i,hi,hn => by
  have hl := h.1
  obtain ⟨_,b2⟩ := mark_PoseS x 1 h.2 (by omega) (by omega)
  show (if (decide ((i : Int) < ((List.length (mkSS mkP_laws_markPoseS x 1).2 : Nat) : Int))) = true then _ else _) = _
  rw [mkSS_len]
  by_cases hlt : i < x.length
  ·have hx : x[i]? = some x[i] := by simp [hlt]
   have hq := h.2 _ (List.getElem_mem hlt)
   have hk := b2 i hi
   have hk1 := b2 (i + 1) (by omega)
   obtain ⟨g1,g2,_⟩ := mkSS_get mkP_laws_markPoseS (fun _ _ => true) x 1 i _ hx
   obtain ⟨a1,a2,_,_⟩ := mkP_eq x[i] (ksSS mkP_laws_markPoseS x 1 i) hq hk.1 (by omega)
   have hat : atI (mkSS mkP_laws_markPoseS x 1).2 (i : Int) = (mkP_laws_markPoseS x[i] (ksSS mkP_laws_markPoseS x 1 i)).2 := by
    rw [atI_nat,List.getD_eq_getElem?_getD,g1]; rfl
   rw [if_pos (by simp; omega),inB_nat,hat,a2]
   unfold need
   have e3 : IntKind.wrap .i64 ((IntKind.wrap .i64 ((IntKind.wrap .i64 (ksSS mkP_laws_markPoseS x 1 i + 1)) + 1)) + 1) = w3_laws_markPoseS (ksSS mkP_laws_markPoseS x 1 i) := rfl
   obtain ⟨t1,t2⟩ := held_TurnS x[i].2.2.2.length (w3_laws_markPoseS (ksSS mkP_laws_markPoseS x 1 i)) (by omega)
   have e4 : iter gT x[i].2.2.2.length (w3_laws_markPoseS (ksSS mkP_laws_markPoseS x 1 i)) = ksSS mkP_laws_markPoseS x 1 (i + 1) := by
    rw [g2,a1,w3_eq hk.1 (by omega)]
    exact iter_add gT_add _ _ (by omega) (by omega)
   simp only [feq_ofInt,if_true,e3,t1,t2,e4]
   rw [if_pos (by simp; omega),if_neg (by simp; omega),wrapS (by omega)]
   exact held_loop x h n (i + 1) (by omega) (by omega)
  ·rw [if_neg (by simp; omega),show i = x.length by omega]
theorem marks_PoseS (x : List Ps4) (h : Few x) : p_laws_markPoseS x 1 = true ∧ (m_laws_markPoseS x 1).2.length = x.length ∧ 0 ≤ (m_laws_markPoseS x 1).1 ∧
  m_laws_heldPoseS (m_laws_markPoseS x 1).2 1 = (m_laws_markPoseS x 1).1 ∧ p_laws_heldPoseS (m_laws_markPoseS x 1).2 1 = true := by
 have hl := h.1
 obtain ⟨b1,b2⟩ := mark_PoseS x 1 h.2 (by omega) (by omega)
 have hh := held_loop x h (Int.toNat (((List.length (mkSS mkP_laws_markPoseS x 1).2 : Nat) : Int) - 0) + 2) 0 (Nat.zero_le _) (by rw [mkSS_len]; omega)
 rw [ksSS_zero,show ((0 : Nat) : Int) = 0 from rfl] at hh
 unfold p_laws_markPoseS m_laws_markPoseS m_laws_heldPoseS p_laws_heldPoseS
 rw [hh,b1,mkSS_fst]
 refine ⟨by simp; omega,mkSS_len _ _ _,(b2 x.length (Nat.le_refl _)).1,by simp,rfl⟩
theorem spec_play (c : ClipT) (a b : Int) (N : Nat) (hN : N ≤ 64) (hk : okClip c = true) (hs : ShortC c) : l_spec_PlayClip_0 c a b (N : Int) (Int.toNat ((N : Int) - 0) + 2) [] 0 = some ((List.range' 0 N).map fun i => m_spec_l05Pose c (t_impl_PlayClip c a b i)) := by
 obtain ⟨e1,e2⟩ := okClip_end hk
 have := app_loop (l_spec_PlayClip_0 c a b (N : Int)) N (fun i => m_spec_l05Pose c (t_impl_PlayClip c a b i)) (by omega) (fun k j => k = j) (fun n z k hk' hj => by
   show (if (decide ((k : Int) < (N : Int))) = true then _ else _) = _
   have ep : p_spec_l05Pose c (Int.tmod (IntKind.wrap .i64 (a + (IntKind.wrap .i64 ((k : Int) * b)))) c.1) = true := (pose_eq c (t_impl_PlayClip c a b k) hk hs).2.1
   rw [if_pos (by simp; omega),ep]
   unfold need
   rw [if_pos (by simp; omega),if_pos rfl,if_pos (by simp; omega),if_pos (by simp; omega)]
   rfl) (fun n z k hk => by
   show (if (decide ((k : Int) < (N : Int))) = true then _ else _) = _
   rw [if_neg (by simp; omega)]) (fun k j _ h => by omega) (Int.toNat ((N : Int) - 0) + 2) [] 0 (Nat.zero_le _) (by simp) (by omega)
 exact this
theorem core_PlayClip (c : ClipT) (a b n : Int) (h : ShortC c) : p_impl_PlayClip c a b n = true ∧ p_spec_PlayClip c a b n = true ∧ m_impl_PlayClip c a b n = m_spec_PlayClip c a b n ∧ Few (m_spec_PlayClip c a b n).1 := by
 obtain ⟨c1,c2,c3,c4⟩ := core_ValidClip c h
 have few0 : Few [] := ⟨by simp,fun q hq => by cases hq⟩
 unfold p_impl_PlayClip p_spec_PlayClip m_impl_PlayClip m_spec_PlayClip bad_impl_PlayClip
 rw [c1,c2,c3,c4]
 cases hk : okClip c with
 | false => simp [few0]
 | true =>
  obtain ⟨e1,e2⟩ := okClip_end hk
  rw [l00In_iff,l00In_iff,l00In_iff]
  by_cases g1 : 0 ≤ a ∧ a ≤ 1000
  ·by_cases g2 : 0 ≤ b ∧ b ≤ 1000
   ·by_cases g3 : 0 ≤ n ∧ n ≤ 64
    ·obtain ⟨N,rfl⟩ : ∃ N : Nat,n = (N : Int) := ⟨n.toNat,by omega⟩
     have hN : N ≤ 64 := by omega
     rw [spec_play c a b N hN hk h]
     have i1 : ¬ a < 0 := by omega
     have i2 : ¬ 1000 < a := by omega
     have i3 : ¬ b < 0 := by omega
     have i4 : ¬ 1000 < b := by omega
     have i5 : ¬ (N : Int) < 0 := by omega
     have i6 : ¬ 64 < (N : Int) := by omega
     have i7 : ¬ c.1 = 0 := by omega
     have hall : ∀ i,p_impl_Clip_sample c (t_impl_PlayClip c a b i) = true := fun i => (pose_eq c _ hk h).1
     have heq : ∀ i,m_impl_Clip_sample c (t_impl_PlayClip c a b i) = m_spec_l05Pose c (t_impl_PlayClip c a b i) := fun i => (pose_eq c _ hk h).2.2.1
     refine ⟨by simp [i1,i2,i3,i4,i5,i6,i7,hall],by simp [g1,g2,g3],by simp [i1,i2,i3,i4,i5,i6,g1,g2,g3,heq],?_⟩
     simp only [g1,g2,g3,decide_true,Bool.and_self,if_true,Option.getD_some]
     refine ⟨by simp; omega,fun q hq => ?_⟩
     obtain ⟨i,_,rfl⟩ := List.mem_map.1 hq
     exact (pose_eq c _ hk h).2.2.2
    ·have e : (decide (n < 0) || decide (64 < n)) = true := by
      simp only [Bool.or_eq_true,decide_eq_true_eq]; omega
     have e' : (decide (0 ≤ n) && decide (n ≤ 64)) = false := by
      rw [Bool.and_eq_false_iff]; simp only [decide_eq_false_iff_not]; omega
     rw [e,e']
     simp [few0]
   ·have e : (decide (b < 0) || (decide (1000 < b) || (decide (n < 0) || decide (64 < n)))) = true := by
     simp only [Bool.or_eq_true,decide_eq_true_eq]; omega
    have e' : (decide (0 ≤ b) && decide (b ≤ 1000)) = false := by
     rw [Bool.and_eq_false_iff]; simp only [decide_eq_false_iff_not]; omega
    rw [e,e']
    simp [few0]
  ·have e : (decide (a < 0) || (decide (1000 < a) || (decide (b < 0) || (decide (1000 < b) || (decide (n < 0) || decide (64 < n)))))) = true := by
    simp only [Bool.or_eq_true,decide_eq_true_eq]; omega
   have e' : (decide (0 ≤ a) && decide (a ≤ 1000)) = false := by
    rw [Bool.and_eq_false_iff]; simp only [decide_eq_false_iff_not]; omega
   rw [e,e']
   simp [few0]
theorem law_PlayClip (a b : Int) (x : List (List K5)) (y : List B4) (_ : (Lit.int .i64 a).wf = true) (_ : (Lit.int .i64 b).wf = true) (hx : x.length ≤ maxLen)
  (hq : ∀ q ∈ x,List.length q ≤ maxLen ∧ (∀ qq ∈ q,(Lit.int .i64 qq.1).wf = true ∧ Canon .f32 qq.2.1 ∧ Canon .f32 qq.2.2.1 ∧ Canon .f32 qq.2.2.2.1 ∧ Canon .f32 qq.2.2.2.2)) (hy : y.length ≤ maxLen)
  (_ : ∀ q ∈ y,(Lit.int .i64 q.1).wf = true ∧ Canon .f32 q.2.1 ∧ Canon .f32 q.2.2.1 ∧ Canon .f32 q.2.2.2) (f : Int) (_ : (Lit.int .i64 f).wf = true) (s : Int) (_ : (Lit.int .i64 s).wf = true) (n : Int) (_ : (Lit.int .i64 n).wf = true) :
  g_laws_FnExactPlayClip [.agg [.int .i64 a,.int .i64 b,.sl (List.map en1 x),.sl (List.map en2 y)],.int .i64 f,.int .i64 s,.int .i64 n] = some (.bool true) := by
 have key : p_laws_FnExactPlayClip (a,b,x,y) f s n = true ∧ m_laws_FnExactPlayClip (a,b,x,y) f s n = true := by
  unfold p_laws_FnExactPlayClip m_laws_FnExactPlayClip v_laws_FnExactPlayClip_0
  have hc : HasC' (a,b,x,y) := ⟨hx,has_of hq,hy⟩
  obtain ⟨s1,s2⟩ := sz_Clip (a,b,x,y) 1048576 hc (by omega) (by omega)
  by_cases hs : m_laws_szClip (a,b,x,y) 1048576 < 0
  ·simp [hs,s1]
  ·obtain ⟨k1,k2,k3⟩ := s2 hs
   obtain ⟨c1,c2,c3,c4⟩ := core_PlayClip (a,b,x,y) f s n k1
   obtain ⟨m1,m2,m3,m4⟩ := mark_Clip (a,b,x,y) k1
   rw [(to_Clip _ k1).1,c3]
   generalize (m_spec_PlayClip (a,b,x,y) f s n) = r at *
   obtain ⟨n1,n2,n3,n4,n5⟩ := marks_PoseS r.1 c4
   have i2 : ¬ (m_laws_markPoseS r.1 1).1 < 0 := by omega
   simp [hs,s1,to_Clip _ k1,c1,c2,eq_PoseS r.1 c4,eq_Clip _ k1,m1,m2,m3,m4,n1,n2,n4,n5,i2]
 unfold g_laws_FnExactPlayClip
 simp only [dc_en1_map,dc_en2_map,key.1,key.2,if_true]
end Go.Proofs
