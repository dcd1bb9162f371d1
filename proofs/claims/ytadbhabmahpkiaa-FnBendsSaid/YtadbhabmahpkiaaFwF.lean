/- The greater and the lesser of two, and what a bend needs. No conditions. -/
import Derived.Test.YtadbhabmahpkiaaFwE
set_option linter.all false
namespace Go.Ab
open Go.RowKit

/-- what a cell says when the block 'l' is no longer the frame's own -/
def frz1 (l : Nat) (b : Blk) : AV → AV
  | .lsl m off len => if m = l then .sl (partL b.elems off len) else .lsl m off len
  | .lptr m i off => if m = l then .any else .lptr m i off
  | .agg _ | .tup _ => .any
  | .fn f x y => if (x.isEmpty && y.isEmpty) = true then .fn f x y else .any
  | x => x
def frzV (l : Nat) (b : Blk) : AV → AV
  | .agg cs => .agg (cs.map (frz1 l b))
  | x => frz1 l b x
def frzB (l : Nat) (b : Blk) (c : Blk) : Blk := if c.pur = true then c else { c with elems := c.elems.map (frzV l b) }
def frzS (l : Nat) (b : Blk) (st : St) : St := ⟨st.env.map fun p => (p.1, frzV l b p.2), (l, none) :: st.heap.map fun p => (p.1, p.2.map (frzB l b))⟩

theorem frz1_cells (l : Nat) (b : Blk) (x : AV) : (frz1 l b x).cells = [frz1 l b x] := by
  cases x <;> first | rfl | (simp only [frz1]; split <;> rfl)
theorem frzV_cells (l : Nat) (b : Blk) (x : AV) : (frzV l b x).cells.length = x.cells.length ∧ ∀ (j : Nat) d, (frzV l b x).cells[j]? = some d → ∃ d', x.cells[j]? = some d' ∧ d = frz1 l b d' := by
  have single : x.cells = [x] → frzV l b x = frz1 l b x → (frzV l b x).cells.length = x.cells.length ∧ ∀ (j : Nat) d, (frzV l b x).cells[j]? = some d → ∃ d', x.cells[j]? = some d' ∧ d = frz1 l b d' := by
    intro e1 e2
    rw [e2, frz1_cells, e1]
    refine ⟨rfl, fun j d hd => ?_⟩
    obtain ⟨rfl, rfl⟩ := single_get hd
    exact ⟨x, rfl, rfl⟩
  cases x with
  | agg cs =>
    refine ⟨by show (cs.map _).length = cs.length; simp, fun j d hd => ?_⟩
    change (cs.map (frz1 l b))[j]? = some d at hd
    simp only [List.getElem?_map, Option.map_eq_some_iff] at hd
    obtain ⟨d', h1, h2⟩ := hd
    exact ⟨d', h1, h2.symm⟩
  | _ => exact single rfl rfl

section
variable {l : Nat} {b : Blk} {ρ ρ' : Nat → Option Nat} {h h' : Nat → Option Blk} {w : World} {Z Z' : Nat → Prop}
theorem V.frz1 (hp : Hp ρ h w Z) (hb : h l = some b) (hpur : b.pur = true) (hz : ∀ k, Z k → Z' k) (hl : ∀ B, ρ l = some B → Z' B)
    (hr : ∀ m c, m ≠ l → h m = some c → ρ' m = ρ m ∧ ∃ c', h' m = some c' ∧ c'.es = c.es ∧ c'.elems.length = c.elems.length) {v : Value} {x : AV} (hv : V ρ h w Z v x) : V ρ' h' w Z' v (frz1 l b x) := by
  cases x with
  | lsl m off len =>
    simp only [Go.Ab.frz1]
    split
    · rename_i e; subst e
      rw [partL_eq]
      rcases lsl_inv hv with ⟨B, b', t, n, cap, h1, h2, h3, rfl, h4, h5, h6, h7⟩ | ⟨b', h1, h2, hnil, rfl, rfl⟩
      · rw [hb] at h2; cases h2
        obtain ⟨c, ct, g1, g2, g3, _, g5⟩ := hp.blk m b B hb h1
        have hlen : ((b.elems.drop off).take len).length = len := by simp; omega
        have get : ∀ (i : Nat) x, ((b.elems.drop off).take len)[i]? = some x → b.elems[off + i]? = some x := by
          intro i x hx
          have hi : i < len := by
            have := (List.getElem?_eq_some_iff.1 hx).1
            omega
          rw [List.getElem?_take_of_lt hi, List.getElem?_drop] at hx
          exact hx
        refine .pure (.sl B (off * b.es) len cap b.es _ hlen h4 h7 (fun _ => hl B h1) (fun x hx => g3 x (List.mem_of_mem_drop (List.mem_of_mem_take hx))) (fun i x j d q1 q2 => ?_) (fun i x j d u q1 q2 q3 => ?_))
        · have q1' := get i x q1
          have hi := (List.getElem?_eq_some_iff.1 q1').1
          have hj : j < b.es := by rw [← g3 x (List.mem_of_getElem? q1')]; exact (List.getElem?_eq_some_iff.1 q2).1
          have hk := idx_lt hi hj
          rw [cell_of w B _ c ct _ g1, ← Nat.add_mul]
          exact ⟨_, Array.getElem?_eq_getElem (show (off + i) * b.es + j < c.size by omega)⟩
        · have q1' := get i x q1
          rw [cell_of w B _ c ct _ g1, ← Nat.add_mul] at q3
          exact (g5 hpur (off + i) x j d u q1' q2 q3).widen hz
      · exact .pure hnil.v0
    · rename_i e
      exact hv.but (l := l) (fun k hk => ⟨hz k hk, rfl⟩) (fun m c hm hc => let ⟨e1, e2⟩ := hr m c hm hc; ⟨e1, e2, fun _ _ => rfl⟩) (by simpa [name1] using e)
  | lptr m i off =>
    simp only [Go.Ab.frz1]
    split
    · exact .pure (.any v)
    · rename_i e
      exact hv.but (l := l) (fun k hk => ⟨hz k hk, rfl⟩) (fun m c hm hc => let ⟨e1, e2⟩ := hr m c hm hc; ⟨e1, e2, fun _ _ => rfl⟩) (by simpa [name1] using e)
  | agg => exact .pure (.any v)
  | tup => exact .pure (.any v)
  | fn f x y =>
    simp only [Go.Ab.frz1]
    split
    · rename_i e
      exact hv.but (l := l) (fun k hk => ⟨hz k hk, rfl⟩) (fun m c hm hc => let ⟨e1, e2⟩ := hr m c hm hc; ⟨e1, e2, fun _ _ => rfl⟩) (by simp [name1]; simpa using e)
    · exact .pure (.any v)
  | _ => exact hv.but (l := l) (fun k hk => ⟨hz k hk, rfl⟩) (fun m c hm hc => let ⟨e1, e2⟩ := hr m c hm hc; ⟨e1, e2, fun _ _ => rfl⟩) rfl
theorem V.frzV (hp : Hp ρ h w Z) (hb : h l = some b) (hpur : b.pur = true) (hz : ∀ k, Z k → Z' k) (hl : ∀ B, ρ l = some B → Z' B)
    (hr : ∀ m c, m ≠ l → h m = some c → ρ' m = ρ m ∧ ∃ c', h' m = some c' ∧ c'.es = c.es ∧ c'.elems.length = c.elems.length) {v : Value} {x : AV} (hv : V ρ h w Z v x) : V ρ' h' w Z' v (frzV l b x) := by
  cases x with
  | agg cs =>
    obtain ⟨vs, rfl, hlen, hd⟩ := agg_inv hv
    refine .agg vs _ (by simpa using hlen) fun i c d q1 q2 => ?_
    simp only [List.getElem?_map, Option.map_eq_some_iff] at q2
    obtain ⟨d', q2, rfl⟩ := q2
    exact (hd i c d' q1 q2).frz1 hp hb hpur hz hl hr
  | _ => exact hv.frz1 hp hb hpur hz hl hr
end

theorem wk_frz {l : Nat} {b : Blk} {st : St} (hb : st.hp l = some b) (hpur : b.pur = true) : Wk st (frzS l b st) := by
  rintro cf a w ⟨ρ, h⟩
  have hget : ∀ t, (frzS l b st).get t = frzV l b (st.get t) := fun t => lk_map AV.any AV.any (frzV l b) rfl st.env t
  have hhp : ∀ m, (frzS l b st).hp m = if l = m then none else (st.hp m).map (frzB l b) := by
    intro m
    show (if l = m then none else lk none (st.heap.map fun p => (p.1, p.2.map (frzB l b))) m) = _
    rw [lk_map none none (fun x : Option Blk => x.map (frzB l b)) rfl]
    rfl
  have hB : ∀ c, (frzB l b c).es = c.es ∧ (frzB l b c).elems.length = c.elems.length ∧ (frzB l b c).pur = c.pur := by
    intro c; unfold frzB; split <;> simp_all
  have hz : ∀ k, Zf cf.Z0 cf.base ρ st.hp w k → Zf cf.Z0 cf.base ρ (frzS l b st).hp w k := fun k hk => ⟨hk.1, hk.2.1, fun m hm he => hk.2.2 m (by
    rw [hhp] at hm
    split at hm
    · cases hm
    · simpa using hm) he⟩
  have hl : ∀ B, ρ l = some B → Zf cf.Z0 cf.base ρ (frzS l b st).hp w B := by
    intro B hlB
    obtain ⟨c, t, g1, _⟩ := h.hp.blk l b B hb hlB
    refine ⟨?_, (Array.getElem?_eq_some_iff.1 g1).1, fun m hm he => ?_⟩
    · rcases h.own l B (by simp [hb]) hlB with g | g
      · exact .inr g
      · exact .inl (cf.hM B g)
    · rw [hhp] at hm
      split at hm
      · cases hm
      · rename_i hne
        exact hne (h.hp.inj l m B (by simp [hb]) (by simpa using hm) hlB he)
  have hr : ∀ m c, m ≠ l → st.hp m = some c → ρ m = ρ m ∧ ∃ c', (frzS l b st).hp m = some c' ∧ c'.es = c.es ∧ c'.elems.length = c.elems.length := by
    intro m c hm hc
    refine ⟨rfl, frzB l b c, ?_, (hB c).1, (hB c).2.1⟩
    rw [hhp, if_neg (Ne.symm hm), hc]; rfl
  have hold : ∀ m c, (frzS l b st).hp m = some c → ∃ c0, st.hp m = some c0 ∧ c = frzB l b c0 := by
    intro m c hc
    rw [hhp] at hc
    split at hc
    · cases hc
    · simp only [Option.map_eq_some_iff] at hc
      obtain ⟨c0, h1, h2⟩ := hc
      exact ⟨c0, h1, h2.symm⟩
  have hsome : ∀ m, ((frzS l b st).hp m).isSome = true → (st.hp m).isSome = true := by
    intro m hm
    obtain ⟨c, hc⟩ := Option.isSome_iff_exists.1 hm
    obtain ⟨c0, h1, _⟩ := hold m c hc
    simp [h1]
  refine ⟨ρ, ⟨⟨fun m c B hc hB' => ?_, fun m c hc hn => ?_, fun m m' B h1 h2 => h.hp.inj m m' B (hsome m h1) (hsome m' h2)⟩, fun t => ?_, h.size, h.defers, h.fr, fun m B hm => h.own m B (hsome m hm), h.z0, h.pin, h.shp⟩⟩
  · obtain ⟨c0, h0, rfl⟩ := hold m c hc
    obtain ⟨cs, t, g1, g2, g3, g4, g5⟩ := h.hp.blk m c0 B h0 hB'
    unfold frzB
    split
    · rename_i hpc
      exact ⟨cs, t, g1, g2, g3, fun i x j d v q1 q2 q3 => .pure ((g5 hpc i x j d v q1 q2 q3).widen hz), fun _ i x j d v q1 q2 q3 => (g5 hpc i x j d v q1 q2 q3).widen hz⟩
    · rename_i hpc
      refine ⟨cs, t, g1, by simpa using g2, fun x hx => ?_, fun i x j d v q1 q2 q3 => ?_, fun hp => absurd hp hpc⟩
      · simp only [List.mem_map] at hx
        obtain ⟨y, hy, rfl⟩ := hx
        rw [(frzV_cells l b y).1]; exact g3 y hy
      · simp only [List.getElem?_map, Option.map_eq_some_iff] at q1
        obtain ⟨y, hy, rfl⟩ := q1
        obtain ⟨d', hd', hdd⟩ := (frzV_cells l b y).2 j d q2
        have g7 := g4 i y j d' v hy hd' q3
        rw [hdd]
        exact g7.frz1 h.hp hb hpur hz hl hr
  · obtain ⟨c0, h0, rfl⟩ := hold m c hc
    have := h.hp.nil m c0 h0 hn
    have hlen := (hB c0).2.1
    rw [this] at hlen
    exact List.eq_nil_of_length_eq_zero hlen
  · rw [hget]
    exact (h.tmp t).frzV h.hp hb hpur hz hl hr
end Go.Ab

namespace Go.Ab
open Go.RowKit

def swN (a b n : Nat) : Nat := if n = a then b else if n = b then a else n
theorem swN_swN (a b n : Nat) : swN a b (swN a b n) = n := by
  unfold swN
  by_cases h1 : n = a
  · subst h1
    by_cases h2 : b = n
    · subst h2; simp
    · simp [h2]
  · by_cases h2 : n = b
    · subst h2; simp [h1]
    · simp [h1, h2]
theorem swN_hi {a b n : Nat} (ha : a < 1000000) (hb : b < 1000000) (hn : 1000000 ≤ n) : swN a b n = n := by
  unfold swN
  rw [if_neg (by omega), if_neg (by omega)]
/-- what a cell says when 'a' and 'b' change names -/
def ren1 (a b : Nat) : AV → AV
  | .lsl m off len => .lsl (swN a b m) off len
  | .lptr m i off => .lptr (swN a b m) i off
  | .agg _ | .tup _ => .any
  | .fn f x y => if (x.isEmpty && y.isEmpty) = true then .fn f x y else .any
  | x => x
def renV (a b : Nat) : AV → AV
  | .agg cs => .agg (cs.map (ren1 a b))
  | x => ren1 a b x
def renB (a b : Nat) (c : Blk) : Blk := if c.pur = true then c else { c with elems := c.elems.map (renV a b) }
def renS (a b : Nat) (st : St) : St := ⟨st.env.map fun p => (p.1, renV a b p.2), st.heap.map fun p => (swN a b p.1, p.2.map (renB a b))⟩

theorem ren1_cells (a b : Nat) (x : AV) : (ren1 a b x).cells = [ren1 a b x] := by
  cases x <;> first | rfl | (simp only [ren1]; split <;> rfl)
theorem renV_cells (a b : Nat) (x : AV) : (renV a b x).cells.length = x.cells.length ∧ ∀ (j : Nat) d, (renV a b x).cells[j]? = some d → ∃ d', x.cells[j]? = some d' ∧ d = ren1 a b d' := by
  have single : x.cells = [x] → renV a b x = ren1 a b x → (renV a b x).cells.length = x.cells.length ∧ ∀ (j : Nat) d, (renV a b x).cells[j]? = some d → ∃ d', x.cells[j]? = some d' ∧ d = ren1 a b d' := by
    intro e1 e2
    rw [e2, ren1_cells, e1]
    refine ⟨rfl, fun j d hd => ?_⟩
    obtain ⟨rfl, rfl⟩ := single_get hd
    exact ⟨x, rfl, rfl⟩
  cases x with
  | agg cs =>
    refine ⟨by show (cs.map _).length = cs.length; simp, fun j d hd => ?_⟩
    change (cs.map (ren1 a b))[j]? = some d at hd
    simp only [List.getElem?_map, Option.map_eq_some_iff] at hd
    obtain ⟨d', h1, h2⟩ := hd
    exact ⟨d', h1, h2.symm⟩
  | _ => exact single rfl rfl
theorem renB_same (a b : Nat) (c : Blk) : (renB a b c).es = c.es ∧ (renB a b c).elems.length = c.elems.length ∧ (renB a b c).pur = c.pur := by
  unfold renB; split <;> simp_all

section
variable {a b : Nat} {ρ : Nat → Option Nat} {h h' : Nat → Option Blk} {w : World} {Z Z' : Nat → Prop}
theorem V.ren1 (hz : ∀ k, Z k → Z' k) (hr : ∀ m, h' (swN a b m) = (h m).map (renB a b)) {v : Value} {x : AV} (hv : V ρ h w Z v x) : V (fun m => ρ (swN a b m)) h' w Z' v (ren1 a b x) := by
  have hk : ∀ {m : Nat} {c : Blk}, h m = some c → h' (swN a b m) = some (renB a b c) := by
    intro m c hc; rw [hr, hc]; rfl
  cases x with
  | lsl m off len =>
    cases hv with
    | pure h0 => cases h0
    | lsl _ _ _ cap B c t n hρ hh hw hc hn hl hm =>
      obtain ⟨e1, e2, _⟩ := renB_same a b c
      rw [← e1] at hn ⊢
      rw [← e2] at hl
      exact .lsl _ _ _ cap B _ t n (by show ρ (swN a b (swN a b m)) = some B; rw [swN_swN]; exact hρ) (hk hh) hw hc hn hl hm
    | lnil _ c hv hρ hh => exact .lnil _ _ hv (by show ρ (swN a b (swN a b m)) = none; rw [swN_swN]; exact hρ) (hk hh)
  | lptr m i off =>
    cases hv with
    | pure h0 => cases h0
    | lptr _ _ _ B c hρ hh =>
      obtain ⟨e1, _, _⟩ := renB_same a b c
      rw [← e1]
      exact .lptr _ _ _ B _ (by show ρ (swN a b (swN a b m)) = some B; rw [swN_swN]; exact hρ) (hk hh)
  | agg => exact .pure (.any v)
  | tup => exact .pure (.any v)
  | fn f x y =>
    simp only [Go.Ab.ren1]
    split
    · rename_i e
      simp only [Bool.and_eq_true, List.isEmpty_iff] at e
      obtain ⟨rfl, rfl⟩ := e
      cases hv with
      | pure h0 => exact .pure (h0.widen hz)
      | fn _ c1 c2 _ _ l1 l2 _ _ => exact .fn f c1 c2 [] [] l1 l2 (fun i c d _ q => by simp at q) (fun i c d _ q => by simp at q)
    · exact .pure (.any v)
  | _ =>
    cases hv with
    | pure h0 => exact .pure (h0.widen hz)
theorem V.renV (hz : ∀ k, Z k → Z' k) (hr : ∀ m, h' (swN a b m) = (h m).map (renB a b)) {v : Value} {x : AV} (hv : V ρ h w Z v x) : V (fun m => ρ (swN a b m)) h' w Z' v (renV a b x) := by
  cases x with
  | agg cs =>
    obtain ⟨vs, rfl, hlen, hd⟩ := agg_inv hv
    refine .agg vs _ (by simpa using hlen) fun i c d q1 q2 => ?_
    simp only [List.getElem?_map, Option.map_eq_some_iff] at q2
    obtain ⟨d', q2, rfl⟩ := q2
    exact (hd i c d' q1 q2).ren1 hz hr
  | _ => exact hv.ren1 hz hr
end
theorem lk_ren (a b : Nat) (f : Blk → Blk) : ∀ (l : List (Nat × Option Blk)) (m : Nat), lk none (l.map fun p => (swN a b p.1, p.2.map f)) m = (lk none l (swN a b m)).map f
  | [], _ => rfl
  | (k, x) :: l, m => by
    simp only [List.map_cons, lk]
    have : (swN a b k = m) = (k = swN a b m) := by
      apply propext; constructor
      · rintro rfl; rw [swN_swN]
      · rintro rfl; rw [swN_swN]
    simp only [this]
    split
    · rfl
    · exact lk_ren a b f l m

theorem wk_ren {a b : Nat} {st : St} (hab : (decide (a < 1000000) && decide (b < 1000000)) = true) : Wk st (renS a b st) := by
  simp only [Bool.and_eq_true, decide_eq_true_eq] at hab
  rintro cf ac w ⟨ρ, h⟩
  have hget : ∀ t, (renS a b st).get t = renV a b (st.get t) := fun t => lk_map AV.any AV.any (renV a b) rfl st.env t
  have hhp : ∀ m, (renS a b st).hp m = (st.hp (swN a b m)).map (renB a b) := fun m => lk_ren a b (renB a b) st.heap m
  have hr : ∀ m, (renS a b st).hp (swN a b m) = (st.hp m).map (renB a b) := fun m => by rw [hhp, swN_swN]
  have hsome : ∀ m, ((renS a b st).hp m).isSome = true → (st.hp (swN a b m)).isSome = true := fun m hm => by rw [hhp] at hm; simpa using hm
  have hz : ∀ k, Zf cf.Z0 cf.base ρ st.hp w k → Zf cf.Z0 cf.base (fun m => ρ (swN a b m)) (renS a b st).hp w k := fun k hk => ⟨hk.1, hk.2.1, fun m hm he => hk.2.2 _ (hsome m hm) he⟩
  have hold : ∀ m c, (renS a b st).hp m = some c → ∃ c0, st.hp (swN a b m) = some c0 ∧ c = renB a b c0 := by
    intro m c hc
    rw [hhp] at hc
    simp only [Option.map_eq_some_iff] at hc
    obtain ⟨c0, h1, h2⟩ := hc
    exact ⟨c0, h1, h2.symm⟩
  refine ⟨fun m => ρ (swN a b m), ⟨⟨fun m c B hc hB' => ?_, fun m c hc hn => ?_, fun m m' B h1 h2 e1 e2 => ?_⟩, fun t => ?_, h.size, h.defers, h.fr, fun m B hm hB => h.own _ B (hsome m hm) hB, h.z0, fun l hl => ?_, h.shp⟩⟩
  · obtain ⟨c0, h0, rfl⟩ := hold m c hc
    obtain ⟨cs, t, g1, g2, g3, g4, g5⟩ := h.hp.blk _ c0 B h0 hB'
    unfold renB
    split
    · rename_i hpc
      exact ⟨cs, t, g1, g2, g3, fun i x j d v q1 q2 q3 => .pure ((g5 hpc i x j d v q1 q2 q3).widen hz), fun _ i x j d v q1 q2 q3 => (g5 hpc i x j d v q1 q2 q3).widen hz⟩
    · rename_i hpc
      refine ⟨cs, t, g1, by simpa using g2, fun x hx => ?_, fun i x j d v q1 q2 q3 => ?_, fun hp => absurd hp hpc⟩
      · simp only [List.mem_map] at hx
        obtain ⟨y, hy, rfl⟩ := hx
        rw [(renV_cells a b y).1]; exact g3 y hy
      · simp only [List.getElem?_map, Option.map_eq_some_iff] at q1
        obtain ⟨y, hy, rfl⟩ := q1
        obtain ⟨d', hd', hdd⟩ := (renV_cells a b y).2 j d q2
        rw [hdd]
        exact (g4 i y j d' v hy hd' q3).ren1 hz hr
  · obtain ⟨c0, h0, rfl⟩ := hold m c hc
    have := h.hp.nil _ c0 h0 hn
    have hlen := (renB_same a b c0).2.1
    rw [this] at hlen
    exact List.eq_nil_of_length_eq_zero hlen
  · have := h.hp.inj _ _ B (hsome m h1) (hsome m' h2) e1 e2
    rw [← swN_swN a b m, this, swN_swN]
  · rw [hget]
    exact (h.tmp t).renV hz hr
  · show ρ (swN a b l) = cf.ρ0 l
    rw [swN_hi hab.1 hab.2 hl]; exact h.pin l hl
end Go.Ab

namespace Go.Ab

/-- a nil slice in cell 'i' of element 'j' of the block 'n' becomes one of the frame's own, with no element -/
def nilB (n j : Nat) (i : Option Nat) (l es : Nat) (st : St) : St := match st.hp n with
  | some b => if b.pur = false then (match b.elems[j]? with
    | some x => (st.setH l (some ⟨es, true, []⟩)).setH n (some { b with elems := b.elems.set j (nilV i l x) })
    | none => st) else st
  | none => st

theorem nilV_cells (i : Option Nat) (l : Nat) (x : AV) : (nilV i l x).cells.length = x.cells.length := by
  unfold nilV
  split
  · split <;> rfl
  · split
    · split
      · simp [AV.cells]
      · rfl
    · rfl
  · rfl
/-- a cell of it -/
theorem nilV_cell {ρ ρ' : Nat → Option Nat} {h h' : Nat → Option Blk} {w : World} {Z Z' : Nat → Prop} {l : Nat} {b : Blk} (hm : ∀ {v : Value} {a : AV}, V ρ h w Z v a → V ρ' h' w Z' v a) (hl : ρ' l = none) (hb : h' l = some b) {i : Option Nat} {x : AV} {k : Nat} {d : AV} {v : Value}
    (hd : (nilV i l x).cells[k]? = some d) (hv : ∀ d', x.cells[k]? = some d' → V ρ h w Z v d') : V ρ' h' w Z' v d := by
  have nil : ∀ {v : Value}, V ρ h w Z v .snil → V ρ' h' w Z' v (.lsl l 0 0) := by
    intro v hv
    cases hv with
    | pure h0 => cases h0; exact .lnil l b (.inl rfl) hl hb
  unfold nilV at hd
  split at hd
  · split at hd
    · have hk : k = 0 := by
        rcases Nat.eq_zero_or_pos k with h | h
        · exact h
        · rw [List.getElem?_eq_none (by simp [AV.cells]; omega)] at hd; cases hd
      subst hk; cases hd
      exact nil (hv _ rfl)
    · exact hm (hv _ hd)
  · rename_i cs
    split at hd
    · rename_i i
      split at hd
      · rename_i hi
        by_cases e : k = i
        · subst e
          have hlt : k < cs.length := (List.getElem?_eq_some_iff.1 hi).1
          simp only [AV.cells] at hd
          rw [List.getElem?_set_self hlt] at hd
          cases hd
          exact nil (hv _ hi)
        · simp only [AV.cells] at hd
          rw [List.getElem?_set_ne (Ne.symm e)] at hd
          exact hm (hv _ hd)
      · exact hm (hv _ hd)
    · exact hm (hv _ hd)
  · exact hm (hv _ hd)

theorem wk_nilB {n j l es : Nat} {i : Option Nat} {st : St} (hn : ((st.hp l).isNone && decide (l < 1000000)) = true) : Wk st (nilB n j i l es st) := by
  unfold nilB
  split
  · rename_i b hnb
    split
    · rename_i hpf
      split
      · rename_i x hx
        rintro cf a w ⟨ρ, h⟩
        simp only [Bool.and_eq_true, decide_eq_true_eq] at hn
        have hlow := hn.2
        have hn' : st.hp l = none := by simpa using hn.1
        have hnl : n ≠ l := fun e => by subst e; rw [hn'] at hnb; cases hnb
        let ρ' : Nat → Option Nat := fun m => if m = l then none else ρ m
        let st' : St := (st.setH l (some ⟨es, true, []⟩)).setH n (some { b with elems := b.elems.set j (nilV i l x) })
        have hhp : st'.hp l = some ⟨es, true, []⟩ := by
          show (if n = l then _ else if l = l then _ else _) = _
          rw [if_neg hnl, if_pos rfl]
        have hhn : st'.hp n = some { b with elems := b.elems.set j (nilV i l x) } := by
          show (if n = n then _ else _) = _
          rw [if_pos rfl]
        have hhp' : ∀ m, m ≠ l → m ≠ n → st'.hp m = st.hp m := fun m hm hm2 => by
          show (if n = m then _ else if l = m then _ else _) = _
          rw [if_neg (Ne.symm hm2), if_neg (Ne.symm hm)]; rfl
        have hρ' : ∀ m, m ≠ l → ρ' m = ρ m := fun m hm => if_neg hm
        have hρl : ρ' l = none := if_pos rfl
        have hsome : ∀ m, m ≠ l → (st'.hp m).isSome = true → (st.hp m).isSome = true := fun m hm hs => by
          by_cases e : m = n
          · subst e; rw [hnb]; rfl
          · rw [← hhp' m hm e]; exact hs
        have hz : ∀ b, Zf cf.Z0 cf.base ρ st.hp w b → Zf cf.Z0 cf.base ρ' st'.hp w b := fun c hc => ⟨hc.1, hc.2.1, fun m hm => by
          by_cases e : m = l
          · subst e; rw [hρl]; simp
          · rw [hρ' m e]; exact hc.2.2 m (hsome m e hm)⟩
        have hV : ∀ {v : Value} {a : AV}, V ρ st.hp w (Zf cf.Z0 cf.base ρ st.hp w) v a → V ρ' st'.hp w (Zf cf.Z0 cf.base ρ' st'.hp w) v a := fun hv => by
          refine hv.mono (fun c hc => ⟨hz c hc, rfl⟩) fun m c hc => ?_
          have hm : m ≠ l := fun e => by subst e; rw [hn'] at hc; cases hc
          refine ⟨hρ' m hm, ?_, fun _ _ => rfl⟩
          by_cases e : m = n
          · subst e
            rw [hnb] at hc; cases hc
            exact ⟨_, hhn, rfl, by simp⟩
          · exact ⟨c, by rw [hhp' m hm e]; exact hc, rfl, rfl⟩
        have hj : j < b.elems.length := (List.getElem?_eq_some_iff.1 hx).1
        refine ⟨ρ', ⟨⟨fun m c B hc hB => ?_, fun m c hc hB => ?_, fun m m' B hm hm' hB hB' => ?_⟩, fun u => hV (h.tmp u), h.size, h.defers, h.fr, fun m B hm hB => ?_, h.z0, fun m hm => by rw [← h.pin m hm]; exact hρ' m (by omega), h.shp⟩⟩
        · have hml : m ≠ l := fun e => by subst e; rw [hρl] at hB; cases hB
          rw [hρ' m hml] at hB
          by_cases e : m = n
          · subst e
            have hc' : some { b with elems := b.elems.set j (nilV i l x) } = some c := hhn.symm.trans hc
            cases hc'
            obtain ⟨cs, ct, g1, g2, g3, g4, g5⟩ := h.hp.blk m b B hnb hB
            refine ⟨cs, ct, g1, by simpa using g2, fun y hy => ?_, fun q y k d v q1 q2 q3 => ?_, fun hp => ?_⟩
            · rcases List.mem_or_eq_of_mem_set hy with hy | rfl
              · exact g3 y hy
              · rw [nilV_cells]; exact g3 x (List.mem_of_getElem? hx)
            · by_cases eq : q = j
              · subst eq
                rw [List.getElem?_set_self hj] at q1
                cases q1
                exact nilV_cell hV hρl hhp q2 fun d' hd' => g4 q x k d' v hx hd' q3
              · rw [List.getElem?_set_ne (Ne.symm eq)] at q1
                exact hV (g4 q y k d v q1 q2 q3)
            · simp only at hp; rw [hpf] at hp; cases hp
          · have hc' : st.hp m = some c := (hhp' m hml e).symm.trans hc
            obtain ⟨cs, ct, g1, g2, g3, g4, g5⟩ := h.hp.blk m c B hc' hB
            exact ⟨cs, ct, g1, g2, g3, fun q x k d v q1 q2 q3 => hV (g4 q x k d v q1 q2 q3), fun hp q x k d v q1 q2 q3 => (g5 hp q x k d v q1 q2 q3).widen hz⟩
        · by_cases e : m = l
          · subst e
            have hc' : some (⟨es, true, []⟩ : Blk) = some c := hhp.symm.trans hc
            cases hc'; rfl
          · rw [hρ' m e] at hB
            by_cases e2 : m = n
            · subst e2
              have hc' : some { b with elems := b.elems.set j (nilV i l x) } = some c := hhn.symm.trans hc
              cases hc'
              have := h.hp.nil m b hnb hB
              rw [this] at hj; simp at hj
            · have hc' : st.hp m = some c := (hhp' m e e2).symm.trans hc
              exact h.hp.nil m c hc' hB
        · have e : m ≠ l := fun e => by subst e; rw [hρl] at hB; cases hB
          have e' : m' ≠ l := fun e => by subst e; rw [hρl] at hB'; cases hB'
          rw [hρ' m e] at hB; rw [hρ' m' e'] at hB'
          exact h.hp.inj m m' B (hsome m e hm) (hsome m' e' hm') hB hB'
        · have e : m ≠ l := fun e => by subst e; rw [hρl] at hB; cases hB
          rw [hρ' m e] at hB
          exact h.own m B (hsome m e hm) hB
      · intro cf a w h; exact h
    · intro cf a w h; exact h
  · intro cf a w h; exact h
end Go.Ab

namespace Go.Ab
open Go.RowKit Ieee

def apick (neg : Bool) (win : Ordering) (x y : Nat) : Nat :=
  let a := FloatKind.f64.decode x
  let b := FloatKind.f64.decode y
  if a == .infinity neg || b == .infinity neg then FloatKind.f64.encode (.infinity neg)
  else if a.isNaN || b.isNaN then 0x7FF8000000000001
  else if a.isZero && b.isZero then (if a.neg == neg then x else y)
  else if a.order b == some win then x else y
theorem pick_def (name : String) (neg : Bool) (win : Ordering) (x y : Nat) : Extern.MathDim.pick name neg win #[.float .f64 x, .float .f64 y] = pure (.float .f64 (apick neg win x y)) := rfl
def amax (x y : Nat) : Nat := cn .f64 (apick false .gt x y)
def amin (x y : Nat) : Nat := cn .f64 (apick true .lt x y)
theorem isNaN_decode {k : FloatKind} {b : Nat} : (k.decode b).isNaN = isNaN k b := rfl
/-- what is picked, up to the bits of a not-a-number -/
theorem apick_fv (neg : Bool) (win : Ordering) {x y a b : Nat} (hx : FV .f64 x a) (hy : FV .f64 y b) : FV .f64 (apick neg win x y) (cn .f64 (apick neg win a b)) := by
  have key : cn .f64 (apick neg win x y) = cn .f64 (apick neg win a b) := by
    by_cases h1 : isNaN .f64 x = true
    · have h1' : isNaN .f64 a = true := by rw [← hx.nan]; exact h1
      obtain ⟨s, t, e⟩ := decode_of_nan h1
      obtain ⟨s', t', e'⟩ := decode_of_nan h1'
      by_cases h2 : isNaN .f64 y = true
      · have h2' : isNaN .f64 b = true := by rw [← hy.nan]; exact h2
        obtain ⟨u, v, f⟩ := decode_of_nan h2
        obtain ⟨u', v', f'⟩ := decode_of_nan h2'
        unfold apick
        rw [e, e', f, f']
        rfl
      · have hyb := hy.not (by rw [← hy.nan]; simpa using h2)
        subst hyb
        unfold apick
        rw [e, e']
        cases hd : FloatKind.f64.decode y <;> rfl
    · have hxa := hx.not (by rw [← hx.nan]; simpa using h1)
      subst hxa
      by_cases h2 : isNaN .f64 y = true
      · have h2' : isNaN .f64 b = true := by rw [← hy.nan]; exact h2
        obtain ⟨u, v, f⟩ := decode_of_nan h2
        obtain ⟨u', v', f'⟩ := decode_of_nan h2'
        unfold apick
        rw [f, f']
        cases hd : FloatKind.f64.decode x <;> rfl
      · have hyb := hy.not (by rw [← hy.nan]; simpa using h2)
        subst hyb
        rfl
  refine ⟨?_, key⟩
  unfold apick
  dsimp only
  have hx' := hx.lt
  have hy' := hy.lt
  split
  · exact FloatKind.f64.format.write_lt _
  · split
    · decide
    · split
      · split
        · exact hx'
        · exact hy'
      · split
        · exact hx'
        · exact hy'
def g_amax : List AV → Option AV
  | [.flt .f64 a, .flt .f64 b] => some (.flt .f64 (amax a b))
  | _ => none
def g_amin : List AV → Option AV
  | [.flt .f64 a, .flt .f64 b] => some (.flt .f64 (amin a b))
  | _ => none
theorem args2 {w : World} {Z : Nat → Prop} {args : Array Value} {a b : AV} (hs : args.size = [a, b].length) (h : ∀ (i : Nat) c d, args[i]? = some c → [a, b][i]? = some d → V0 w Z c d) : ∃ u v, args = #[u, v] ∧ V0 w Z u a ∧ V0 w Z v b := by
  obtain ⟨l⟩ := args
  match l, hs with
  | [u, v], _ => exact ⟨u, v, rfl, h 0 u a rfl rfl, h 1 v b rfl rfl⟩
section
variable {P : Program} {f : FuncId} {fn : Func}
theorem t_amax (hf : P.funcs[f]? = some fn) (hname : (fn.name == "runtime.NumGoroutine") = false) (hb : fn.body.isNone = true) (hn : Extern.findNext fn = none) (he : Extern.find fn = some (Extern.MathDim.pick "math.archMax" false .gt)) : ∀ vs r, g_amax vs = some r → Says P f vs r := by
  intro vs r h
  unfold g_amax at h
  split at h
  · rename_i a b
    cases h
    refine says_ext hf hname hb hn he fun w Z args hs hV => ?_
    obtain ⟨u, v, rfl, hu, hv⟩ := args2 hs hV
    obtain ⟨x, rfl, hx⟩ := hu.flt_inv
    obtain ⟨y, rfl, hy⟩ := hv.flt_inv
    exact ⟨.float .f64 (apick false .gt x y), 0, rfl, .flt _ _ _ (apick_fv false .gt hx hy)⟩
  · cases h
theorem t_amin (hf : P.funcs[f]? = some fn) (hname : (fn.name == "runtime.NumGoroutine") = false) (hb : fn.body.isNone = true) (hn : Extern.findNext fn = none) (he : Extern.find fn = some (Extern.MathDim.pick "math.archMin" true .lt)) : ∀ vs r, g_amin vs = some r → Says P f vs r := by
  intro vs r h
  unfold g_amin at h
  split at h
  · rename_i a b
    cases h
    refine says_ext hf hname hb hn he fun w Z args hs hV => ?_
    obtain ⟨u, v, rfl, hu, hv⟩ := args2 hs hV
    obtain ⟨x, rfl, hx⟩ := hu.flt_inv
    obtain ⟨y, rfl, hy⟩ := hv.flt_inv
    exact ⟨.float .f64 (apick true .lt x y), 0, rfl, .flt _ _ _ (apick_fv true .lt hx hy)⟩
  · cases h
end

/-- 1 and -1 -/
theorem ex_mone : ∀ W : Nat, W = 1074 → Ex FloatKind.f64.format true 13830554455654793216 (2 ^ W) := by
  intro W hW
  refine ⟨2 ^ 52, -52, by decide, by decide, ?_⟩
  rw [lp64, ← Nat.pow_add]
  exact congrArg (2 ^ ·) (by omega)
/-- a clamp to -1 .. 1 by two ways, and what it gives -/
theorem clamp_same {k : Nat} (hk : Nn k) (hlt : k < 2 ^ 64) : amax 13830554455654793216 (amin 4607182418800017408 k) = fmin .f64 (fmax .f64 k 13830554455654793216) 4607182418800017408 ∧
    ∃ s v, Ex FloatKind.f64.format s (fmin .f64 (fmax .f64 k 13830554455654793216) 4607182418800017408) v ∧ ∀ W : Nat, W = 1074 → v ≤ 2 ^ W := by
  obtain ⟨W, hW⟩ : ∃ W : Nat, W = 1074 := ⟨_, rfl⟩
  have x1 := ex_one W hW
  have xm := ex_mone W hW
  have r1 : FloatKind.f64.decode 4607182418800017408 = .number false (2 ^ 52) (-52) := by decide
  have rm : FloatKind.f64.decode 13830554455654793216 = .number true (2 ^ 52) (-52) := by decide
  have hU := Nat.two_pow_pos W
  have n1 : cn .f64 4607182418800017408 = 4607182418800017408 := by decide
  have nm : cn .f64 13830554455654793216 = 13830554455654793216 := by decide
  have o1m : ford .f64 4607182418800017408 13830554455654793216 = some .gt := by decide
  have om1 : ford .f64 13830554455654793216 4607182418800017408 = some .lt := by decide
  have ap1 : amax 13830554455654793216 4607182418800017408 = 4607182418800017408 := by decide
  have fm1 : fmin .f64 13830554455654793216 4607182418800017408 = 13830554455654793216 := by unfold fmin; rw [om1]
  have f11 : fmin .f64 4607182418800017408 4607182418800017408 = 4607182418800017408 := by decide
  rcases hk with ⟨s, m, e, hr⟩ | ⟨s, hr⟩
  · obtain ⟨v, xk⟩ := read_ex hr
    have hd : FloatKind.f64.decode k = .number s m e := hr
    have nk : cn .f64 k = k := cn_of_not (by unfold isNaN; rw [hr]; rfl)
    have o1k := ford_ex x1 xk
    have okm := ford_ex xk xm
    have omk := ford_ex xm xk
    have ok1 := ford_ex xk x1
    have z1 : sg false (2 ^ W) = ((2 ^ W : Nat) : Int) := rfl
    have zm : sg true (2 ^ W) = -((2 ^ W : Nat) : Int) := rfl
    rw [z1] at o1k ok1
    rw [zm] at okm omk
    have hneg : (FloatKind.f64.decode k).neg = s := by rw [hd]; rfl
    -- the library's lesser of 1 and k
    have amin_eq : amin 4607182418800017408 k = if (ford .f64 4607182418800017408 k == some .lt) = true then 4607182418800017408 else k := by
      unfold amin apick
      rw [r1, hd]
      show cn .f64 (if (Datum.number false (2 ^ 52) (-52) == Datum.infinity true || Datum.number s m e == Datum.infinity true) = true then _ else if false = true then _ else if (false && _) = true then _ else if (Datum.order (.number false (2 ^ 52) (-52)) (.number s m e) == some .lt) = true then _ else _) = _
      have q1 : (Datum.number false (2 ^ 52) (-52) == Datum.infinity true) = false := by decide
      have q2 : (Datum.number s m e == Datum.infinity true) = false := by rfl
      rw [q1, q2, if_neg (by decide), if_neg (by decide), if_neg (by rw [Bool.false_and]; decide)]
      have q3 : ford .f64 4607182418800017408 k = Datum.order (.number false (2 ^ 52) (-52)) (.number s m e) := by
        unfold ford Format.order
        rw [show FloatKind.f64.format.read 4607182418800017408 = .number false (2 ^ 52) (-52) from r1, hr]
      rw [q3]
      split <;> rename_i hq
      · exact n1
      · exact nk
    have amax_eq : amax 13830554455654793216 k = if (ford .f64 13830554455654793216 k == some .gt) = true then 13830554455654793216 else k := by
      unfold amax apick
      rw [rm, hd]
      show cn .f64 (if (Datum.number true (2 ^ 52) (-52) == Datum.infinity false || Datum.number s m e == Datum.infinity false) = true then _ else if false = true then _ else if (false && _) = true then _ else if (Datum.order (.number true (2 ^ 52) (-52)) (.number s m e) == some .gt) = true then _ else _) = _
      have q1 : (Datum.number true (2 ^ 52) (-52) == Datum.infinity false) = false := by decide
      have q2 : (Datum.number s m e == Datum.infinity false) = false := by rfl
      rw [q1, q2, if_neg (by decide), if_neg (by decide), if_neg (by rw [Bool.false_and]; decide)]
      have q3 : ford .f64 13830554455654793216 k = Datum.order (.number true (2 ^ 52) (-52)) (.number s m e) := by
        unfold ford Format.order
        rw [show FloatKind.f64.format.read 13830554455654793216 = .number true (2 ^ 52) (-52) from rm, hr]
      rw [q3]
      split <;> rename_i hq
      · exact nm
      · exact nk
    rw [amin_eq, o1k]
    have sgb : sg s v ≤ v ∧ -(v : Int) ≤ sg s v := by unfold sg; split <;> omega
    have sga : (v : Int) ≤ sg s v ∨ (v : Int) ≤ -sg s v := by unfold sg; split <;> omega
    rcases Int.lt_trichotomy ((2 ^ W : Nat) : Int) (sg s v) with h | h | h
    · -- above 1
      rw [Int.compare_eq_lt.2 h]
      have hgm : fmax .f64 k 13830554455654793216 = k := by
        unfold fmax; rw [okm, Int.compare_eq_gt.2 (by omega)]
      have hg1 : fmin .f64 k 4607182418800017408 = 4607182418800017408 := by
        unfold fmin; rw [ok1, Int.compare_eq_gt.2 h]
      rw [hgm, hg1]
      refine ⟨?_, false, _, x1, fun W' h' => Nat.pow_le_pow_right (by omega) (by omega)⟩
      show amax 13830554455654793216 4607182418800017408 = _
      exact ap1
    · -- 1
      rw [Int.compare_eq_eq.2 h]
      have hs : s = false := by
        cases s with
        | false => rfl
        | true => rw [sg_true] at h; omega
      subst hs
      have hv : v = 2 ^ W := by
        have : sg false v = (v : Int) := rfl
        omega
      have hk1 : k = 4607182418800017408 := ex_unique (by rw [hv] at xk; exact xk) x1 hlt (by decide)
      subst hk1
      have hgm : fmax .f64 4607182418800017408 13830554455654793216 = 4607182418800017408 := by unfold fmax; rw [o1m]
      rw [hgm, f11]
      exact ⟨ap1, false, _, x1, fun W' h' => Nat.pow_le_pow_right (by omega) (by omega)⟩
    · rw [Int.compare_eq_gt.2 h]
      show amax 13830554455654793216 k = _ ∧ _
      rw [amax_eq, omk]
      rcases Int.lt_trichotomy (-((2 ^ W : Nat) : Int)) (sg s v) with g | g | g
      · rw [Int.compare_eq_lt.2 g]
        have hgm : fmax .f64 k 13830554455654793216 = k := by
          unfold fmax; rw [okm, Int.compare_eq_gt.2 (by omega)]
        have hg1 : fmin .f64 k 4607182418800017408 = k := by
          unfold fmin; rw [ok1, Int.compare_eq_lt.2 h]
        rw [hgm, hg1]
        refine ⟨rfl, s, v, xk, fun W' h' => ?_⟩
        have : W' = W := by omega
        subst this
        omega
      · rw [← g, Int.compare_eq_eq.2 rfl]
        have hs : s = true := by
          cases s with
          | true => rfl
          | false =>
            have : sg false v = (v : Int) := rfl
            omega
        subst hs
        have hv : v = 2 ^ W := by
          rw [sg_true] at g; omega
        have hkm : k = 13830554455654793216 := ex_unique (by rw [hv] at xk; exact xk) xm hlt (by decide)
        subst hkm
        have hgm : fmax .f64 13830554455654793216 13830554455654793216 = 13830554455654793216 := by decide
        rw [hgm, fm1]
        exact ⟨rfl, true, _, xm, fun W' h' => Nat.pow_le_pow_right (by omega) (by omega)⟩
      · rw [Int.compare_eq_gt.2 g]
        have hgm : fmax .f64 k 13830554455654793216 = 13830554455654793216 := by
          unfold fmax; rw [okm, Int.compare_eq_lt.2 (by omega)]
        rw [hgm, fm1]
        exact ⟨rfl, true, _, xm, fun W' h' => Nat.pow_le_pow_right (by omega) (by omega)⟩
  · have hkv : k = 9218868437227405312 ∨ k = 18442240474082181120 := by
      have sw : FloatKind.f64.format.signWeight = 2 ^ 63 := by decide
      have e1 : FloatKind.f64.format.infRung = 9218868437227405312 := by decide
      have e2 : FloatKind.f64.format.binade = 4503599627370496 := by decide
      unfold Format.read at hr
      rw [sw, e1, e2] at hr
      dsimp only at hr
      split at hr
      · cases hr
      · split at hr
        · cases hr
        · split at hr
          · omega
          · cases hr
    rcases hkv with rfl | rfl
    · have h1 : fmin .f64 (fmax .f64 9218868437227405312 13830554455654793216) 4607182418800017408 = 4607182418800017408 := by decide
      rw [h1]
      exact ⟨by decide, false, _, x1, fun W' h' => Nat.pow_le_pow_right (by omega) (by omega)⟩
    · have h1 : fmin .f64 (fmax .f64 18442240474082181120 13830554455654793216) 4607182418800017408 = 13830554455654793216 := by decide
      rw [h1]
      exact ⟨by decide, true, _, xm, fun W' h' => Nat.pow_le_pow_right (by omega) (by omega)⟩
end Go.Ab

namespace Go.Ab
open Ieee

/-- a value of a unit or more is not rounded to nothing -/
theorem nearest_pos2 (f : Format) (neg : Bool) (mag : Nat) (place : Int) (h : 2 ^ (f.leastPlace - place).toNat ≤ mag * 2 ^ (place - f.leastPlace).toNat) : ∃ r, f.nearest neg mag place = f.word neg (min r f.infRung) ∧ 0 < r := by
  have hm : mag ≠ 0 := by
    rintro rfl
    rw [Nat.zero_mul] at h
    have := Nat.two_pow_pos (f.leastPlace - place).toNat; omega
  unfold Format.nearest
  rw [if_neg hm]
  refine ⟨_, rfl, ?_⟩
  have hb : 0 < f.binade := Nat.two_pow_pos _
  generalize hlast : max (place + (mag.log2 : Int) - (f.fractionBits : Int)) f.leastPlace = last
  by_cases hc : last = f.leastPlace
  · have hk : 1 ≤ Toward.even.cut neg (mag <<< (place - last).toNat) (last - place).toNat := by
      unfold Toward.cut
      dsimp only
      refine Nat.le_trans ?_ (Nat.le_add_right _ _)
      rw [Nat.shiftLeft_eq, hc, Nat.one_shiftLeft]
      generalize mag * 2 ^ (place - f.leastPlace).toNat = n at *
      have hn0 : n ≠ 0 := by have := Nat.two_pow_pos (f.leastPlace - place).toNat; omega
      have := (Nat.le_log2 hn0).2 h
      rw [Nat.min_eq_left (by omega)]
      exact (Nat.le_div_iff_mul_le (Nat.two_pow_pos _)).2 (by rw [Nat.one_mul]; exact h)
    omega
  · have : 0 < (last - f.leastPlace).toNat * f.binade := Nat.mul_pos (by omega) hb
    omega
/-- a bounded number, read -/
theorem Bd.read {c n : Nat} (h : Bd c n) : ∃ s m e, FloatKind.f64.format.read c = .number s m e := by
  obtain ⟨s, m, e, h1, _⟩ := h 1074 rfl
  exact ⟨s, m, e, h1⟩
theorem Bd.nn {c n : Nat} (h : Bd c n) : Nn c := .inl h.read
theorem bd_widen {x : Nat} (h : feq .f32 (fsub .f32 x x) 0 = true) : Bd (widen x) 128 := by
  obtain ⟨s, m, e, d⟩ := fin32 h
  obtain ⟨q1, q2, q3⟩ := read_f32_number d
  intro W hW
  refine (widen_ex d).ms.mg.mono (Nat.le_of_lt (Nat.lt_of_lt_of_le (Nat.mul_lt_mul_of_pos_right q1 (Nat.two_pow_pos _)) ?_))
  rw [← Nat.pow_add]
  exact Nat.pow_le_pow_right (by omega) (by omega)
theorem read_lt53 {x : Nat} {s : Bool} {m : Nat} {e : Int} (h1 : FloatKind.f64.format.read x = .number s m e) : m < 2 ^ 53 := by
  have e1 : FloatKind.f64.format.infRung = 9218868437227405312 := by decide
  have e2 : FloatKind.f64.format.binade = 4503599627370496 := by decide
  unfold Format.read at h1
  dsimp only at h1
  rw [e1, e2] at h1
  split at h1
  · cases h1; omega
  · split at h1
    · cases h1; omega
    · split at h1 <;> cases h1
/-- twice a number that a float32 has -/
theorem twice_ex {x : Nat} {s : Bool} {m : Nat} {e : Int} (d : FloatKind.f32.decode x = .number s m e) (hm : m ≠ 0) : Ex FloatKind.f64.format s (fmul .f64 4611686018427387904 (widen x)) (2 * (m * 2 ^ (e + 1074).toNat)) := by
  obtain ⟨q1, q2, q3⟩ := read_f32_number d
  obtain ⟨m', i, h1, h2, h3⟩ := widen_ex d
  have r2 : FloatKind.f64.format.read 4611686018427387904 = .number false (2 ^ 52) (-51) := by decide
  have hw : fmul .f64 4611686018427387904 (widen x) = FloatKind.f64.format.nearest s (m' * 2 ^ 52) ((i + 1) - ((52 : Nat) : Int)) := by
    unfold fmul op2
    rw [r2, h1]
    show FloatKind.f64.format.nearest (false ^^ s) (2 ^ 52 * m') (-51 + i) = _
    rw [Bool.false_xor, Nat.mul_comm]
    congr 1
    omega
  have hm0 : m' ≠ 0 := by
    rintro rfl
    rw [Nat.zero_mul] at h3
    have := Nat.mul_pos (show 0 < m by omega) (Nat.two_pow_pos (e + 1074).toNat); omega
  have hm53 := read_lt53 h1
  rw [lp64] at h2 h3
  rw [hw, nearest_shift FloatKind.f64.format s m' 52 (i + 1) hm0 (by rw [show FloatKind.f64.format.fractionBits = 52 by decide]; exact hm53) (by rw [lp64]; omega)]
  obtain ⟨K, hK⟩ : ∃ K : Nat, K = 2098 := ⟨_, rfl⟩
  have hval : m' * 2 ^ (i + 1 - -1074).toNat = 2 * (m * 2 ^ (e + 1074).toNat) := by
    rw [← h3, show (i + 1 - -1074).toNat = (i - -1074).toNat + 1 by omega, Nat.pow_succ, ← Nat.mul_assoc, Nat.mul_comm]
  have := nearest_exact FloatKind.f64.format s m' (i + 1) (by rw [lp64]; omega) (by rw [show FloatKind.f64.format.fractionBits = 52 by decide]; exact hm53) (by
    rw [rv64_inf hK, lp64, hval]
    have h5 : m * 2 ^ (e + 1074).toNat < 2 ^ 24 * 2 ^ (e + 1074).toNat := Nat.mul_lt_mul_of_pos_right q1 (Nat.two_pow_pos _)
    have h6 : 2 ^ 24 * 2 ^ (e + 1074).toNat ≤ 2 ^ (K - 1) := by rw [← Nat.pow_add]; exact Nat.pow_le_pow_right (by omega) (by omega)
    have h7 : 2 ^ K = 2 * 2 ^ (K - 1) := by rw [Nat.mul_comm, ← Nat.pow_succ]; exact congrArg (2 ^ ·) (by omega)
    rw [h7]
    omega)
  rw [lp64, hval] at this
  exact this
/-- the divisor of a bend's cosine -/
theorem den2_ok {x y : Nat} (hx : feq .f32 (fsub .f32 x x) 0 = true) (hy : feq .f32 (fsub .f32 y y) 0 = true) (px : flt .f32 0 x = true) (py : flt .f32 0 y = true) :
    ∃ s m e, FloatKind.f64.format.read (fmul .f64 (fmul .f64 4611686018427387904 (widen x)) (widen y)) = .number s m e ∧ m ≠ 0 := by
  have nz : ∀ {z : Nat} {s : Bool} {m : Nat} {e : Int}, FloatKind.f32.decode z = .number s m e → flt .f32 0 z = true → m ≠ 0 := by
    intro z s m e d h
    rintro rfl
    have h0 : Ex FloatKind.f32.format false 0 0 := ⟨0, -149, decode_zero32, by decide, by decide⟩
    have o := order_ex h0 (ex32 d)
    have h' : FloatKind.f32.format.order 0 z == some .lt := h
    unfold Format.order at h'
    rw [o, Nat.zero_mul] at h'
    cases s <;> exact absurd h' (by decide)
  obtain ⟨sx, mx, ex, dx⟩ := fin32 hx
  obtain ⟨sy, my, ey, dy⟩ := fin32 hy
  obtain ⟨a1, a2, a3⟩ := read_f32_number dx
  obtain ⟨b1, b2, b3⟩ := read_f32_number dy
  have hmx := nz dx px
  have hmy := nz dy py
  obtain ⟨m1, i1, r1, l1, v1⟩ := twice_ex dx hmx
  obtain ⟨m2, i2, r2, l2, v2⟩ := widen_ex dy
  have two : Bd 4611686018427387904 2 := bd_const (s := false) (m := 2 ^ 52) (e := -51) (by decide) (by decide) (by decide) (by decide)
  have hbd := bd_mul (bd_mul two (bd_widen hx) (by omega)) (bd_widen hy) (by omega)
  obtain ⟨s, m, e, hr⟩ := hbd.read
  refine ⟨s, m, e, hr, ?_⟩
  rintro rfl
  have hw : fmul .f64 (fmul .f64 4611686018427387904 (widen x)) (widen y) = FloatKind.f64.format.nearest (sx ^^ sy) (m1 * m2) (i1 + i2) := by
    show op2 .f64 Datum.product _ _ = _
    unfold op2
    show ((Datum.product (FloatKind.f64.format.read (fmul .f64 4611686018427387904 (widen x))) (FloatKind.f64.format.read (widen y))).map FloatKind.f64.format.write).getD _ = _
    rw [r1, r2]; rfl
  rw [lp64] at l1 l2 v1 v2
  obtain ⟨W, hW⟩ : ∃ W : Nat, W = 1074 := ⟨_, rfl⟩
  obtain ⟨r, q1, q2⟩ := nearest_pos2 FloatKind.f64.format (sx ^^ sy) (m1 * m2) (i1 + i2) (by
    rw [lp64]
    -- (m1 2^(i1+1074)) (m2 2^(i2+1074)) >= 2^925 2^925
    obtain ⟨K, hK⟩ : ∃ K : Nat, K = 925 := ⟨_, rfl⟩
    have g1 : 2 ^ K ≤ m1 * 2 ^ (i1 - -1074).toNat := by
      rw [v1]
      have : 2 ^ K ≤ m1 * 0 + mx * 2 ^ (ex + 1074).toNat := by
        rw [Nat.mul_zero, Nat.zero_add]
        exact Nat.le_trans (Nat.pow_le_pow_right (by omega) (by omega)) (Nat.le_mul_of_pos_left _ (by omega))
      omega
    have g2 : 2 ^ K ≤ m2 * 2 ^ (i2 - -1074).toNat := by
      rw [v2]
      exact Nat.le_trans (Nat.pow_le_pow_right (by omega) (by omega)) (Nat.le_mul_of_pos_left _ (by omega))
    have g3 := Nat.mul_le_mul g1 g2
    rw [← Nat.pow_add, Nat.mul_mul_mul_comm, ← Nat.pow_add] at g3
    by_cases hc : -1074 ≤ i1 + i2
    · rw [show (-1074 - (i1 + i2)).toNat = 0 by omega, Nat.pow_zero]
      have hm12 : 0 < m1 * m2 := by
        apply Nat.pos_of_ne_zero
        intro h0
        rw [h0, Nat.zero_mul] at g3
        have := Nat.two_pow_pos (K + K); omega
      exact Nat.mul_pos hm12 (Nat.two_pow_pos _)
    · rw [show (i1 + i2 - -1074).toNat = 0 by omega, Nat.pow_zero, Nat.mul_one]
      apply Nat.le_of_mul_le_mul_right (c := 2 ^ ((i1 - -1074).toNat + (i2 - -1074).toNat)) _ (Nat.two_pow_pos _)
      refine Nat.le_trans ?_ g3
      rw [← Nat.pow_add]
      exact Nat.pow_le_pow_right (by omega) (by omega))
  -- a number 0 would be the rung 0
  have hr2 : r < FloatKind.f64.format.infRung := by
    apply Nat.lt_of_not_le
    intro hc
    rw [Nat.min_eq_right hc] at q1
    rw [hw, q1, read_inf_word .f64] at hr
    cases hr
  rw [Nat.min_eq_left (by omega)] at q1
  obtain ⟨m', e', g1, g2, g3⟩ := read_word FloatKind.f64.format (sx ^^ sy) hr2
  rw [hw, q1, g1] at hr
  cases hr
  rw [Nat.zero_mul] at g3
  have := rv_mono FloatKind.f64.format (show 1 ≤ r by omega)
  rw [rv_small _ (by decide)] at this
  omega
/-- 1 less a square of what is at most 1 is not below zero -/
theorem one_less {q : Nat} (hq : Bd q 0) (hs : Nng q) : Bd (fsub .f64 4607182418800017408 q) 1 ∧ Nng (fsub .f64 4607182418800017408 q) := by
  refine ⟨bd_sub bd_one hq (by omega), ?_⟩
  obtain ⟨W, hW⟩ : ∃ W : Nat, W = 1074 := ⟨_, rfl⟩
  obtain ⟨s, m, e, r1, r2, r3⟩ := hq W hW
  have xq : Ex FloatKind.f64.format s q (m * 2 ^ (e - FloatKind.f64.format.leastPlace).toNat) := ⟨m, e, r1, r2, rfl⟩
  obtain ⟨S, M, base, t1, t2, t3⟩ := sub_ex (ex_one W hW) xq
  have hw : fsub .f64 4607182418800017408 q = FloatKind.f64.format.nearest S M base := by
    unfold fsub op2; rw [t1]; rfl
  rw [hw]
  have ho : sg false (2 ^ W) = ((2 ^ W : Nat) : Int) := rfl
  have hsg : sg s (m * 2 ^ (e - FloatKind.f64.format.leastPlace).toNat) = ((m * 2 ^ (e - FloatKind.f64.format.leastPlace).toNat : Nat) : Int) := by
    rcases hs s m e r1 with h | h
    · subst h; rfl
    · subst h; rw [Nat.zero_mul]; cases s <;> rfl
  rw [Nat.zero_add] at r3
  rw [ho, hsg] at t3
  cases S with
  | false => exact nng_nearest _ _
  | true =>
    rw [sg_true] at t3
    have hM : M * 2 ^ (base - FloatKind.f64.format.leastPlace).toNat = 0 := by
      generalize m * 2 ^ (e - FloatKind.f64.format.leastPlace).toNat = w at *
      generalize 2 ^ W = U at *
      omega
    have : M = 0 := by
      rcases Nat.mul_eq_zero.1 hM with h | h
      · exact h
      · have := Nat.two_pow_pos (base - FloatKind.f64.format.leastPlace).toNat; omega
    subst this
    exact nng_zero _ _
end Go.Ab

namespace Go.Ab

theorem take_all {α β : Type} (e : α → β) (xs : List α) : List.take xs.length (List.map e xs) = List.map e xs := by
  rw [List.take_of_length_le]; simp
theorem getE_zero {α : Type} [Inhabited α] {e : α → AV} {xs : List α} (h : inB 0 xs.length = true) : (List.map e xs)[0]? = some (e (atI xs 0)) := getE (n := 0) h
theorem getE_one {α : Type} [Inhabited α] {e : α → AV} {xs : List α} (h : inB 1 xs.length = true) : (List.map e xs)[1]? = some (e (atI xs 1)) := getE (n := 1) h
theorem getE_set {α : Type} [Inhabited α] {e : α → AV} {xs : List α} {v : α} {i : Nat} {k : Int} (h : inB k xs.length = true) : ((List.map e xs).set i (e v))[k.toNat]? = some (e (atI (xs.set i v) k)) := by
  rw [← List.map_set, getE (by rw [List.length_set]; exact h)]
theorem set_get {n : Int} {xs : List AV} {z : AV} (h : inB n xs.length = true) : (xs.set n.toNat z)[n.toNat]? = some z := by
  simp only [inB, Bool.and_eq_true, decide_eq_true_eq] at h
  rw [List.getElem?_set_self]; omega
theorem set_get0 {xs : List AV} {z : AV} (h : inB 0 xs.length = true) : (xs.set 0 z)[0]? = some z := set_get (n := 0) h
theorem drop_map {α β : Type} (e : α → β) (n : Nat) (xs : List α) : List.drop n (List.map e xs) = List.map e (List.drop n xs) := (List.map_drop ..).symm
theorem take_map {α β : Type} (e : α → β) (n : Nat) (xs : List α) : List.take n (List.map e xs) = List.map e (List.take n xs) := (List.map_take ..).symm
theorem all_enc {α : Type} {e : α → AV} {p : AV → Bool} (h : ∀ y, p (e y) = true) (l : List α) : List.all (List.map e l) p = true := by
  rw [List.all_eq_true]; intro x hx; obtain ⟨y, _, rfl⟩ := List.mem_map.1 hx; exact h y
theorem dF32_es (l : List (Nat)) : List.all (List.map (AV.flt .f32) l) (esIs 1) = true := all_enc (fun _ => rfl) l
theorem dF32_st (l : List (Nat)) : List.all (List.map (AV.flt .f32) l) (esSt 1) = true := all_enc (fun _ => rfl) l
theorem dF32_fl (l : List (Nat)) : List.all (List.map (AV.flt .f32) l) flatE = true := all_enc (fun _ => rfl) l
theorem dF64_es (l : List (Nat)) : List.all (List.map (AV.flt .f64) l) (esIs 1) = true := all_enc (fun _ => rfl) l
theorem dF64_st (l : List (Nat)) : List.all (List.map (AV.flt .f64) l) (esSt 1) = true := all_enc (fun _ => rfl) l
theorem dF64_fl (l : List (Nat)) : List.all (List.map (AV.flt .f64) l) flatE = true := all_enc (fun _ => rfl) l
theorem dI64_es (l : List (Int)) : List.all (List.map (AV.int .i64) l) (esIs 1) = true := all_enc (fun _ => rfl) l
theorem dI64_st (l : List (Int)) : List.all (List.map (AV.int .i64) l) (esSt 1) = true := all_enc (fun _ => rfl) l
theorem dI64_fl (l : List (Int)) : List.all (List.map (AV.int .i64) l) flatE = true := all_enc (fun _ => rfl) l
theorem dU8_es (l : List (Int)) : List.all (List.map (AV.int .u8) l) (esIs 1) = true := all_enc (fun _ => rfl) l
theorem dU8_st (l : List (Int)) : List.all (List.map (AV.int .u8) l) (esSt 1) = true := all_enc (fun _ => rfl) l
theorem dU8_fl (l : List (Int)) : List.all (List.map (AV.int .u8) l) flatE = true := all_enc (fun _ => rfl) l
theorem dBool_es (l : List (Bool)) : List.all (List.map AV.bool l) (esIs 1) = true := all_enc (fun _ => rfl) l
theorem dBool_st (l : List (Bool)) : List.all (List.map AV.bool l) (esSt 1) = true := all_enc (fun _ => rfl) l
theorem dBool_fl (l : List (Bool)) : List.all (List.map AV.bool l) flatE = true := all_enc (fun _ => rfl) l
theorem dStr_es (l : List (List UInt8)) : List.all (List.map AV.str l) (esIs 1) = true := all_enc (fun _ => rfl) l
theorem dStr_st (l : List (List UInt8)) : List.all (List.map AV.str l) (esSt 1) = true := all_enc (fun _ => rfl) l
theorem dStr_fl (l : List (List UInt8)) : List.all (List.map AV.str l) flatE = true := all_enc (fun _ => rfl) l
def decL {α : Type} (d : AV → Option α) : List AV → Option (List α)
  | [] => some []
  | x :: xs => match d x, decL d xs with
    | some a, some as => some (a :: as)
    | _, _ => none
theorem decL_map {α : Type} {d : AV → Option α} {e : α → AV} (h : ∀ p, d (e p) = some p) : ∀ ys : List α, decL d (List.map e ys) = some ys
  | [] => rfl
  | y :: ys => by
    simp only [List.map_cons, decL, h, decL_map h ys]
theorem decL_inv {α : Type} {d : AV → Option α} {e : α → AV} (h : ∀ x p, d x = some p → x = e p) : ∀ {xs : List AV} {ys : List α}, decL d xs = some ys → xs = List.map e ys
  | [], ys, hd => by cases hd; rfl
  | x :: xs, ys, hd => by
    simp only [decL] at hd
    split at hd
    · rename_i a as h1 h2
      cases hd
      rw [List.map_cons, h x a h1, decL_inv h h2]
    · cases hd
def dF32 : AV → Option Nat
  | .flt .f32 c => some c
  | _ => none
def dF64 : AV → Option Nat
  | .flt .f64 c => some c
  | _ => none
def dI64 : AV → Option Int
  | .int .i64 n => some n
  | _ => none
def dU8 : AV → Option Int
  | .int .u8 n => some n
  | _ => none
def dBool : AV → Option Bool
  | .bool b => some b
  | _ => none
def dStr : AV → Option (List UInt8)
  | .str l => some l
  | _ => none
theorem dF32_map (ys : List Nat) : decL dF32 (List.map (AV.flt .f32) ys) = some ys := decL_map (d := dF32) (e := AV.flt .f32) (fun _ => rfl) ys
theorem dF64_map (ys : List Nat) : decL dF64 (List.map (AV.flt .f64) ys) = some ys := decL_map (d := dF64) (e := AV.flt .f64) (fun _ => rfl) ys
theorem dI64_map (ys : List Int) : decL dI64 (List.map (AV.int .i64) ys) = some ys := decL_map (d := dI64) (e := AV.int .i64) (fun _ => rfl) ys
theorem dU8_map (ys : List Int) : decL dU8 (List.map (AV.int .u8) ys) = some ys := decL_map (d := dU8) (e := AV.int .u8) (fun _ => rfl) ys
theorem dBool_map (ys : List Bool) : decL dBool (List.map AV.bool ys) = some ys := decL_map (d := dBool) (e := AV.bool) (fun _ => rfl) ys
theorem dStr_map (ys : List (List UInt8)) : decL dStr (List.map AV.str ys) = some ys := decL_map (d := dStr) (e := AV.str) (fun _ => rfl) ys
theorem dF32_inv : ∀ x p, dF32 x = some p → x = AV.flt .f32 p := by
  intro x p h; unfold dF32 at h; split at h <;> cases h; rfl
theorem dF64_inv : ∀ x p, dF64 x = some p → x = AV.flt .f64 p := by
  intro x p h; unfold dF64 at h; split at h <;> cases h; rfl
theorem dI64_inv : ∀ x p, dI64 x = some p → x = AV.int .i64 p := by
  intro x p h; unfold dI64 at h; split at h <;> cases h; rfl
theorem dU8_inv : ∀ x p, dU8 x = some p → x = AV.int .u8 p := by
  intro x p h; unfold dU8 at h; split at h <;> cases h; rfl
theorem dBool_inv : ∀ x p, dBool x = some p → x = AV.bool p := by
  intro x p h; unfold dBool at h; split at h <;> cases h; rfl
theorem dStr_inv : ∀ x p, dStr x = some p → x = AV.str p := by
  intro x p h; unfold dStr at h; split at h <;> cases h; rfl

/- groups of equations, for 'simp only' -/
def evO (t : Nat) : AV → AV
  | .lptr l i off => if l = t then .lptr l i off else .any
  | _ => .any
def evP : AV → AV
  | .ptr x off => .ptr x off
  | .sl xs => .sl xs
  | _ => .any
theorem ev_o (st : St) (t l : Nat) : ev st (.o t l) = evO l (st.get t) := by simp only [ev]; cases st.get t <;> rfl
theorem ev_p (st : St) (t : Nat) : ev st (.p t) = evP (st.get t) := by simp only [ev]; cases st.get t <;> rfl
theorem evO_lptr (t l i off : Nat) : evO t (.lptr l i off) = if l = t then .lptr l i off else .any := rfl
theorem evP_ptr (x : AV) (off : Nat) : evP (.ptr x off) = .ptr x off := rfl
theorem evP_sl (xs : List AV) : evP (.sl xs) = .sl xs := rfl
def grpS := And.intro @wM_eq <| And.intro @retW_ok <| And.intro @retW_normal <| And.intro @eN_snil <| And.intro @eA_seq <| And.intro @eA_reg <| And.intro @eA_ret <| And.intro @eA_skip <| And.intro @eA_cond <| And.intro @eA_block <| And.intro @eA_exit <| And.intro @eCc_true <| And.intro @eCc_false <| And.intro @Kq_normal <| And.intro @Kq_ret <| And.intro @Kq_exit <| And.intro @Kb_normal <| And.intro @Kb_exit <| And.intro @Kb_ret <| And.intro @Kreg_eq <| And.intro @eI_nil <| And.intro @bindSt_some <| And.intro @bindSt_none <| And.intro @bindSt_ite <| And.intro @eR_eq <| And.intro @eGI_tt <| And.intro @eGI_ff <| And.intro @eGI_tf <| And.intro @eGI_ft <| And.intro @eGI_raw <| And.intro @ev_t <| And.intro @ev_c <| And.intro @ev_f <| And.intro @ev_o <| And.intro @ev_p <| And.intro @evO_lptr <| And.intro @evP_ptr <| And.intro @evP_sl <| And.intro @put_some <| And.intro @put_none <| And.intro @set_eq <| And.intro @setH_eq <| And.intro @get_eq <| And.intro @hp_eq <| And.intro @keep_cons <| And.intro @keep_nil <| And.intro @lk_cons <| And.intro @lk_nil <| And.intro @ret_ok <| And.intro @ret_normal <| And.intro @withM_some <| And.intro @nz_raw <| And.intro @nz_any <| And.intro @nz_bool <| And.intro @nz_int <| And.intro @nz_flt <| And.intro @nz_str <| And.intro @nz_sl <| And.intro @nz_snil <| And.intro @nz_ptr <| And.intro @nz_fn <| And.intro @nzE_raw <| And.intro @nzE_any <| And.intro @nzE_bool <| And.intro @nzE_int <| And.intro @nzE_flt <| And.intro @nzE_str <| And.intro @nzE_sl <| And.intro @nzE_snil <| And.intro @nzE_ptr <| And.intro @nzE_fn <| And.intro @nzE_agg <| And.intro @nzV_raw <| And.intro @nzV_any <| And.intro @nzV_bool <| And.intro @nzV_int <| And.intro @nzV_flt <| And.intro @nzV_str <| And.intro @nzV_sl <| And.intro @nzV_snil <| And.intro @nzV_ptr <| And.intro @nzV_fn <| And.intro @nzV_agg <| And.intro @nzV_tup <| And.intro @ex_some @tabOf_cons
def grpE := And.intro @e_callM <| And.intro @g_callM <| And.intro @e_eqnil <| And.intro @e_mov <| And.intro @g_mov <| And.intro @e_pick <| And.intro @g_pick <| And.intro @e_alloc <| And.intro @g_alloc <| And.intro @e_box <| And.intro @g_box <| And.intro @e_build <| And.intro @g_build <| And.intro @e_bslice <| And.intro @g_bslice <| And.intro @e_load <| And.intro @g_load <| And.intro @e_store <| And.intro @g_store <| And.intro @e_nilchk <| And.intro @g_nilchk <| And.intro @e_bin <| And.intro @g_bin <| And.intro @e_un <| And.intro @g_un <| And.intro @e_conv <| And.intro @g_conv <| And.intro @e_mkslice <| And.intro @g_mkslice <| And.intro @e_sliceS <| And.intro @g_sliceS <| And.intro @e_sliceX <| And.intro @g_sliceX <| And.intro @e_faddr <| And.intro @g_faddr <| And.intro @e_iaddrA <| And.intro @g_iaddrA <| And.intro @e_iaddrS <| And.intro @g_iaddrS <| And.intro @e_idxA <| And.intro @g_idxA <| And.intro @e_idxS <| And.intro @g_idxS <| And.intro @e_field <| And.intro @g_field <| And.intro @e_extract <| And.intro @g_extract <| And.intro @e_call <| And.intro @g_call <| And.intro @e_len <| And.intro @g_len <| And.intro @e_append <| And.intro @g_append <| And.intro @e_mm <| And.intro @g_mm <| And.intro @e_mkfn <| And.intro @g_mkfn <| And.intro @e_zero3 <| And.intro @g_zero3 <| And.intro @e_copy @g_copy
def grpD := And.intro @dF32_map <| And.intro @dF32_es <| And.intro @dF32_st <| And.intro @dF32_fl <| And.intro @dF64_map <| And.intro @dF64_es <| And.intro @dF64_st <| And.intro @dF64_fl <| And.intro @dI64_map <| And.intro @dI64_es <| And.intro @dI64_st <| And.intro @dI64_fl <| And.intro @dU8_map <| And.intro @dU8_es <| And.intro @dU8_st <| And.intro @dU8_fl <| And.intro @dBool_map <| And.intro @dBool_es <| And.intro @dBool_st <| And.intro @dBool_fl <| And.intro @dStr_map <| And.intro @dStr_es <| And.intro @dStr_st <| And.intro @dStr_fl <| And.intro @drop_map <| And.intro @take_map @take_all



def grpF := And.intro @startSt.eq_1 <| And.intro @envOf.eq_1 <| And.intro @envOf.eq_2 <| And.intro @intop.eq_1 <| And.intro @intop.eq_2 <| And.intro @intop.eq_3 <| And.intro @intop.eq_4 <| And.intro @intop.eq_5 <| And.intro @intop.eq_6 <| And.intro @intop.eq_7 <| And.intro @intop.eq_8 <| And.intro @intop.eq_9 <| And.intro @intop.eq_10 <| And.intro @intop.eq_11 <| And.intro @intop.eq_12 <| And.intro @intop.eq_13 <| And.intro @intop.eq_14 <| And.intro @intop.eq_15 <| And.intro @intop.eq_16 <| And.intro @intop.eq_17 <| And.intro @outM.eq_1 <| And.intro @endR.eq_1 <| And.intro @rvRaw.eq_1 <| And.intro @rvRaw.eq_2 <| And.intro @rvV.eq_1 <| And.intro @rvV.eq_2 <| And.intro @rvs.eq_1 <| And.intro @rvs.eq_2 <| And.intro @callTo.eq_1 <| And.intro @callTo.eq_2 <| And.intro @fillC.eq_1 <| And.intro @fillC.eq_2 <| And.intro @fillE.eq_1 <| And.intro @fillE.eq_2 <| And.intro @decL.eq_1 <| And.intro @decL.eq_2 <| And.intro @partL.eq_1 <| And.intro @esIs.eq_1 <| And.intro @esSt.eq_1 <| And.intro @freeNames.eq_1 <| And.intro @noDup.eq_1 <| And.intro @noDup.eq_2 @pureX.pure1'.eq_1
def grpL := And.intro @set_get <| And.intro @set_get0 <| And.intro @getE_set <| And.intro @getE_zero <| And.intro @getE_one <| And.intro @List.length_set.{0} <| And.intro @List.set_set.{0} <| And.intro @Nat.zero_add <| And.intro @Nat.add_zero <| And.intro @true_or <| And.intro @or_true <| And.intro @Bool.false_eq_true <| And.intro @Bool.true_and <| And.intro @Bool.false_and <| And.intro @Bool.and_true <| And.intro @Bool.and_false <| And.intro @Option.isNone_none.{0} <| And.intro @List.all_cons.{0} <| And.intro @List.all_nil.{0} <| And.intro @List.length_cons.{0} <| And.intro @List.length_nil.{0} <| And.intro @List.getElem?_cons_zero.{0} <| And.intro @List.getElem?_cons_succ.{0} <| And.intro @List.set_cons_zero.{0} <| And.intro @List.set_cons_succ.{0} <| And.intro @List.set_nil.{0} <| And.intro @List.map_cons.{0, 0} <| And.intro @List.map_nil.{0, 0} <| And.intro @and_self <| And.intro @and_true <| And.intro @true_and <| And.intro @not_true_eq_false <| And.intro @not_false_eq_true <| And.intro @false_implies <| And.intro @List.take_succ_cons.{0} <| And.intro @List.drop_succ_cons.{0} <| And.intro @List.take_zero.{0} <| And.intro @List.drop_zero.{0} <| And.intro @Bool.not_true <| And.intro @Bool.not_false <| And.intro @Bool.not_not <| And.intro @Bool.true_or <| And.intro @Bool.or_true <| And.intro @Bool.false_or <| And.intro @Bool.or_false <| And.intro @List.getElem?_nil.{0} <| And.intro @Nat.mul_one <| And.intro @Int.toNat_zero <| And.intro @List.nil_append.{0} <| And.intro @List.cons_append.{0} <| And.intro @List.append_nil.{0} <| And.intro @Int.le_refl <| And.intro @Nat.le_refl <| And.intro @true_implies <| And.intro @List.length_map.{0, 0} <| And.intro @List.take_length.{0} <| And.intro @List.all_append.{0} <| And.intro @List.length_append.{0} <| And.intro @List.replicate_zero.{0} <| And.intro @Kl_normal <| And.intro @Kl_exit <| And.intro @Kl_ret <| And.intro @cast_lit <| And.intro @toNat_lit <| And.intro @prod_eta <| And.intro @iaddr_sl <| And.intro @iaddr_lsl <| And.intro @getE <| And.intro @f2iK_eq <| And.intro @bits_i64 <| And.intro @bits_i32 <| And.intro @bits_u64 <| And.intro @bits_u32 @bits_u8
end Go.Ab

namespace Go.Ab

theorem wrapS {k : Nat} (h : k < 2 ^ 62) : IntKind.wrap .i64 ((k : Int) + 1) = ((k + 1 : Nat) : Int) := by
  have := wrapN (n := k + 1) (by omega)
  rw [← this]; rfl
theorem inB_nat (k n : Nat) : inB (k : Int) n = decide (k < n) := by simp [inB]
theorem atI_nat {α : Type} [Inhabited α] (xs : List α) (k : Nat) : atI xs (k : Int) = xs.getD k default := by simp [atI]
theorem atI_lt {α : Type} [Inhabited α] (xs : List α) {k : Nat} (h : k < xs.length) : atI xs (k : Int) = xs[k] := by simp [atI, h]

/-- the new list is filled element by element -/
theorem copy_loop {α β : Type} [Inhabited α] (l : Nat → List β → Int → Option (List β)) (x : List α) (f : α → β) (hx : x.length < 2 ^ 62)
    (H : ∀ n z k, l (n + 1) z k = if (decide (k < ((x.length : Nat) : Int))) = true then need (inB k x.length) (need (inB k z.length) (l n (z.set k.toNat (f (atI x k))) (IntKind.wrap .i64 (k + 1)))) else some z) :
    ∀ (n : Nat) (z : List β) (k : Nat), k ≤ x.length → z.length = x.length → x.length - k < n → l n z (k : Int) = some (z.take k ++ (x.drop k).map f)
  | 0, z, k, _, _, h => by omega
  | n + 1, z, k, hk, hz, h => by
    rw [H]
    by_cases hlt : k < x.length
    · rw [if_pos (by simp; omega), inB_nat, inB_nat]
      unfold need
      rw [if_pos (by simpa using hlt), if_pos (by simp; omega), wrapS (by omega), copy_loop l x f hx H n _ (k + 1) (by omega) (by rw [List.length_set]; exact hz) (by omega)]
      congr 1
      rw [atI_lt x hlt, Int.toNat_natCast]
      have hkz : k < z.length := by omega
      rw [List.take_succ_eq_append_getElem (by rw [List.length_set]; omega), List.take_set_of_le (Nat.le_refl _), List.getElem_set_self, List.append_assoc, List.singleton_append, List.drop_eq_getElem_cons hlt, List.map_cons]
    · rw [if_neg (by simp; omega)]
      congr 1
      have : k = x.length := by omega
      subst this
      rw [List.drop_length, List.map_nil, List.append_nil, ← hz, List.take_length]
theorem copy_all {α β : Type} [Inhabited α] (l : Nat → List β → Int → Option (List β)) (x : List α) (f : α → β) (d : β) (hx : x.length < 2 ^ 62)
    (H : ∀ n z k, l (n + 1) z k = if (decide (k < ((x.length : Nat) : Int))) = true then need (inB k x.length) (need (inB k z.length) (l n (z.set k.toNat (f (atI x k))) (IntKind.wrap .i64 (k + 1)))) else some z) :
    l (Int.toNat (((x.length : Nat) : Int) - 0) + 2) (List.replicate (Int.toNat ((x.length : Nat) : Int)) d) 0 = some (x.map f) := by
  have := copy_loop l x f hx H (Int.toNat (((x.length : Nat) : Int) - 0) + 2) (List.replicate (Int.toNat ((x.length : Nat) : Int)) d) 0 (Nat.zero_le _) (by simp) (by omega)
  rw [show ((0 : Nat) : Int) = 0 from rfl] at this
  rw [this]; simp

/-- a condition for all that are left; false ends it -/
theorem all_loop (l : Nat → Int → Option (Bool × Bool × Unit)) (len : Nat) (c : Nat → Bool) (hlen : len < 2 ^ 62)
    (H : ∀ (n k : Nat), k < len → l (n + 1) (k : Int) = if c k = true then l n (IntKind.wrap .i64 ((k : Int) + 1)) else some (true, false, default)) (H' : ∀ (n k : Nat), ¬ k < len → l (n + 1) (k : Int) = some (false, default, ())) :
    ∀ (n k : Nat), k ≤ len → len - k < n → l n (k : Int) = some (if (List.range' k (len - k)).all c = true then (false, default, ()) else (true, false, default))
  | 0, k, _, h => by omega
  | n + 1, k, hk, h => by
    by_cases hlt : k < len
    · rw [H n k hlt, show len - k = (len - (k + 1)) + 1 by omega, List.range'_succ, List.all_cons]
      by_cases hc : c k = true
      · rw [if_pos hc, wrapS (by omega), all_loop l len c hlen H H' n (k + 1) (by omega) (by omega), hc, Bool.true_and]
      · rw [if_neg hc]
        have : c k = false := by simpa using hc
        rw [this, Bool.false_and, if_neg (by decide)]
    · rw [H' n k hlt, show len - k = 0 by omega]
      rfl
/-- what the loop says -/
def said (o : Option (Bool × Bool × Unit)) : Bool := if (o.getD default).1 = true then (o.getD default).2.1 else true
theorem said_if (b : Bool) : said (some (if b = true then (false, default, ()) else (true, false, default))) = b := by cases b <;> rfl
theorem said_eq (o : Option (Bool × Bool × Unit)) : (if (o.getD default).1 = true then (o.getD default).2.1 else true) = said o := rfl
theorem all_range_congr {c d : Nat → Bool} {k m : Nat} (h : ∀ i, k ≤ i → i < k + m → c i = d i) : (List.range' k m).all c = (List.range' k m).all d := by
  induction m generalizing k with
  | zero => rfl
  | succ m ih =>
    rw [List.range'_succ, List.all_cons, List.all_cons, h k (Nat.le_refl _) (by omega), ih fun i h1 h2 => h i (by omega) (by omega)]
theorem all_range_true {c : Nat → Bool} {k m : Nat} (h : ∀ i, k ≤ i → i < k + m → c i = true) : (List.range' k m).all c = true := by
  rw [all_range_congr (d := fun _ => true) h]; simp
theorem all_range_shift {c d : Nat → Bool} {k j m : Nat} (h : ∀ i, i < m → c (k + i) = d (j + i)) : (List.range' k m).all c = (List.range' j m).all d := by
  induction m generalizing k j with
  | zero => rfl
  | succ m ih =>
    have h0 := h 0 (by omega)
    rw [Nat.add_zero, Nat.add_zero] at h0
    have hs : ∀ i, i < m → c (k + 1 + i) = d (j + 1 + i) := fun i hi => by
      have := h (i + 1) (by omega)
      rw [show k + (i + 1) = k + 1 + i by omega, show j + (i + 1) = j + 1 + i by omega] at this
      exact this
    rw [List.range'_succ, List.range'_succ, List.all_cons, List.all_cons, h0, ih hs]

/-- two lists are compared element by element -/
theorem eq_loop {α : Type} [Inhabited α] (l : Nat → Int → Option (Bool × Bool × Unit)) (x : List α) (e : α → α → Bool) (he : ∀ a, e a a = true) (hx : x.length < 2 ^ 62)
    (H : ∀ n k, l (n + 1) k = if (decide (k < ((x.length : Nat) : Int))) = true then need (inB k x.length) (need (inB k x.length) (if e (atI x k) (atI x k) = true then l n (IntKind.wrap .i64 (k + 1)) else some (true, false, default))) else some (false, default, ())) :
    l (Int.toNat (((x.length : Nat) : Int) - 0) + 2) 0 = some (false, default, ()) := by
  have := all_loop l x.length (fun _ => true) hx (fun n k hk => by
    rw [H, if_pos (by simp; omega), inB_nat]
    unfold need
    rw [if_pos (by simpa using hk), if_pos (by simpa using hk), if_pos (he _), if_pos rfl]) (fun n k hk => by
    rw [H, if_neg (by simp; omega)]) (Int.toNat (((x.length : Nat) : Int) - 0) + 2) 0 (Nat.zero_le _) (by omega)
  rw [show ((0 : Nat) : Int) = 0 from rfl] at this
  rw [this, all_range_true (fun _ _ _ => rfl)]; rfl

theorem wrapI {n : Int} (h1 : -9223372036854775808 ≤ n) (h2 : n ≤ 9223372036854775807) : IntKind.wrap .i64 n = n := by
  unfold IntKind.wrap
  simp only [IntKind.bits, IntKind.signed]
  simp
  split <;> omega
theorem size_ok {n : Nat} (h : n ≤ maxLen) (hs : ¬ (IntKind.wrap .i64 (1048576 - (n : Int)) < 0)) : n ≤ 1048576 := by
  unfold maxLen at h
  rw [wrapI (by omega) (by omega)] at hs
  omega
/-- a list of abstract values, as a list of what they stand for -/
theorem list_enc {α : Type} {e : α → AV} {F : α → Prop} {Q : AV → Prop} (hq : ∀ y, Q y → ∃ p, y = e p ∧ F p) : ∀ {ys : List AV}, (∀ y ∈ ys, Q y) → ∃ a : List α, ys = List.map e a ∧ ∀ p ∈ a, F p
  | [], _ => ⟨[], rfl, fun p hp => by cases hp⟩
  | y :: ys, h => by
    obtain ⟨p, rfl, hp⟩ := hq y (h y List.mem_cons_self)
    obtain ⟨a, rfl, ha⟩ := list_enc hq (ys := ys) fun z hz => h z (List.mem_cons_of_mem _ hz)
    refine ⟨p :: a, rfl, fun q hq' => ?_⟩
    rcases List.mem_cons.1 hq' with rfl | hq'
    · exact hp
    · exact ha q hq'
end Go.Ab

namespace Go.Ab

section
variable {n : Int}
theorem inB_and3 (h : inB n 3 = true) : (0 ≤ n ∧ n < 3) = True := by
  simp only [inB, Bool.and_eq_true, decide_eq_true_eq] at h; simp; omega
theorem inB_and4 (h : inB n 4 = true) : (0 ≤ n ∧ n < 4) = True := by
  simp only [inB, Bool.and_eq_true, decide_eq_true_eq] at h; simp; omega
theorem inB_lt3 (h : inB n 3 = true) : (n.toNat < 3) = True := by
  simp only [inB, Bool.and_eq_true, decide_eq_true_eq] at h; simp; omega
theorem inB_lt4 (h : inB n 4 = true) : (n.toNat < 4) = True := by
  simp only [inB, Bool.and_eq_true, decide_eq_true_eq] at h; simp; omega
theorem inB_ge3 (h : inB n 3 = true) : (0 ≤ n) = True := by
  simp only [inB, Bool.and_eq_true, decide_eq_true_eq] at h; simp; omega
theorem inB_ge4 (h : inB n 4 = true) : (0 ≤ n) = True := by
  simp only [inB, Bool.and_eq_true, decide_eq_true_eq] at h; simp; omega
theorem inB_le3 (h : inB n 3 = true) : (n < 3) = True := by
  simp only [inB, Bool.and_eq_true, decide_eq_true_eq] at h; simp; omega
theorem inB_le4 (h : inB n 4 = true) : (n < 4) = True := by
  simp only [inB, Bool.and_eq_true, decide_eq_true_eq] at h; simp; omega
theorem getF3 {k : FloatKind} {a b c : Nat} (h : inB n 3 = true) : ([AV.flt k a, .flt k b, .flt k c] : List AV)[n.toNat]? = some (.flt k (atI [a, b, c] n)) := getE (e := AV.flt k) (xs := [a, b, c]) h
theorem getF4 {k : FloatKind} {a b c d : Nat} (h : inB n 4 = true) : ([AV.flt k a, .flt k b, .flt k c, .flt k d] : List AV)[n.toNat]? = some (.flt k (atI [a, b, c, d] n)) := getE (e := AV.flt k) (xs := [a, b, c, d]) h
theorem getI3 {k : IntKind} {a b c : Int} (h : inB n 3 = true) : ([AV.int k a, .int k b, .int k c] : List AV)[n.toNat]? = some (.int k (atI [a, b, c] n)) := getE (e := AV.int k) (xs := [a, b, c]) h
theorem getI4 {k : IntKind} {a b c d : Int} (h : inB n 4 = true) : ([AV.int k a, .int k b, .int k c, .int k d] : List AV)[n.toNat]? = some (.int k (atI [a, b, c, d] n)) := getE (e := AV.int k) (xs := [a, b, c, d]) h
end
theorem map_of_set {α : Type} [Inhabited α] (e : α → AV) : ∀ (l : List α) (i : Nat) (v : α), (List.map e l).set i (e v) = List.map e (l.set i v) := fun l i v => (List.map_set).symm
theorem list4 {α : Type} [Inhabited α] : ∀ (l : List α), l.length = 4 → l = [atI l 0, atI l 1, atI l 2, atI l 3]
  | [_, _, _, _], _ => rfl
theorem list3 {α : Type} [Inhabited α] : ∀ (l : List α), l.length = 3 → l = [atI l 0, atI l 1, atI l 2]
  | [_, _, _], _ => rfl
theorem setF4 {k : FloatKind} {a b c d v : Nat} {i : Nat} : ([AV.flt k a, .flt k b, .flt k c, .flt k d] : List AV).set i (.flt k v) =
    [AV.flt k (atI ([a, b, c, d].set i v) 0), .flt k (atI ([a, b, c, d].set i v) 1), .flt k (atI ([a, b, c, d].set i v) 2), .flt k (atI ([a, b, c, d].set i v) 3)] := by
  have h := map_of_set (AV.flt k) [a, b, c, d] i v
  have h2 := list4 ([a, b, c, d].set i v) (by simp)
  rw [h2] at h
  exact h
theorem setF3 {k : FloatKind} {a b c v : Nat} {i : Nat} : ([AV.flt k a, .flt k b, .flt k c] : List AV).set i (.flt k v) =
    [AV.flt k (atI ([a, b, c].set i v) 0), .flt k (atI ([a, b, c].set i v) 1), .flt k (atI ([a, b, c].set i v) 2)] := by
  have h := map_of_set (AV.flt k) [a, b, c] i v
  have h2 := list3 ([a, b, c].set i v) (by simp)
  rw [h2] at h
  exact h
theorem setI3 {k : IntKind} {a b c v : Int} {i : Nat} : ([AV.int k a, .int k b, .int k c] : List AV).set i (.int k v) =
    [AV.int k (atI ([a, b, c].set i v) 0), .int k (atI ([a, b, c].set i v) 1), .int k (atI ([a, b, c].set i v) 2)] := by
  have h := map_of_set (AV.int k) [a, b, c] i v
  have h2 := list3 ([a, b, c].set i v) (by simp)
  rw [h2] at h
  exact h

/-- a byte of a whole number, and back -/
def b8 (n : Int) : UInt8 := UInt8.ofNat n.toNat
def u8 (b : UInt8) : Int := ((b.toNat : Nat) : Int)
theorem u8_int (k : IntKind) (n : Int) : AV.u8 (.int k n) = b8 n := rfl
theorem isU8_int (n : Int) : AV.isU8 (.int .u8 n) = true := rfl
theorem all_u8 (l : List Int) : List.all (List.map (AV.int .u8) l) AV.isU8 = true := all_enc (fun _ => rfl) l
theorem map_u8 (l : List Int) : List.map AV.u8 (List.map (AV.int .u8) l) = List.map b8 l := by
  rw [List.map_map]; rfl
theorem map_toU8 (l : List UInt8) : List.map (fun b => AV.int .u8 ((UInt8.toNat b : Nat) : Int)) l = List.map (AV.int .u8) (List.map u8 l) := by
  rw [List.map_map]; rfl
theorem idxS_of {l : List UInt8} {k : IntKind} {n : Int} (h : inB n l.length = true) : vidxS (.str l) (.int k n) = some (.int .u8 (u8 (atI l n))) := by
  have h0 : 0 ≤ n := by simp only [inB, Bool.and_eq_true, decide_eq_true_eq] at h; exact h.1
  simp only [vidxS, if_pos h0, atI_get h]
  rfl
theorem rep_get0 {m : Nat} {z : AV} (h : inB 0 m = true) : (List.replicate m z)[0]? = some z := by
  simp only [inB, Bool.and_eq_true, decide_eq_true_eq] at h
  rw [List.getElem?_replicate, if_pos (by omega)]
theorem rep_get {m : Nat} {z : AV} {n : Int} (h : inB n m = true) : (List.replicate m z)[n.toNat]? = some z := by
  simp only [inB, Bool.and_eq_true, decide_eq_true_eq] at h
  rw [List.getElem?_replicate, if_pos (by omega)]
theorem getE_app {α : Type} [Inhabited α] {e : α → AV} {xs : List α} {v : α} {n : Int} (h : inB n (xs.length + 1) = true) : ((List.map e xs) ++ [e v])[n.toNat]? = some (e (atI (xs ++ [v]) n)) := by
  have := getE (e := e) (xs := xs ++ [v]) (n := n) (by simpa using h)
  rw [← this, List.map_append]; rfl
theorem atI_set_self {α : Type} [Inhabited α] {xs : List α} {v : α} {n : Int} (h : inB n xs.length = true) : atI (xs.set n.toNat v) n = v := by
  simp only [inB, Bool.and_eq_true, decide_eq_true_eq] at h
  unfold atI
  rw [List.getD_eq_getElem?_getD, List.getElem?_set_self (by omega)]; rfl
def grpA := And.intro @inB_ge3 <| And.intro @inB_ge4 <| And.intro @inB_le3 <| And.intro @inB_le4 <| And.intro @rep_get0 <| And.intro @rep_get <| And.intro @getE_app <| And.intro @atI_set_self <| And.intro @inB_and3 <| And.intro @inB_and4 <| And.intro @inB_lt3 <| And.intro @inB_lt4 <| And.intro @getF3 <| And.intro @getF4 <| And.intro @getI3 <| And.intro @getI4 <| And.intro @setF4 <| And.intro @setF3 <| And.intro @setI3 <| And.intro @u8_int <| And.intro @isU8_int <| And.intro @all_u8 <| And.intro @map_u8 <| And.intro @map_toU8 @idxS_of
def grpN := And.intro @beq_true <| And.intro @beq_false <| And.intro @true_or <| And.intro @or_true <| And.intro @Bool.not_eq_true' <| And.intro @decide_eq_false_iff_not <| And.intro @Bool.not_true <| And.intro @Bool.not_false <| And.intro @Bool.false_or <| And.intro @Bool.true_or <| And.intro @Bool.true_and <| And.intro @Bool.false_and <| And.intro @Bool.and_eq_true <| And.intro @Bool.or_eq_true <| And.intro @Bool.false_eq_true <| And.intro @and_true <| And.intro @true_and <| And.intro @false_or <| And.intro @or_false <| And.intro @decide_eq_true_eq <| And.intro @not_false_eq_true @not_true_eq_false
structure eS (p : Prop) : Prop where
  h : p
theorem eS_of {p : Prop} (h : p) : eS p := ⟨h⟩
theorem eS_to {p : Prop} (h : eS p) : p := h.h
end Go.Ab

