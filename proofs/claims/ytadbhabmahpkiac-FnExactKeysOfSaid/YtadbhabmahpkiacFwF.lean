/- The greater and the lesser of two, and what a bend needs. No conditions. -/
import Derived.Test.YtadbhabmahpkiacFwE
set_option linter.all false
namespace Go.Ab
open Go.RowKit

def frz1 (l : Nat) (b : Blk) : AV → AV
 | .lsl m off len => if m = l then .sl (partL b.elems off len) else .lsl m off len
 | .lptr m i off => if m = l then .any else .lptr m i off
 | .agg _ | .tup _ => .any
 | .fn f x y => if (x.isEmpty && y.isEmpty) = true then .fn f x y else .any
 | x => x
def frzV (l : Nat) (b : Blk) : AV → AV
 | .agg cs => .agg (cs.map (frz1 l b))
 | x => frz1 l b x
def frzB (l : Nat) (b : Blk) (c : Blk) : Blk := if c.pur = true then c else { c with elems := c.elems.map (frzV l b) }
def frzS (l : Nat) (b : Blk) (st : St) : St := ⟨st.env.map fun p => (p.1,frzV l b p.2),(l,none) :: st.heap.map fun p => (p.1,p.2.map (frzB l b))⟩

theorem frz1_cells (l : Nat) (b : Blk) (x : AV) : (frz1 l b x).cells = [frz1 l b x] := by
 cases x <;> first | rfl | (simp only [frz1]; split <;> rfl)
theorem frzV_cells (l : Nat) (b : Blk) (x : AV) : (frzV l b x).cells.length = x.cells.length ∧ ∀ (j : Nat) d,(frzV l b x).cells[j]? = some d → ∃ d',x.cells[j]? = some d' ∧ d = frz1 l b d' := by
 have single : x.cells = [x] → frzV l b x = frz1 l b x → (frzV l b x).cells.length = x.cells.length ∧ ∀ (j : Nat) d,(frzV l b x).cells[j]? = some d → ∃ d',x.cells[j]? = some d' ∧ d = frz1 l b d' := by
  intro e1 e2
  rw [e2,frz1_cells,e1]
  refine ⟨rfl,fun j d hd => ?_⟩
  obtain ⟨rfl,rfl⟩ := single_get hd
  exact ⟨x,rfl,rfl⟩
 cases x with
 | agg cs =>
  refine ⟨by show (cs.map _).length = cs.length; simp,fun j d hd => ?_⟩
  change (cs.map (frz1 l b))[j]? = some d at hd
  simp only [List.getElem?_map,Option.map_eq_some_iff] at hd
  obtain ⟨d',h1,h2⟩ := hd
  exact ⟨d',h1,h2.symm⟩
 | _ => exact single rfl rfl

section
variable {l : Nat} {b : Blk} {ρ ρ' : Nat → Option Nat} {h h' : Nat → Option Blk} {w : World} {Z Z' : Nat → Prop}
theorem V.frz1 (hp : Hp ρ h w Z) (hb : h l = some b) (hpur : b.pur = true) (hz : ∀ k,Z k → Z' k) (hl : ∀ B,ρ l = some B → Z' B)
  (hr : ∀ m c,m ≠ l → h m = some c → ρ' m = ρ m ∧ ∃ c',h' m = some c' ∧ c'.es = c.es ∧ c'.elems.length = c.elems.length) {v : Value} {x : AV} (hv : V ρ h w Z v x) : V ρ' h' w Z' v (frz1 l b x) := by
 cases x with
 | lsl m off len =>
  simp only [Go.Ab.frz1]
  split
  ·rename_i e; subst e
   rw [partL_eq]
   rcases lsl_inv hv with ⟨B,b',t,n,cap,h1,h2,h3,rfl,h4,h5,h6,h7⟩ | ⟨b',h1,h2,hnil,rfl,rfl⟩
   ·rw [hb] at h2; cases h2
    obtain ⟨c,ct,g1,g2,g3,_,g5⟩ := hp.blk m b B hb h1
    have hlen : ((b.elems.drop off).take len).length = len := by simp; omega
    have get : ∀ (i : Nat) x,((b.elems.drop off).take len)[i]? = some x → b.elems[off + i]? = some x := by
     intro i x hx
     have hi : i < len := by
      have := (List.getElem?_eq_some_iff.1 hx).1
      omega
     rw [List.getElem?_take_of_lt hi,List.getElem?_drop] at hx
     exact hx
    refine .pure (.sl B (off * b.es) len cap b.es _ hlen h4 h7 (fun _ => hl B h1) (fun x hx => g3 x (List.mem_of_mem_drop (List.mem_of_mem_take hx))) (fun i x j d q1 q2 => ?_) (fun i x j d u q1 q2 q3 => ?_))
    ·have q1' := get i x q1
     have hi := (List.getElem?_eq_some_iff.1 q1').1
     have hj : j < b.es := by rw [← g3 x (List.mem_of_getElem? q1')]; exact (List.getElem?_eq_some_iff.1 q2).1
     have hk := idx_lt hi hj
     rw [cell_of w B _ c ct _ g1,← Nat.add_mul]
     exact ⟨_,Array.getElem?_eq_getElem (show (off + i) * b.es + j < c.size by omega)⟩
    ·have q1' := get i x q1
     rw [cell_of w B _ c ct _ g1,← Nat.add_mul] at q3
     exact (g5 hpur (off + i) x j d u q1' q2 q3).widen hz
   ·exact .pure hnil.v0
  ·rename_i e
   exact hv.but (l := l) (fun k hk => ⟨hz k hk,rfl⟩) (fun m c hm hc => let ⟨e1,e2⟩ := hr m c hm hc; ⟨e1,e2,fun _ _ => rfl⟩) (by simpa [name1] using e)
 | lptr m i off =>
  simp only [Go.Ab.frz1]
  split
  ·exact .pure (.any v)
  ·rename_i e
   exact hv.but (l := l) (fun k hk => ⟨hz k hk,rfl⟩) (fun m c hm hc => let ⟨e1,e2⟩ := hr m c hm hc; ⟨e1,e2,fun _ _ => rfl⟩) (by simpa [name1] using e)
 | agg => exact .pure (.any v)
 | tup => exact .pure (.any v)
 | fn f x y =>
  simp only [Go.Ab.frz1]
  split
  ·rename_i e
   exact hv.but (l := l) (fun k hk => ⟨hz k hk,rfl⟩) (fun m c hm hc => let ⟨e1,e2⟩ := hr m c hm hc; ⟨e1,e2,fun _ _ => rfl⟩) (by simp [name1]; simpa using e)
  ·exact .pure (.any v)
 | _ => exact hv.but (l := l) (fun k hk => ⟨hz k hk,rfl⟩) (fun m c hm hc => let ⟨e1,e2⟩ := hr m c hm hc; ⟨e1,e2,fun _ _ => rfl⟩) rfl
theorem V.frzV (hp : Hp ρ h w Z) (hb : h l = some b) (hpur : b.pur = true) (hz : ∀ k,Z k → Z' k) (hl : ∀ B,ρ l = some B → Z' B)
  (hr : ∀ m c,m ≠ l → h m = some c → ρ' m = ρ m ∧ ∃ c',h' m = some c' ∧ c'.es = c.es ∧ c'.elems.length = c.elems.length) {v : Value} {x : AV} (hv : V ρ h w Z v x) : V ρ' h' w Z' v (frzV l b x) := by
 cases x with
 | agg cs =>
  obtain ⟨vs,rfl,hlen,hd⟩ := agg_inv hv
  refine .agg vs _ (by simpa using hlen) fun i c d q1 q2 => ?_
  simp only [List.getElem?_map,Option.map_eq_some_iff] at q2
  obtain ⟨d',q2,rfl⟩ := q2
  exact (hd i c d' q1 q2).frz1 hp hb hpur hz hl hr
 | _ => exact hv.frz1 hp hb hpur hz hl hr
end

theorem wk_frz {l : Nat} {b : Blk} {st : St} (hb : st.hp l = some b) (hpur : b.pur = true) : Wk st (frzS l b st) := by
 rintro cf a w ⟨ρ,h⟩
 have hget : ∀ t,(frzS l b st).get t = frzV l b (st.get t) := fun t => lk_map AV.any AV.any (frzV l b) rfl st.env t
 have hhp : ∀ m,(frzS l b st).hp m = if l = m then none else (st.hp m).map (frzB l b) := by
  intro m
  show (if l = m then none else lk none (st.heap.map fun p => (p.1,p.2.map (frzB l b))) m) = _
  rw [lk_map none none (fun x : Option Blk => x.map (frzB l b)) rfl]
  rfl
 have hB : ∀ c,(frzB l b c).es = c.es ∧ (frzB l b c).elems.length = c.elems.length ∧ (frzB l b c).pur = c.pur := by
  intro c; unfold frzB; split <;> simp_all
 have hz : ∀ k,Zf cf.Z0 cf.base ρ st.hp w k → Zf cf.Z0 cf.base ρ (frzS l b st).hp w k := fun k hk => ⟨hk.1,hk.2.1,fun m hm he => hk.2.2 m (by
  rw [hhp] at hm
  split at hm
  ·cases hm
  ·simpa using hm) he⟩
 have hl : ∀ B,ρ l = some B → Zf cf.Z0 cf.base ρ (frzS l b st).hp w B := by
  intro B hlB
  obtain ⟨c,t,g1,_⟩ := h.hp.blk l b B hb hlB
  refine ⟨?_,(Array.getElem?_eq_some_iff.1 g1).1,fun m hm he => ?_⟩
  ·rcases h.own l B (by simp [hb]) hlB with g | g
   ·exact .inr g
   ·exact .inl (cf.hM B g)
  ·rw [hhp] at hm
   split at hm
   ·cases hm
   ·rename_i hne
    exact hne (h.hp.inj l m B (by simp [hb]) (by simpa using hm) hlB he)
 have hr : ∀ m c,m ≠ l → st.hp m = some c → ρ m = ρ m ∧ ∃ c',(frzS l b st).hp m = some c' ∧ c'.es = c.es ∧ c'.elems.length = c.elems.length := by
  intro m c hm hc
  refine ⟨rfl,frzB l b c,?_,(hB c).1,(hB c).2.1⟩
  rw [hhp,if_neg (Ne.symm hm),hc]; rfl
 have hold : ∀ m c,(frzS l b st).hp m = some c → ∃ c0,st.hp m = some c0 ∧ c = frzB l b c0 := by
  intro m c hc
  rw [hhp] at hc
  split at hc
  ·cases hc
  ·simp only [Option.map_eq_some_iff] at hc
   obtain ⟨c0,h1,h2⟩ := hc
   exact ⟨c0,h1,h2.symm⟩
 have hsome : ∀ m,((frzS l b st).hp m).isSome = true → (st.hp m).isSome = true := by
  intro m hm
  obtain ⟨c,hc⟩ := Option.isSome_iff_exists.1 hm
  obtain ⟨c0,h1,_⟩ := hold m c hc
  simp [h1]
 refine ⟨ρ,⟨⟨fun m c B hc hB' => ?_,fun m c hc hn => ?_,fun m m' B h1 h2 => h.hp.inj m m' B (hsome m h1) (hsome m' h2)⟩,fun t => ?_,h.size,h.defers,h.fr,fun m B hm => h.own m B (hsome m hm),h.z0,h.pin,h.shp⟩⟩
 ·obtain ⟨c0,h0,rfl⟩ := hold m c hc
  obtain ⟨cs,t,g1,g2,g3,g4,g5⟩ := h.hp.blk m c0 B h0 hB'
  unfold frzB
  split
  ·rename_i hpc
   exact ⟨cs,t,g1,g2,g3,fun i x j d v q1 q2 q3 => .pure ((g5 hpc i x j d v q1 q2 q3).widen hz),fun _ i x j d v q1 q2 q3 => (g5 hpc i x j d v q1 q2 q3).widen hz⟩
  ·rename_i hpc
   refine ⟨cs,t,g1,by simpa using g2,fun x hx => ?_,fun i x j d v q1 q2 q3 => ?_,fun hp => absurd hp hpc⟩
   ·simp only [List.mem_map] at hx
    obtain ⟨y,hy,rfl⟩ := hx
    rw [(frzV_cells l b y).1]; exact g3 y hy
   ·simp only [List.getElem?_map,Option.map_eq_some_iff] at q1
    obtain ⟨y,hy,rfl⟩ := q1
    obtain ⟨d',hd',hdd⟩ := (frzV_cells l b y).2 j d q2
    have g7 := g4 i y j d' v hy hd' q3
    rw [hdd]
    exact g7.frz1 h.hp hb hpur hz hl hr
 ·obtain ⟨c0,h0,rfl⟩ := hold m c hc
  have := h.hp.nil m c0 h0 hn
  have hlen := (hB c0).2.1
  rw [this] at hlen
  exact List.eq_nil_of_length_eq_zero hlen
 ·rw [hget]
  exact (h.tmp t).frzV h.hp hb hpur hz hl hr
end Go.Ab

namespace Go.Ab
open Go.RowKit

def swN (a b n : Nat) : Nat := if n = a then b else if n = b then a else n
theorem swN_swN (a b n : Nat) : swN a b (swN a b n) = n := by
 unfold swN
 by_cases h1 : n = a
 ·subst h1
  by_cases h2 : b = n
  ·subst h2; simp
  ·simp [h2]
 ·by_cases h2 : n = b
  ·subst h2; simp [h1]
  ·simp [h1,h2]
def unp (l : Nat) : Bool := decide (l < 1000000) || decide (l % 4 = 2)
theorem unp_not {l : Nat} {cf : Cfg} (h : unp l = true) (hp : cf.pn l) : False := by
 simp only [unp,Bool.or_eq_true,decide_eq_true_eq] at h
 obtain ⟨h1,h2,_⟩ := hp
 omega
theorem swN_hi {a b n : Nat} {cf : Cfg} (ha : unp a = true) (hb : unp b = true) (hn : cf.pn n) : swN a b n = n := by
 have ha : n ≠ a := fun e => by subst e; exact unp_not ha hn
 have hb : n ≠ b := fun e => by subst e; exact unp_not hb hn
 unfold swN
 rw [if_neg (by omega),if_neg (by omega)]
def ren1 (a b : Nat) : AV → AV
 | .lsl m off len => .lsl (swN a b m) off len
 | .lptr m i off => .lptr (swN a b m) i off
 | .agg _ | .tup _ => .any
 | .fn f x y => if (x.isEmpty && y.isEmpty) = true then .fn f x y else .any
 | x => x
def renV (a b : Nat) : AV → AV
 | .agg cs => .agg (cs.map (ren1 a b))
 | x => ren1 a b x
def renB (a b : Nat) (c : Blk) : Blk := if c.pur = true then c else { c with elems := c.elems.map (renV a b) }
def renS (a b : Nat) (st : St) : St := ⟨st.env.map fun p => (p.1,renV a b p.2),st.heap.map fun p => (swN a b p.1,p.2.map (renB a b))⟩

theorem ren1_cells (a b : Nat) (x : AV) : (ren1 a b x).cells = [ren1 a b x] := by
 cases x <;> first | rfl | (simp only [ren1]; split <;> rfl)
theorem renV_cells (a b : Nat) (x : AV) : (renV a b x).cells.length = x.cells.length ∧ ∀ (j : Nat) d,(renV a b x).cells[j]? = some d → ∃ d',x.cells[j]? = some d' ∧ d = ren1 a b d' := by
 have single : x.cells = [x] → renV a b x = ren1 a b x → (renV a b x).cells.length = x.cells.length ∧ ∀ (j : Nat) d,(renV a b x).cells[j]? = some d → ∃ d',x.cells[j]? = some d' ∧ d = ren1 a b d' := by
  intro e1 e2
  rw [e2,ren1_cells,e1]
  refine ⟨rfl,fun j d hd => ?_⟩
  obtain ⟨rfl,rfl⟩ := single_get hd
  exact ⟨x,rfl,rfl⟩
 cases x with
 | agg cs =>
  refine ⟨by show (cs.map _).length = cs.length; simp,fun j d hd => ?_⟩
  change (cs.map (ren1 a b))[j]? = some d at hd
  simp only [List.getElem?_map,Option.map_eq_some_iff] at hd
  obtain ⟨d',h1,h2⟩ := hd
  exact ⟨d',h1,h2.symm⟩
 | _ => exact single rfl rfl
theorem renB_same (a b : Nat) (c : Blk) : (renB a b c).es = c.es ∧ (renB a b c).elems.length = c.elems.length ∧ (renB a b c).pur = c.pur := by
 unfold renB; split <;> simp_all

section
variable {a b : Nat} {ρ : Nat → Option Nat} {h h' : Nat → Option Blk} {w : World} {Z Z' : Nat → Prop}
theorem V.ren1 (hz : ∀ k,Z k → Z' k) (hr : ∀ m,h' (swN a b m) = (h m).map (renB a b)) {v : Value} {x : AV} (hv : V ρ h w Z v x) : V (fun m => ρ (swN a b m)) h' w Z' v (ren1 a b x) := by
 have hk : ∀ {m : Nat} {c : Blk},h m = some c → h' (swN a b m) = some (renB a b c) := by
  intro m c hc; rw [hr,hc]; rfl
 cases x with
 | lsl m off len =>
  cases hv with
  | pure h0 => cases h0
  | lsl _ _ _ cap B c t n hρ hh hw hc hn hl hm =>
   obtain ⟨e1,e2,_⟩ := renB_same a b c
   rw [← e1] at hn ⊢
   rw [← e2] at hl
   exact .lsl _ _ _ cap B _ t n (by show ρ (swN a b (swN a b m)) = some B; rw [swN_swN]; exact hρ) (hk hh) hw hc hn hl hm
  | lnil _ c hv hρ hh => exact .lnil _ _ hv (by show ρ (swN a b (swN a b m)) = none; rw [swN_swN]; exact hρ) (hk hh)
 | lptr m i off =>
  cases hv with
  | pure h0 => cases h0
  | lptr _ _ _ B c hρ hh =>
   obtain ⟨e1,_,_⟩ := renB_same a b c
   rw [← e1]
   exact .lptr _ _ _ B _ (by show ρ (swN a b (swN a b m)) = some B; rw [swN_swN]; exact hρ) (hk hh)
 | agg => exact .pure (.any v)
 | tup => exact .pure (.any v)
 | fn f x y =>
  simp only [Go.Ab.ren1]
  split
  ·rename_i e
   simp only [Bool.and_eq_true,List.isEmpty_iff] at e
   obtain ⟨rfl,rfl⟩ := e
   cases hv with
   | pure h0 => exact .pure (h0.widen hz)
   | fn _ c1 c2 _ _ l1 l2 _ _ => exact .fn f c1 c2 [] [] l1 l2 (fun i c d _ q => by simp at q) (fun i c d _ q => by simp at q)
  ·exact .pure (.any v)
 | _ =>
  cases hv with
  | pure h0 => exact .pure (h0.widen hz)
theorem V.renV (hz : ∀ k,Z k → Z' k) (hr : ∀ m,h' (swN a b m) = (h m).map (renB a b)) {v : Value} {x : AV} (hv : V ρ h w Z v x) : V (fun m => ρ (swN a b m)) h' w Z' v (renV a b x) := by
 cases x with
 | agg cs =>
  obtain ⟨vs,rfl,hlen,hd⟩ := agg_inv hv
  refine .agg vs _ (by simpa using hlen) fun i c d q1 q2 => ?_
  simp only [List.getElem?_map,Option.map_eq_some_iff] at q2
  obtain ⟨d',q2,rfl⟩ := q2
  exact (hd i c d' q1 q2).ren1 hz hr
 | _ => exact hv.ren1 hz hr
end
theorem lk_ren (a b : Nat) (f : Blk → Blk) : ∀ (l : List (Nat × Option Blk)) (m : Nat),lk none (l.map fun p => (swN a b p.1,p.2.map f)) m = (lk none l (swN a b m)).map f
 | [],_ => rfl
 | (k,x) :: l,m => by
  simp only [List.map_cons,lk]
  have : (swN a b k = m) = (k = swN a b m) := by
   apply propext; constructor
   ·rintro rfl; rw [swN_swN]
   ·rintro rfl; rw [swN_swN]
  simp only [this]
  split
  ·rfl
  ·exact lk_ren a b f l m

theorem wk_ren {a b : Nat} {st : St} (hab : (unp a && unp b) = true) : Wk st (renS a b st) := by
 simp only [Bool.and_eq_true,decide_eq_true_eq] at hab
 rintro cf ac w ⟨ρ,h⟩
 have hget : ∀ t,(renS a b st).get t = renV a b (st.get t) := fun t => lk_map AV.any AV.any (renV a b) rfl st.env t
 have hhp : ∀ m,(renS a b st).hp m = (st.hp (swN a b m)).map (renB a b) := fun m => lk_ren a b (renB a b) st.heap m
 have hr : ∀ m,(renS a b st).hp (swN a b m) = (st.hp m).map (renB a b) := fun m => by rw [hhp,swN_swN]
 have hsome : ∀ m,((renS a b st).hp m).isSome = true → (st.hp (swN a b m)).isSome = true := fun m hm => by rw [hhp] at hm; simpa using hm
 have hz : ∀ k,Zf cf.Z0 cf.base ρ st.hp w k → Zf cf.Z0 cf.base (fun m => ρ (swN a b m)) (renS a b st).hp w k := fun k hk => ⟨hk.1,hk.2.1,fun m hm he => hk.2.2 _ (hsome m hm) he⟩
 have hold : ∀ m c,(renS a b st).hp m = some c → ∃ c0,st.hp (swN a b m) = some c0 ∧ c = renB a b c0 := by
  intro m c hc
  rw [hhp] at hc
  simp only [Option.map_eq_some_iff] at hc
  obtain ⟨c0,h1,h2⟩ := hc
  exact ⟨c0,h1,h2.symm⟩
 refine ⟨fun m => ρ (swN a b m),⟨⟨fun m c B hc hB' => ?_,fun m c hc hn => ?_,fun m m' B h1 h2 e1 e2 => ?_⟩,fun t => ?_,h.size,h.defers,h.fr,fun m B hm hB => h.own _ B (hsome m hm) hB,h.z0,fun l hl => ?_,h.shp⟩⟩
 ·obtain ⟨c0,h0,rfl⟩ := hold m c hc
  obtain ⟨cs,t,g1,g2,g3,g4,g5⟩ := h.hp.blk _ c0 B h0 hB'
  unfold renB
  split
  ·rename_i hpc
   exact ⟨cs,t,g1,g2,g3,fun i x j d v q1 q2 q3 => .pure ((g5 hpc i x j d v q1 q2 q3).widen hz),fun _ i x j d v q1 q2 q3 => (g5 hpc i x j d v q1 q2 q3).widen hz⟩
  ·rename_i hpc
   refine ⟨cs,t,g1,by simpa using g2,fun x hx => ?_,fun i x j d v q1 q2 q3 => ?_,fun hp => absurd hp hpc⟩
   ·simp only [List.mem_map] at hx
    obtain ⟨y,hy,rfl⟩ := hx
    rw [(renV_cells a b y).1]; exact g3 y hy
   ·simp only [List.getElem?_map,Option.map_eq_some_iff] at q1
    obtain ⟨y,hy,rfl⟩ := q1
    obtain ⟨d',hd',hdd⟩ := (renV_cells a b y).2 j d q2
    rw [hdd]
    exact (g4 i y j d' v hy hd' q3).ren1 hz hr
 ·obtain ⟨c0,h0,rfl⟩ := hold m c hc
  have := h.hp.nil _ c0 h0 hn
  have hlen := (renB_same a b c0).2.1
  rw [this] at hlen
  exact List.eq_nil_of_length_eq_zero hlen
 ·have := h.hp.inj _ _ B (hsome m h1) (hsome m' h2) e1 e2
  rw [← swN_swN a b m,this,swN_swN]
 ·rw [hget]
  exact (h.tmp t).renV hz hr
 ·show ρ (swN a b l) = cf.ρ0 l
  rw [swN_hi hab.1 hab.2 hl]; exact h.pin l hl
end Go.Ab

namespace Go.Ab

def nilB (n j : Nat) (i : Option Nat) (l es : Nat) (st : St) : St := match st.hp n with
 | some b => if b.pur = false then (match b.elems[j]? with
  | some x => (st.setH l (some ⟨es,true,[]⟩)).setH n (some { b with elems := b.elems.set j (nilV i l x) })
  | none => st) else st
 | none => st

theorem nilV_cells (i : Option Nat) (l : Nat) (x : AV) : (nilV i l x).cells.length = x.cells.length := by
 unfold nilV
 split
 ·split <;> rfl
 ·split
  ·split
   ·simp [AV.cells]
   ·rfl
  ·rfl
 ·rfl
theorem nilV_cell {ρ ρ' : Nat → Option Nat} {h h' : Nat → Option Blk} {w : World} {Z Z' : Nat → Prop} {l : Nat} {b : Blk} (hm : ∀ {v : Value} {a : AV},V ρ h w Z v a → V ρ' h' w Z' v a) (hl : ρ' l = none) (hb : h' l = some b) {i : Option Nat} {x : AV} {k : Nat} {d : AV} {v : Value}
  (hd : (nilV i l x).cells[k]? = some d) (hv : ∀ d',x.cells[k]? = some d' → V ρ h w Z v d') : V ρ' h' w Z' v d := by
 have nil : ∀ {v : Value},V ρ h w Z v .snil → V ρ' h' w Z' v (.lsl l 0 0) := by
  intro v hv
  cases hv with
  | pure h0 => cases h0; exact .lnil l b (.inl rfl) hl hb
 unfold nilV at hd
 split at hd
 ·split at hd
  ·have hk : k = 0 := by
    rcases Nat.eq_zero_or_pos k with h | h
    ·exact h
    ·rw [List.getElem?_eq_none (by simp [AV.cells]; omega)] at hd; cases hd
   subst hk; cases hd
   exact nil (hv _ rfl)
  ·exact hm (hv _ hd)
 ·rename_i cs
  split at hd
  ·rename_i i
   split at hd
   ·rename_i hi
    by_cases e : k = i
    ·subst e
     have hlt : k < cs.length := (List.getElem?_eq_some_iff.1 hi).1
     simp only [AV.cells] at hd
     rw [List.getElem?_set_self hlt] at hd
     cases hd
     exact nil (hv _ hi)
    ·simp only [AV.cells] at hd
     rw [List.getElem?_set_ne (Ne.symm e)] at hd
     exact hm (hv _ hd)
   ·exact hm (hv _ hd)
  ·exact hm (hv _ hd)
 ·exact hm (hv _ hd)

theorem wk_nilB {n j l es : Nat} {i : Option Nat} {st : St} (hn : ((st.hp l).isNone && decide (l < 1000000)) = true) : Wk st (nilB n j i l es st) := by
 unfold nilB
 split
 ·rename_i b hnb
  split
  ·rename_i hpf
   split
   ·rename_i x hx
    rintro cf a w ⟨ρ,h⟩
    simp only [Bool.and_eq_true,decide_eq_true_eq] at hn
    have hlow := hn.2
    have hn' : st.hp l = none := by simpa using hn.1
    have hnl : n ≠ l := fun e => by subst e; rw [hn'] at hnb; cases hnb
    let ρ' : Nat → Option Nat := fun m => if m = l then none else ρ m
    let st' : St := (st.setH l (some ⟨es,true,[]⟩)).setH n (some { b with elems := b.elems.set j (nilV i l x) })
    have hhp : st'.hp l = some ⟨es,true,[]⟩ := by
     show (if n = l then _ else if l = l then _ else _) = _
     rw [if_neg hnl,if_pos rfl]
    have hhn : st'.hp n = some { b with elems := b.elems.set j (nilV i l x) } := by
     show (if n = n then _ else _) = _
     rw [if_pos rfl]
    have hhp' : ∀ m,m ≠ l → m ≠ n → st'.hp m = st.hp m := fun m hm hm2 => by
     show (if n = m then _ else if l = m then _ else _) = _
     rw [if_neg (Ne.symm hm2),if_neg (Ne.symm hm)]; rfl
    have hρ' : ∀ m,m ≠ l → ρ' m = ρ m := fun m hm => if_neg hm
    have hρl : ρ' l = none := if_pos rfl
    have hsome : ∀ m,m ≠ l → (st'.hp m).isSome = true → (st.hp m).isSome = true := fun m hm hs => by
     by_cases e : m = n
     ·subst e; rw [hnb]; rfl
     ·rw [← hhp' m hm e]; exact hs
    have hz : ∀ b,Zf cf.Z0 cf.base ρ st.hp w b → Zf cf.Z0 cf.base ρ' st'.hp w b := fun c hc => ⟨hc.1,hc.2.1,fun m hm => by
     by_cases e : m = l
     ·subst e; rw [hρl]; simp
     ·rw [hρ' m e]; exact hc.2.2 m (hsome m e hm)⟩
    have hV : ∀ {v : Value} {a : AV},V ρ st.hp w (Zf cf.Z0 cf.base ρ st.hp w) v a → V ρ' st'.hp w (Zf cf.Z0 cf.base ρ' st'.hp w) v a := fun hv => by
     refine hv.mono (fun c hc => ⟨hz c hc,rfl⟩) fun m c hc => ?_
     have hm : m ≠ l := fun e => by subst e; rw [hn'] at hc; cases hc
     refine ⟨hρ' m hm,?_,fun _ _ => rfl⟩
     by_cases e : m = n
     ·subst e
      rw [hnb] at hc; cases hc
      exact ⟨_,hhn,rfl,by simp⟩
     ·exact ⟨c,by rw [hhp' m hm e]; exact hc,rfl,rfl⟩
    have hj : j < b.elems.length := (List.getElem?_eq_some_iff.1 hx).1
    refine ⟨ρ',⟨⟨fun m c B hc hB => ?_,fun m c hc hB => ?_,fun m m' B hm hm' hB hB' => ?_⟩,fun u => hV (h.tmp u),h.size,h.defers,h.fr,fun m B hm hB => ?_,h.z0,fun m hm => by rw [← h.pin m hm]; exact hρ' m (by have := hm.1; omega),h.shp⟩⟩
    ·have hml : m ≠ l := fun e => by subst e; rw [hρl] at hB; cases hB
     rw [hρ' m hml] at hB
     by_cases e : m = n
     ·subst e
      have hc' : some { b with elems := b.elems.set j (nilV i l x) } = some c := hhn.symm.trans hc
      cases hc'
      obtain ⟨cs,ct,g1,g2,g3,g4,g5⟩ := h.hp.blk m b B hnb hB
      refine ⟨cs,ct,g1,by simpa using g2,fun y hy => ?_,fun q y k d v q1 q2 q3 => ?_,fun hp => ?_⟩
      ·rcases List.mem_or_eq_of_mem_set hy with hy | rfl
       ·exact g3 y hy
       ·rw [nilV_cells]; exact g3 x (List.mem_of_getElem? hx)
      ·by_cases eq : q = j
       ·subst eq
        rw [List.getElem?_set_self hj] at q1
        cases q1
        exact nilV_cell hV hρl hhp q2 fun d' hd' => g4 q x k d' v hx hd' q3
       ·rw [List.getElem?_set_ne (Ne.symm eq)] at q1
        exact hV (g4 q y k d v q1 q2 q3)
      ·simp only at hp; rw [hpf] at hp; cases hp
     ·have hc' : st.hp m = some c := (hhp' m hml e).symm.trans hc
      obtain ⟨cs,ct,g1,g2,g3,g4,g5⟩ := h.hp.blk m c B hc' hB
      exact ⟨cs,ct,g1,g2,g3,fun q x k d v q1 q2 q3 => hV (g4 q x k d v q1 q2 q3),fun hp q x k d v q1 q2 q3 => (g5 hp q x k d v q1 q2 q3).widen hz⟩
    ·by_cases e : m = l
     ·subst e
      have hc' : some (⟨es,true,[]⟩ : Blk) = some c := hhp.symm.trans hc
      cases hc'; rfl
     ·rw [hρ' m e] at hB
      by_cases e2 : m = n
      ·subst e2
       have hc' : some { b with elems := b.elems.set j (nilV i l x) } = some c := hhn.symm.trans hc
       cases hc'
       have := h.hp.nil m b hnb hB
       rw [this] at hj; simp at hj
      ·have hc' : st.hp m = some c := (hhp' m e e2).symm.trans hc
       exact h.hp.nil m c hc' hB
    ·have e : m ≠ l := fun e => by subst e; rw [hρl] at hB; cases hB
     have e' : m' ≠ l := fun e => by subst e; rw [hρl] at hB'; cases hB'
     rw [hρ' m e] at hB; rw [hρ' m' e'] at hB'
     exact h.hp.inj m m' B (hsome m e hm) (hsome m' e' hm') hB hB'
    ·have e : m ≠ l := fun e => by subst e; rw [hρl] at hB; cases hB
     rw [hρ' m e] at hB
     exact h.own m B (hsome m e hm) hB
   ·intro cf a w h; exact h
  ·intro cf a w h; exact h
 ·intro cf a w h; exact h
end Go.Ab

namespace Go.Ab

theorem take_all {α β : Type} (e : α → β) (xs : List α) : List.take xs.length (List.map e xs) = List.map e xs := by
 rw [List.take_of_length_le]; simp
theorem getE_zero {α : Type} [Inhabited α] {e : α → AV} {xs : List α} (h : inB 0 xs.length = true) : (List.map e xs)[0]? = some (e (atI xs 0)) := getE (n := 0) h
theorem getE_one {α : Type} [Inhabited α] {e : α → AV} {xs : List α} (h : inB 1 xs.length = true) : (List.map e xs)[1]? = some (e (atI xs 1)) := getE (n := 1) h
theorem getE_set {α : Type} [Inhabited α] {e : α → AV} {xs : List α} {v : α} {i : Nat} {k : Int} (h : inB k xs.length = true) : ((List.map e xs).set i (e v))[k.toNat]? = some (e (atI (xs.set i v) k)) := by
 rw [← List.map_set,getE (by rw [List.length_set]; exact h)]
theorem set_get {n : Int} {xs : List AV} {z : AV} (h : inB n xs.length = true) : (xs.set n.toNat z)[n.toNat]? = some z := by
 simp only [inB,Bool.and_eq_true,decide_eq_true_eq] at h
 rw [List.getElem?_set_self]; omega
theorem set_get0 {xs : List AV} {z : AV} (h : inB 0 xs.length = true) : (xs.set 0 z)[0]? = some z := set_get (n := 0) h
theorem drop_map {α β : Type} (e : α → β) (n : Nat) (xs : List α) : List.drop n (List.map e xs) = List.map e (List.drop n xs) := (List.map_drop ..).symm
theorem take_map {α β : Type} (e : α → β) (n : Nat) (xs : List α) : List.take n (List.map e xs) = List.map e (List.take n xs) := (List.map_take ..).symm
theorem all_enc {α : Type} {e : α → AV} {p : AV → Bool} (h : ∀ y,p (e y) = true) (l : List α) : List.all (List.map e l) p = true := by
 rw [List.all_eq_true]; intro x hx; obtain ⟨y,_,rfl⟩ := List.mem_map.1 hx; exact h y
theorem dF32_es (l : List (Nat)) : List.all (List.map (AV.flt .f32) l) (esIs 1) = true := all_enc (fun _ => rfl) l
theorem dF32_st (l : List (Nat)) : List.all (List.map (AV.flt .f32) l) (esSt 1) = true := all_enc (fun _ => rfl) l
theorem dF32_fl (l : List (Nat)) : List.all (List.map (AV.flt .f32) l) flatE = true := all_enc (fun _ => rfl) l
theorem dF64_es (l : List (Nat)) : List.all (List.map (AV.flt .f64) l) (esIs 1) = true := all_enc (fun _ => rfl) l
theorem dF64_st (l : List (Nat)) : List.all (List.map (AV.flt .f64) l) (esSt 1) = true := all_enc (fun _ => rfl) l
theorem dF64_fl (l : List (Nat)) : List.all (List.map (AV.flt .f64) l) flatE = true := all_enc (fun _ => rfl) l
theorem dI64_es (l : List (Int)) : List.all (List.map (AV.int .i64) l) (esIs 1) = true := all_enc (fun _ => rfl) l
theorem dI64_st (l : List (Int)) : List.all (List.map (AV.int .i64) l) (esSt 1) = true := all_enc (fun _ => rfl) l
theorem dI64_fl (l : List (Int)) : List.all (List.map (AV.int .i64) l) flatE = true := all_enc (fun _ => rfl) l
theorem dU8_es (l : List (Int)) : List.all (List.map (AV.int .u8) l) (esIs 1) = true := all_enc (fun _ => rfl) l
theorem dU8_st (l : List (Int)) : List.all (List.map (AV.int .u8) l) (esSt 1) = true := all_enc (fun _ => rfl) l
theorem dU8_fl (l : List (Int)) : List.all (List.map (AV.int .u8) l) flatE = true := all_enc (fun _ => rfl) l
theorem dBool_es (l : List (Bool)) : List.all (List.map AV.bool l) (esIs 1) = true := all_enc (fun _ => rfl) l
theorem dBool_st (l : List (Bool)) : List.all (List.map AV.bool l) (esSt 1) = true := all_enc (fun _ => rfl) l
theorem dBool_fl (l : List (Bool)) : List.all (List.map AV.bool l) flatE = true := all_enc (fun _ => rfl) l
theorem dStr_es (l : List (List UInt8)) : List.all (List.map AV.str l) (esIs 1) = true := all_enc (fun _ => rfl) l
theorem dStr_st (l : List (List UInt8)) : List.all (List.map AV.str l) (esSt 1) = true := all_enc (fun _ => rfl) l
theorem dStr_fl (l : List (List UInt8)) : List.all (List.map AV.str l) flatE = true := all_enc (fun _ => rfl) l
def decL {α : Type} (d : AV → Option α) : List AV → Option (List α)
 | [] => some []
 | x :: xs => match d x,decL d xs with
  | some a,some as => some (a :: as)
  | _,_ => none
theorem decL_map {α : Type} {d : AV → Option α} {e : α → AV} (h : ∀ p,d (e p) = some p) : ∀ ys : List α,decL d (List.map e ys) = some ys
 | [] => rfl
 | y :: ys => by
  simp only [List.map_cons,decL,h,decL_map h ys]
theorem decL_inv {α : Type} {d : AV → Option α} {e : α → AV} (h : ∀ x p,d x = some p → x = e p) : ∀ {xs : List AV} {ys : List α},decL d xs = some ys → xs = List.map e ys
 | [],ys,hd => by cases hd; rfl
 | x :: xs,ys,hd => by
  simp only [decL] at hd
  split at hd
  ·rename_i a as h1 h2
   cases hd
   rw [List.map_cons,h x a h1,decL_inv h h2]
  ·cases hd
def dF32 : AV → Option Nat
 | .flt .f32 c => some c
 | _ => none
def dF64 : AV → Option Nat
 | .flt .f64 c => some c
 | _ => none
def dI64 : AV → Option Int
 | .int .i64 n => some n
 | _ => none
def dU8 : AV → Option Int
 | .int .u8 n => some n
 | _ => none
def dBool : AV → Option Bool
 | .bool b => some b
 | _ => none
def dStr : AV → Option (List UInt8)
 | .str l => some l
 | _ => none
theorem dF32_map (ys : List Nat) : decL dF32 (List.map (AV.flt .f32) ys) = some ys := decL_map (d := dF32) (e := AV.flt .f32) (fun _ => rfl) ys
theorem dF64_map (ys : List Nat) : decL dF64 (List.map (AV.flt .f64) ys) = some ys := decL_map (d := dF64) (e := AV.flt .f64) (fun _ => rfl) ys
theorem dI64_map (ys : List Int) : decL dI64 (List.map (AV.int .i64) ys) = some ys := decL_map (d := dI64) (e := AV.int .i64) (fun _ => rfl) ys
theorem dU8_map (ys : List Int) : decL dU8 (List.map (AV.int .u8) ys) = some ys := decL_map (d := dU8) (e := AV.int .u8) (fun _ => rfl) ys
theorem dBool_map (ys : List Bool) : decL dBool (List.map AV.bool ys) = some ys := decL_map (d := dBool) (e := AV.bool) (fun _ => rfl) ys
theorem dStr_map (ys : List (List UInt8)) : decL dStr (List.map AV.str ys) = some ys := decL_map (d := dStr) (e := AV.str) (fun _ => rfl) ys
theorem dF32_inv : ∀ x p,dF32 x = some p → x = AV.flt .f32 p := by
 intro x p h; unfold dF32 at h; split at h <;> cases h; rfl
theorem dF64_inv : ∀ x p,dF64 x = some p → x = AV.flt .f64 p := by
 intro x p h; unfold dF64 at h; split at h <;> cases h; rfl
theorem dI64_inv : ∀ x p,dI64 x = some p → x = AV.int .i64 p := by
 intro x p h; unfold dI64 at h; split at h <;> cases h; rfl
theorem dU8_inv : ∀ x p,dU8 x = some p → x = AV.int .u8 p := by
 intro x p h; unfold dU8 at h; split at h <;> cases h; rfl
theorem dBool_inv : ∀ x p,dBool x = some p → x = AV.bool p := by
 intro x p h; unfold dBool at h; split at h <;> cases h; rfl
theorem dStr_inv : ∀ x p,dStr x = some p → x = AV.str p := by
 intro x p h; unfold dStr at h; split at h <;> cases h; rfl

/- groups of equations,for 'simp only' -/
def evO (t : Nat) : AV → AV
 | .lptr l i off => if l = t then .lptr l i off else .any
 | _ => .any
def evP : AV → AV
 | .ptr x off => .ptr x off
 | .sl xs => .sl xs
 | _ => .any
theorem ev_o (st : St) (t l : Nat) : ev st (.o t l) = evO l (st.get t) := by simp only [ev]; cases st.get t <;> rfl
theorem ev_p (st : St) (t : Nat) : ev st (.p t) = evP (st.get t) := by simp only [ev]; cases st.get t <;> rfl
theorem evO_lptr (t l i off : Nat) : evO t (.lptr l i off) = if l = t then .lptr l i off else .any := rfl
theorem evP_ptr (x : AV) (off : Nat) : evP (.ptr x off) = .ptr x off := rfl
theorem evP_sl (xs : List AV) : evP (.sl xs) = .sl xs := rfl
def grpS := And.intro @wM_eq <| And.intro @retW_ok <| And.intro @retW_normal <| And.intro @eN_snil <| And.intro @eA_seq <| And.intro @eA_reg <| And.intro @eA_ret <| And.intro @eA_skip <| And.intro @eA_cond <| And.intro @eA_block <| And.intro @eA_exit <| And.intro @eCc_true <| And.intro @eCc_false <| And.intro @Kq_normal <| And.intro @Kq_ret <| And.intro @Kq_exit <| And.intro @Kb_normal <| And.intro @Kb_exit <| And.intro @Kb_ret <| And.intro @Kreg_eq <| And.intro @eI_nil <| And.intro @bindSt_some <| And.intro @bindSt_none <| And.intro @bindSt_ite <| And.intro @eR_eq <| And.intro @eGI_tt <| And.intro @eGI_ff <| And.intro @eGI_tf <| And.intro @eGI_ft <| And.intro @eGI_raw <| And.intro @ev_t <| And.intro @ev_c <| And.intro @ev_f <| And.intro @ev_o <| And.intro @ev_p <| And.intro @evO_lptr <| And.intro @evP_ptr <| And.intro @evP_sl <| And.intro @put_some <| And.intro @put_none <| And.intro @set_eq <| And.intro @setH_eq <| And.intro @get_eq <| And.intro @hp_eq <| And.intro @keep_cons <| And.intro @keep_nil <| And.intro @lk_cons <| And.intro @lk_nil <| And.intro @ret_ok <| And.intro @ret_normal <| And.intro @withM_some <| And.intro @nz_raw <| And.intro @nz_any <| And.intro @nz_bool <| And.intro @nz_int <| And.intro @nz_flt <| And.intro @nz_str <| And.intro @nz_sl <| And.intro @nz_snil <| And.intro @nz_ptr <| And.intro @nz_fn <| And.intro @nzE_raw <| And.intro @nzE_any <| And.intro @nzE_bool <| And.intro @nzE_int <| And.intro @nzE_flt <| And.intro @nzE_str <| And.intro @nzE_sl <| And.intro @nzE_snil <| And.intro @nzE_ptr <| And.intro @nzE_fn <| And.intro @nzE_agg <| And.intro @nzV_raw <| And.intro @nzV_any <| And.intro @nzV_bool <| And.intro @nzV_int <| And.intro @nzV_flt <| And.intro @nzV_str <| And.intro @nzV_sl <| And.intro @nzV_snil <| And.intro @nzV_ptr <| And.intro @nzV_fn <| And.intro @nzV_agg <| And.intro @nzV_tup <| And.intro @ex_some @tabOf_cons
def grpE := And.intro @e_callM <| And.intro @g_callM <| And.intro @e_eqnil <| And.intro @e_mov <| And.intro @g_mov <| And.intro @e_pick <| And.intro @g_pick <| And.intro @e_alloc <| And.intro @g_alloc <| And.intro @e_box <| And.intro @g_box <| And.intro @e_build <| And.intro @g_build <| And.intro @e_bslice <| And.intro @g_bslice <| And.intro @e_load <| And.intro @g_load <| And.intro @e_store <| And.intro @g_store <| And.intro @e_nilchk <| And.intro @g_nilchk <| And.intro @e_bin <| And.intro @g_bin <| And.intro @e_un <| And.intro @g_un <| And.intro @e_conv <| And.intro @g_conv <| And.intro @e_mkslice <| And.intro @g_mkslice <| And.intro @e_sliceS <| And.intro @g_sliceS <| And.intro @e_sliceX <| And.intro @g_sliceX <| And.intro @e_faddr <| And.intro @g_faddr <| And.intro @e_iaddrA <| And.intro @g_iaddrA <| And.intro @e_iaddrS <| And.intro @g_iaddrS <| And.intro @e_idxA <| And.intro @g_idxA <| And.intro @e_idxS <| And.intro @g_idxS <| And.intro @e_field <| And.intro @g_field <| And.intro @e_extract <| And.intro @g_extract <| And.intro @e_call <| And.intro @g_call <| And.intro @e_len <| And.intro @g_len <| And.intro @e_append <| And.intro @g_append <| And.intro @e_mm <| And.intro @g_mm <| And.intro @e_mkfn <| And.intro @g_mkfn <| And.intro @e_zero3 <| And.intro @g_zero3 <| And.intro @e_copy @g_copy
def grpD := And.intro @dF32_map <| And.intro @dF32_es <| And.intro @dF32_st <| And.intro @dF32_fl <| And.intro @dF64_map <| And.intro @dF64_es <| And.intro @dF64_st <| And.intro @dF64_fl <| And.intro @dI64_map <| And.intro @dI64_es <| And.intro @dI64_st <| And.intro @dI64_fl <| And.intro @dU8_map <| And.intro @dU8_es <| And.intro @dU8_st <| And.intro @dU8_fl <| And.intro @dBool_map <| And.intro @dBool_es <| And.intro @dBool_st <| And.intro @dBool_fl <| And.intro @dStr_map <| And.intro @dStr_es <| And.intro @dStr_st <| And.intro @dStr_fl <| And.intro @drop_map <| And.intro @take_map @take_all



def grpF := And.intro @startSt.eq_1 <| And.intro @envOf.eq_1 <| And.intro @envOf.eq_2 <| And.intro @intop.eq_1 <| And.intro @intop.eq_2 <| And.intro @intop.eq_3 <| And.intro @intop.eq_4 <| And.intro @intop.eq_5 <| And.intro @intop.eq_6 <| And.intro @intop.eq_7 <| And.intro @intop.eq_8 <| And.intro @intop.eq_9 <| And.intro @intop.eq_10 <| And.intro @intop.eq_11 <| And.intro @intop.eq_12 <| And.intro @intop.eq_13 <| And.intro @intop.eq_14 <| And.intro @intop.eq_15 <| And.intro @intop.eq_16 <| And.intro @intop.eq_17 <| And.intro @outM.eq_1 <| And.intro @endR.eq_1 <| And.intro @rvRaw.eq_1 <| And.intro @rvRaw.eq_2 <| And.intro @rvV.eq_1 <| And.intro @rvV.eq_2 <| And.intro @rvs.eq_1 <| And.intro @rvs.eq_2 <| And.intro @callTo.eq_1 <| And.intro @callTo.eq_2 <| And.intro @fillC.eq_1 <| And.intro @fillC.eq_2 <| And.intro @fillE.eq_1 <| And.intro @fillE.eq_2 <| And.intro @decL.eq_1 <| And.intro @decL.eq_2 <| And.intro @partL.eq_1 <| And.intro @esIs.eq_1 <| And.intro @esSt.eq_1 <| And.intro @freeNames.eq_1 <| And.intro @noDup.eq_1 <| And.intro @noDup.eq_2 @pureX.pure1'.eq_1
def grpL := And.intro @set_get <| And.intro @set_get0 <| And.intro @getE_set <| And.intro @getE_zero <| And.intro @getE_one <| And.intro @List.length_set.{0} <| And.intro @List.set_set.{0} <| And.intro @Nat.zero_add <| And.intro @Nat.add_zero <| And.intro @true_or <| And.intro @or_true <| And.intro @Bool.false_eq_true <| And.intro @Bool.true_and <| And.intro @Bool.false_and <| And.intro @Bool.and_true <| And.intro @Bool.and_false <| And.intro @Option.isNone_none.{0} <| And.intro @List.all_cons.{0} <| And.intro @List.all_nil.{0} <| And.intro @List.length_cons.{0} <| And.intro @List.length_nil.{0} <| And.intro @List.getElem?_cons_zero.{0} <| And.intro @List.getElem?_cons_succ.{0} <| And.intro @List.set_cons_zero.{0} <| And.intro @List.set_cons_succ.{0} <| And.intro @List.set_nil.{0} <| And.intro @List.map_cons.{0,0} <| And.intro @List.map_nil.{0,0} <| And.intro @and_self <| And.intro @and_true <| And.intro @true_and <| And.intro @not_true_eq_false <| And.intro @not_false_eq_true <| And.intro @false_implies <| And.intro @List.take_succ_cons.{0} <| And.intro @List.drop_succ_cons.{0} <| And.intro @List.take_zero.{0} <| And.intro @List.drop_zero.{0} <| And.intro @Bool.not_true <| And.intro @Bool.not_false <| And.intro @Bool.not_not <| And.intro @Bool.true_or <| And.intro @Bool.or_true <| And.intro @Bool.false_or <| And.intro @Bool.or_false <| And.intro @List.getElem?_nil.{0} <| And.intro @Nat.mul_one <| And.intro @Int.toNat_zero <| And.intro @List.nil_append.{0} <| And.intro @List.cons_append.{0} <| And.intro @List.append_nil.{0} <| And.intro @Int.le_refl <| And.intro @Nat.le_refl <| And.intro @true_implies <| And.intro @List.length_map.{0,0} <| And.intro @List.take_length.{0} <| And.intro @List.all_append.{0} <| And.intro @List.length_append.{0} <| And.intro @List.replicate_zero.{0} <| And.intro @Kl_normal <| And.intro @Kl_exit <| And.intro @Kl_ret <| And.intro @cast_lit <| And.intro @toNat_lit <| And.intro @prod_eta <| And.intro @iaddr_sl <| And.intro @iaddr_lsl <| And.intro @getE <| And.intro @f2iK_eq <| And.intro @bits_i64 <| And.intro @bits_i32 <| And.intro @bits_u64 <| And.intro @bits_u32 @bits_u8
end Go.Ab

namespace Go.Ab

theorem wrapS {k : Nat} (h : k < 2 ^ 62) : IntKind.wrap .i64 ((k : Int) + 1) = ((k + 1 : Nat) : Int) := by
 have := wrapN (n := k + 1) (by omega)
 rw [← this]; rfl
theorem inB_nat (k n : Nat) : inB (k : Int) n = decide (k < n) := by simp [inB]
theorem atI_nat {α : Type} [Inhabited α] (xs : List α) (k : Nat) : atI xs (k : Int) = xs.getD k default := by simp [atI]
theorem atI_lt {α : Type} [Inhabited α] (xs : List α) {k : Nat} (h : k < xs.length) : atI xs (k : Int) = xs[k] := by simp [atI,h]

theorem copy_loop {α β : Type} [Inhabited α] (l : Nat → List β → Int → Option (List β)) (x : List α) (f : α → β) (hx : x.length < 2 ^ 62)
  (H : ∀ n z k,l (n + 1) z k = if (decide (k < ((x.length : Nat) : Int))) = true then need (inB k x.length) (need (inB k z.length) (l n (z.set k.toNat (f (atI x k))) (IntKind.wrap .i64 (k + 1)))) else some z) :
  ∀ (n : Nat) (z : List β) (k : Nat),k ≤ x.length → z.length = x.length → x.length - k < n → l n z (k : Int) = some (z.take k ++ (x.drop k).map f)
 | 0,z,k,_,_,h => by omega
 | n + 1,z,k,hk,hz,h => by
  rw [H]
  by_cases hlt : k < x.length
  ·rw [if_pos (by simp; omega),inB_nat,inB_nat]
   unfold need
   rw [if_pos (by simpa using hlt),if_pos (by simp; omega),wrapS (by omega),copy_loop l x f hx H n _ (k + 1) (by omega) (by rw [List.length_set]; exact hz) (by omega)]
   congr 1
   rw [atI_lt x hlt,Int.toNat_natCast]
   have hkz : k < z.length := by omega
   rw [List.take_succ_eq_append_getElem (by rw [List.length_set]; omega),List.take_set_of_le (Nat.le_refl _),List.getElem_set_self,List.append_assoc,List.singleton_append,List.drop_eq_getElem_cons hlt,List.map_cons]
  ·rw [if_neg (by simp; omega)]
   congr 1
   have : k = x.length := by omega
   subst this
   rw [List.drop_length,List.map_nil,List.append_nil,← hz,List.take_length]
theorem copy_all {α β : Type} [Inhabited α] (l : Nat → List β → Int → Option (List β)) (x : List α) (f : α → β) (d : β) (hx : x.length < 2 ^ 62)
  (H : ∀ n z k,l (n + 1) z k = if (decide (k < ((x.length : Nat) : Int))) = true then need (inB k x.length) (need (inB k z.length) (l n (z.set k.toNat (f (atI x k))) (IntKind.wrap .i64 (k + 1)))) else some z) :
  l (Int.toNat (((x.length : Nat) : Int) - 0) + 2) (List.replicate (Int.toNat ((x.length : Nat) : Int)) d) 0 = some (x.map f) := by
 have := copy_loop l x f hx H (Int.toNat (((x.length : Nat) : Int) - 0) + 2) (List.replicate (Int.toNat ((x.length : Nat) : Int)) d) 0 (Nat.zero_le _) (by simp) (by omega)
 rw [show ((0 : Nat) : Int) = 0 from rfl] at this
 rw [this]; simp

theorem all_loop (l : Nat → Int → Option (Bool × Bool × Unit)) (len : Nat) (c : Nat → Bool) (hlen : len < 2 ^ 62)
  (H : ∀ (n k : Nat),k < len → l (n + 1) (k : Int) = if c k = true then l n (IntKind.wrap .i64 ((k : Int) + 1)) else some (true,false,default)) (H' : ∀ (n k : Nat),¬ k < len → l (n + 1) (k : Int) = some (false,default,())) :
  ∀ (n k : Nat),k ≤ len → len - k < n → l n (k : Int) = some (if (List.range' k (len - k)).all c = true then (false,default,()) else (true,false,default))
 | 0,k,_,h => by omega
 | n + 1,k,hk,h => by
  by_cases hlt : k < len
  ·rw [H n k hlt,show len - k = (len - (k + 1)) + 1 by omega,List.range'_succ,List.all_cons]
   by_cases hc : c k = true
   ·rw [if_pos hc,wrapS (by omega),all_loop l len c hlen H H' n (k + 1) (by omega) (by omega),hc,Bool.true_and]
   ·rw [if_neg hc]
    have : c k = false := by simpa using hc
    rw [this,Bool.false_and,if_neg (by decide)]
  ·rw [H' n k hlt,show len - k = 0 by omega]
   rfl
def said (o : Option (Bool × Bool × Unit)) : Bool := if (o.getD default).1 = true then (o.getD default).2.1 else true
theorem said_if (b : Bool) : said (some (if b = true then (false,default,()) else (true,false,default))) = b := by cases b <;> rfl
theorem said_eq (o : Option (Bool × Bool × Unit)) : (if (o.getD default).1 = true then (o.getD default).2.1 else true) = said o := rfl
theorem all_range_congr {c d : Nat → Bool} {k m : Nat} (h : ∀ i,k ≤ i → i < k + m → c i = d i) : (List.range' k m).all c = (List.range' k m).all d := by
 induction m generalizing k with
 | zero => rfl
 | succ m ih =>
  rw [List.range'_succ,List.all_cons,List.all_cons,h k (Nat.le_refl _) (by omega),ih fun i h1 h2 => h i (by omega) (by omega)]
theorem all_range_true {c : Nat → Bool} {k m : Nat} (h : ∀ i,k ≤ i → i < k + m → c i = true) : (List.range' k m).all c = true := by
 rw [all_range_congr (d := fun _ => true) h]; simp
theorem all_range_shift {c d : Nat → Bool} {k j m : Nat} (h : ∀ i,i < m → c (k + i) = d (j + i)) : (List.range' k m).all c = (List.range' j m).all d := by
 induction m generalizing k j with
 | zero => rfl
 | succ m ih =>
  have h0 := h 0 (by omega)
  rw [Nat.add_zero,Nat.add_zero] at h0
  have hs : ∀ i,i < m → c (k + 1 + i) = d (j + 1 + i) := fun i hi => by
   have := h (i + 1) (by omega)
   rw [show k + (i + 1) = k + 1 + i by omega,show j + (i + 1) = j + 1 + i by omega] at this
   exact this
  rw [List.range'_succ,List.range'_succ,List.all_cons,List.all_cons,h0,ih hs]

theorem eq_loop {α : Type} [Inhabited α] (l : Nat → Int → Option (Bool × Bool × Unit)) (x : List α) (e : α → α → Bool) (he : ∀ a,e a a = true) (hx : x.length < 2 ^ 62)
  (H : ∀ n k,l (n + 1) k = if (decide (k < ((x.length : Nat) : Int))) = true then need (inB k x.length) (need (inB k x.length) (if e (atI x k) (atI x k) = true then l n (IntKind.wrap .i64 (k + 1)) else some (true,false,default))) else some (false,default,())) :
  l (Int.toNat (((x.length : Nat) : Int) - 0) + 2) 0 = some (false,default,()) := by
 have := all_loop l x.length (fun _ => true) hx (fun n k hk => by
  rw [H,if_pos (by simp; omega),inB_nat]
  unfold need
  rw [if_pos (by simpa using hk),if_pos (by simpa using hk),if_pos (he _),if_pos rfl]) (fun n k hk => by
  rw [H,if_neg (by simp; omega)]) (Int.toNat (((x.length : Nat) : Int) - 0) + 2) 0 (Nat.zero_le _) (by omega)
 rw [show ((0 : Nat) : Int) = 0 from rfl] at this
 rw [this,all_range_true (fun _ _ _ => rfl)]; rfl

theorem wrapI {n : Int} (h1 : -9223372036854775808 ≤ n) (h2 : n ≤ 9223372036854775807) : IntKind.wrap .i64 n = n := by
 unfold IntKind.wrap
 simp only [IntKind.bits,IntKind.signed]
 simp
 split <;> omega
theorem size_ok {n : Nat} (h : n ≤ maxLen) (hs : ¬ (IntKind.wrap .i64 (1048576 - (n : Int)) < 0)) : n ≤ 1048576 := by
 unfold maxLen at h
 rw [wrapI (by omega) (by omega)] at hs
 omega
theorem list_enc {α : Type} {e : α → AV} {F : α → Prop} {Q : AV → Prop} (hq : ∀ y,Q y → ∃ p,y = e p ∧ F p) : ∀ {ys : List AV},(∀ y ∈ ys,Q y) → ∃ a : List α,ys = List.map e a ∧ ∀ p ∈ a,F p
 | [],_ => ⟨[],rfl,fun p hp => by cases hp⟩
 | y :: ys,h => by
  obtain ⟨p,rfl,hp⟩ := hq y (h y List.mem_cons_self)
  obtain ⟨a,rfl,ha⟩ := list_enc hq (ys := ys) fun z hz => h z (List.mem_cons_of_mem _ hz)
  refine ⟨p :: a,rfl,fun q hq' => ?_⟩
  rcases List.mem_cons.1 hq' with rfl | hq'
  ·exact hp
  ·exact ha q hq'
end Go.Ab

namespace Go.Ab

section
variable {n : Int}
theorem inB_and3 (h : inB n 3 = true) : (0 ≤ n ∧ n < 3) = True := by
 simp only [inB,Bool.and_eq_true,decide_eq_true_eq] at h; simp; omega
theorem inB_and4 (h : inB n 4 = true) : (0 ≤ n ∧ n < 4) = True := by
 simp only [inB,Bool.and_eq_true,decide_eq_true_eq] at h; simp; omega
theorem inB_lt3 (h : inB n 3 = true) : (n.toNat < 3) = True := by
 simp only [inB,Bool.and_eq_true,decide_eq_true_eq] at h; simp; omega
theorem inB_lt4 (h : inB n 4 = true) : (n.toNat < 4) = True := by
 simp only [inB,Bool.and_eq_true,decide_eq_true_eq] at h; simp; omega
theorem inB_ge3 (h : inB n 3 = true) : (0 ≤ n) = True := by
 simp only [inB,Bool.and_eq_true,decide_eq_true_eq] at h; simp; omega
theorem inB_ge4 (h : inB n 4 = true) : (0 ≤ n) = True := by
 simp only [inB,Bool.and_eq_true,decide_eq_true_eq] at h; simp; omega
theorem inB_le3 (h : inB n 3 = true) : (n < 3) = True := by
 simp only [inB,Bool.and_eq_true,decide_eq_true_eq] at h; simp; omega
theorem inB_le4 (h : inB n 4 = true) : (n < 4) = True := by
 simp only [inB,Bool.and_eq_true,decide_eq_true_eq] at h; simp; omega
theorem getF3 {k : FloatKind} {a b c : Nat} (h : inB n 3 = true) : ([AV.flt k a,.flt k b,.flt k c] : List AV)[n.toNat]? = some (.flt k (atI [a,b,c] n)) := getE (e := AV.flt k) (xs := [a,b,c]) h
theorem getF4 {k : FloatKind} {a b c d : Nat} (h : inB n 4 = true) : ([AV.flt k a,.flt k b,.flt k c,.flt k d] : List AV)[n.toNat]? = some (.flt k (atI [a,b,c,d] n)) := getE (e := AV.flt k) (xs := [a,b,c,d]) h
theorem getI3 {k : IntKind} {a b c : Int} (h : inB n 3 = true) : ([AV.int k a,.int k b,.int k c] : List AV)[n.toNat]? = some (.int k (atI [a,b,c] n)) := getE (e := AV.int k) (xs := [a,b,c]) h
theorem getI4 {k : IntKind} {a b c d : Int} (h : inB n 4 = true) : ([AV.int k a,.int k b,.int k c,.int k d] : List AV)[n.toNat]? = some (.int k (atI [a,b,c,d] n)) := getE (e := AV.int k) (xs := [a,b,c,d]) h
end
theorem map_of_set {α : Type} [Inhabited α] (e : α → AV) : ∀ (l : List α) (i : Nat) (v : α),(List.map e l).set i (e v) = List.map e (l.set i v) := fun l i v => (List.map_set).symm
theorem list4 {α : Type} [Inhabited α] : ∀ (l : List α),l.length = 4 → l = [atI l 0,atI l 1,atI l 2,atI l 3]
 | [_,_,_,_],_ => rfl
theorem list3 {α : Type} [Inhabited α] : ∀ (l : List α),l.length = 3 → l = [atI l 0,atI l 1,atI l 2]
 | [_,_,_],_ => rfl
theorem setF4 {k : FloatKind} {a b c d v : Nat} {i : Nat} : ([AV.flt k a,.flt k b,.flt k c,.flt k d] : List AV).set i (.flt k v) =
  [AV.flt k (atI ([a,b,c,d].set i v) 0),.flt k (atI ([a,b,c,d].set i v) 1),.flt k (atI ([a,b,c,d].set i v) 2),.flt k (atI ([a,b,c,d].set i v) 3)] := by
 have h := map_of_set (AV.flt k) [a,b,c,d] i v
 have h2 := list4 ([a,b,c,d].set i v) (by simp)
 rw [h2] at h
 exact h
theorem setF3 {k : FloatKind} {a b c v : Nat} {i : Nat} : ([AV.flt k a,.flt k b,.flt k c] : List AV).set i (.flt k v) =
  [AV.flt k (atI ([a,b,c].set i v) 0),.flt k (atI ([a,b,c].set i v) 1),.flt k (atI ([a,b,c].set i v) 2)] := by
 have h := map_of_set (AV.flt k) [a,b,c] i v
 have h2 := list3 ([a,b,c].set i v) (by simp)
 rw [h2] at h
 exact h
theorem setI3 {k : IntKind} {a b c v : Int} {i : Nat} : ([AV.int k a,.int k b,.int k c] : List AV).set i (.int k v) =
  [AV.int k (atI ([a,b,c].set i v) 0),.int k (atI ([a,b,c].set i v) 1),.int k (atI ([a,b,c].set i v) 2)] := by
 have h := map_of_set (AV.int k) [a,b,c] i v
 have h2 := list3 ([a,b,c].set i v) (by simp)
 rw [h2] at h
 exact h

def b8 (n : Int) : UInt8 := UInt8.ofNat n.toNat
def u8 (b : UInt8) : Int := ((b.toNat : Nat) : Int)
theorem u8_int (k : IntKind) (n : Int) : AV.u8 (.int k n) = b8 n := rfl
theorem isU8_int (n : Int) : AV.isU8 (.int .u8 n) = true := rfl
theorem all_u8 (l : List Int) : List.all (List.map (AV.int .u8) l) AV.isU8 = true := all_enc (fun _ => rfl) l
theorem map_u8 (l : List Int) : List.map AV.u8 (List.map (AV.int .u8) l) = List.map b8 l := by
 rw [List.map_map]; rfl
theorem map_toU8 (l : List UInt8) : List.map (fun b => AV.int .u8 ((UInt8.toNat b : Nat) : Int)) l = List.map (AV.int .u8) (List.map u8 l) := by
 rw [List.map_map]; rfl
theorem idxS_of {l : List UInt8} {k : IntKind} {n : Int} (h : inB n l.length = true) : vidxS (.str l) (.int k n) = some (.int .u8 (u8 (atI l n))) := by
 have h0 : 0 ≤ n := by simp only [inB,Bool.and_eq_true,decide_eq_true_eq] at h; exact h.1
 simp only [vidxS,if_pos h0,atI_get h]
 rfl
theorem rep_get0 {m : Nat} {z : AV} (h : inB 0 m = true) : (List.replicate m z)[0]? = some z := by
 simp only [inB,Bool.and_eq_true,decide_eq_true_eq] at h
 rw [List.getElem?_replicate,if_pos (by omega)]
theorem rep_get {m : Nat} {z : AV} {n : Int} (h : inB n m = true) : (List.replicate m z)[n.toNat]? = some z := by
 simp only [inB,Bool.and_eq_true,decide_eq_true_eq] at h
 rw [List.getElem?_replicate,if_pos (by omega)]
theorem getE_app {α : Type} [Inhabited α] {e : α → AV} {xs : List α} {v : α} {n : Int} (h : inB n (xs.length + 1) = true) : ((List.map e xs) ++ [e v])[n.toNat]? = some (e (atI (xs ++ [v]) n)) := by
 have := getE (e := e) (xs := xs ++ [v]) (n := n) (by simpa using h)
 rw [← this,List.map_append]; rfl
theorem atI_set_self {α : Type} [Inhabited α] {xs : List α} {v : α} {n : Int} (h : inB n xs.length = true) : atI (xs.set n.toNat v) n = v := by
 simp only [inB,Bool.and_eq_true,decide_eq_true_eq] at h
 unfold atI
 rw [List.getD_eq_getElem?_getD,List.getElem?_set_self (by omega)]; rfl
def grpA := And.intro @inB_ge3 <| And.intro @inB_ge4 <| And.intro @inB_le3 <| And.intro @inB_le4 <| And.intro @rep_get0 <| And.intro @rep_get <| And.intro @getE_app <| And.intro @atI_set_self <| And.intro @inB_and3 <| And.intro @inB_and4 <| And.intro @inB_lt3 <| And.intro @inB_lt4 <| And.intro @getF3 <| And.intro @getF4 <| And.intro @getI3 <| And.intro @getI4 <| And.intro @setF4 <| And.intro @setF3 <| And.intro @setI3 <| And.intro @u8_int <| And.intro @isU8_int <| And.intro @all_u8 <| And.intro @map_u8 <| And.intro @map_toU8 @idxS_of
def grpN := And.intro @beq_true <| And.intro @beq_false <| And.intro @true_or <| And.intro @or_true <| And.intro @Bool.not_eq_true' <| And.intro @decide_eq_false_iff_not <| And.intro @Bool.not_true <| And.intro @Bool.not_false <| And.intro @Bool.false_or <| And.intro @Bool.true_or <| And.intro @Bool.true_and <| And.intro @Bool.false_and <| And.intro @Bool.and_eq_true <| And.intro @Bool.or_eq_true <| And.intro @Bool.false_eq_true <| And.intro @and_true <| And.intro @true_and <| And.intro @false_or <| And.intro @or_false <| And.intro @decide_eq_true_eq <| And.intro @not_false_eq_true @not_true_eq_false
structure eS (p : Prop) : Prop where
 h : p
theorem eS_of {p : Prop} (h : p) : eS p := ⟨h⟩
theorem eS_to {p : Prop} (h : eS p) : p := h.h
end Go.Ab

namespace Go.Ab
theorem nbA {p : Prop} {x : Bool} (h : x = true) (h2 : x = false) : p := by rw [h] at h2; cases h2
theorem nbB {p : Prop} {x : Bool} (h : x = false) (h2 : x = true) : p := by rw [h] at h2; cases h2
def grpU := And.intro @vsliceS.eq_def <| And.intro @eop.eq_def <| And.intro @vop.eq_def <| And.intro @bop.eq_def <| And.intro @uop.eq_def <| And.intro @fltop.eq_def <| And.intro @convop.eq_def <| And.intro @endOk.eq_def <| And.intro @newE.eq_def <| And.intro @new1.eq_def <| And.intro @freshL.eq_1 <| And.intro @freshL.eq_2 <| And.intro @freshL.eq_3 <| And.intro @freshL.eq_4 <| And.intro @freshL.eq_5 <| And.intro @Md.isNew.eq_def <| And.intro @outV.eq_def <| And.intro @pureV.eq_def <| And.intro @pureX.eq_def <| And.intro @pure1.eq_def <| And.intro @AV.cells.eq_def <| And.intro @AV.one.eq_def <| And.intro @storable.eq_def <| And.intro @laid.eq_def <| And.intro @refless.eq_def <| And.intro @refless1.eq_def <| And.intro @vload.eq_def <| And.intro @loadC.eq_def <| And.intro @storeC.eq_def <| And.intro @vnil.eq_def <| And.intro @vfaddr.eq_def <| And.intro @vextract.eq_def <| And.intro @flatT.eq_def <| And.intro @flatE.eq_def <| And.intro @flatC.eq_def <| And.intro @vconv.eq_def <| And.intro @vmm.eq_def <| And.intro @vidxA.eq_def <| And.intro @viaddrA.eq_def <| And.intro @vfield.eq_def <| And.intro @vlen.eq_def <| And.intro @elemsOf.eq_def <| And.intro @dF32.eq_def <| And.intro @dF64.eq_def <| And.intro @dI64.eq_def <| And.intro @dU8.eq_def <| And.intro @dBool.eq_def <| And.intro @dStr.eq_def <| And.intro @esOk.eq_def <| And.intro @elemsS.eq_def <| And.intro @vsliceX.eq_def <| And.intro @bnd.eq_def <| And.intro @ownV.eq_def <| And.intro @ownC.eq_1 <| And.intro @ownC.eq_2 <| And.intro @ownC.eq_3 <| And.intro @own1.eq_def <| And.intro @ownT.eq_1 <| And.intro @ownT.eq_2 @isSl.eq_def
def grpV := And.intro @nSl.eq_1 <| And.intro @nSl.eq_2 <| And.intro @endL.eq_1 <| And.intro @endL.eq_2 <| And.intro @Md.isOwn.eq_def <| And.intro @purge.eq_def <| And.intro @purgeB.eq_def <| And.intro @purgeE.eq_def <| And.intro @hasName.eq_def <| And.intro @name1.eq_def <| And.intro @Md.isWr.eq_def <| And.intro @pureV.pureP.eq_def <| And.intro @wAs.eq_1 <| And.intro @wAs.eq_2 <| And.intro @wA.eq_def <| And.intro @wC.eq_1 <| And.intro @wC.eq_2 <| And.intro @zipW.eq_1 <| And.intro @zipW.eq_2 <| And.intro @zipW.eq_3 <| And.intro @noDupN.eq_1 @noDupN.eq_2
def grpT := And.intro @List.any_cons.{0} <| And.intro @List.any_nil.{0} <| And.intro @List.mapM_cons.{0,0,0} <| And.intro @List.mapM_nil.{0,0,0} <| And.intro @Option.pure_def.{0} <| And.intro @Option.bind_eq_bind.{0} <| And.intro @Option.bind_some.{0,0} <| And.intro @beq_self_eq_true.{0} <| And.intro @decide_true @decide_false
def grpZ := And.intro @Bool.and_true <| And.intro @Bool.true_and <| And.intro @Bool.and_false <| And.intro @Bool.false_and <| And.intro @Bool.or_true <| And.intro @Bool.true_or <| And.intro @Bool.or_false <| And.intro @Bool.false_or <| And.intro @Bool.not_true <| And.intro @Bool.not_false @Bool.false_eq_true
def grpX := And.intro grpA <| And.intro grpS <| And.intro grpD <| And.intro grpF <| And.intro grpL <| And.intro grpU <| And.intro grpV grpT
end Go.Ab

namespace Go.Ab
open Go.RowKit

def tlE (c : Nat) : List (List AV) → List AV
 | [] => []
 | xs :: r => .lsl c 0 xs.length :: tlE (c + 8) r
def tlB (es c : Nat) : List (List AV) → List (Nat × Blk)
 | [] => []
 | xs :: r => (c,⟨es,true,xs⟩) :: tlB es (c + 8) r
def tlAt (c : Nat) (xss : List (List AV)) (l : Nat) : Option (List AV) := if c ≤ l ∧ (l - c) % 8 = 0 then xss[(l - c) / 8]? else none
def mkB (es : Nat) (xs : List AV) : Blk := ⟨es,true,xs⟩

theorem tlE_len (c : Nat) (xss : List (List AV)) : (tlE c xss).length = xss.length := by
 induction xss generalizing c with
 | nil => rfl
 | cons x r ih => simp [tlE,ih]
theorem tlE_get (c : Nat) (xss : List (List AV)) (i : Nat) : (tlE c xss)[i]? = (xss[i]?).map fun xs => .lsl (c + 8 * i) 0 xs.length := by
 induction xss generalizing c i with
 | nil => simp [tlE]
 | cons x r ih =>
  cases i with
  | zero => simp [tlE]
  | succ i =>
   simp only [tlE,List.getElem?_cons_succ,ih]
   rw [show c + 8 + 8 * i = c + 8 * (i + 1) by omega]
theorem tlE_eq (c : Nat) {xss yss : List (List AV)} (h : xss.map List.length = yss.map List.length) : tlE c xss = tlE c yss := by
 refine List.ext_getElem? fun i => ?_
 rw [tlE_get,tlE_get]
 have := congrArg (fun l => l[i]?) h
 simp only [List.getElem?_map] at this
 cases hx : xss[i]? <;> cases hy : yss[i]? <;> simp_all
theorem tlE_append (c : Nat) (xss yss : List (List AV)) : tlE c (xss ++ yss) = tlE c xss ++ tlE (c + 8 * xss.length) yss := by
 induction xss generalizing c with
 | nil => simp [tlE]
 | cons x r ih =>
  simp only [List.cons_append,tlE,ih,List.length_cons]
  rw [show c + 8 + 8 * r.length = c + 8 * (r.length + 1) by omega]
theorem lk_tl (es c : Nat) (xss : List (List AV)) (h : List (Nat × Option Blk)) (l : Nat) : lk none ((tlB es c xss).map (fun p => (p.1,some p.2)) ++ h) l = match tlAt c xss l with
  | some xs => some (mkB es xs)
  | none => lk none h l := by
 induction xss generalizing c with
 | nil => simp [tlB,tlAt]
 | cons x r ih =>
  simp only [tlB,List.map_cons,List.cons_append,lk]
  by_cases e : c = l
  ·subst e
   simp [tlAt,mkB]
  ·rw [if_neg e,ih]
   have : tlAt (c + 8) r l = tlAt c (x :: r) l := by
    unfold tlAt
    by_cases h1 : c ≤ l ∧ (l - c) % 8 = 0
    ·rw [if_pos h1,if_pos (by omega),show (l - c) / 8 = (l - (c + 8)) / 8 + 1 by omega]
     rfl
    ·rw [if_neg h1,if_neg (by omega)]
   rw [this]
theorem lk_tl0 (es c : Nat) (xss : List (List AV)) (l : Nat) : lk none ((tlB es c xss).map (fun p => (p.1,some p.2))) l = (tlAt c xss l).map (mkB es) := by
 have := lk_tl es c xss [] l
 rw [List.append_nil] at this
 rw [this]
 cases tlAt c xss l <;> rfl
theorem HW_tl (es c : Nat) (xss : List (List AV)) (l : Nat) : HW (tlB es c xss) l = (tlAt c xss l).map (mkB es) := lk_tl0 es c xss l
theorem tlAt_hit (c : Nat) (xss : List (List AV)) (i : Nat) : tlAt c xss (c + 8 * i) = xss[i]? := by
 unfold tlAt
 rw [if_pos (by omega),show (c + 8 * i - c) / 8 = i by omega]
theorem tlAt_lt (c : Nat) (xss : List (List AV)) {l : Nat} (h : Nat.blt l c = true) : tlAt c xss l = none := by
 unfold tlAt
 have : l < c := by simpa using h
 rw [if_neg (by omega)]
theorem tlAt_some {c : Nat} {xss : List (List AV)} {l : Nat} {xs : List AV} (h : tlAt c xss l = some xs) : ∃ i,l = c + 8 * i ∧ xss[i]? = some xs ∧ i < xss.length := by
 unfold tlAt at h
 split at h
 ·exact ⟨(l - c) / 8,by omega,h,(List.getElem?_eq_some_iff.1 h).1⟩
 ·cases h
theorem tlAt_none {c : Nat} {xss : List (List AV)} {l : Nat} (h : tlAt c xss l = none) (i : Nat) (hi : i < xss.length) : l ≠ c + 8 * i := by
 rintro rfl
 rw [tlAt_hit] at h
 rw [List.getElem?_eq_none_iff] at h
 omega
theorem tlB_inj {es c : Nat} : ∀ {xss yss : List (List AV)},tlB es c xss = tlB es c yss → xss = yss := by
 intro xss
 induction xss generalizing c with
 | nil => intro yss h; cases yss with
  | nil => rfl
  | cons => cases h
 | cons x r ih =>
  intro yss h
  cases yss with
  | nil => cases h
  | cons y s =>
   simp only [tlB,List.cons.injEq,Prod.mk.injEq,Blk.mk.injEq,true_and] at h
   rw [h.1,ih h.2]
theorem lk_tlN (es c : Nat) (xss : List (List AV)) {l : Nat} (h : Nat.blt l c = true) : lk none ((tlB es c xss).map (fun p => (p.1,some p.2))) l = none := by
 rw [lk_tl0,tlAt_lt c xss h]; rfl

/-! ### states that say the same,or less -/
theorem wk_eq {s t : St} (h1 : ∀ u,t.get u = s.get u) (h2 : ∀ l,t.hp l = s.hp l) : Wk s t := by
 rintro cf a w ⟨ρ,h⟩
 have e : t.hp = s.hp := funext h2
 refine ⟨ρ,⟨by rw [e]; exact h.hp,fun u => ?_,h.size,h.defers,h.fr,fun l B hl => h.own l B (by rw [← h2]; exact hl),h.z0,h.pin,h.shp⟩⟩
 rw [e,h1]; exact h.tmp u
theorem wk_renF {a b : Nat} {s t : St} (hab : (unp a && unp b) = true) (h1 : ∀ u,t.get u = renV a b (s.get u)) (h2 : ∀ l,t.hp l = (s.hp (swN a b l)).map (renB a b)) : Wk s t := by
 have h3 : Wk (renS a b s) t := wk_eq (fun u => (h1 u).trans (lk_map AV.any AV.any (renV a b) rfl s.env u).symm) (fun l => (h2 l).trans (lk_ren a b (renB a b) s.heap l).symm)
 exact fun cf ac w h => h3 cf ac w (wk_ren hab cf ac w h)
theorem wk_open {l : Nat} {b : Blk} {s : St} (hb : s.hp l = some b) : Wk s (s.setH l (some { b with pur := false })) := by
 rintro cf a w ⟨ρ,h⟩
 have hl : ∀ m,(s.setH l (some { b with pur := false })).hp m = if l = m then some { b with pur := false } else s.hp m := fun m => rfl
 have hsome : ∀ m,((s.setH l (some { b with pur := false })).hp m).isSome = (s.hp m).isSome := fun m => by
  rw [hl]; by_cases e : l = m
  ·subst e; rw [if_pos rfl,hb]; rfl
  ·rw [if_neg e]
 have hz : ∀ k,Zf cf.Z0 cf.base ρ s.hp w k → Zf cf.Z0 cf.base ρ (s.setH l (some { b with pur := false })).hp w k := fun k hk => ⟨hk.1,hk.2.1,fun m hm => hk.2.2 m (by rw [← hsome]; exact hm)⟩
 have hV : ∀ {v : Value} {x : AV},V ρ s.hp w (Zf cf.Z0 cf.base ρ s.hp w) v x → V ρ (s.setH l (some { b with pur := false })).hp w (Zf cf.Z0 cf.base ρ (s.setH l (some { b with pur := false })).hp w) v x := fun hv => by
  refine hv.mono (fun k hk => ⟨hz k hk,rfl⟩) fun m c hc => ⟨rfl,?_,fun _ _ => rfl⟩
  rw [hl]; by_cases e : l = m
  ·subst e; rw [if_pos rfl]; rw [hb] at hc; cases hc; exact ⟨_,rfl,rfl,rfl⟩
  ·rw [if_neg e]; exact ⟨c,hc,rfl,rfl⟩
 refine ⟨ρ,⟨⟨fun m c B hc hB => ?_,fun m c hc hB => ?_,fun m m' B h1 h2 => h.hp.inj m m' B (by rw [← hsome]; exact h1) (by rw [← hsome]; exact h2)⟩,fun u => hV (h.tmp u),h.size,h.defers,h.fr,fun m B hm => h.own m B (by rw [← hsome]; exact hm),h.z0,h.pin,h.shp⟩⟩
 ·rw [hl] at hc
  by_cases e : l = m
  ·subst e
   rw [if_pos rfl] at hc; cases hc
   obtain ⟨cs,t,g1,g2,g3,g4,g5⟩ := h.hp.blk l b B hb hB
   exact ⟨cs,t,g1,g2,g3,fun i x j d v q1 q2 q3 => hV (g4 i x j d v q1 q2 q3),fun hp => by cases hp⟩
  ·rw [if_neg e] at hc
   obtain ⟨cs,t,g1,g2,g3,g4,g5⟩ := h.hp.blk m c B hc hB
   exact ⟨cs,t,g1,g2,g3,fun i x j d v q1 q2 q3 => hV (g4 i x j d v q1 q2 q3),fun hp i x j d v q1 q2 q3 => (g5 hp i x j d v q1 q2 q3).widen hz⟩
 ·rw [hl] at hc
  by_cases e : l = m
  ·subst e
   rw [if_pos rfl] at hc; cases hc
   exact h.hp.nil l b hb hB
  ·rw [if_neg e] at hc
   exact h.hp.nil m c hc hB
theorem Wk.trans' {s t u : St} (h1 : Wk s t) (h2 : Wk t u) : Wk s u := fun cf a w h => h2 cf a w (h1 cf a w h)
end Go.Ab

namespace Go.Ab
open Go.RowKit



def lbTo (f es : Nat) : ICode := (.seq (.seq (.reg [⟨(some 8),none,(.mov (.t 4))⟩,⟨(some 9),none,(.mov (.t 0))⟩,⟨(some 10),none,(.len false (.t 9))⟩,⟨(some 11),none,(.bin .lss false (.t 8) (.t 10))⟩] [0,3,4,11]) (.cond (.t 11) .skip (.exit 0)))
 (.seq (.block 1 (.reg [⟨(some 14),none,(.mov (.t 3))⟩,⟨(some 15),none,(.mov (.t 4))⟩,⟨(some 16),none,(.mov (.t 0))⟩,⟨(some 17),none,(.mov (.t 4))⟩,⟨(some 18),none,(.iaddrS 1 (.t 16) (.t 17))⟩,⟨(some 19),none,(.load none (.t 18))⟩,⟨(some 20),none,(.call (.fn f) [(.t 19)] [es])⟩,⟨(some 21),none,(.iaddrS 1 (.t 14) (.t 15))⟩,⟨none,none,(.store 1 (.t 21) (.t 20))⟩] [0,3,4]))
 (.reg [⟨(some 12),none,(.mov (.t 4))⟩,⟨(some 13),none,(.bin .add false (.t 12) (.c (.int .i64 1)))⟩,⟨(some 4),none,(.mov (.t 13))⟩] [0,3,4])))
def icTo (f es bytes : Nat) : ICode := (.seq (.reg [⟨(some 2),none,(.mov (.c .snil))⟩] [0]) (.seq (.reg [⟨(some 5),none,(.mov (.t 0))⟩,⟨(some 6),none,(.len false (.t 5))⟩,⟨(some 7),none,(.mkslice 1 bytes .snil (.t 6) (.t 6))⟩,⟨(some 3),none,(.mov (.t 7))⟩] [0,3]) (.seq (.seq (.reg [⟨(some 4),none,(.mov (.c (.int .i64 0)))⟩] [0,3,4]) (.block 0 (.loop (lbTo f es)))) (.seq (.reg [⟨(some 22),none,(.mov (.t 3))⟩,⟨(some 2),none,(.mov (.t 22))⟩] [2]) .ret))))

def hpTo (yss : List (List AV)) (n es i : Nat) : List (Nat × Option Blk) := (7,some ⟨1,false,tlE 1000002 (yss.take i) ++ List.replicate (n - i) (AV.sl [])⟩) :: (tlB es 1000002 (yss.take i)).map (fun p => (p.1,some p.2))
def stTo (x : AV) (yss : List (List AV)) (n es i : Nat) : St := ⟨[(0,x),(3,.lsl 7 0 n),(4,.int .i64 i)],hpTo yss n es i⟩

theorem tlAt_take {c : Nat} {yss : List (List AV)} {i : Nat} (l : Nat) (hl : l ≠ c + 8 * i) : tlAt c (yss.take (i + 1)) l = tlAt c (yss.take i) l := by
 unfold tlAt
 split
 ·rename_i h
  rw [List.getElem?_take,List.getElem?_take]
  have : (l - c) / 8 ≠ i := by omega
  by_cases h1 : (l - c) / 8 < i
  ·rw [if_pos (by omega),if_pos h1]
  ·rw [if_neg (by omega),if_neg h1]
 ·rfl
theorem tlAt_takeI {c : Nat} {yss : List (List AV)} {i : Nat} : tlAt c (yss.take (i + 1)) (c + 8 * i) = yss[i]? ∧ tlAt c (yss.take i) (c + 8 * i) = none := by
 rw [tlAt_hit,tlAt_hit,List.getElem?_take,List.getElem?_take,if_pos (by omega),if_neg (by omega)]
 exact ⟨rfl,rfl⟩
theorem renV_tlE {a b c : Nat} {xss : List (List AV)} (ha : ∀ i,i < xss.length → c + 8 * i ≠ a ∧ c + 8 * i ≠ b) : (tlE c xss).map (renV a b) = tlE c xss := by
 induction xss generalizing c with
 | nil => rfl
 | cons x r ih =>
  have h0 := ha 0 (by simp)
  simp only [tlE,List.map_cons,renV,ren1,swN]
  rw [if_neg (by omega),if_neg (by omega),ih (fun i hi => by have := ha (i + 1) (by simp; omega); omega)]

theorem hpTo_next {yss : List (List AV)} {n es i : Nat} {y : List AV} (hi : i < n) (hn : n = yss.length) (hy : yss[i]? = some y) (l : Nat) :
  lk none (hpTo yss n es (i + 1)) l = (lk none ((7,some ⟨1,false,(tlE 1000002 (yss.take i) ++ List.replicate (n - i) (AV.sl [])).set i (.lsl 20 0 y.length)⟩) :: (20,some ⟨es,true,y⟩) :: hpTo yss n es i) (swN 20 (1000002 + 8 * i) l)).map (renB 20 (1000002 + 8 * i)) := by
 have hlen : (tlE 1000002 (yss.take i)).length = i := by rw [tlE_len,List.length_take]; omega
 by_cases h7 : l = 7
 ·subst h7
  have e1 : swN 20 (1000002 + 8 * i) 7 = 7 := by unfold swN; rw [if_neg (by omega),if_neg (by omega)]
  rw [e1]
  simp only [hpTo,lk,if_pos,Option.map,renB,Bool.false_eq_true,if_false]
  congr 2
  have hs : List.replicate (n - i) (AV.sl []) = AV.sl [] :: List.replicate (n - (i + 1)) (AV.sl []) := by
   rw [show n - i = (n - (i + 1)) + 1 by omega,List.replicate_succ]
  rw [List.set_append_right _ _ (by omega),hlen,Nat.sub_self,hs,List.set_cons_zero,List.map_append,List.map_cons,renV_tlE (fun j hj => by simp [List.length_take] at hj; omega)]
  have ht : yss.take (i + 1) = yss.take i ++ [y] := by
   rw [List.take_succ,hy]; rfl
  rw [ht,tlE_append,List.append_assoc]
  congr 1
  simp only [tlE,renV,ren1,swN,if_pos,List.length_take,List.map_replicate]
  rw [show min i yss.length = i by omega]
  rfl
 ·have hne : ∀ m,lk none (hpTo yss n es m) l = (tlAt 1000002 (yss.take m) l).map (mkB es) := fun m => by
   unfold hpTo
   rw [lk_cons,if_neg (Ne.symm h7),lk_tl0]
  rw [hne]
  by_cases hb : l = 1000002 + 8 * i
  ·subst hb
   have e1 : swN 20 (1000002 + 8 * i) (1000002 + 8 * i) = 20 := by unfold swN; rw [if_neg (by omega),if_pos rfl]
   rw [e1,tlAt_takeI.1,hy]
   rfl
  ·by_cases h20 : l = 20
   ·subst h20
    have e1 : swN 20 (1000002 + 8 * i) 20 = 1000002 + 8 * i := by unfold swN; rw [if_pos rfl]
    rw [e1,tlAt_lt _ _ rfl]
    simp only [lk]
    rw [if_neg (by omega),if_neg (by omega)]
    unfold hpTo
    rw [lk_cons,if_neg (by omega),lk_tl0,tlAt_takeI.2]
    rfl
   ·have e1 : swN 20 (1000002 + 8 * i) l = l := by unfold swN; rw [if_neg h20,if_neg hb]
    rw [e1]
    simp only [lk]
    rw [if_neg (Ne.symm h7),if_neg (Ne.symm h20),hne,tlAt_take l hb]
    cases tlAt 1000002 (yss.take i) l <;> rfl

theorem wk_less {s t : St} (h1 : ∀ u,t.get u = s.get u ∨ t.get u = .any) (h2 : ∀ l,t.hp l = s.hp l) : Wk s t := by
 rintro cf a w ⟨ρ,h⟩
 have e : t.hp = s.hp := funext h2
 refine ⟨ρ,⟨by rw [e]; exact h.hp,fun u => ?_,h.size,h.defers,h.fr,fun l B hl => h.own l B (by rw [← h2]; exact hl),h.z0,h.pin,h.shp⟩⟩
 rw [e]
 rcases h1 u with h1 | h1 <;> rw [h1]
 ·exact h.tmp u
 ·exact .pure (.any _)
theorem hpTo7 (yss : List (List AV)) (n es i : Nat) : lk none (hpTo yss n es i) 7 = some ⟨1,false,tlE 1000002 (yss.take i) ++ List.replicate (n - i) (AV.sl [])⟩ := rfl
theorem hpTo20 (yss : List (List AV)) (n es i : Nat) : lk none (hpTo yss n es i) 20 = none := by
 unfold hpTo
 rw [lk_cons,if_neg (by omega),lk_tlN _ _ _ rfl]
theorem to_loop {tab : Tab} {f es : Nat} {xss yss : List (List AV)} (hl : xss.length = yss.length) (hn : xss.length < 2 ^ 62)
  (ht : ∀ (i : Nat) x y,xss[i]? = some x → yss[i]? = some y → tab f [.sl x] = some (.sl y,.own [es])) {K : IExit → St → Prop}
  (h0 : ∀ st,Wk st ⟨[(3,.lsl 7 0 xss.length)],hpTo yss xss.length es xss.length⟩ → K (.exit 0) st) :
  ∀ j i,i + j = xss.length → eA tab (.loop (lbTo f es)) (stTo (.sl (xss.map AV.sl)) yss xss.length es i) K := by
 intro j
 induction j with
 | zero =>
  intro i hij
  have hi : i = xss.length := by omega
  subst hi
  refine eA_loop ?_
  have hc : decide ((xss.length : Int) < ((List.length xss : Nat) : Int)) = false := by simp
  unfold lbTo stTo
  simp only [grpX,purgeH,Option.map,reduceIte,Nat.reduceEqDiff,Nat.reduceAdd,Nat.reduceMul,Nat.reduceLT,Nat.reduceLeDiff,implies_true,forall_const,eq_self,Int.reduceEq,Int.reduceLE,Int.reduceLT,if_true,if_false,grpE,Int.reduceToNat,Nat.reduceSub,Nat.reduceBEq,beq_true,beq_false,bits_i64,hc]
  refine h0 _ (wk_less (fun u => ?_) (fun _ => rfl))
  simp only [St.get,lk]
  by_cases h : 3 = u
  ·subst h; exact .inl rfl
  ·rw [if_neg h]; exact .inr rfl
 | succ j ih =>
  intro i hij
  refine eA_loop ?_
  have hi : i < xss.length := by omega
  have hc : decide ((i : Int) < ((List.length xss : Nat) : Int)) = true := by simp; omega
  have hx : xss[i]? = some xss[i] := by simp [hi]
  have hy : yss[i]? = some (yss[i]'(by omega)) := by simp [show i < yss.length by omega]
  have hlen : (tlE 1000002 (yss.take i)).length = i := by rw [tlE_len,List.length_take]; omega
  have he : (tlE 1000002 (yss.take i) ++ List.replicate (xss.length - i) (AV.sl []))[i]? = some (AV.sl []) := by
   rw [List.getElem?_append_right (by rw [hlen]; exact Nat.le_refl _),hlen,Nat.sub_self,show xss.length - i = (xss.length - (i + 1)) + 1 by omega,List.replicate_succ]; rfl
  have hv : ∀ h,viaddrS h 1 (.sl (List.map AV.sl xss)) (.int .i64 i) = some (.ptr (.sl xss[i]) 0) := fun h => by
   simp [viaddrS,hx,AV.cells]
  have hb : inB (i : Int) xss.length = true := by simp [inB]; omega
  have hw : IntKind.wrap .i64 ((i : Int) + 1) = ((i + 1 : Nat) : Int) := by
   exact wrapS (by omega)
  have htt := ht i _ _ hx hy
  unfold lbTo stTo
  simp only [grpX,purgeH,Option.map,reduceIte,Nat.reduceEqDiff,Nat.reduceAdd,Nat.reduceMul,Nat.reduceLT,Nat.reduceLeDiff,implies_true,forall_const,eq_self,Int.reduceEq,Int.reduceLE,Int.reduceLT,if_true,if_false,grpE,Int.reduceToNat,Nat.reduceSub,Nat.reduceBEq,beq_true,beq_false,bits_i64,hc,hv,hb,hw,hpTo7,hpTo20,htt,he,Int.toNat_natCast,false_and,and_false]
  refine eA_wk (wk_renF (t := stTo (.sl (List.map AV.sl xss)) yss xss.length es (i + 1)) (a := 20) (b := 1000002 + 8 * i) (by simp [unp]; omega) (fun u => ?_) (fun l => hpTo_next hi hl hy l)) (ih (i + 1) (by omega))
  simp only [stTo,St.get,lk]
  by_cases h : 0 = u
  ·subst h; rfl
  ·rw [if_neg h]
   by_cases h : 3 = u
   ·subst h
    simp only [if_pos,renV,ren1,swN]
    rw [if_neg (by omega),if_neg (by omega)]
   ·rw [if_neg h]
    by_cases h : 4 = u
    ·subst h; rfl
    ·rw [if_neg h]; rfl
theorem flatE_cell {x d : AV} {j : Nat} (h : flatE x = true) (hd : x.cells[j]? = some d) : flatC d = true := by
 cases x with
 | agg cs => exact List.all_eq_true.1 h d (List.mem_of_getElem? hd)
 | _ => obtain ⟨_,rfl⟩ := single_get hd; exact h
def clB (c d es : Nat) (yss : List (List AV)) : List (Nat × Blk) := (c,⟨1,false,tlE d yss⟩) :: tlB es d yss
theorem pureEs_tl {h : Nat → Option Blk} {es : Nat} : ∀ {d : Nat} {yss : List (List AV)},(∀ (i : Nat) y,yss[i]? = some y → h (d + 8 * i) = some ⟨es,true,y⟩) → pureEs h (tlE d yss) = some (yss.map AV.sl)
 | d,[],_ => rfl
 | d,y :: yss,hh => by
  have h0 := hh 0 y rfl
  have ih := pureEs_tl (d := d + 8) (yss := yss) fun i z hz => by
   have := hh (i + 1) z hz
   rwa [show d + 8 + 8 * i = d + 8 * (i + 1) by omega]
  unfold pureEs at ih ⊢
  simp only [tlE,List.mapM_cons,ih,pureX.eq_def,pure0X,pure0]
  rw [show d + 8 * 0 = d by omega] at h0
  simp [h0,partL]
theorem HW_cl (c d es : Nat) (yss : List (List AV)) (l : Nat) : HW (clB c d es yss) l = if c = l then some ⟨1,false,tlE d yss⟩ else (tlAt d yss l).map (mkB es) := by
 unfold clB
 show (if c = l then _ else _) = _
 rw [← HW_tl]; rfl
theorem cl_cls {es : Nat} {yss : List (List AV)} : ClsH (clB 1000003 1000019 es yss) := by
 intro p hp
 have key : ∀ (d : Nat) (zss : List (List AV)),1000000 ≤ d ∧ d % 4 = 3 → ∀ q ∈ tlB es d zss,1000000 ≤ q.1 ∧ q.1 % 4 = 3 := by
  intro d zss
  induction zss generalizing d with
  | nil => intro _ q hq; cases hq
  | cons z zss ih =>
   intro hd q hq
   rcases List.mem_cons.1 hq with rfl | hq
   ·exact hd
   ·exact ih (d + 8) (by omega) q hq
 rcases List.mem_cons.1 hp with rfl | hp
 ·exact ⟨(by decide : 1000000 ≤ 1000003),(by decide : 1000003 % 4 = 3)⟩
 ·exact key _ _ ⟨by decide,by decide⟩ p hp

theorem toSS {tab : Tab} {f es bytes : Nat} {xss yss : List (List AV)} (hl : xss.length = yss.length) (hn : xss.length * bytes ≤ 2 ^ 46) (hn2 : xss.length ≤ 2 ^ 46)
  (hfl : ∀ y ∈ yss,y.all flatE = true) (ht : ∀ (i : Nat) x y,xss[i]? = some x → yss[i]? = some y → tab f [.sl x] = some (.sl y,.own [es])) :
  wpA tab (icTo f es bytes) (startSt [.sl (xss.map AV.sl)]) (RetO [.t 2] (.sl (yss.map AV.sl)) (.lsl 1000003 0 xss.length) (clB 1000003 1000019 es yss)) := by
 show eA _ _ _ _
 unfold icTo
 simp only [grpX,purgeH,Option.map,reduceIte,Nat.reduceEqDiff,Nat.reduceAdd,Nat.reduceMul,Nat.reduceLT,Nat.reduceLeDiff,implies_true,forall_const,eq_self,Int.reduceEq,Int.reduceLE,Int.reduceLT,if_true,if_false,grpE,Int.reduceToNat,Nat.reduceSub,Nat.reduceBEq,beq_true,beq_false,bits_i64,Int.toNat_natCast]
 refine ⟨fun _ => ?_,fun h => h ⟨by omega,by exact_mod_cast hn,by exact_mod_cast hn2⟩⟩
 have hfull : hpTo yss xss.length es xss.length = (7,some ⟨1,false,tlE 1000002 yss⟩) :: (tlB es 1000002 yss).map (fun p => (p.1,some p.2)) := by
  unfold hpTo
  rw [List.take_of_length_le (by omega),Nat.sub_self,List.replicate_zero,List.append_nil]
 refine eA_wk (Wk.trans' (wk_open (l := 7) (b := ⟨1,true,List.replicate xss.length (.sl [])⟩) rfl) (wk_eq (t := stTo (.sl (List.map AV.sl xss)) yss xss.length es 0) (fun u => rfl) (fun l => ?_))) (to_loop hl (by omega) ht (fun st hst => ?_) xss.length 0 (by omega))
 ·show lk none (hpTo yss xss.length es 0) l = lk none _ l
  simp only [hpTo,List.take_zero,tlE,tlB,List.map_nil,List.nil_append,Nat.sub_zero,lk,St.setH]
  by_cases h : 7 = l
  ·rw [if_pos h,if_pos h]
  ·rw [if_neg h,if_neg h,if_neg h]
 ·refine (Kb_exit 0 0).symm ▸ ?_
  rw [if_pos rfl]
  refine ⟨_,hst,?_⟩
  rw [hfull]
  simp only [grpX,purgeH,Option.map,reduceIte,Nat.reduceEqDiff,Nat.reduceAdd,Nat.reduceMul,Nat.reduceLT,Nat.reduceLeDiff,implies_true,forall_const,eq_self,Int.reduceEq,Int.reduceLE,Int.reduceLT,if_true,if_false,grpE,Int.reduceToNat,Nat.reduceSub,Nat.reduceBEq,beq_true,beq_false,bits_i64]
  refine ⟨_,fun l => if l = 1000003 then 7 else l - 17,Wk.refl _,?_⟩
  have h7 : lk none ((7,some ⟨1,false,tlE 1000002 yss⟩) :: (tlB es 1000002 yss).map (fun p => (p.1,some p.2))) 7 = some ⟨1,false,tlE 1000002 yss⟩ := rfl
  have htl : ∀ l,l ≠ 7 → lk none ((7,some ⟨1,false,tlE 1000002 yss⟩) :: (tlB es 1000002 yss).map (fun p => (p.1,some p.2))) l = (tlAt 1000002 yss l).map (mkB es) := fun l hl => by
   rw [lk_cons,if_neg (Ne.symm hl),lk_tl0]
  have hp1 : ∀ env,pureEs (St.hp ⟨env,(7,some ⟨1,false,tlE 1000002 yss⟩) :: (tlB es 1000002 yss).map (fun p => (p.1,some p.2))⟩) (tlE 1000002 yss) = some (yss.map AV.sl) := fun env => pureEs_tl fun i y hy => by
   show lk none _ _ = _
   rw [htl _ (by omega),tlAt_hit,hy]; rfl
  have hp2 : pureEs (HW (clB 1000003 1000019 es yss)) (tlE 1000019 yss) = some (yss.map AV.sl) := pureEs_tl fun i y hy => by
   rw [HW_cl,if_neg (by omega),tlAt_hit,hy]; rfl
  refine ⟨?_,?_,?_,?_,?_⟩
  ·simp only [grpX,purgeH,Option.map,reduceIte,Nat.reduceEqDiff,Nat.reduceAdd,Nat.reduceMul,Nat.reduceLT,Nat.reduceLeDiff,implies_true,forall_const,eq_self,Int.reduceEq,Int.reduceLE,Int.reduceLT,if_true,if_false,grpE,Int.reduceToNat,Nat.reduceSub,Nat.reduceBEq,beq_true,beq_false,bits_i64,hp1,tlE_len,hl,false_and,and_false]
  ·simp only [grpX,purgeH,Option.map,reduceIte,Nat.reduceEqDiff,Nat.reduceAdd,Nat.reduceMul,Nat.reduceLT,Nat.reduceLeDiff,implies_true,forall_const,eq_self,Int.reduceEq,Int.reduceLE,Int.reduceLT,if_true,if_false,grpE,Int.reduceToNat,Nat.reduceSub,Nat.reduceBEq,beq_true,beq_false,bits_i64,pureT,HW_cl,hp2,tlE_len,hl,false_and,and_false]
  ·intro l b hb
   rw [HW_cl] at hb
   by_cases e : 1000003 = l
   ·subst e
    rw [if_pos rfl] at hb; cases hb
    rw [if_pos rfl]
    refine ⟨_,h7,rfl,rfl,by rw [tlE_len,tlE_len],fun i x x0 q1 q2 => ?_⟩
    rw [tlE_get] at q1 q2
    cases hy : yss[i]? with
    | none => rw [hy] at q1; cases q1
    | some y =>
     rw [hy] at q1 q2; cases q1; cases q2
     refine ⟨rfl,fun j d d0 q1 q2 => ?_⟩
     obtain ⟨_,rfl⟩ := single_get q1
     obtain ⟨_,rfl⟩ := single_get q2
     refine .inr ⟨_,_,_,rfl,?_,?_⟩
     ·show AV.lsl (1000002 + 8 * i) 0 y.length = AV.lsl (if 1000019 + 8 * i = 1000003 then 7 else 1000019 + 8 * i - 17) 0 y.length
      rw [if_neg (by omega),show 1000019 + 8 * i - 17 = 1000002 + 8 * i by omega]
     ·rw [HW_cl,if_neg (by omega),tlAt_hit,hy]; rfl
   ·rw [if_neg e] at hb
    cases ht : tlAt 1000019 yss l with
    | none => rw [ht] at hb; cases hb
    | some y =>
     rw [ht] at hb; cases hb
     obtain ⟨i,rfl,hy,_⟩ := tlAt_some ht
     rw [if_neg (by omega),show 1000019 + 8 * i - 17 = 1000002 + 8 * i by omega]
     refine ⟨mkB es y,?_,rfl,rfl,rfl,fun i x x0 q1 q2 => ?_⟩
     ·show lk none _ _ = _
      rw [htl _ (by omega),tlAt_hit,hy]; rfl
     ·rw [q1] at q2; cases q2
      refine ⟨rfl,fun j d d0 q3 q4 => ?_⟩
      rw [q3] at q4; cases q4
      exact .inl ⟨flatE_cell (List.all_eq_true.1 (hfl y (List.mem_of_getElem? hy)) x (List.mem_of_getElem? q1)) q3,rfl⟩
  ·intro l l' h1 h2 h3
   rw [HW_cl] at h1 h2
   have key : ∀ l,(if 1000003 = l then some (⟨1,false,tlE 1000019 yss⟩ : Blk) else (tlAt 1000019 yss l).map (mkB es)).isSome = true → l = 1000003 ∨ ∃ i,l = 1000019 + 8 * i := by
    intro l h
    by_cases e : 1000003 = l
    ·exact .inl e.symm
    ·rw [if_neg e] at h
     cases ht : tlAt 1000019 yss l with
     | none => rw [ht] at h; cases h
     | some y => obtain ⟨i,q,_⟩ := tlAt_some ht; exact .inr ⟨i,q⟩
   rcases key l h1 with rfl | ⟨i,rfl⟩ <;> rcases key l' h2 with rfl | ⟨i',rfl⟩
   ·rfl
   ·rw [if_pos rfl,if_neg (by omega)] at h3; omega
   ·rw [if_pos rfl,if_neg (by omega)] at h3; omega
   ·rw [if_neg (by omega),if_neg (by omega)] at h3; omega
  ·exact .inl ⟨_,_,rfl,rfl,.inr (.inr ⟨_,_,_,rfl,rfl,by rw [HW_cl]; rfl⟩)⟩
end Go.Ab

namespace Go.Ab
open Go.RowKit

def lbMk (f : Nat) : ICode := (.seq (.seq (.reg [⟨(some 6),none,(.mov (.t 5))⟩,⟨(some 7),none,(.mov (.t 0))⟩,⟨(some 8),none,(.len false (.t 7))⟩,⟨(some 9),none,(.bin .lss false (.t 6) (.t 8))⟩] [0,1,5,9]) (.cond (.t 9) .skip (.exit 0)))
 (.seq (.block 1 (.reg [⟨(some 12),none,(.mov (.t 0))⟩,⟨(some 13),none,(.mov (.t 5))⟩,⟨(some 14),none,(.iaddrS 1 (.t 12) (.t 13))⟩,⟨(some 15),none,(.load none (.t 14))⟩,⟨(some 16),none,(.mov (.t 1))⟩,⟨(some 17),none,(.callM f [(.t 15),(.t 16)])⟩,⟨(some 1),none,(.mov (.t 17))⟩] [0,1,5]))
 (.reg [⟨(some 10),none,(.mov (.t 5))⟩,⟨(some 11),none,(.bin .add false (.t 10) (.c (.int .i64 1)))⟩,⟨(some 5),none,(.mov (.t 11))⟩] [0,1,5])))
def icMk (f : Nat) : ICode := (.seq (.reg [⟨(some 4),none,(.mov (.c (.int .i64 0)))⟩] [0,1]) (.seq (.seq (.reg [⟨(some 5),none,(.mov (.c (.int .i64 0)))⟩] [0,1,5]) (.block 0 (.loop (lbMk f)))) (.seq (.reg [⟨(some 18),none,(.mov (.t 1))⟩,⟨(some 4),none,(.mov (.t 18))⟩] [4]) .ret)))

def hpMk (xss yss : List (List AV)) (es i : Nat) : List (Nat × Option Blk) := (1000003,some ⟨1,false,tlE 1000019 xss⟩) :: (tlB es 1000019 (yss.take i ++ xss.drop i)).map (fun p => (p.1,some p.2))
theorem hpMk_outer (xss yss : List (List AV)) (es i : Nat) : lk none (hpMk xss yss es i) 1000003 = some ⟨1,false,tlE 1000019 xss⟩ := rfl
theorem hpMk_tl (xss yss : List (List AV)) (es i l : Nat) (hl : l ≠ 1000003) : lk none (hpMk xss yss es i) l = (tlAt 1000019 (yss.take i ++ xss.drop i) l).map (mkB es) := by
 unfold hpMk
 rw [lk_cons,if_neg (Ne.symm hl),lk_tl0]
theorem mk_get {xss yss : List (List AV)} (hl : xss.length = yss.length) {i j : Nat} : (yss.take i ++ xss.drop i)[j]? = if j < i then yss[j]? else xss[j]? := by
 by_cases hi : i ≤ yss.length
 ·have hlen : (yss.take i).length = i := by rw [List.length_take]; omega
  by_cases h : j < i
  ·rw [if_pos h,List.getElem?_append_left (by omega),List.getElem?_take,if_pos h]
  ·rw [if_neg h,List.getElem?_append_right (by omega),hlen,List.getElem?_drop,show i + (j - i) = j by omega]
 ·rw [List.take_of_length_le (by omega),List.drop_eq_nil_of_le (by omega),List.append_nil]
  split
  ·rfl
  ·rw [List.getElem?_eq_none (by omega),List.getElem?_eq_none (by omega)]
theorem mk_at {xss yss : List (List AV)} (hl : xss.length = yss.length) {i j c : Nat} : tlAt c (yss.take i ++ xss.drop i) (c + 8 * j) = if j < i then yss[j]? else xss[j]? := by
 rw [tlAt_hit,mk_get hl]
theorem mk_next {xss yss : List (List AV)} (hl : xss.length = yss.length) {i c l : Nat} (h : l ≠ c + 8 * i) : tlAt c (yss.take (i + 1) ++ xss.drop (i + 1)) l = tlAt c (yss.take i ++ xss.drop i) l := by
 unfold tlAt
 split
 ·rename_i hh
  have : (l - c) / 8 ≠ i := by omega
  rw [mk_get hl,mk_get hl]
  by_cases h1 : (l - c) / 8 < i
  ·rw [if_pos (by omega),if_pos h1]
  ·rw [if_neg (by omega),if_neg h1]
 ·rfl
theorem hpMk_next {xss yss : List (List AV)} (hl : xss.length = yss.length) {es i : Nat} {y : List AV} (hy : yss[i]? = some y) (l : Nat) :
  lk none (hpMk xss yss es (i + 1)) l = lk none ((1000019 + 8 * i,some ⟨es,true,y⟩) :: hpMk xss yss es i) l := by
 rw [lk_cons]
 by_cases h : 1000019 + 8 * i = l
 ·subst h
  rw [if_pos rfl,hpMk_tl _ _ _ _ _ (by omega),mk_at hl,if_pos (by omega),hy]; rfl
 ·rw [if_neg h]
  by_cases h3 : l = 1000003
  ·subst h3; rfl
  ·rw [hpMk_tl _ _ _ _ _ h3,hpMk_tl _ _ _ _ _ h3,mk_next hl (Ne.symm h)]

theorem mk_loop {tab : Tab} {f es : Nat} {xss yss : List (List AV)} {ks : Nat → Int} (hl : xss.length = yss.length) (hn : xss.length < 2 ^ 62) (hfl : ∀ x ∈ xss,x.all flatE = true)
  (ht : ∀ (i : Nat) x y,xss[i]? = some x → yss[i]? = some y → y.length = x.length ∧ tab f [.sl x,.int .i64 (ks i)] = some (.int .i64 (ks (i + 1)),.wr [es] [y])) {K : IExit → St → Prop}
  (h0 : ∀ st,Wk st ⟨[(1,.int .i64 (ks xss.length))],hpMk xss yss es xss.length⟩ → K (.exit 0) st) :
  ∀ j i,i + j = xss.length → eA tab (.loop (lbMk f)) ⟨[(0,.lsl 1000003 0 xss.length),(1,.int .i64 (ks i)),(5,.int .i64 i)],hpMk xss yss es i⟩ K := by
 intro j
 induction j with
 | zero =>
  intro i hij
  have hi : i = xss.length := by omega
  subst hi
  refine eA_loop ?_
  have hc : decide ((xss.length : Int) < ((List.length xss : Nat) : Int)) = false := by simp
  unfold lbMk
  simp only [grpX,purgeH,Option.map,reduceIte,Nat.reduceEqDiff,Nat.reduceAdd,Nat.reduceMul,Nat.reduceLT,Nat.reduceLeDiff,implies_true,forall_const,eq_self,Int.reduceEq,Int.reduceLE,Int.reduceLT,if_true,if_false,grpE,Int.reduceToNat,Nat.reduceSub,Nat.reduceBEq,beq_true,beq_false,bits_i64,hc]
  refine h0 _ (wk_less (fun u => ?_) (fun _ => rfl))
  simp only [St.get,lk]
  by_cases h : 1 = u
  ·subst h; exact .inl rfl
  ·rw [if_neg h]; exact .inr rfl
 | succ j ih =>
  intro i hij
  refine eA_loop ?_
  have hi : i < xss.length := by omega
  have hc : decide ((i : Int) < ((List.length xss : Nat) : Int)) = true := by simp; omega
  have hx : xss[i]? = some xss[i] := by simp [hi]
  have hy : yss[i]? = some (yss[i]'(by omega)) := by simp [show i < yss.length by omega]
  have he : (tlE 1000019 xss)[i]? = some (.lsl (1000019 + 8 * i) 0 xss[i].length) := by rw [tlE_get,hx]; rfl
  have hb : inB (i : Int) xss.length = true := by simp [inB]; omega
  have hw : IntKind.wrap .i64 ((i : Int) + 1) = ((i + 1 : Nat) : Int) := wrapS (by omega)
  obtain ⟨hlen,htt⟩ := ht i _ _ hx hy
  have hlk : lk none (hpMk xss yss es i) (1000019 + 8 * i) = some ⟨es,true,xss[i]⟩ := by
   rw [hpMk_tl _ _ _ _ _ (by omega),mk_at hl,if_neg (by omega),hx]; rfl
  have hf := hfl _ (List.getElem_mem hi)
  unfold lbMk
  simp only [grpX,purgeH,Option.map,reduceIte,Nat.reduceEqDiff,Nat.reduceAdd,Nat.reduceMul,Nat.reduceLT,Nat.reduceLeDiff,implies_true,forall_const,eq_self,Int.reduceEq,Int.reduceLE,Int.reduceLT,if_true,if_false,grpE,Int.reduceToNat,Nat.reduceSub,Nat.reduceBEq,beq_true,beq_false,bits_i64,hc,hb,hw,hpMk_outer,hlk,htt,he,hf,hlen,wAs,wA,wC,zipW,noDupN,Int.toNat_natCast,false_and,and_false]
  exact eA_wk (wk_eq (t := ⟨[(0,.lsl 1000003 0 xss.length),(1,.int .i64 (ks (i + 1))),(5,.int .i64 (i + 1 : Nat))],hpMk xss yss es (i + 1)⟩) (fun _ => rfl) (fun l => hpMk_next hl hy l)) (ih (i + 1) (by omega))

theorem cl_clos {es : Nat} {xss : List (List AV)} (hfl : ∀ x ∈ xss,x.all flatE = true) {l : Nat} {b : Blk} (hb : HW (clB 1000003 1000019 es xss) l = some b) : ∀ x ∈ b.elems,∀ d ∈ x.cells,ClosC (clB 1000003 1000019 es xss) d := by
 intro x hx d hd
 rw [HW_cl] at hb
 by_cases e : 1000003 = l
 ·rw [if_pos e] at hb; cases hb
  obtain ⟨i,hi⟩ := List.mem_iff_getElem?.1 hx
  rw [tlE_get] at hi
  cases hy : xss[i]? with
  | none => rw [hy] at hi; cases hi
  | some y =>
   rw [hy] at hi; cases hi
   have : d = .lsl (1000019 + 8 * i) 0 y.length := by simpa [AV.cells] using hd
   subst this
   exact .inr ⟨_,_,_,rfl,by rw [HW_cl,if_neg (by omega),tlAt_hit,hy]; rfl⟩
 ·rw [if_neg e] at hb
  cases ht : tlAt 1000019 xss l with
  | none => rw [ht] at hb; cases hb
  | some y =>
   rw [ht] at hb; cases hb
   obtain ⟨i,_,hy,_⟩ := tlAt_some ht
   obtain ⟨j,hj⟩ := List.mem_iff_getElem?.1 hd
   exact .inl (flatE_cell (List.all_eq_true.1 (hfl y (List.mem_of_getElem? hy)) x hx) hj)
theorem tlAt_len {c : Nat} {xss yss : List (List AV)} (h : xss.map List.length = yss.map List.length) (l : Nat) : (tlAt c xss l).map List.length = (tlAt c yss l).map List.length := by
 unfold tlAt
 split
 ·have := congrArg (fun x => x[(l - c) / 8]?) h
  simpa using this
 ·rfl
theorem cl_same {es : Nat} {xss yss : List (List AV)} (h : xss.map List.length = yss.map List.length) {l : Nat} {b : Blk} (hb : HW (clB 1000003 1000019 es xss) l = some b) : ∃ b',HW (clB 1000003 1000019 es yss) l = some b' ∧ b'.es = b.es ∧ b'.elems.length = b.elems.length := by
 rw [HW_cl] at hb ⊢
 by_cases e : 1000003 = l
 ·rw [if_pos e] at hb ⊢; cases hb
  exact ⟨_,rfl,rfl,by rw [tlE_eq _ h]⟩
 ·rw [if_neg e] at hb ⊢
  have hx := tlAt_len (c := 1000019) h l
  cases ht : tlAt 1000019 xss l with
  | none => rw [ht] at hb; cases hb
  | some y =>
   rw [ht] at hb hx; cases hb
   cases ht' : tlAt 1000019 yss l with
   | none => rw [ht'] at hx; cases hx
   | some z =>
    rw [ht'] at hx
    exact ⟨_,rfl,rfl,by have := Option.some.inj hx; exact this.symm⟩
theorem isSome_iff' {α : Type} {o : Option α} : o.isSome = true ↔ ∃ x,o = some x := Option.isSome_iff_exists
theorem nest_cl {es n : Nat} {k : Int} {xss yss : List (List AV)} (h : xss.map List.length = yss.map List.length) (hfl : ∀ x ∈ xss,x.all flatE = true) : NestH [.lsl 1000003 0 n,.int .i64 k] (clB 1000003 1000019 es xss) (clB 1000003 1000019 es yss) := by
 refine ⟨fun v hv d hd => ?_,fun l b hb => cl_clos hfl hb,fun l b hb => cl_same h hb,fun l hl => ?_⟩
 ·rcases List.mem_cons.1 hv with rfl | hv
  ·have : d = .lsl 1000003 0 n := by simpa [AV.cells] using hd
   subst this
   exact .inr ⟨_,_,_,rfl,by rw [HW_cl]; rfl⟩
  ·have : v = .int .i64 k := by simpa using hv
   subst this
   have : d = .int .i64 k := by simpa [AV.cells] using hd
   subst this
   exact .inl rfl
 ·obtain ⟨b,hb⟩ := isSome_iff'.1 hl
  obtain ⟨b',hb',_⟩ := cl_same h.symm hb
  rw [hb']; rfl

theorem markSS {tab : Tab} {f es : Nat} {xss yss : List (List AV)} {ks : Nat → Int} (hl : xss.length = yss.length) (hn : xss.length < 2 ^ 62) (hfl : ∀ x ∈ xss,x.all flatE = true)
  (ht : ∀ (i : Nat) x y,xss[i]? = some x → yss[i]? = some y → y.length = x.length ∧ tab f [.sl x,.int .i64 (ks i)] = some (.int .i64 (ks (i + 1)),.wr [es] [y])) :
  wpA tab (icMk f) (startW [.lsl 1000003 0 xss.length,.int .i64 (ks 0)] (clB 1000003 1000019 es xss)) (RetN [.t 4] (.int .i64 (ks xss.length)) (clB 1000003 1000019 es yss)) := by
 show eA _ _ _ _
 have hlen : xss.map List.length = yss.map List.length := by
  refine List.ext_getElem? fun i => ?_
  simp only [List.getElem?_map]
  cases hx : xss[i]? with
  | none =>
   rw [List.getElem?_eq_none_iff] at hx
   rw [List.getElem?_eq_none (by omega)]
  | some x =>
   have : i < xss.length := (List.getElem?_eq_some_iff.1 hx).1
   have hy : yss[i]? = some (yss[i]'(by omega)) := by simp [show i < yss.length by omega]
   rw [hy]
   simp only [Option.map]
   rw [(ht i _ _ hx hy).1]
 have hst : startW [.lsl 1000003 0 xss.length,.int .i64 (ks 0)] (clB 1000003 1000019 es xss) = ⟨[(0,.lsl 1000003 0 xss.length),(1,.int .i64 (ks 0))],hpMk xss yss es 0⟩ := by
  simp only [startW,envOf,clB,hpMk,List.map_cons,List.take_zero,List.nil_append,List.drop_zero]
 rw [hst]
 unfold icMk
 simp only [grpX,purgeH,Option.map,reduceIte,Nat.reduceEqDiff,Nat.reduceAdd,Nat.reduceMul,Nat.reduceLT,Nat.reduceLeDiff,implies_true,forall_const,eq_self,Int.reduceEq,Int.reduceLE,Int.reduceLT,if_true,if_false,grpE,Int.reduceToNat,Nat.reduceSub,Nat.reduceBEq,beq_true,beq_false,bits_i64]
 refine mk_loop hl hn hfl ht (fun st hs => ?_) xss.length 0 (by omega)
 refine (Kb_exit 0 0).symm ▸ ?_
 rw [if_pos rfl]
 refine ⟨_,hs,?_⟩
 simp only [grpX,purgeH,Option.map,reduceIte,Nat.reduceEqDiff,Nat.reduceAdd,Nat.reduceMul,Nat.reduceLT,Nat.reduceLeDiff,implies_true,forall_const,eq_self,Int.reduceEq,Int.reduceLE,Int.reduceLT,if_true,if_false,grpE,Int.reduceToNat,Nat.reduceSub,Nat.reduceBEq,beq_true,beq_false,bits_i64]
 refine ⟨_,Wk.refl _,?_,fun l b hb => ?_⟩
 ·simp only [grpX,purgeH,Option.map,reduceIte,Nat.reduceEqDiff,Nat.reduceAdd,Nat.reduceMul,Nat.reduceLT,Nat.reduceLeDiff,implies_true,forall_const,eq_self,Int.reduceEq,Int.reduceLE,Int.reduceLT,if_true,if_false,grpE,Int.reduceToNat,Nat.reduceSub,Nat.reduceBEq,beq_true,beq_false,bits_i64]
 ·rw [← hb,HW_cl]
  show lk none _ _ = _
  by_cases e : 1000003 = l
  ·subst e
   rw [if_pos rfl,hpMk_outer,tlE_eq _ hlen]
  ·rw [if_neg e,hpMk_tl _ _ _ _ _ (Ne.symm e),hl,List.take_length,← hl,List.drop_length,List.append_nil]
end Go.Ab

namespace Go.Ab
open Go.RowKit

def clL (es e2 : Nat) (xss : List (List AV)) (rs : List AV) : List (Nat × Blk) := clB 1000003 1000019 es xss ++ [(1000011,⟨e2,true,rs⟩)]
theorem HW_clL (es e2 : Nat) (xss : List (List AV)) (rs : List AV) (l : Nat) : HW (clL es e2 xss rs) l = if 1000003 = l then some ⟨1,false,tlE 1000019 xss⟩ else if 1000011 = l then some ⟨e2,true,rs⟩ else (tlAt 1000019 xss l).map (mkB es) := by
 have h1 : HW (clL es e2 xss rs) l = lk none ((clB 1000003 1000019 es xss).map (fun p => (p.1,some p.2)) ++ [(1000011,some ⟨e2,true,rs⟩)]) l := by
  unfold HW clL; rw [List.map_append]; rfl
 rw [h1]
 unfold clB
 rw [List.map_cons,List.cons_append,lk_cons]
 by_cases e : 1000003 = l
 ·rw [if_pos e,if_pos e]
 ·rw [if_neg e,if_neg e,lk_tl]
  by_cases e2 : 1000011 = l
  ·subst e2
   rw [if_pos rfl,tlAt_lt _ _ rfl]; rfl
  ·rw [if_neg e2]
   cases tlAt 1000019 xss l with
   | none => simp only [lk,Option.map]; rw [if_neg e2]
   | some y => rfl
theorem clL_cls {es e2 : Nat} {xss : List (List AV)} {rs : List AV} : ClsH (clL es e2 xss rs) := by
 intro p hp
 unfold clL at hp
 rcases List.mem_append.1 hp with h | h
 ·exact cl_cls p h
 ·rw [List.mem_singleton.1 h]
  exact ⟨(by decide : 1000000 ≤ 1000011),(by decide : 1000011 % 4 = 3)⟩
theorem clL_sub {es e2 : Nat} {xss : List (List AV)} {rs : List AV} {l : Nat} (h : (HW (clB 1000003 1000019 es xss) l).isSome = true) : (HW (clL es e2 xss rs) l).isSome = true := by
 rw [HW_cl] at h
 rw [HW_clL]
 by_cases e : 1000003 = l
 ·rw [if_pos e]; rfl
 ·rw [if_neg e] at h ⊢
  split
  ·rfl
  ·exact h
theorem ClosC.clL {es e2 : Nat} {xss : List (List AV)} {rs : List AV} {d : AV} (h : ClosC (clB 1000003 1000019 es xss) d) : ClosC (clL es e2 xss rs) d := by
 rcases h with h | ⟨l,off,len,h1,h2⟩
 ·exact .inl h
 ·exact .inr ⟨l,off,len,h1,clL_sub h2⟩
theorem clL_clos {es e2 : Nat} {xss : List (List AV)} {rs : List AV} (hfl : ∀ x ∈ xss,x.all flatE = true) (hfr : rs.all flatE = true) {l : Nat} {b : Blk} (hb : HW (clL es e2 xss rs) l = some b) : ∀ x ∈ b.elems,∀ d ∈ x.cells,ClosC (clL es e2 xss rs) d := by
 intro x hx d hd
 by_cases h11 : 1000011 = l
 ·subst h11
  rw [HW_clL,if_neg (by omega),if_pos rfl] at hb; cases hb
  obtain ⟨j,hj⟩ := List.mem_iff_getElem?.1 hd
  exact .inl (flatE_cell (List.all_eq_true.1 hfr x hx) hj)
 ·have : HW (clB 1000003 1000019 es xss) l = some b := by
   rw [HW_clL,if_neg h11] at hb
   rw [HW_cl]; exact hb
  exact (cl_clos hfl this x hx d hd).clL
theorem clL_same {es e2 : Nat} {xss yss : List (List AV)} {rs ss : List AV} (h : xss.map List.length = yss.map List.length) (hr : rs.length = ss.length) {l : Nat} {b : Blk} (hb : HW (clL es e2 xss rs) l = some b) : ∃ b',HW (clL es e2 yss ss) l = some b' ∧ b'.es = b.es ∧ b'.elems.length = b.elems.length := by
 by_cases h11 : 1000011 = l
 ·subst h11
  rw [HW_clL,if_neg (by omega),if_pos rfl] at hb ⊢; cases hb
  exact ⟨_,rfl,rfl,hr.symm⟩
 ·rw [HW_clL,if_neg h11] at hb ⊢
  have := cl_same h (b := b) (l := l) (es := es) (by rw [HW_cl]; exact hb)
  rwa [HW_cl] at this
theorem nest_clL {es e2 n m : Nat} {a b k : Int} {xss yss : List (List AV)} {rs ss : List AV} (h : xss.map List.length = yss.map List.length) (hr : rs.length = ss.length) (hfl : ∀ x ∈ xss,x.all flatE = true) (hfr : rs.all flatE = true) :
  NestH [.agg [.int .i64 a,.int .i64 b,.lsl 1000003 0 n,.lsl 1000011 0 m],.int .i64 k] (clL es e2 xss rs) (clL es e2 yss ss) := by
 refine ⟨fun v hv d hd => ?_,fun l b hb => clL_clos hfl hfr hb,fun l b hb => clL_same h hr hb,fun l hl => ?_⟩
 ·rcases List.mem_cons.1 hv with rfl | hv
  ·simp only [AV.cells,List.mem_cons,List.not_mem_nil,or_false] at hd
   rcases hd with rfl | rfl | rfl | rfl
   ·exact .inl rfl
   ·exact .inl rfl
   ·exact .inr ⟨_,_,_,rfl,by rw [HW_clL]; rfl⟩
   ·exact .inr ⟨_,_,_,rfl,by rw [HW_clL]; rfl⟩
  ·have : v = .int .i64 k := by simpa using hv
   subst this
   have : d = .int .i64 k := by simpa [AV.cells] using hd
   subst this
   exact .inl rfl
 ·obtain ⟨b,hb⟩ := isSome_iff'.1 hl
  obtain ⟨b',hb',_⟩ := clL_same h.symm hr.symm hb
  rw [hb']; rfl

/-! ### look-ups behind the blocks -/
section
variable {es e2 : Nat} {xss : List (List AV)} {rs : List AV} {h : List (Nat × Option Blk)}
theorem lk_clL (l : Nat) : lk none ((clL es e2 xss rs).map (fun p => (p.1,some p.2)) ++ h) l = match HW (clL es e2 xss rs) l with
  | some b => some b
  | none => lk none h l := by
 rcases lk_HW (clL es e2 xss rs) h l with ⟨b,h1,h2⟩ | ⟨h1,h2⟩
 ·rw [h2,h1]
 ·rw [h2,h1]
theorem lk_clL_lo {l : Nat} (hl : l < 1000000) : lk none ((clL es e2 xss rs).map (fun p => (p.1,some p.2)) ++ h) l = lk none h l := by
 rw [lk_clL,HW_clL,if_neg (by omega),if_neg (by omega),tlAt_lt _ _ (by simp; omega)]; rfl
theorem lk_clL_a : lk none ((clL es e2 xss rs).map (fun p => (p.1,some p.2)) ++ h) 1000003 = some ⟨1,false,tlE 1000019 xss⟩ := by
 rw [lk_clL,HW_clL,if_pos rfl]
theorem lk_clL_b : lk none ((clL es e2 xss rs).map (fun p => (p.1,some p.2)) ++ h) 1000011 = some ⟨e2,true,rs⟩ := by
 rw [lk_clL,HW_clL,if_neg (by omega),if_pos rfl]
theorem lk_clL_t {i : Nat} {y : List AV} (hy : xss[i]? = some y) : lk none ((clL es e2 xss rs).map (fun p => (p.1,some p.2)) ++ h) (1000019 + 8 * i) = some ⟨es,true,y⟩ := by
 rw [lk_clL,HW_clL,if_neg (by omega),if_neg (by omega),tlAt_hit,hy]; rfl
theorem lk_clB (l : Nat) : lk none ((clB 1000003 1000019 es xss).map (fun p => (p.1,some p.2)) ++ h) l = match HW (clB 1000003 1000019 es xss) l with
  | some b => some b
  | none => lk none h l := by
 rcases lk_HW (clB 1000003 1000019 es xss) h l with ⟨b,h1,h2⟩ | ⟨h1,h2⟩
 ·rw [h2,h1]
 ·rw [h2,h1]
theorem lk_clB_lo {l : Nat} (hl : l < 1000000) : lk none ((clB 1000003 1000019 es xss).map (fun p => (p.1,some p.2)) ++ h) l = lk none h l := by
 rw [lk_clB,HW_cl,if_neg (by omega),tlAt_lt _ _ (by simp; omega)]; rfl
theorem lk_clB_a : lk none ((clB 1000003 1000019 es xss).map (fun p => (p.1,some p.2)) ++ h) 1000003 = some ⟨1,false,tlE 1000019 xss⟩ := by
 rw [lk_clB,HW_cl,if_pos rfl]
theorem lk_clB_t {i : Nat} {y : List AV} (hy : xss[i]? = some y) : lk none ((clB 1000003 1000019 es xss).map (fun p => (p.1,some p.2)) ++ h) (1000019 + 8 * i) = some ⟨es,true,y⟩ := by
 rw [lk_clB,HW_cl,if_neg (by omega),tlAt_hit,hy]; rfl
theorem pureEs_skip {env : List (Nat × AV)} {k : Nat} {v : Option Blk} (hk : k < 1000000) : pureEs (St.hp ⟨env,(k,v) :: h⟩) (tlE 1000019 xss) = pureEs (St.hp ⟨env,h⟩) (tlE 1000019 xss) := by
 have : ∀ (c : Nat) (zss : List (List AV)),1000000 ≤ c → pureEs (St.hp ⟨env,(k,v) :: h⟩) (tlE c zss) = pureEs (St.hp ⟨env,h⟩) (tlE c zss) := by
  intro c zss
  induction zss generalizing c with
  | nil => intro _; rfl
  | cons z zss ih =>
   intro hc
   have e : St.hp ⟨env,(k,v) :: h⟩ c = St.hp ⟨env,h⟩ c := by
    show (if k = c then v else _) = _
    rw [if_neg (by omega)]; rfl
   have ih := ih (c + 8) (by omega)
   unfold pureEs at ih ⊢
   simp only [tlE,List.mapM_cons,ih,pure0X,pure0,e]
 exact this _ _ (by omega)
theorem pureEs_clL {env : List (Nat × AV)} : pureEs (St.hp ⟨env,(clL es e2 xss rs).map (fun p => (p.1,some p.2)) ++ h⟩) (tlE 1000019 xss) = some (xss.map AV.sl) := pureEs_tl fun _ _ hy => lk_clL_t hy
theorem pureEs_clB {env : List (Nat × AV)} : pureEs (St.hp ⟨env,(clB 1000003 1000019 es xss).map (fun p => (p.1,some p.2)) ++ h⟩) (tlE 1000019 xss) = some (xss.map AV.sl) := pureEs_tl fun _ _ hy => lk_clB_t hy
theorem grabE_tl {g : Nat → Option Blk} {n : Nat} : ∀ {d : Nat} {yss : List (List AV)},(∀ (i : Nat) y,yss[i]? = some y → g (d + 8 * i) = some ⟨es,true,y⟩) → grabE g ⟨n,false,tlE d yss⟩ = tlB es d yss
 | d,[],_ => rfl
 | d,y :: yss,hh => by
  have h0 := hh 0 y rfl
  have ih := grabE_tl (g := g) (n := n) (d := d + 8) (yss := yss) fun i z hz => by
   have := hh (i + 1) z hz
   rwa [show d + 8 + 8 * i = d + 8 * (i + 1) by omega]
  unfold grabE at ih ⊢
  simp only [Bool.false_eq_true,if_false] at ih ⊢
  rw [show d + 8 * 0 = d by omega] at h0
  simp only [tlE,List.flatMap_cons,ih,show (AV.lsl d 0 y.length).cells = [AV.lsl d 0 y.length] from rfl,List.flatMap_nil,grab0,h0,tlB,List.append_nil,List.cons_append,List.nil_append]
structure HasL (g : Nat → Option Blk) (es e2 : Nat) (xss : List (List AV)) (rs : List AV) : Prop where
 a : g 1000003 = some ⟨1,false,tlE 1000019 xss⟩
 b : g 1000011 = some ⟨e2,true,rs⟩
 t : ∀ (i : Nat) y,xss[i]? = some y → g (1000019 + 8 * i) = some ⟨es,true,y⟩
theorem hasL_top {env : List (Nat × AV)} : HasL (St.hp ⟨env,(clL es e2 xss rs).map (fun p => (p.1,some p.2)) ++ h⟩) es e2 xss rs := ⟨lk_clL_a,lk_clL_b,fun _ _ hy => lk_clL_t hy⟩
theorem hasL_cons {env : List (Nat × AV)} {k : Nat} {v : Option Blk} (hk : k < 1000000) (hh : HasL (St.hp ⟨env,h⟩) es e2 xss rs) : HasL (St.hp ⟨env,(k,v) :: h⟩) es e2 xss rs := by
 have e : ∀ l,1000000 ≤ l → St.hp ⟨env,(k,v) :: h⟩ l = St.hp ⟨env,h⟩ l := fun l hl => by
  show (if k = l then v else _) = _
  rw [if_neg (by omega)]; rfl
 exact ⟨by rw [e _ (by omega)]; exact hh.a,by rw [e _ (by omega)]; exact hh.b,fun i y hy => by rw [e _ (by omega)]; exact hh.t i y hy⟩
theorem grab_clL {g : Nat → Option Blk} (hh : HasL g es e2 xss rs) (a b k : Int) (n m : Nat) : grab g [.agg [.int .i64 a,.int .i64 b,.lsl 1000003 0 n,.lsl 1000011 0 m],.int .i64 k] = clL es e2 xss rs := by
 have h1 := grabE_tl (n := 1) hh.t
 have h2 : grabE g ⟨e2,true,rs⟩ = [] := by unfold grabE; rw [if_pos rfl]
 simp only [grab,List.flatMap_cons,List.flatMap_nil,AV.cells,grabC,hh.a,hh.b,h1,h2,List.append_nil,List.nil_append,clL,clB,List.cons_append]
theorem grab_cl0 {es e2 : Nat} {xss : List (List AV)} {rs : List AV} {h : List (Nat × Option Blk)} {env : List (Nat × AV)} {a b c : Int} {n m : Nat} : grab (St.hp ⟨env,((clL es e2 xss rs).map (fun p => (p.1,some p.2)) ++ h)⟩) [.agg [.int .i64 a,.int .i64 b,.lsl 1000003 0 n,.lsl 1000011 0 m],.int .i64 c] = clL es e2 xss rs := grab_clL hasL_top a b c n m
theorem grab_cl1 {es e2 : Nat} {xss : List (List AV)} {rs : List AV} {h : List (Nat × Option Blk)} {env : List (Nat × AV)} {a b c : Int} {n m : Nat} {k0 : Nat} {v0 : Option Blk} (h0 : k0 < 1000000) : grab (St.hp ⟨env,(k0,v0) :: ((clL es e2 xss rs).map (fun p => (p.1,some p.2)) ++ h)⟩) [.agg [.int .i64 a,.int .i64 b,.lsl 1000003 0 n,.lsl 1000011 0 m],.int .i64 c] = clL es e2 xss rs := grab_clL (hasL_cons h0 hasL_top) a b c n m
theorem grab_cl2 {es e2 : Nat} {xss : List (List AV)} {rs : List AV} {h : List (Nat × Option Blk)} {env : List (Nat × AV)} {a b c : Int} {n m : Nat} {k0 k1 : Nat} {v0 v1 : Option Blk} (h0 : k0 < 1000000) (h1 : k1 < 1000000) : grab (St.hp ⟨env,(k0,v0) :: (k1,v1) :: ((clL es e2 xss rs).map (fun p => (p.1,some p.2)) ++ h)⟩) [.agg [.int .i64 a,.int .i64 b,.lsl 1000003 0 n,.lsl 1000011 0 m],.int .i64 c] = clL es e2 xss rs := grab_clL (hasL_cons h0 (hasL_cons h1 hasL_top)) a b c n m
theorem grab_cl3 {es e2 : Nat} {xss : List (List AV)} {rs : List AV} {h : List (Nat × Option Blk)} {env : List (Nat × AV)} {a b c : Int} {n m : Nat} {k0 k1 k2 : Nat} {v0 v1 v2 : Option Blk} (h0 : k0 < 1000000) (h1 : k1 < 1000000) (h2 : k2 < 1000000) : grab (St.hp ⟨env,(k0,v0) :: (k1,v1) :: (k2,v2) :: ((clL es e2 xss rs).map (fun p => (p.1,some p.2)) ++ h)⟩) [.agg [.int .i64 a,.int .i64 b,.lsl 1000003 0 n,.lsl 1000011 0 m],.int .i64 c] = clL es e2 xss rs := grab_clL (hasL_cons h0 (hasL_cons h1 (hasL_cons h2 hasL_top))) a b c n m
theorem grab_cl4 {es e2 : Nat} {xss : List (List AV)} {rs : List AV} {h : List (Nat × Option Blk)} {env : List (Nat × AV)} {a b c : Int} {n m : Nat} {k0 k1 k2 k3 : Nat} {v0 v1 v2 v3 : Option Blk} (h0 : k0 < 1000000) (h1 : k1 < 1000000) (h2 : k2 < 1000000) (h3 : k3 < 1000000) : grab (St.hp ⟨env,(k0,v0) :: (k1,v1) :: (k2,v2) :: (k3,v3) :: ((clL es e2 xss rs).map (fun p => (p.1,some p.2)) ++ h)⟩) [.agg [.int .i64 a,.int .i64 b,.lsl 1000003 0 n,.lsl 1000011 0 m],.int .i64 c] = clL es e2 xss rs := grab_clL (hasL_cons h0 (hasL_cons h1 (hasL_cons h2 (hasL_cons h3 hasL_top)))) a b c n m
theorem grab_cl5 {es e2 : Nat} {xss : List (List AV)} {rs : List AV} {h : List (Nat × Option Blk)} {env : List (Nat × AV)} {a b c : Int} {n m : Nat} {k0 k1 k2 k3 k4 : Nat} {v0 v1 v2 v3 v4 : Option Blk} (h0 : k0 < 1000000) (h1 : k1 < 1000000) (h2 : k2 < 1000000) (h3 : k3 < 1000000) (h4 : k4 < 1000000) : grab (St.hp ⟨env,(k0,v0) :: (k1,v1) :: (k2,v2) :: (k3,v3) :: (k4,v4) :: ((clL es e2 xss rs).map (fun p => (p.1,some p.2)) ++ h)⟩) [.agg [.int .i64 a,.int .i64 b,.lsl 1000003 0 n,.lsl 1000011 0 m],.int .i64 c] = clL es e2 xss rs := grab_clL (hasL_cons h0 (hasL_cons h1 (hasL_cons h2 (hasL_cons h3 (hasL_cons h4 hasL_top))))) a b c n m
theorem grab_cl6 {es e2 : Nat} {xss : List (List AV)} {rs : List AV} {h : List (Nat × Option Blk)} {env : List (Nat × AV)} {a b c : Int} {n m : Nat} {k0 k1 k2 k3 k4 k5 : Nat} {v0 v1 v2 v3 v4 v5 : Option Blk} (h0 : k0 < 1000000) (h1 : k1 < 1000000) (h2 : k2 < 1000000) (h3 : k3 < 1000000) (h4 : k4 < 1000000) (h5 : k5 < 1000000) : grab (St.hp ⟨env,(k0,v0) :: (k1,v1) :: (k2,v2) :: (k3,v3) :: (k4,v4) :: (k5,v5) :: ((clL es e2 xss rs).map (fun p => (p.1,some p.2)) ++ h)⟩) [.agg [.int .i64 a,.int .i64 b,.lsl 1000003 0 n,.lsl 1000011 0 m],.int .i64 c] = clL es e2 xss rs := grab_clL (hasL_cons h0 (hasL_cons h1 (hasL_cons h2 (hasL_cons h3 (hasL_cons h4 (hasL_cons h5 hasL_top)))))) a b c n m
theorem grab_cl7 {es e2 : Nat} {xss : List (List AV)} {rs : List AV} {h : List (Nat × Option Blk)} {env : List (Nat × AV)} {a b c : Int} {n m : Nat} {k0 k1 k2 k3 k4 k5 k6 : Nat} {v0 v1 v2 v3 v4 v5 v6 : Option Blk} (h0 : k0 < 1000000) (h1 : k1 < 1000000) (h2 : k2 < 1000000) (h3 : k3 < 1000000) (h4 : k4 < 1000000) (h5 : k5 < 1000000) (h6 : k6 < 1000000) : grab (St.hp ⟨env,(k0,v0) :: (k1,v1) :: (k2,v2) :: (k3,v3) :: (k4,v4) :: (k5,v5) :: (k6,v6) :: ((clL es e2 xss rs).map (fun p => (p.1,some p.2)) ++ h)⟩) [.agg [.int .i64 a,.int .i64 b,.lsl 1000003 0 n,.lsl 1000011 0 m],.int .i64 c] = clL es e2 xss rs := grab_clL (hasL_cons h0 (hasL_cons h1 (hasL_cons h2 (hasL_cons h3 (hasL_cons h4 (hasL_cons h5 (hasL_cons h6 hasL_top))))))) a b c n m
theorem grab_cl8 {es e2 : Nat} {xss : List (List AV)} {rs : List AV} {h : List (Nat × Option Blk)} {env : List (Nat × AV)} {a b c : Int} {n m : Nat} {k0 k1 k2 k3 k4 k5 k6 k7 : Nat} {v0 v1 v2 v3 v4 v5 v6 v7 : Option Blk} (h0 : k0 < 1000000) (h1 : k1 < 1000000) (h2 : k2 < 1000000) (h3 : k3 < 1000000) (h4 : k4 < 1000000) (h5 : k5 < 1000000) (h6 : k6 < 1000000) (h7 : k7 < 1000000) : grab (St.hp ⟨env,(k0,v0) :: (k1,v1) :: (k2,v2) :: (k3,v3) :: (k4,v4) :: (k5,v5) :: (k6,v6) :: (k7,v7) :: ((clL es e2 xss rs).map (fun p => (p.1,some p.2)) ++ h)⟩) [.agg [.int .i64 a,.int .i64 b,.lsl 1000003 0 n,.lsl 1000011 0 m],.int .i64 c] = clL es e2 xss rs := grab_clL (hasL_cons h0 (hasL_cons h1 (hasL_cons h2 (hasL_cons h3 (hasL_cons h4 (hasL_cons h5 (hasL_cons h6 (hasL_cons h7 hasL_top)))))))) a b c n m
theorem grab_cl9 {es e2 : Nat} {xss : List (List AV)} {rs : List AV} {h : List (Nat × Option Blk)} {env : List (Nat × AV)} {a b c : Int} {n m : Nat} {k0 k1 k2 k3 k4 k5 k6 k7 k8 : Nat} {v0 v1 v2 v3 v4 v5 v6 v7 v8 : Option Blk} (h0 : k0 < 1000000) (h1 : k1 < 1000000) (h2 : k2 < 1000000) (h3 : k3 < 1000000) (h4 : k4 < 1000000) (h5 : k5 < 1000000) (h6 : k6 < 1000000) (h7 : k7 < 1000000) (h8 : k8 < 1000000) : grab (St.hp ⟨env,(k0,v0) :: (k1,v1) :: (k2,v2) :: (k3,v3) :: (k4,v4) :: (k5,v5) :: (k6,v6) :: (k7,v7) :: (k8,v8) :: ((clL es e2 xss rs).map (fun p => (p.1,some p.2)) ++ h)⟩) [.agg [.int .i64 a,.int .i64 b,.lsl 1000003 0 n,.lsl 1000011 0 m],.int .i64 c] = clL es e2 xss rs := grab_clL (hasL_cons h0 (hasL_cons h1 (hasL_cons h2 (hasL_cons h3 (hasL_cons h4 (hasL_cons h5 (hasL_cons h6 (hasL_cons h7 (hasL_cons h8 hasL_top))))))))) a b c n m
def loH : List (Nat × Option Blk) → Bool
 | [] => true
 | p :: r => decide (p.1 < 1000000) && loH r
theorem loH_none {l : Nat} (hl : 1000000 ≤ l) : ∀ {h : List (Nat × Option Blk)},loH h = true → lk none h l = none
 | [],_ => rfl
 | (k,v) :: r,hh => by
  simp only [loH,Bool.and_eq_true,decide_eq_true_eq] at hh
  rw [lk_cons,if_neg (by omega),loH_none hl hh.2]
theorem fresh_clB {env : List (Nat × AV)} (hh : loH h = true) : (∀ p ∈ clB 1000003 1000019 es xss,St.hp ⟨env,h⟩ p.1 = none) = True := eq_true fun p hp => loH_none (cl_cls p hp).1 hh
theorem fresh_clL {env : List (Nat × AV)} (hh : loH h = true) : (∀ p ∈ clL es e2 xss rs,St.hp ⟨env,h⟩ p.1 = none) = True := eq_true fun p hp => loH_none (clL_cls p hp).1 hh
end

/-! ### the copy,and the function that writes -/
def icToC (f g e2 : Nat) : ICode := (.seq (.reg [⟨(some 1),none,(.box 4 (.t 0))⟩,⟨(some 2),none,(.alloc (.agg [(.int .i64 0),(.int .i64 0),.snil,.snil]))⟩] [1,2]) (.seq (.reg [⟨(some 3),none,(.alloc (.agg [(.int .i64 0),(.int .i64 0),.snil,.snil]))⟩] [1,2,3])
 (.seq (.reg [⟨(some 4),none,(.faddr 0 (.t 1))⟩,⟨(some 5),none,(.load none (.t 4))⟩,⟨(some 6),none,(.faddr 0 (.t 3))⟩,⟨none,none,(.store 1 (.t 6) (.t 5))⟩] [1,2,3]) (.seq (.reg [⟨(some 7),none,(.faddr 1 (.t 1))⟩,⟨(some 8),none,(.load none (.t 7))⟩,⟨(some 9),none,(.faddr 1 (.t 3))⟩,⟨none,none,(.store 1 (.t 9) (.t 8))⟩] [1,2,3])
 (.seq (.reg [⟨(some 10),none,(.faddr 2 (.t 1))⟩,⟨(some 11),none,(.load none (.t 10))⟩,⟨(some 12),none,(.call (.fn f) [(.t 11)] [1])⟩,⟨(some 13),none,(.faddr 2 (.t 3))⟩,⟨none,none,(.store 1 (.t 13) (.t 12))⟩] [1,2,3])
 (.seq (.reg [⟨(some 14),none,(.faddr 3 (.t 1))⟩,⟨(some 15),none,(.load none (.t 14))⟩,⟨(some 16),none,(.call (.fn g) [(.t 15)] [e2])⟩,⟨(some 17),none,(.faddr 3 (.t 3))⟩,⟨none,none,(.store 1 (.t 17) (.t 16))⟩] [2,3]) (.seq (.reg [⟨(some 18),none,(.load (some 4) (.t 3))⟩,⟨none,none,(.store 4 (.t 2) (.t 18))⟩] [2]) .ret)))))))

theorem rnB_same {H : List (Nat × Blk)} {g : Nat → Nat} {b : Blk} (h : ∀ x ∈ b.elems,∀ d ∈ x.cells,flatC d = true ∨ ∃ l off len,d = .lsl l off len ∧ g l = l ∧ (HW H l).isSome = true) : RnB H g b b := by
 refine ⟨rfl,rfl,rfl,fun i x x0 q1 q2 => ?_⟩
 rw [q1] at q2; cases q2
 refine ⟨rfl,fun j d d0 q3 q4 => ?_⟩
 rw [q3] at q4; cases q4
 rcases h x (List.mem_of_getElem? q1) d (List.mem_of_getElem? q3) with h | ⟨l,off,len,h1,h2,h3⟩
 ·exact .inl ⟨h,rfl⟩
 ·exact .inr ⟨l,off,len,h1,by rw [h2]; exact h1,h3⟩
theorem toC {tab : Tab} {f g es e2 : Nat} {a b : Int} {xss yss : List (List AV)} {rs ss : List AV} (hfl : ∀ y ∈ yss,y.all flatE = true) (hfr : ss.all flatE = true) (hln : yss.length = xss.length)
  (hf : tab f [.sl (xss.map AV.sl)] = some (.sl (yss.map AV.sl),.ownH (.lsl 1000003 0 xss.length) (clB 1000003 1000019 es yss))) (hg : tab g [.sl rs] = some (.sl ss,.own [e2])) :
  wpA tab (icToC f g e2) (startSt [.agg [.int .i64 a,.int .i64 b,.sl (xss.map AV.sl),.sl rs]]) (RetO [.c 2 (some 4)] (.agg [.int .i64 a,.int .i64 b,.sl (yss.map AV.sl),.sl ss])
   (.agg [.int .i64 a,.int .i64 b,.lsl 1000003 0 yss.length,.lsl 1000011 0 ss.length]) (clL es e2 yss ss)) := by
 show eA _ _ _ _
 unfold icToC
 simp only [grpX,purgeH,Option.map,reduceIte,Nat.reduceEqDiff,Nat.reduceAdd,Nat.reduceMul,Nat.reduceLT,Nat.reduceLeDiff,implies_true,forall_const,eq_self,Int.reduceEq,Int.reduceLE,Int.reduceLT,if_true,if_false,grpE,Int.reduceToNat,Nat.reduceSub,Nat.reduceBEq,beq_true,beq_false,bits_i64,hf,hg,↓fresh_clB,loH,lk_clB_lo,lk_clB_a,imp_false,Bool.not_false]
 generalize ([(3,some { es := 4,pur := false,elems := [AV.agg [AV.int IntKind.i64 a,AV.int IntKind.i64 b,AV.snil,AV.snil]] }),
  (3,some { es := 4,pur := false,elems := [AV.agg [AV.int IntKind.i64 a,AV.int IntKind.i64 0,AV.snil,AV.snil]] }),
  (3,some { es := 4,pur := false,elems := [AV.agg [AV.int IntKind.i64 0,AV.int IntKind.i64 0,AV.snil,AV.snil]] }),
  (2,some { es := 4,pur := false,elems := [AV.agg [AV.int IntKind.i64 0,AV.int IntKind.i64 0,AV.snil,AV.snil]] }),
  (1,some { es := 4,pur := false,elems := [AV.agg [AV.int IntKind.i64 a,AV.int IntKind.i64 b,AV.sl (List.map AV.sl xss),AV.sl rs]] })] : List (Nat × Option Blk)) = R
 have hpu : pureEs (HW (clL es e2 yss ss)) (tlE 1000019 yss) = some (yss.map AV.sl) := pureEs_tl fun i y hy => by
  rw [HW_clL,if_neg (by omega),if_neg (by omega),tlAt_hit,hy]; rfl
 refine ⟨_,fun l => if l = 1000011 then 16 else l,Wk.refl _,?_,?_,?_,?_,?_⟩
 ·simp only [grpX,purgeH,Option.map,reduceIte,Nat.reduceEqDiff,Nat.reduceAdd,Nat.reduceMul,Nat.reduceLT,Nat.reduceLeDiff,implies_true,forall_const,eq_self,Int.reduceEq,Int.reduceLE,Int.reduceLT,if_true,if_false,grpE,Int.reduceToNat,Nat.reduceSub,Nat.reduceBEq,beq_true,beq_false,bits_i64,lk_clB_lo,lk_clB_a,pureEs_skip,pureEs_clB,tlE_len,hln,false_and,and_false]
 ·simp only [grpX,purgeH,Option.map,reduceIte,Nat.reduceEqDiff,Nat.reduceAdd,Nat.reduceMul,Nat.reduceLT,Nat.reduceLeDiff,implies_true,forall_const,eq_self,Int.reduceEq,Int.reduceLE,Int.reduceLT,if_true,if_false,grpE,Int.reduceToNat,Nat.reduceSub,Nat.reduceBEq,beq_true,beq_false,bits_i64,pureT,HW_clL,hpu,tlE_len,hln,false_and,and_false]
 ·intro l b hb
  by_cases h11 : 1000011 = l
  ·subst h11
   rw [HW_clL,if_neg (by omega),if_pos rfl] at hb; cases hb
   refine ⟨_,rfl,rnB_same fun x hx d hd => .inl ?_⟩
   obtain ⟨j,hj⟩ := List.mem_iff_getElem?.1 hd
   exact flatE_cell (List.all_eq_true.1 hfr x hx) hj
  ·have hb' := hb
   rw [HW_clL,if_neg h11] at hb
   have hcl : HW (clB 1000003 1000019 es yss) l = some b := by rw [HW_cl]; exact hb
   have hhi : 1000000 ≤ l := (cl_cls _ (HW_mem hcl)).1
   show ∃ b0,lk none _ (if l = 1000011 then 16 else l) = some b0 ∧ _
   rw [if_neg (Ne.symm h11)]
   refine ⟨b,?_,rnB_same fun x hx d hd => ?_⟩
   ·rw [lk_cons,if_neg (by omega),lk_cons,if_neg (by omega),lk_cons,if_neg (by omega),lk_cons,if_neg (by omega),lk_clB,hcl]
   ·rcases cl_clos hfl hcl x hx d hd with h | ⟨m,off,len,rfl,hm⟩
    ·exact .inl h
    ·refine .inr ⟨m,off,len,rfl,if_neg ?_,clL_sub hm⟩
     rintro rfl
     rw [HW_cl,if_neg (by omega),tlAt_lt _ _ rfl] at hm
     cases hm
 ·intro l l' h1 h2 h3
  have hi : ∀ l,(HW (clL es e2 yss ss) l).isSome = true → 1000000 ≤ l := fun l h => by
   obtain ⟨b,hb⟩ := isSome_iff'.1 h
   exact (clL_cls _ (HW_mem hb)).1
  have := hi l h1
  have := hi l' h2
  have h3 : (if l = 1000011 then 16 else l) = (if l' = 1000011 then 16 else l') := h3
  split at h3 <;> split at h3 <;> omega
 ·refine .inl ⟨_,.agg [.int .i64 a,.int .i64 b,.lsl 1000003 0 xss.length,.lsl 16 0 ss.length],rfl,rfl,.inl ⟨_,_,rfl,rfl,rfl,fun j c c0 q1 q2 => ?_⟩⟩
  match j with
  | 0 => cases q1; cases q2; exact .inl ⟨rfl,rfl⟩
  | 1 => cases q1; cases q2; exact .inl ⟨rfl,rfl⟩
  | 2 => cases q1; cases q2; exact .inr ⟨_,_,_,rfl,by rw [hln]; rfl,by rw [HW_clL]; rfl⟩
  | 3 => cases q1; cases q2; exact .inr ⟨_,_,_,rfl,rfl,by rw [HW_clL]; rfl⟩
  | j + 4 => cases q1

/-! ### writing into all of it -/
def icMkC (f g : Nat) : ICode := (.seq (.reg [⟨(some 2),none,(.box 4 (.t 0))⟩,⟨(some 4),none,(.mov (.c (.int .i64 0)))⟩] [1,2]) (.seq (.reg [⟨(some 5),none,(.faddr 2 (.t 2))⟩,⟨(some 6),none,(.load none (.t 5))⟩,⟨(some 7),none,(.mov (.t 1))⟩,⟨(some 8),none,(.callM f [(.t 6),(.t 7)])⟩,⟨(some 1),none,(.mov (.t 8))⟩] [1,2])
 (.seq (.reg [⟨(some 9),none,(.faddr 3 (.t 2))⟩,⟨(some 10),none,(.load none (.t 9))⟩,⟨(some 11),none,(.mov (.t 1))⟩,⟨(some 12),none,(.callM g [(.t 10),(.t 11)])⟩,⟨(some 1),none,(.mov (.t 12))⟩] [1]) (.seq (.reg [⟨(some 13),none,(.mov (.t 1))⟩,⟨(some 4),none,(.mov (.t 13))⟩] [4]) .ret))))
theorem grab_clB {g : Nat → Option Blk} {es e2 : Nat} {xss : List (List AV)} {rs : List AV} (hh : HasL g es e2 xss rs) (k : Int) (n : Nat) : grab g [.lsl 1000003 0 n,.int .i64 k] = clB 1000003 1000019 es xss := by
 have h1 := grabE_tl (n := 1) hh.t
 simp only [grab,List.flatMap_cons,List.flatMap_nil,AV.cells,grabC,hh.a,h1,List.append_nil,List.nil_append,clB,List.cons_append]
theorem mkC {tab : Tab} {f g es e2 : Nat} {a b k k1 k2 : Int} {xss yss : List (List AV)} {rs ss : List AV} (hfl : ∀ x ∈ xss,x.all flatE = true) (hfr : rs.all flatE = true) (hlr : ss.length = rs.length)
  (hf : tab f [.lsl 1000003 0 xss.length,.int .i64 k,hEnc (clB 1000003 1000019 es xss)] = some (.int .i64 k1,.wrH (clB 1000003 1000019 es yss))) (hg : tab g [.sl rs,.int .i64 k1] = some (.int .i64 k2,.wr [e2] [ss])) :
  wpA tab (icMkC f g) (startW [.agg [.int .i64 a,.int .i64 b,.lsl 1000003 0 xss.length,.lsl 1000011 0 rs.length],.int .i64 k] (clL es e2 xss rs)) (RetN [.t 4] (.int .i64 k2) (clL es e2 yss ss)) := by
 show eA _ _ _ _
 have hst : startW [.agg [.int .i64 a,.int .i64 b,.lsl 1000003 0 xss.length,.lsl 1000011 0 rs.length],.int .i64 k] (clL es e2 xss rs) =
   ⟨[(0,.agg [.int .i64 a,.int .i64 b,.lsl 1000003 0 xss.length,.lsl 1000011 0 rs.length]),(1,.int .i64 k)],(clL es e2 xss rs).map (fun p => (p.1,some p.2)) ++ []⟩ := by
  simp only [startW,envOf,List.append_nil]
 obtain ⟨R,hR⟩ : ∃ R : List (Nat × Option Blk),R = [] := ⟨[],rfl⟩
 rw [hst,← hR]
 have hgr : ∀ env (v : Option Blk) h',grab (St.hp ⟨env,(2,v) :: ((clL es e2 xss rs).map (fun p => (p.1,some p.2)) ++ h')⟩) [.lsl 1000003 0 xss.length,.int .i64 k] = clB 1000003 1000019 es xss := fun env v h' => grab_clB (hasL_cons (by omega) hasL_top) k _
 have hb : ∀ h',lk none ((clB 1000003 1000019 es yss).map (fun p => (p.1,some p.2)) ++ h') 1000011 = lk none h' 1000011 := fun h' => by
  rw [lk_clB,HW_cl,if_neg (by omega),tlAt_lt _ _ rfl]; rfl
 unfold icMkC
 simp only [grpX,purgeH,Option.map,reduceIte,Nat.reduceEqDiff,Nat.reduceAdd,Nat.reduceMul,Nat.reduceLT,Nat.reduceLeDiff,implies_true,forall_const,eq_self,Int.reduceEq,Int.reduceLE,Int.reduceLT,if_true,if_false,grpE,Int.reduceToNat,Nat.reduceSub,Nat.reduceBEq,beq_true,beq_false,bits_i64,↓hgr,hb,wAs,wA,wC,zipW,noDupN,hf,hg,hfr,hlr,lk_clL_lo,lk_clL_a,lk_clL_b,lk_clB_lo,lk_clB_a,List.cons_append,List.nil_append,false_and,and_false]
 refine ⟨fun _ => ⟨_,Wk.refl _,by simp only [grpX,purgeH,Option.map,reduceIte,Nat.reduceEqDiff,Nat.reduceAdd,Nat.reduceMul,Nat.reduceLT,Nat.reduceLeDiff,implies_true,forall_const,eq_self,Int.reduceEq,Int.reduceLE,Int.reduceLT,if_true,if_false,grpE,Int.reduceToNat,Nat.reduceSub,Nat.reduceBEq,beq_true,beq_false,bits_i64],fun l b hb' => ?_⟩,fun h => h (by subst hR; rfl)⟩
 show lk none _ l = some b
 by_cases h11 : 1000011 = l
 ·subst h11
  rw [HW_clL,if_neg (by omega),if_pos rfl] at hb'; cases hb'
  rfl
 ·rw [lk_cons,if_neg h11,lk_clB]
  rw [HW_clL,if_neg h11] at hb'
  have : HW (clB 1000003 1000019 es yss) l = some b := by rw [HW_cl]; exact hb'
  rw [this]
/-! ### what such functions are told by -/
noncomputable def gH {α : Type} (shape : α → List AV) (p : α → Bool) (res : α → AV × Md) (vs : List AV) : Option (AV × Md) :=
 @dite _ (∃ q,shape q = vs ∧ p q = true) (Classical.propDecidable _) (fun h => some (res (Classical.choose h))) (fun _ => none)
theorem gH_eq {α : Type} {shape : α → List AV} {p : α → Bool} {res : α → AV × Md} (inj : ∀ q q',shape q = shape q' → q = q') {q : α} (hp : p q = true) : gH shape p res (shape q) = some (res q) := by
 unfold gH
 have h : ∃ q',shape q' = shape q ∧ p q' = true := ⟨q,rfl,hp⟩
 rw [dif_pos h,inj _ _ (Classical.choose_spec h).1]
theorem gH_some {α : Type} {shape : α → List AV} {p : α → Bool} {res : α → AV × Md} {vs : List AV} {z : AV × Md} (h : gH shape p res vs = some z) : ∃ q,shape q = vs ∧ p q = true ∧ res q = z := by
 unfold gH at h
 split at h
 ·rename_i hh
  exact ⟨_,(Classical.choose_spec hh).1,(Classical.choose_spec hh).2,Option.some.inj h⟩
 ·cases h
section
variable {α : Type} (m : α → Int → Int × α) (p : α → Int → Bool)
def mkSS : List α → Int → Int × List α
 | [],k => (k,[])
 | x :: r,k => ((mkSS r (m x k).1).1,(m x k).2 :: (mkSS r (m x k).1).2)
def pSS : List α → Int → Bool
 | [],_ => true
 | x :: r,k => p x k && pSS r (m x k).1
def ksSS : List α → Int → Nat → Int
 | _,k,0 => k
 | [],k,_ => k
 | x :: r,k,i + 1 => ksSS r (m x k).1 i
theorem mkSS_len : ∀ (l : List α) (k : Int),(mkSS m l k).2.length = l.length
 | [],_ => rfl
 | x :: r,k => by simp [mkSS,mkSS_len r]
theorem mkSS_fst : ∀ (l : List α) (k : Int),(mkSS m l k).1 = ksSS m l k l.length
 | [],_ => rfl
 | x :: r,k => by simp only [mkSS,List.length_cons,ksSS]; exact mkSS_fst r _
theorem ksSS_zero (l : List α) (k : Int) : ksSS m l k 0 = k := by cases l <;> rfl
theorem mkSS_get : ∀ (l : List α) (k : Int) (i : Nat) (x : α),l[i]? = some x → (mkSS m l k).2[i]? = some (m x (ksSS m l k i)).2 ∧ ksSS m l k (i + 1) = (m x (ksSS m l k i)).1 ∧ (pSS m p l k = true → p x (ksSS m l k i) = true)
 | [],_,_,_,h => by simp at h
 | y :: r,k,0,x,h => by
  simp at h; subst h
  refine ⟨rfl,?_,fun hp => ?_⟩
  ·show ksSS m r (m y k).1 0 = _
   rw [ksSS_zero]; rfl
  ·simp only [pSS,Bool.and_eq_true] at hp
   exact hp.1
 | y :: r,k,i + 1,x,h => by
  simp at h
  obtain ⟨h1,h2,h3⟩ := mkSS_get r (m y k).1 i x h
  refine ⟨h1,h2,fun hp => ?_⟩
  simp only [pSS,Bool.and_eq_true] at hp
  exact h3 hp.2
end
theorem hEnc_clB_inj {es : Nat} {xss yss : List (List AV)} (h : hEnc (clB 1000003 1000019 es xss) = hEnc (clB 1000003 1000019 es yss)) : xss = yss := by
 have := hEnc_inj h
 unfold clB at this
 exact tlB_inj (List.cons.inj this).2
theorem hEnc_clL_inj {es e2 : Nat} {xss yss : List (List AV)} {rs ss : List AV} (h : hEnc (clL es e2 xss rs) = hEnc (clL es e2 yss ss)) : xss = yss ∧ rs = ss := by
 have := hEnc_inj h
 unfold clL at this
 obtain ⟨h1,h2⟩ := List.append_inj' this rfl
 unfold clB at h1
 refine ⟨tlB_inj (List.cons.inj h1).2,?_⟩
 simpa using h2
theorem enc_inj {α : Type} {d : AV → Option α} {e : α → AV} (hm : ∀ ys : List α,decL d (List.map e ys) = some ys) {xs ys : List α} (h : List.map e xs = List.map e ys) : xs = ys := by
 have := hm xs
 rw [h,hm ys] at this
 exact (Option.some.inj this).symm
theorem enc2_inj {α : Type} {d : AV → Option α} {e : α → AV} (hm : ∀ ys : List α,decL d (List.map e ys) = some ys) : ∀ {xs ys : List (List α)},List.map (List.map e) xs = List.map (List.map e) ys → xs = ys
 | [],[],_ => rfl
 | [],_ :: _,h => by cases h
 | _ :: _,[],h => by cases h
 | x :: xs,y :: ys,h => by
  simp only [List.map_cons,List.cons.injEq] at h
  rw [enc_inj hm h.1,enc2_inj hm h.2]
theorem map_sl {α : Type} (e : α → AV) (xs : List (List α)) : List.map AV.sl (List.map (List.map e) xs) = List.map (fun p => AV.sl (List.map e p)) xs := by
 rw [List.map_map]; rfl
theorem all_fl {α : Type} {e : α → AV} (h : ∀ l : List α,List.all (List.map e l) flatE = true) (xs : List (List α)) : ∀ y ∈ List.map (List.map e) xs,y.all flatE = true := by
 intro y hy
 obtain ⟨x,_,rfl⟩ := List.mem_map.1 hy
 exact h x
def grpG := And.intro @grab_cl0 <| And.intro @grab_cl1 <| And.intro @grab_cl2 <| And.intro @grab_cl3 <| And.intro @grab_cl4 <| And.intro @grab_cl5 <| And.intro @grab_cl6 <| And.intro @grab_cl7 <| And.intro @grab_cl8 @grab_cl9
end Go.Ab

namespace Go.Ab
open Go.RowKit

abbrev PT : Type := Nat × Nat × Nat × List AV
def posV (c : Nat) (p : PT) : AV := .agg [.flt .f32 p.1,.flt .f32 p.2.1,.flt .f32 p.2.2.1,.lsl c 0 p.2.2.2.length]
def posP (p : PT) : AV := .agg [.flt .f32 p.1,.flt .f32 p.2.1,.flt .f32 p.2.2.1,.sl p.2.2.2]
def posE (c : Nat) : List PT → List AV
 | [] => []
 | p :: r => posV c p :: posE (c + 8) r
def ins (ps : List PT) : List (List AV) := ps.map fun p => p.2.2.2
theorem posE_len (c : Nat) (ps : List PT) : (posE c ps).length = ps.length := by
 induction ps generalizing c with
 | nil => rfl
 | cons x r ih => simp [posE,ih]
theorem posE_get (c : Nat) (ps : List PT) (i : Nat) : (posE c ps)[i]? = (ps[i]?).map (posV (c + 8 * i)) := by
 induction ps generalizing c i with
 | nil => simp [posE]
 | cons x r ih =>
  cases i with
  | zero => simp [posE]
  | succ i =>
   simp only [posE,List.getElem?_cons_succ,ih]
   rw [show c + 8 + 8 * i = c + 8 * (i + 1) by omega]
theorem posE_append (c : Nat) (ps qs : List PT) : posE c (ps ++ qs) = posE c ps ++ posE (c + 8 * ps.length) qs := by
 induction ps generalizing c with
 | nil => simp [posE]
 | cons x r ih =>
  simp only [List.cons_append,posE,ih,List.length_cons]
  rw [show c + 8 + 8 * r.length = c + 8 * (r.length + 1) by omega]
theorem renV_posE {a b c : Nat} {ps : List PT} (ha : ∀ i,i < ps.length → c + 8 * i ≠ a ∧ c + 8 * i ≠ b) : (posE c ps).map (renV a b) = posE c ps := by
 induction ps generalizing c with
 | nil => rfl
 | cons x r ih =>
  have h0 := ha 0 (by simp)
  simp only [posE,posV,List.map_cons,List.map_nil,renV,ren1,swN]
  rw [if_neg (by omega),if_neg (by omega),ih (fun i hi => by have := ha (i + 1) (by simp; omega); omega)]
theorem ins_len (ps : List PT) : (ins ps).length = ps.length := List.length_map _
theorem ins_get (ps : List PT) (i : Nat) : (ins ps)[i]? = (ps[i]?).map fun p => p.2.2.2 := List.getElem?_map ..
theorem ins_take (ps : List PT) (i : Nat) : ins (ps.take i) = (ins ps).take i := List.map_take ..
theorem pureEs_pos {h : Nat → Option Blk} {es : Nat} : ∀ {d : Nat} {ps : List PT},(∀ (i : Nat) y,(ins ps)[i]? = some y → h (d + 8 * i) = some ⟨es,true,y⟩) → pureEs h (posE d ps) = some (ps.map posP)
 | d,[],_ => rfl
 | d,p :: ps,hh => by
  have h0 := hh 0 p.2.2.2 rfl
  have ih := pureEs_pos (d := d + 8) (ps := ps) fun i z hz => by
   have := hh (i + 1) z (by simpa [ins] using hz)
   rwa [show d + 8 + 8 * i = d + 8 * (i + 1) by omega]
  unfold pureEs at ih ⊢
  rw [show d + 8 * 0 = d by omega] at h0
  have e : pure0X h (posV d p) = some (posP p) := by
   simp [posV,posP,pure0X,pure0X.pure0',pure0,h0,partL]
  simp only [posE,List.mapM_cons,ih,e]
  rfl
theorem grabE_pos {es : Nat} {g : Nat → Option Blk} {n : Nat} : ∀ {d : Nat} {ps : List PT},(∀ (i : Nat) y,(ins ps)[i]? = some y → g (d + 8 * i) = some ⟨es,true,y⟩) → grabE g ⟨n,false,posE d ps⟩ = tlB es d (ins ps)
 | d,[],_ => rfl
 | d,p :: ps,hh => by
  have h0 := hh 0 p.2.2.2 rfl
  have ih := grabE_pos (g := g) (n := n) (d := d + 8) (ps := ps) fun i z hz => by
   have := hh (i + 1) z (by simpa [ins] using hz)
   rwa [show d + 8 + 8 * i = d + 8 * (i + 1) by omega]
  unfold grabE at ih ⊢
  simp only [Bool.false_eq_true,if_false] at ih ⊢
  rw [show d + 8 * 0 = d by omega] at h0
  have e : (posV d p).cells.flatMap (grab0 g) = [(d,⟨es,true,p.2.2.2⟩)] := by
   simp [posV,AV.cells,grab0,h0]
  simp only [posE,List.flatMap_cons,ih,e]
  rfl
def plB (es : Nat) (ps : List PT) : List (Nat × Blk) := (1000007,⟨4,false,posE 1000015 ps⟩) :: tlB es 1000015 (ins ps)
theorem HW_pl (es : Nat) (ps : List PT) (l : Nat) : HW (plB es ps) l = if 1000007 = l then some ⟨4,false,posE 1000015 ps⟩ else (tlAt 1000015 (ins ps) l).map (mkB es) := by
 unfold plB
 show (if 1000007 = l then _ else _) = _
 rw [← HW_tl]; rfl
theorem tlB_cls {es d : Nat} {zss : List (List AV)} (hd : 1000000 ≤ d ∧ d % 8 = 7) : ∀ q ∈ tlB es d zss,1000000 ≤ q.1 ∧ q.1 % 8 = 7 := by
 induction zss generalizing d with
 | nil => intro q hq; cases hq
 | cons z zss ih =>
  intro q hq
  rcases List.mem_cons.1 hq with rfl | hq
  ·exact hd
  ·exact ih (d := d + 8) (by omega) q hq
theorem pl_names {es : Nat} {ps : List PT} : ∀ q ∈ plB es ps,1000000 ≤ q.1 ∧ q.1 % 8 = 7 := by
 intro q hq
 rcases List.mem_cons.1 hq with rfl | hq
 ·exact ⟨(by decide : 1000000 ≤ 1000007),(by decide : 1000007 % 8 = 7)⟩
 ·exact tlB_cls ⟨by decide,by decide⟩ q hq
theorem pl_cls {es : Nat} {ps : List PT} : ClsH (plB es ps) := fun p hp => ⟨(pl_names p hp).1,by have := (pl_names p hp).2; omega⟩
theorem tlB_names3 {es d : Nat} {zss : List (List AV)} (hd : d % 8 = 3) : ∀ q ∈ tlB es d zss,q.1 % 8 = 3 := by
 induction zss generalizing d with
 | nil => intro q hq; cases hq
 | cons z zss ih =>
  intro q hq
  rcases List.mem_cons.1 hq with rfl | hq
  ·exact hd
  ·exact ih (d := d + 8) (by omega) q hq
theorem clL_names {es e2 : Nat} {xss : List (List AV)} {rs : List AV} : ∀ q ∈ clL es e2 xss rs,q.1 % 8 = 3 := by
 intro q hq
 unfold clL clB at hq
 rcases List.mem_append.1 hq with h | h
 ·rcases List.mem_cons.1 h with rfl | h
  ·exact (by decide : 1000003 % 8 = 3)
  ·exact tlB_names3 (by decide) q h
 ·rw [List.mem_singleton.1 h]
  exact (by decide : 1000011 % 8 = 3)
theorem pl_clos {es : Nat} {ps : List PT} (hfl : ∀ p ∈ ps,p.2.2.2.all flatE = true) {l : Nat} {b : Blk} (hb : HW (plB es ps) l = some b) : ∀ x ∈ b.elems,∀ d ∈ x.cells,ClosC (plB es ps) d := by
 intro x hx d hd
 rw [HW_pl] at hb
 by_cases e : 1000007 = l
 ·rw [if_pos e] at hb; cases hb
  obtain ⟨i,hi⟩ := List.mem_iff_getElem?.1 hx
  rw [posE_get] at hi
  cases hy : ps[i]? with
  | none => rw [hy] at hi; cases hi
  | some y =>
   rw [hy] at hi; cases hi
   simp only [posV,AV.cells,List.mem_cons,List.not_mem_nil,or_false] at hd
   rcases hd with rfl | rfl | rfl | rfl
   ·exact .inl rfl
   ·exact .inl rfl
   ·exact .inl rfl
   ·exact .inr ⟨_,_,_,rfl,by rw [HW_pl,if_neg (by omega),tlAt_hit,ins_get,hy]; rfl⟩
 ·rw [if_neg e] at hb
  cases ht : tlAt 1000015 (ins ps) l with
  | none => rw [ht] at hb; cases hb
  | some y =>
   rw [ht] at hb; cases hb
   obtain ⟨i,_,hy,_⟩ := tlAt_some ht
   rw [ins_get] at hy
   cases hp : ps[i]? with
   | none => rw [hp] at hy; cases hy
   | some p =>
    rw [hp] at hy; cases hy
    obtain ⟨j,hj⟩ := List.mem_iff_getElem?.1 hd
    exact .inl (flatE_cell (List.all_eq_true.1 (hfl p (List.mem_of_getElem? hp)) x hx) hj)
theorem pl_same {es : Nat} {ps qs : List PT} (h : (ins ps).map List.length = (ins qs).map List.length) {l : Nat} {b : Blk} (hb : HW (plB es ps) l = some b) : ∃ b',HW (plB es qs) l = some b' ∧ b'.es = b.es ∧ b'.elems.length = b.elems.length := by
 rw [HW_pl] at hb ⊢
 have hl : ps.length = qs.length := by
  have := congrArg List.length h
  simpa [ins_len] using this
 by_cases e : 1000007 = l
 ·rw [if_pos e] at hb ⊢; cases hb
  exact ⟨_,rfl,rfl,by rw [posE_len,posE_len,hl]⟩
 ·rw [if_neg e] at hb ⊢
  have hx := tlAt_len (c := 1000015) h l
  cases ht : tlAt 1000015 (ins ps) l with
  | none => rw [ht] at hb; cases hb
  | some y =>
   rw [ht] at hb hx; cases hb
   cases ht' : tlAt 1000015 (ins qs) l with
   | none => rw [ht'] at hx; cases hx
   | some z =>
    rw [ht'] at hx
    exact ⟨_,rfl,rfl,by have := Option.some.inj hx; exact this.symm⟩
theorem nest_pl {es n : Nat} {k : Int} {ps qs : List PT} (h : (ins ps).map List.length = (ins qs).map List.length) (hfl : ∀ p ∈ ps,p.2.2.2.all flatE = true) : NestH [.lsl 1000007 0 n,.int .i64 k] (plB es ps) (plB es qs) := by
 refine ⟨fun v hv d hd => ?_,fun l b hb => pl_clos hfl hb,fun l b hb => pl_same h hb,fun l hl => ?_⟩
 ·rcases List.mem_cons.1 hv with rfl | hv
  ·have : d = .lsl 1000007 0 n := by simpa [AV.cells] using hd
   subst this
   exact .inr ⟨_,_,_,rfl,by rw [HW_pl]; rfl⟩
  ·have : v = .int .i64 k := by simpa using hv
   subst this
   have : d = .int .i64 k := by simpa [AV.cells] using hd
   subst this
   exact .inl rfl
 ·obtain ⟨b,hb⟩ := isSome_iff'.1 hl
  obtain ⟨b',hb',_⟩ := pl_same h.symm hb
  rw [hb']; rfl
end Go.Ab

namespace Go.Ab
open Go.RowKit

def lbMp (f : Nat) : ICode := (.seq (.seq (.reg [⟨(some 6),none,(.mov (.t 5))⟩,⟨(some 7),none,(.mov (.t 0))⟩,⟨(some 8),none,(.len false (.t 7))⟩,⟨(some 9),none,(.bin .lss false (.t 6) (.t 8))⟩] [0,1,5,9]) (.cond (.t 9) .skip (.exit 0)))
 (.seq (.block 1 (.seq (.reg [⟨(some 12),none,(.mov (.t 0))⟩,⟨(some 13),none,(.mov (.t 5))⟩,⟨(some 14),none,(.mov (.t 1))⟩,⟨(some 15),none,(.conv (.flt .f32) (.t 14))⟩,⟨(some 16),none,(.iaddrS 4 (.t 12) (.t 13))⟩,⟨(some 17),none,(.faddr 0 (.t 16))⟩,⟨(some 18),none,(.faddr 0 (.t 17))⟩,⟨none,none,(.store 1 (.t 18) (.t 15))⟩] [0,1,5])
 (.seq (.reg [⟨(some 19),none,(.mov (.t 1))⟩,⟨(some 20),none,(.bin .add false (.t 19) (.c (.int .i64 1)))⟩,⟨(some 1),none,(.mov (.t 20))⟩] [0,1,5])
 (.seq (.reg [⟨(some 21),none,(.mov (.t 0))⟩,⟨(some 22),none,(.mov (.t 5))⟩,⟨(some 23),none,(.mov (.t 1))⟩,⟨(some 24),none,(.conv (.flt .f32) (.t 23))⟩,⟨(some 25),none,(.iaddrS 4 (.t 21) (.t 22))⟩,⟨(some 26),none,(.faddr 0 (.t 25))⟩,⟨(some 27),none,(.faddr 1 (.t 26))⟩,⟨none,none,(.store 1 (.t 27) (.t 24))⟩] [0,1,5])
 (.seq (.reg [⟨(some 28),none,(.mov (.t 1))⟩,⟨(some 29),none,(.bin .add false (.t 28) (.c (.int .i64 1)))⟩,⟨(some 1),none,(.mov (.t 29))⟩] [0,1,5])
 (.seq (.reg [⟨(some 30),none,(.mov (.t 0))⟩,⟨(some 31),none,(.mov (.t 5))⟩,⟨(some 32),none,(.mov (.t 1))⟩,⟨(some 33),none,(.conv (.flt .f32) (.t 32))⟩,⟨(some 34),none,(.iaddrS 4 (.t 30) (.t 31))⟩,⟨(some 35),none,(.faddr 0 (.t 34))⟩,⟨(some 36),none,(.faddr 2 (.t 35))⟩,⟨none,none,(.store 1 (.t 36) (.t 33))⟩] [0,1,5])
 (.seq (.reg [⟨(some 37),none,(.mov (.t 1))⟩,⟨(some 38),none,(.bin .add false (.t 37) (.c (.int .i64 1)))⟩,⟨(some 1),none,(.mov (.t 38))⟩] [0,1,5])
 (.reg [⟨(some 39),none,(.mov (.t 0))⟩,⟨(some 40),none,(.mov (.t 5))⟩,⟨(some 41),none,(.iaddrS 4 (.t 39) (.t 40))⟩,⟨(some 42),none,(.faddr 3 (.t 41))⟩,⟨(some 43),none,(.load none (.t 42))⟩,⟨(some 44),none,(.mov (.t 1))⟩,⟨(some 45),none,(.callM f [(.t 43),(.t 44)])⟩,⟨(some 1),none,(.mov (.t 45))⟩] [0,1,5]))))))))
 (.reg [⟨(some 10),none,(.mov (.t 5))⟩,⟨(some 11),none,(.bin .add false (.t 10) (.c (.int .i64 1)))⟩,⟨(some 5),none,(.mov (.t 11))⟩] [0,1,5])))
def icMp (f : Nat) : ICode := (.seq (.reg [⟨(some 4),none,(.mov (.c (.int .i64 0)))⟩] [0,1]) (.seq (.seq (.reg [⟨(some 5),none,(.mov (.c (.int .i64 0)))⟩] [0,1,5]) (.block 0 (.loop (lbMp f)))) (.seq (.reg [⟨(some 46),none,(.mov (.t 1))⟩,⟨(some 4),none,(.mov (.t 46))⟩] [4]) .ret)))

def hpMp (ps qs : List PT) (es i : Nat) : List (Nat × Option Blk) := (1000007,some ⟨4,false,posE 1000015 (qs.take i ++ ps.drop i)⟩) :: (tlB es 1000015 (ins (qs.take i ++ ps.drop i))).map (fun p => (p.1,some p.2))
theorem mix_get {α : Type} {xs ys : List α} (hl : xs.length = ys.length) {i j : Nat} : (ys.take i ++ xs.drop i)[j]? = if j < i then ys[j]? else xs[j]? := by
 by_cases hi : i ≤ ys.length
 ·have hlen : (ys.take i).length = i := by rw [List.length_take]; omega
  by_cases h : j < i
  ·rw [if_pos h,List.getElem?_append_left (by omega),List.getElem?_take,if_pos h]
  ·rw [if_neg h,List.getElem?_append_right (by omega),hlen,List.getElem?_drop,show i + (j - i) = j by omega]
 ·rw [List.take_of_length_le (by omega),List.drop_eq_nil_of_le (by omega),List.append_nil]
  split
  ·rfl
  ·rw [List.getElem?_eq_none (by omega),List.getElem?_eq_none (by omega)]
theorem ins_mix (ps qs : List PT) (i : Nat) : ins (qs.take i ++ ps.drop i) = (ins qs).take i ++ (ins ps).drop i := by
 unfold ins; rw [List.map_append,List.map_take,List.map_drop]
theorem hpMp_outer (ps qs : List PT) (es i : Nat) : lk none (hpMp ps qs es i) 1000007 = some ⟨4,false,posE 1000015 (qs.take i ++ ps.drop i)⟩ := rfl
theorem hpMp_tl (ps qs : List PT) (es i l : Nat) (hl : l ≠ 1000007) : lk none (hpMp ps qs es i) l = (tlAt 1000015 ((ins qs).take i ++ (ins ps).drop i) l).map (mkB es) := by
 unfold hpMp
 rw [lk_cons,if_neg (Ne.symm hl),lk_tl0,ins_mix]
theorem posE_set {ps qs : List PT} (hl : ps.length = qs.length) {i : Nat} {q : PT} {v : AV} (hq : qs[i]? = some q) (hv : v = posV (1000015 + 8 * i) q) : (posE 1000015 (qs.take i ++ ps.drop i)).set i v = posE 1000015 (qs.take (i + 1) ++ ps.drop (i + 1)) := by
 have hi : i < qs.length := (List.getElem?_eq_some_iff.1 hq).1
 refine List.ext_getElem? fun j => ?_
 by_cases e : i = j
 ·subst e
  rw [List.getElem?_set_self (by rw [posE_len,List.length_append,List.length_take,List.length_drop]; omega),posE_get,mix_get hl,if_pos (by omega),hq,hv]; rfl
 ·rw [List.getElem?_set_ne e,posE_get,posE_get,mix_get hl,mix_get hl]
  by_cases h : j < i
  ·rw [if_pos h,if_pos (by omega)]
  ·rw [if_neg h,if_neg (by omega)]

theorem mp_loop {tab : Tab} {f es : Nat} {ps qs : List PT} {ks : Nat → Int} (hl : ps.length = qs.length) (hn : ps.length < 2 ^ 62) (hfl : ∀ p ∈ ps,p.2.2.2.all flatE = true)
  (ht : ∀ (i : Nat) p q,ps[i]? = some p → qs[i]? = some q → q.1 = ofInt .f32 (ks i) ∧ q.2.1 = ofInt .f32 (IntKind.wrap .i64 (ks i + 1)) ∧ q.2.2.1 = ofInt .f32 (IntKind.wrap .i64 (IntKind.wrap .i64 (ks i + 1) + 1)) ∧ q.2.2.2.length = p.2.2.2.length ∧
   tab f [.sl p.2.2.2,.int .i64 (IntKind.wrap .i64 (IntKind.wrap .i64 (IntKind.wrap .i64 (ks i + 1) + 1) + 1))] = some (.int .i64 (ks (i + 1)),.wr [es] [q.2.2.2])) {K : IExit → St → Prop}
  (h0 : ∀ st,Wk st ⟨[(1,.int .i64 (ks ps.length))],hpMp ps qs es ps.length⟩ → K (.exit 0) st) :
  ∀ j i,i + j = ps.length → eA tab (.loop (lbMp f)) ⟨[(0,.lsl 1000007 0 ps.length),(1,.int .i64 (ks i)),(5,.int .i64 i)],hpMp ps qs es i⟩ K := by
 intro j
 induction j with
 | zero =>
  intro i hij
  have hi : i = ps.length := by omega
  subst hi
  refine eA_loop ?_
  have hc : decide ((ps.length : Int) < ((List.length ps : Nat) : Int)) = false := by simp
  unfold lbMp
  simp only [grpX,purgeH,Option.map,reduceIte,Nat.reduceEqDiff,Nat.reduceAdd,Nat.reduceMul,Nat.reduceLT,Nat.reduceLeDiff,implies_true,forall_const,eq_self,Int.reduceEq,Int.reduceLE,Int.reduceLT,if_true,if_false,grpE,Int.reduceToNat,Nat.reduceSub,Nat.reduceBEq,beq_true,beq_false,bits_i64,hc]
  refine h0 _ (wk_less (fun u => ?_) (fun _ => rfl))
  simp only [St.get,lk]
  by_cases h : 1 = u
  ·subst h; exact .inl rfl
  ·rw [if_neg h]; exact .inr rfl
 | succ j ih =>
  intro i hij
  refine eA_loop ?_
  have hi : i < ps.length := by omega
  have hc : decide ((i : Int) < ((List.length ps : Nat) : Int)) = true := by simp; omega
  have hx : ps[i]? = some ps[i] := by simp [hi]
  have hy : qs[i]? = some (qs[i]'(by omega)) := by simp [show i < qs.length by omega]
  obtain ⟨t1,t2,t3,hlen,htt⟩ := ht i _ _ hx hy
  have he : (posE 1000015 (qs.take i ++ ps.drop i))[i]? = some (.agg [.flt .f32 ps[i].1,.flt .f32 ps[i].2.1,.flt .f32 ps[i].2.2.1,.lsl (1000015 + 8 * i) 0 ps[i].2.2.2.length]) := by
   rw [posE_get,mix_get hl,if_neg (by omega),hx]; rfl
  have hs : ∀ v,((posE 1000015 (qs.take i ++ ps.drop i)).set i v)[i]? = some v := fun v => by
   rw [List.getElem?_set_self]; rw [posE_len,List.length_append,List.length_take,List.length_drop]; omega
  have hb : inB (i : Int) ps.length = true := by simp [inB]; omega
  have hw : IntKind.wrap .i64 ((i : Int) + 1) = ((i + 1 : Nat) : Int) := wrapS (by omega)
  have hlk : lk none (hpMp ps qs es i) (1000015 + 8 * i) = some ⟨es,true,ps[i].2.2.2⟩ := by
   rw [hpMp_tl _ _ _ _ _ (by omega),mk_at (by rw [ins_len,ins_len]; exact hl),if_neg (by omega),ins_get,hx]; rfl
  have hne : (1000007 = 1000015 + 8 * i) = False := by simp; omega
  have hf := hfl _ (List.getElem_mem hi)
  unfold lbMp
  simp only [grpX,purgeH,Option.map,reduceIte,Nat.reduceEqDiff,Nat.reduceAdd,Nat.reduceMul,Nat.reduceLT,Nat.reduceLeDiff,implies_true,forall_const,eq_self,Int.reduceEq,Int.reduceLE,Int.reduceLT,if_true,if_false,grpE,Int.reduceToNat,Nat.reduceSub,Nat.reduceBEq,beq_true,beq_false,bits_i64,hc,hb,hw,hpMp_outer,hlk,htt,he,hs,hf,hlen,hne,wAs,wA,wC,zipW,noDupN,Int.toNat_natCast,false_and,and_false]
  refine eA_wk (wk_eq (t := ⟨[(0,.lsl 1000007 0 ps.length),(1,.int .i64 (ks (i + 1))),(5,.int .i64 (i + 1 : Nat))],hpMp ps qs es (i + 1)⟩) (fun _ => rfl) (fun l => ?_)) (ih (i + 1) (by omega))
  have hli : (ins ps).length = (ins qs).length := by rw [ins_len,ins_len]; exact hl
  simp only [St.hp,lk_cons]
  by_cases h1 : 1000015 + 8 * i = l
  ·subst h1
   rw [if_pos rfl,hpMp_tl _ _ _ _ _ (by omega),mk_at hli,if_pos (by omega),ins_get,hy]; rfl
  ·rw [if_neg h1]
   by_cases h2 : 1000007 = l
   ·subst h2
    rw [if_pos rfl,hpMp_outer]
    congr 2
    refine (posE_set hl hy ?_).symm
    unfold posV
    rw [t1,t2,t3,hlen]
   ·rw [if_neg h2,if_neg h2,if_neg h2,hpMp_tl _ _ _ _ _ (Ne.symm h2),hpMp_tl _ _ _ _ _ (Ne.symm h2),mk_next hli (Ne.symm h1)]

theorem markPS {tab : Tab} {f es : Nat} {ps qs : List PT} {ks : Nat → Int} (hl : ps.length = qs.length) (hn : ps.length < 2 ^ 62) (hfl : ∀ p ∈ ps,p.2.2.2.all flatE = true)
  (ht : ∀ (i : Nat) p q,ps[i]? = some p → qs[i]? = some q → q.1 = ofInt .f32 (ks i) ∧ q.2.1 = ofInt .f32 (IntKind.wrap .i64 (ks i + 1)) ∧ q.2.2.1 = ofInt .f32 (IntKind.wrap .i64 (IntKind.wrap .i64 (ks i + 1) + 1)) ∧ q.2.2.2.length = p.2.2.2.length ∧
   tab f [.sl p.2.2.2,.int .i64 (IntKind.wrap .i64 (IntKind.wrap .i64 (IntKind.wrap .i64 (ks i + 1) + 1) + 1))] = some (.int .i64 (ks (i + 1)),.wr [es] [q.2.2.2])) :
  wpA tab (icMp f) (startW [.lsl 1000007 0 ps.length,.int .i64 (ks 0)] (plB es ps)) (RetN [.t 4] (.int .i64 (ks ps.length)) (plB es qs)) := by
 show eA _ _ _ _
 have hst : startW [.lsl 1000007 0 ps.length,.int .i64 (ks 0)] (plB es ps) = ⟨[(0,.lsl 1000007 0 ps.length),(1,.int .i64 (ks 0))],hpMp ps qs es 0⟩ := by
  simp only [startW,envOf,plB,hpMp,List.map_cons,List.take_zero,List.nil_append,List.drop_zero]
 rw [hst]
 unfold icMp
 simp only [grpX,purgeH,Option.map,reduceIte,Nat.reduceEqDiff,Nat.reduceAdd,Nat.reduceMul,Nat.reduceLT,Nat.reduceLeDiff,implies_true,forall_const,eq_self,Int.reduceEq,Int.reduceLE,Int.reduceLT,if_true,if_false,grpE,Int.reduceToNat,Nat.reduceSub,Nat.reduceBEq,beq_true,beq_false,bits_i64]
 refine mp_loop hl hn hfl ht (fun st hs => ?_) ps.length 0 (by omega)
 refine (Kb_exit 0 0).symm ▸ ?_
 rw [if_pos rfl]
 refine ⟨_,hs,?_⟩
 simp only [grpX,purgeH,Option.map,reduceIte,Nat.reduceEqDiff,Nat.reduceAdd,Nat.reduceMul,Nat.reduceLT,Nat.reduceLeDiff,implies_true,forall_const,eq_self,Int.reduceEq,Int.reduceLE,Int.reduceLT,if_true,if_false,grpE,Int.reduceToNat,Nat.reduceSub,Nat.reduceBEq,beq_true,beq_false,bits_i64]
 refine ⟨_,Wk.refl _,?_,fun l b hb => ?_⟩
 ·simp only [grpX,purgeH,Option.map,reduceIte,Nat.reduceEqDiff,Nat.reduceAdd,Nat.reduceMul,Nat.reduceLT,Nat.reduceLeDiff,implies_true,forall_const,eq_self,Int.reduceEq,Int.reduceLE,Int.reduceLT,if_true,if_false,grpE,Int.reduceToNat,Nat.reduceSub,Nat.reduceBEq,beq_true,beq_false,bits_i64]
 ·rw [← hb,HW_pl]
  show lk none _ _ = _
  have e1 : qs.take ps.length ++ ps.drop ps.length = qs := by rw [hl,List.take_length,← hl,List.drop_length,List.append_nil]
  by_cases e : 1000007 = l
  ·subst e
   rw [if_pos rfl,hpMp_outer,e1]
  ·rw [if_neg e,hpMp_tl _ _ _ _ _ (Ne.symm e),← ins_mix,e1]
end Go.Ab

namespace Go.Ab
open Go.RowKit

theorem wk_dropF {l : Nat} {s t : St} (h1 : ∀ u,t.get u = s.get u ∧ hasName l (s.get u) = false) (h2 : ∀ m,t.hp m = if m = l then none else s.hp m) (h3 : ∀ m b,m ≠ l → s.hp m = some b → b.pur = true ∨ ∀ x ∈ b.elems,noName l x = true) : Wk s t := by
 rintro cf a w ⟨ρ,h⟩
 have hle : ∀ m b,t.hp m = some b → m ≠ l ∧ s.hp m = some b := fun m b hb => by
  rw [h2] at hb
  by_cases e : m = l
  ·rw [if_pos e] at hb; cases hb
  ·rw [if_neg e] at hb; exact ⟨e,hb⟩
 have hsome : ∀ m,(t.hp m).isSome = true → (s.hp m).isSome = true := fun m hm => by
  obtain ⟨b,hb⟩ := Option.isSome_iff_exists.1 hm
  rw [(hle m b hb).2]; rfl
 have hz : ∀ k,Zf cf.Z0 cf.base ρ s.hp w k → Zf cf.Z0 cf.base ρ t.hp w k ∧ w.heap[k]? = w.heap[k]? := fun k hk => ⟨⟨hk.1,hk.2.1,fun m hm => hk.2.2 m (hsome m hm)⟩,rfl⟩
 have hr : ∀ m b,m ≠ l → s.hp m = some b → ρ m = ρ m ∧ (∃ b',t.hp m = some b' ∧ b'.es = b.es ∧ b'.elems.length = b.elems.length) ∧ ∀ B,ρ m = some B → w.shape? B = w.shape? B := fun m b hm hb => ⟨rfl,⟨b,by rw [h2,if_neg hm]; exact hb,rfl,rfl⟩,fun _ _ => rfl⟩
 refine ⟨ρ,⟨⟨fun m b B hb hB => ?_,fun m b hb hB => h.hp.nil m b (hle m b hb).2 hB,fun m m' B q1 q2 => h.hp.inj m m' B (hsome m q1) (hsome m' q2)⟩,fun u => ?_,h.size,h.defers,h.fr,fun m B hm => h.own m B (hsome m hm),h.z0,h.pin,h.shp⟩⟩
 ·obtain ⟨hm,hb'⟩ := hle m b hb
  obtain ⟨c,ct,g1,g2,g3,g4,g5⟩ := h.hp.blk m b B hb' hB
  refine ⟨c,ct,g1,g2,g3,fun i x j d v q1 q2 q3 => ?_,fun hp i x j d v q1 q2 q3 => (g5 hp i x j d v q1 q2 q3).mono fun k hk => hz k hk⟩
  rcases h3 m b hm hb' with hp | hn
  ·exact .pure ((g5 hp i x j d v q1 q2 q3).mono fun k hk => hz k hk)
  ·exact (g4 i x j d v q1 q2 q3).but hz hr (noName_cell (hn x (List.mem_of_getElem? q1)) q2)
 ·rw [(h1 u).1]
  have := (h.tmp u).butE hz hr
  rw [(h1 u).2] at this
  exact this

def lbPl (f : Nat) : ICode := (.seq (.reg [⟨(some 41),none,(.bin .lss false (.t 40) (.t 39))⟩] [1,2,4,10,39,40,41]) (.seq (.cond (.t 41) .skip (.exit 0)) (.seq (.block 1 (.seq (.reg [⟨(some 42),none,(.mov (.t 40))⟩,⟨(some 11),none,(.mov (.t 42))⟩] [1,2,4,10,11,39,40])
 (.reg [⟨(some 43),none,(.mov (.t 10))⟩,⟨(some 44),none,(.mov (.t 1))⟩,⟨(some 45),none,(.mov (.t 11))⟩,⟨(some 46),none,(.mov (.t 2))⟩,⟨(some 47),none,(.bin .mul false (.t 45) (.t 46))⟩,⟨(some 48),none,(.bin .add false (.t 44) (.t 47))⟩,⟨(some 49),none,(.faddr 0 (.t 4))⟩,⟨(some 50),none,(.load none (.t 49))⟩,⟨(some 51),none,(.bin .rem false (.t 48) (.t 50))⟩,⟨(some 52),none,(.call (.fn f) [(.t 4),(.t 51)] [4])⟩,⟨(some 53),none,(.bslice 4 1 (.agg [(.flt .f32 0),(.flt .f32 0),(.flt .f32 0),.snil]) [(0,(.t 52))])⟩,⟨(some 54),none,(.append 4 40 (.t 43) (.t 53))⟩,⟨(some 10),none,(.mov (.t 54))⟩] [1,2,4,10,39,40])))
 (.reg [⟨(some 55),none,(.bin .add false (.t 40) (.c (.int .i64 1)))⟩,⟨(some 40),none,(.mov (.t 55))⟩] [1,2,4,10,39,40]))))

def x10 (i : Nat) : AV := if i = 0 then .snil else .lsl 54 0 i
def hpPl (C : AV) (ps : List PT) (i : Nat) : List (Nat × Option Blk) := (54,if i = 0 then none else some ⟨4,false,posE 1000002 (ps.take i)⟩) :: (4,some ⟨4,false,[C]⟩) :: (tlB 4 1000002 (ins (ps.take i))).map (fun p => (p.1,some p.2))
theorem hpPl4 (C : AV) (ps : List PT) (i : Nat) : lk none (hpPl C ps i) 4 = some ⟨4,false,[C]⟩ := rfl
theorem hpPl_lo (C : AV) (ps : List PT) (i : Nat) {l : Nat} (h : l < 1000000) (h1 : ¬ 54 = l) (h2 : ¬ 4 = l) : lk none (hpPl C ps i) l = none := by
 unfold hpPl
 rw [lk_cons,if_neg h1,lk_cons,if_neg h2,lk_tlN _ _ _ (by simp; omega)]
theorem noName_posE {l c : Nat} {ps : List PT} (h : l < c) : (posE c ps).all (noName l) = true := by
 induction ps generalizing c with
 | nil => rfl
 | cons p r ih =>
  have : noName l (posV c p) = true := by
   simp [noName,posV,AV.cells,name1]; omega
  simp only [posE,List.all_cons,this,Bool.true_and]
  exact ih (by omega)

theorem hpPl_out (C : AV) (ps : List PT) (i l : Nat) (h1 : l ≠ 54) (h2 : l ≠ 4) : lk none (hpPl C ps i) l = (tlAt 1000002 (ins (ps.take i)) l).map (mkB 4) := by
 unfold hpPl
 rw [lk_cons,if_neg (Ne.symm h1),lk_cons,if_neg (Ne.symm h2),lk_tl0]
theorem hpPl_54 (C : AV) (ps : List PT) (i : Nat) : lk none (hpPl C ps i) 54 = if i = 0 then none else some ⟨4,false,posE 1000002 (ps.take i)⟩ := rfl
theorem hpPl_purge {a b : Int} {T R : List AV} {ps : List PT} {i m : Nat} (hm : m ≠ 54) : (lk none (hpPl (.agg [.int .i64 a,.int .i64 b,.sl T,.sl R]) ps i) m).map (purgeB 54) = lk none (hpPl (.agg [.int .i64 a,.int .i64 b,.sl T,.sl R]) ps i) m := by
 by_cases h4 : m = 4
 ·subst h4; rfl
 ·rw [hpPl_out _ _ _ _ hm h4]
  cases tlAt 1000002 (ins (ps.take i)) m <;> rfl
def stPl (C : AV) (a b : Int) (n : Nat) (ps : List PT) (i : Nat) : St := ⟨[(1,.int .i64 a),(2,.int .i64 b),(4,.lptr 4 0 0),(10,x10 i),(39,.int .i64 n),(40,.int .i64 i)],hpPl C ps i⟩
theorem pl_next {L kd a b : Int} {T R : List AV} {n : Nat} {ps : List PT} {i : Nat} {p : PT} (hp : ps[i]? = some p) :
  Wk ⟨[(1,.int .i64 a),(2,.int .i64 b),(4,.lptr 4 0 0),(10,.lsl 54 0 (i + 1)),(39,.int .i64 n),(40,.int .i64 (i + 1 : Nat))],(54,some ⟨4,false,posE 1000002 (ps.take i) ++ [posV 3052 p]⟩) :: (53,some ⟨4,false,[posV 3052 p]⟩) :: (3052,some ⟨4,true,p.2.2.2⟩) :: hpPl (.agg [.int .i64 L,.int .i64 kd,.sl T,.sl R]) ps i⟩
   (stPl (.agg [.int .i64 L,.int .i64 kd,.sl T,.sl R]) a b n ps (i + 1)) := by
 generalize hC : (AV.agg [.int .i64 L,.int .i64 kd,.sl T,.sl R]) = C
 have hCn : noName 53 C = true := by subst hC; rfl
 have hCr : ∀ y,renB 3052 y ⟨4,false,[C]⟩ = ⟨4,false,[C]⟩ := by subst hC; intro y; rfl
 have hi : i < ps.length := (List.getElem?_eq_some_iff.1 hp).1
 have hlt : (ps.take i).length = i := by rw [List.length_take]; omega
 refine Wk.trans' (wk_dropF (l := 53) (t := ⟨[(1,.int .i64 a),(2,.int .i64 b),(4,.lptr 4 0 0),(10,.lsl 54 0 (i + 1)),(39,.int .i64 n),(40,.int .i64 (i + 1 : Nat))],(54,some ⟨4,false,posE 1000002 (ps.take i) ++ [posV 3052 p]⟩) :: (3052,some ⟨4,true,p.2.2.2⟩) :: hpPl C ps i⟩) (fun u => ⟨rfl,?_⟩) (fun m => ?_) (fun m bl hm hb => ?_))
  (wk_renF (a := 3052) (b := 1000002 + 8 * i) (by simp [unp]; omega) (fun u => ?_) (fun l => ?_))
 ·simp only [St.get,lk]
  (repeat' split) <;> rfl
 ·simp only [St.hp,lk_cons]
  by_cases e : m = 53
  ·subst e
   rw [if_pos rfl,if_neg (by omega),if_neg (by omega),hpPl_lo _ _ _ (by omega) (by omega) (by omega)]
  ·rw [if_neg e,if_neg (Ne.symm e)]
 ·simp only [St.hp,lk_cons] at hb
  by_cases e1 : 54 = m
  ·rw [if_pos e1] at hb; cases hb
   refine .inr fun x hx => ?_
   rcases List.mem_append.1 hx with hx | hx
   ·exact List.all_eq_true.1 (noName_posE (ps := ps.take i) (l := 53) (c := 1000002) (by omega)) x hx
   ·rw [List.mem_singleton.1 hx]; rfl
  ·rw [if_neg e1,if_neg (Ne.symm hm)] at hb
   by_cases e2 : 3052 = m
   ·rw [if_pos e2] at hb; cases hb; exact .inl rfl
   ·rw [if_neg e2] at hb
    by_cases e3 : m = 4
    ·subst e3
     cases hb
     exact .inr fun x hx => by rw [List.mem_singleton.1 hx]; exact hCn
    ·rw [hpPl_out _ _ _ _ (Ne.symm e1) e3] at hb
     cases ht : tlAt 1000002 (ins (ps.take i)) m with
     | none => rw [ht] at hb; cases hb
     | some y => rw [ht] at hb; cases hb; exact .inl rfl
 ·simp only [stPl,St.get,lk]
  have ex : x10 (i + 1) = .lsl 54 0 (i + 1) := if_neg (by omega)
  rw [ex]
  have es : swN 3052 (1000002 + 8 * i) 54 = 54 := by unfold swN; rw [if_neg (by omega),if_neg (by omega)]
  have es4 : swN 3052 (1000002 + 8 * i) 4 = 4 := by unfold swN; rw [if_neg (by omega),if_neg (by omega)]
  (repeat' split) <;> first | rfl | (simp only [renV,ren1,es,es4])
 ·show lk none (hpPl C ps (i + 1)) l = (lk none _ (swN 3052 (1000002 + 8 * i) l)).map _
  by_cases h54 : l = 54
  ·subst h54
   have e1 : swN 3052 (1000002 + 8 * i) 54 = 54 := by unfold swN; rw [if_neg (by omega),if_neg (by omega)]
   rw [e1,hpPl_54,if_neg (by omega),lk_cons,if_pos rfl]
   simp only [Option.map,renB,Bool.false_eq_true,if_false]
   congr 2
   have ht : ps.take (i + 1) = ps.take i ++ [p] := by rw [List.take_succ,hp]; rfl
   rw [ht,posE_append,hlt,List.map_append,renV_posE (fun j hj => by rw [hlt] at hj; omega)]
   congr 1
  ·by_cases h4 : l = 4
   ·subst h4
    have e1 : swN 3052 (1000002 + 8 * i) 4 = 4 := by unfold swN; rw [if_neg (by omega),if_neg (by omega)]
    rw [e1,hpPl4,lk_cons,if_neg (by omega),lk_cons,if_neg (by omega),hpPl4]
    simp only [Option.map,hCr]
   ·rw [hpPl_out _ _ _ _ h54 h4,ins_take]
    by_cases hb : l = 1000002 + 8 * i
    ·subst hb
     have e1 : swN 3052 (1000002 + 8 * i) (1000002 + 8 * i) = 3052 := by unfold swN; rw [if_neg (by omega),if_pos rfl]
     rw [e1,tlAt_takeI.1,ins_get,hp,lk_cons,if_neg (by omega),lk_cons,if_pos rfl]
     rfl
    ·by_cases h3 : l = 3052
     ·subst h3
      have e1 : swN 3052 (1000002 + 8 * i) 3052 = 1000002 + 8 * i := by unfold swN; rw [if_pos rfl]
      rw [e1,tlAt_lt _ _ rfl,lk_cons,if_neg (by omega),lk_cons,if_neg (by omega),hpPl_out _ _ _ _ (by omega) (by omega),ins_take,tlAt_takeI.2]
      rfl
     ·have e1 : swN 3052 (1000002 + 8 * i) l = l := by unfold swN; rw [if_neg h3,if_neg hb]
      rw [e1,lk_cons,if_neg (Ne.symm h54),lk_cons,if_neg (Ne.symm h3),hpPl_out _ _ _ _ h54 h4,ins_take,tlAt_take l hb]
      cases tlAt 1000002 ((ins ps).take i) l <;> rfl
theorem pl_loop {tab : Tab} {f : Nat} {a b L kd : Int} {T R : List AV} {ps : List PT} (hn : ps.length ≤ 2 ^ 30) (hL : L ≠ 0)
  (ht : ∀ (i : Nat) p,ps[i]? = some p → tab f [.ptr (.agg [.int .i64 L,.int .i64 kd,.sl T,.sl R]) 0,.int .i64 (Int.tmod (IntKind.wrap .i64 (a + IntKind.wrap .i64 ((i : Int) * b))) L)] = some (posP p,.own [4])) {K : IExit → St → Prop}
  (h0 : ∀ st,Wk st ⟨[(10,x10 ps.length)],hpPl (.agg [.int .i64 L,.int .i64 kd,.sl T,.sl R]) ps ps.length⟩ → K (.exit 0) st) :
  ∀ j i,i + j = ps.length → eA tab (.loop (lbPl f)) ⟨[(1,.int .i64 a),(2,.int .i64 b),(4,.lptr 4 0 0),(10,x10 i),(39,.int .i64 ps.length),(40,.int .i64 i)],hpPl (.agg [.int .i64 L,.int .i64 kd,.sl T,.sl R]) ps i⟩ K := by
 intro j
 induction j with
 | zero =>
  intro i hij
  have hi : i = ps.length := by omega
  subst hi
  refine eA_loop ?_
  have hc : decide ((ps.length : Int) < ((List.length ps : Nat) : Int)) = false := by simp
  unfold lbPl
  simp only [grpX,Option.map,reduceIte,Nat.reduceEqDiff,Nat.reduceAdd,Nat.reduceMul,Nat.reduceLT,Nat.reduceLeDiff,implies_true,forall_const,eq_self,Int.reduceEq,Int.reduceLE,Int.reduceLT,if_true,if_false,grpE,Int.reduceToNat,Nat.reduceSub,Nat.reduceBEq,beq_true,beq_false,bits_i64,hc]
  refine h0 _ (wk_less (fun u => ?_) (fun _ => rfl))
  simp only [St.get,lk]
  by_cases h : 10 = u
  ·subst h; exact .inl rfl
  ·rw [if_neg h]; exact .inr rfl
 | succ j ih =>
  intro i hij
  refine eA_loop ?_
  have hi : i < ps.length := by omega
  have hc : decide ((i : Int) < ((List.length ps : Nat) : Int)) = true := by simp; omega
  have hx : ps[i]? = some ps[i] := by simp [hi]
  have hw : IntKind.wrap .i64 ((i : Int) + 1) = ((i + 1 : Nat) : Int) := wrapS (by omega)
  have htt := ht i _ hx
  unfold posP at htt
  have hb1 : (i : Int) + 1 = ((i + 1 : Nat) : Int) := by omega
  by_cases hz : i = 0
  ·have e0 : x10 i = .snil := if_pos hz
   have e54 : lk none (hpPl (.agg [.int .i64 L,.int .i64 kd,.sl T,.sl R]) ps i) 54 = none := by
    unfold hpPl; rw [lk_cons,if_pos rfl,if_pos hz]
   unfold lbPl
   simp only [grpX,Option.map,reduceIte,Nat.reduceEqDiff,Nat.reduceAdd,Nat.reduceMul,Nat.reduceLT,Nat.reduceLeDiff,implies_true,forall_const,eq_self,Int.reduceEq,Int.reduceLE,Int.reduceLT,if_true,if_false,grpE,Int.reduceToNat,Nat.reduceSub,Nat.reduceBEq,beq_true,beq_false,bits_i64,hc,hw,htt,hL,e0,e54,hpPl4,hpPl_lo,fillH,appH,noName,List.replicate,Int.toNat_natCast,false_and,and_false,ne_eq,reduceCtorEq]
   refine ⟨fun _ => ?_,fun h => h ⟨by decide,by decide⟩⟩
   refine eA_wk (Wk.trans' (wk_eq (fun u => ?_) (fun l => ?_)) (pl_next (L := L) (kd := kd) (a := a) (b := b) (T := T) (R := R) (n := ps.length) hx)) (ih (i + 1) (by omega))
   ·subst hz; rfl
   ·subst hz; rfl
  ·have e0 : x10 i = .lsl 54 0 i := if_neg hz
   have e54 : lk none (hpPl (.agg [.int .i64 L,.int .i64 kd,.sl T,.sl R]) ps i) 54 = some ⟨4,false,posE 1000002 (ps.take i)⟩ := by
    unfold hpPl; rw [lk_cons,if_pos rfl,if_neg hz]
   have hlen : (posE 1000002 (ps.take i)).length = i := by rw [posE_len,List.length_take]; omega
   have hnn : (posE 1000002 (ps.take i)).all (noName 54) = true := noName_posE (by omega)
   have hne : (posE 1000002 (ps.take i) = []) = False := by
    refine eq_false fun e => hz ?_
    rw [e] at hlen; exact hlen.symm
   have hb2 : ((i + 1) * 40 ≤ 2 ^ 44) = True := eq_true (by omega)
   have hb3 : (i + 1 ≤ 2 ^ 44) = True := eq_true (by omega)
   unfold lbPl
   simp only [grpX,Option.map,reduceIte,Nat.reduceEqDiff,Nat.reduceAdd,Nat.reduceMul,Nat.reduceLT,Nat.reduceLeDiff,implies_true,forall_const,eq_self,Int.reduceEq,Int.reduceLE,Int.reduceLT,if_true,if_false,grpE,Int.reduceToNat,Nat.reduceSub,Nat.reduceBEq,beq_true,beq_false,bits_i64,hc,hw,htt,hL,e0,e54,hlen,hnn,hne,hb2,hb3,hpPl4,hpPl_lo,fillH,appH,noName,List.replicate,Int.toNat_natCast,false_and,and_false,ne_eq,reduceCtorEq]
   have key := pl_next (L := L) (kd := kd) (a := a) (b := b) (T := T) (R := R) (n := ps.length) hx
   refine eA_wk (Wk.trans' (wk_eq (fun u => ?_) (fun l => ?_)) key) (ih (i + 1) (by omega))
   ·rfl
   simp only [St.hp,lk_cons,hp_purge]
   by_cases e : 54 = l
   ·rw [if_pos e,if_pos e]; rfl
   ·rw [if_neg e,if_neg e]
    by_cases e2 : 53 = l
    ·rw [if_pos e2,if_pos e2]; rfl
    ·rw [if_neg e2,if_neg e2]
     by_cases e3 : 3052 = l
     ·rw [if_pos e3]; rfl
     ·rw [if_neg e3,hpPl_purge (Ne.symm e)]
end Go.Ab

namespace Go.Ab
open Go.RowKit

def icPl (v f : Nat) : ICode := (.seq (.reg [⟨(some 4),none,(.box 4 (.t 0))⟩,⟨(some 8),none,(.mov (.c .snil))⟩,⟨(some 9),none,(.mov (.c (.bool false)))⟩] [1,2,3,4]) (.seq (.seq (.reg [⟨(some 12),none,(.load (some 4) (.t 4))⟩,⟨(some 13),none,(.call (.fn v) [(.t 12)] [])⟩,⟨(some 14),none,(.un .not (.t 13))⟩,⟨(some 15),none,(.mov (.t 14))⟩,⟨(some 16),(some (15,false)),(.mov (.t 1))⟩,⟨(some 17),(some (15,false)),(.bin .lss false (.t 16) (.c (.int .i64 0)))⟩,⟨(some 18),none,(.pick (.t 15) (.c (.bool true)) (.t 17))⟩,⟨(some 19),none,(.mov (.t 18))⟩,
 ⟨(some 20),(some (19,false)),(.mov (.t 1))⟩,⟨(some 21),(some (19,false)),(.bin .gtr false (.t 20) (.c (.int .i64 1000)))⟩,⟨(some 22),none,(.pick (.t 19) (.c (.bool true)) (.t 21))⟩,⟨(some 23),none,(.mov (.t 22))⟩,⟨(some 24),(some (23,false)),(.mov (.t 2))⟩,⟨(some 25),(some (23,false)),(.bin .lss false (.t 24) (.c (.int .i64 0)))⟩,⟨(some 26),none,(.pick (.t 23) (.c (.bool true)) (.t 25))⟩,⟨(some 27),none,(.mov (.t 26))⟩,
 ⟨(some 28),(some (27,false)),(.mov (.t 2))⟩,⟨(some 29),(some (27,false)),(.bin .gtr false (.t 28) (.c (.int .i64 1000)))⟩,⟨(some 30),none,(.pick (.t 27) (.c (.bool true)) (.t 29))⟩,⟨(some 31),none,(.mov (.t 30))⟩,⟨(some 32),(some (31,false)),(.mov (.t 3))⟩,⟨(some 33),(some (31,false)),(.bin .lss false (.t 32) (.c (.int .i64 0)))⟩,⟨(some 34),none,(.pick (.t 31) (.c (.bool true)) (.t 33))⟩,⟨(some 35),none,(.mov (.t 34))⟩,
 ⟨(some 36),(some (35,false)),(.mov (.t 3))⟩,⟨(some 37),(some (35,false)),(.bin .gtr false (.t 36) (.c (.int .i64 64)))⟩,⟨(some 38),none,(.pick (.t 35) (.c (.bool true)) (.t 37))⟩] [1,2,3,4,38]) (.cond (.t 38) (.seq (.reg [⟨(some 8),none,(.mov (.c .snil))⟩,⟨(some 9),none,(.mov (.c (.bool false)))⟩] [8,9]) .ret) .skip))
 (.seq (.reg [⟨(some 10),none,(.mov (.c .snil))⟩] [1,2,3,4,10]) (.seq (.seq (.reg [⟨(some 39),none,(.mov (.t 3))⟩,⟨(some 40),none,(.mov (.c (.int .i64 0)))⟩] [1,2,4,10,39,40]) (.block 0 (.loop (lbPl f)))) (.seq (.reg [⟨(some 56),none,(.mov (.t 10))⟩,⟨(some 8),none,(.mov (.t 56))⟩,⟨(some 9),none,(.mov (.c (.bool true)))⟩] [8,9]) .ret)))))

theorem endNil {h : List (Nat × Option Blk)} {v : Bool} (h54 : lk none h 54 = none) :
  ∃ st' g,Wk ⟨[(8,.snil),(9,.bool v)],h⟩ st' ∧ EndO st' [.t 8,.t 9] (.tup [.sl [],.bool v]) (.tup [.lsl 1000007 0 0,.bool v]) (plB 4 []) g := by
 have w1 : Wk ⟨[(8,.snil),(9,.bool v)],h⟩ (nilS 8 none 54 4 ⟨[(8,.snil),(9,.bool v)],h⟩) := wk_nil (by simp only [St.hp,h54]; rfl)
 have e1 : nilS 8 none 54 4 ⟨[(8,.snil),(9,.bool v)],h⟩ = ⟨[(8,.lsl 54 0 0),(8,.snil),(9,.bool v)],(54,some ⟨4,true,[]⟩) :: h⟩ := rfl
 rw [e1] at w1
 have w2 := wk_open (l := 54) (b := ⟨4,true,[]⟩) (s := ⟨[(8,.lsl 54 0 0),(8,.snil),(9,.bool v)],(54,some ⟨4,true,[]⟩) :: h⟩) rfl
 refine ⟨_,fun _ => 54,Wk.trans' w1 w2,?_,?_,fun l b hb => ?_,fun l l' h1 h2 _ => ?_,?_⟩
 ·rfl
 ·rfl
 ·rw [HW_pl] at hb
  by_cases e : 1000007 = l
  ·rw [if_pos e] at hb; cases hb
   exact ⟨⟨4,false,[]⟩,rfl,rfl,rfl,rfl,fun i x x0 q => by simp [posE] at q⟩
  ·rw [if_neg e] at hb
   simp [tlAt,ins] at hb
 ·have key : ∀ l,(HW (plB 4 []) l).isSome = true → l = 1000007 := by
   intro l hl
   rw [HW_pl] at hl
   by_cases e : 1000007 = l
   ·exact e.symm
   ·rw [if_neg e] at hl
    simp [tlAt,ins] at hl
  rw [key l h1,key l' h2]
 ·refine .inr ⟨_,fun rv hrv => (by cases hrv),rfl,rfl,fun i rv d q1 q2 => ?_⟩
  match i with
  | 0 => cases q1; cases q2; exact ⟨_,rfl,.inr (.inr ⟨_,_,_,rfl,rfl,rfl⟩)⟩
  | 1 => cases q1; cases q2; exact ⟨_,rfl,.inr (.inl ⟨rfl,rfl⟩)⟩
  | i + 2 => cases q1

theorem endPl {C : AV} {ps : List PT} {v : Bool} (hne : ps.length ≠ 0) (hfl : ∀ p ∈ ps,p.2.2.2.all flatE = true) :
  EndO ⟨[(8,.lsl 54 0 ps.length),(9,.bool v)],hpPl C ps ps.length⟩ [.t 8,.t 9] (.tup [.sl (ps.map posP),.bool v]) (.tup [.lsl 1000007 0 ps.length,.bool v]) (plB 4 ps) (fun l => if l = 1000007 then 54 else l - 13) := by
 have h54 : lk none (hpPl C ps ps.length) 54 = some ⟨4,false,posE 1000002 ps⟩ := by
  rw [hpPl_54,if_neg hne,List.take_length]
 have htl : ∀ l,l ≠ 54 → l ≠ 4 → lk none (hpPl C ps ps.length) l = (tlAt 1000002 (ins ps) l).map (mkB 4) := fun l h1 h2 => by
  rw [hpPl_out _ _ _ _ h1 h2,List.take_length]
 have hp1 : ∀ env,pureEs (St.hp ⟨env,hpPl C ps ps.length⟩) (posE 1000002 ps) = some (ps.map posP) := fun env => pureEs_pos fun i y hy => by
  show lk none _ _ = _
  rw [htl _ (by omega) (by omega),tlAt_hit,hy]; rfl
 have hp2 : pureEs (HW (plB 4 ps)) (posE 1000015 ps) = some (ps.map posP) := pureEs_pos fun i y hy => by
  rw [HW_pl,if_neg (by omega),tlAt_hit,hy]; rfl
 refine ⟨?_,?_,?_,?_,?_⟩
 ·simp only [grpX,Option.map,reduceIte,Nat.reduceEqDiff,Nat.reduceAdd,Nat.reduceMul,Nat.reduceLT,Nat.reduceLeDiff,implies_true,forall_const,eq_self,Int.reduceEq,Int.reduceLE,Int.reduceLT,if_true,if_false,grpE,Int.reduceToNat,Nat.reduceSub,Nat.reduceBEq,beq_true,beq_false,bits_i64,hp1,h54,posE_len,rvs,rvV,outM,outV,endOk,false_and,and_false]
 ·simp only [grpX,Option.map,reduceIte,Nat.reduceEqDiff,Nat.reduceAdd,Nat.reduceMul,Nat.reduceLT,Nat.reduceLeDiff,implies_true,forall_const,eq_self,Int.reduceEq,Int.reduceLE,Int.reduceLT,if_true,if_false,grpE,Int.reduceToNat,Nat.reduceSub,Nat.reduceBEq,beq_true,beq_false,bits_i64,pureT,HW_pl,hp2,posE_len,false_and,and_false]
 ·intro l b hb
  rw [HW_pl] at hb
  by_cases e : 1000007 = l
  ·subst e
   rw [if_pos rfl] at hb; cases hb
   rw [if_pos rfl]
   refine ⟨_,h54,rfl,rfl,by rw [posE_len,posE_len],fun i x x0 q1 q2 => ?_⟩
   rw [posE_get] at q1 q2
   cases hy : ps[i]? with
   | none => rw [hy] at q1; cases q1
   | some y =>
    rw [hy] at q1 q2; cases q1; cases q2
    refine ⟨rfl,fun j d d0 q1 q2 => ?_⟩
    match j with
    | 0 => cases q1; cases q2; exact .inl ⟨rfl,rfl⟩
    | 1 => cases q1; cases q2; exact .inl ⟨rfl,rfl⟩
    | 2 => cases q1; cases q2; exact .inl ⟨rfl,rfl⟩
    | 3 =>
     cases q1; cases q2
     refine .inr ⟨_,_,_,rfl,?_,?_⟩
     ·show AV.lsl (1000002 + 8 * i) 0 _ = AV.lsl (if 1000015 + 8 * i = 1000007 then 54 else 1000015 + 8 * i - 13) 0 _
      rw [if_neg (by omega),show 1000015 + 8 * i - 13 = 1000002 + 8 * i by omega]
     ·rw [HW_pl,if_neg (by omega),tlAt_hit,ins_get,hy]; rfl
    | j + 4 => cases q1
  ·rw [if_neg e] at hb
   cases ht : tlAt 1000015 (ins ps) l with
   | none => rw [ht] at hb; cases hb
   | some y =>
    rw [ht] at hb; cases hb
    obtain ⟨i,rfl,hy,_⟩ := tlAt_some ht
    rw [if_neg (by omega),show 1000015 + 8 * i - 13 = 1000002 + 8 * i by omega]
    refine ⟨mkB 4 y,?_,rfl,rfl,rfl,fun k x x0 q1 q2 => ?_⟩
    ·show lk none _ _ = _
     rw [htl _ (by omega) (by omega),tlAt_hit,hy]; rfl
    ·rw [q1] at q2; cases q2
     refine ⟨rfl,fun j d d0 q3 q4 => ?_⟩
     rw [q3] at q4; cases q4
     rw [ins_get] at hy
     cases hp : ps[i]? with
     | none => rw [hp] at hy; cases hy
     | some p =>
      rw [hp] at hy; cases hy
      exact .inl ⟨flatE_cell (List.all_eq_true.1 (hfl p (List.mem_of_getElem? hp)) x (List.mem_of_getElem? q1)) q3,rfl⟩
 ·intro l l' h1 h2 h3
  have hi : ∀ l,(HW (plB 4 ps) l).isSome = true → l = 1000007 ∨ ∃ i,l = 1000015 + 8 * i := by
   intro l h
   rw [HW_pl] at h
   by_cases e : 1000007 = l
   ·exact .inl e.symm
   ·rw [if_neg e] at h
    cases ht : tlAt 1000015 (ins ps) l with
    | none => rw [ht] at h; cases h
    | some y => obtain ⟨i,q,_⟩ := tlAt_some ht; exact .inr ⟨i,q⟩
  have h3 : (if l = 1000007 then 54 else l - 13) = (if l' = 1000007 then 54 else l' - 13) := h3
  rcases hi l h1 with rfl | ⟨i,rfl⟩ <;> rcases hi l' h2 with rfl | ⟨i',rfl⟩
  ·rfl
  ·rw [if_pos rfl,if_neg (by omega)] at h3; omega
  ·rw [if_pos rfl,if_neg (by omega)] at h3; omega
  ·rw [if_neg (by omega),if_neg (by omega)] at h3; omega
 ·refine .inr ⟨_,fun rv hrv => (by cases hrv),rfl,rfl,fun i rv d q1 q2 => ?_⟩
  match i with
  | 0 => cases q1; cases q2; exact ⟨_,rfl,.inr (.inr ⟨_,_,_,rfl,rfl,by rw [HW_pl]; rfl⟩)⟩
  | 1 => cases q1; cases q2; exact ⟨_,rfl,.inr (.inl ⟨rfl,rfl⟩)⟩
  | i + 2 => cases q1

theorem plC_ok {tab : Tab} {v f : Nat} {a b L kd : Int} {T R : List AV} {ps : List PT} (hL : L ≠ 0) (hfl : ∀ p ∈ ps,p.2.2.2.all flatE = true)
  (hv : tab v [.agg [.int .i64 L,.int .i64 kd,.sl T,.sl R]] = some (.bool true,.any)) (h1 : decide (a < 0) = false) (h2 : decide (1000 < a) = false) (h3 : decide (b < 0) = false) (h4 : decide (1000 < b) = false) (h5 : decide ((ps.length : Int) < 0) = false) (h6 : decide (64 < (ps.length : Int)) = false)
  (ht : ∀ (i : Nat) p,ps[i]? = some p → tab f [.ptr (.agg [.int .i64 L,.int .i64 kd,.sl T,.sl R]) 0,.int .i64 (Int.tmod (IntKind.wrap .i64 (a + IntKind.wrap .i64 ((i : Int) * b))) L)] = some (posP p,.own [4])) :
  wpA tab (icPl v f) (startSt [.agg [.int .i64 L,.int .i64 kd,.sl T,.sl R],.int .i64 a,.int .i64 b,.int .i64 ps.length]) (RetO [.t 8,.t 9] (.tup [.sl (ps.map posP),.bool true]) (.tup [.lsl 1000007 0 ps.length,.bool true]) (plB 4 ps)) := by
 show eA _ _ _ _
 unfold icPl
 have hn : ps.length ≤ 64 := by simp at h6; omega
 simp only [grpX,Option.map,reduceIte,Nat.reduceEqDiff,Nat.reduceAdd,Nat.reduceMul,Nat.reduceLT,Nat.reduceLeDiff,implies_true,forall_const,eq_self,Int.reduceEq,Int.reduceLE,Int.reduceLT,if_true,if_false,grpE,Int.reduceToNat,Nat.reduceSub,Nat.reduceBEq,beq_true,beq_false,bits_i64,hv,h1,h2,h3,h4,h5,h6,b_pick,ePk_true,ePk_false]
 refine eA_wk (wk_eq (t := ⟨[(1,.int .i64 a),(2,.int .i64 b),(4,.lptr 4 0 0),(10,x10 0),(39,.int .i64 ps.length),(40,.int .i64 (0 : Nat))],hpPl (.agg [.int .i64 L,.int .i64 kd,.sl T,.sl R]) ps 0⟩) (fun u => rfl) (fun l => ?_)) (pl_loop (by omega) hL ht (fun st hst => ?_) ps.length 0 (by omega))
 ·show lk none (hpPl _ ps 0) l = lk none _ l
  simp only [hpPl,List.take_zero,ins,List.map_nil,tlB,lk]
  by_cases e : 54 = l
  ·subst e; rfl
  ·rw [if_neg e]
 ·refine (Kb_exit 0 0).symm ▸ ?_
  rw [if_pos rfl]
  refine ⟨_,hst,?_⟩
  simp only [grpX,Option.map,reduceIte,Nat.reduceEqDiff,Nat.reduceAdd,Nat.reduceMul,Nat.reduceLT,Nat.reduceLeDiff,implies_true,forall_const,eq_self,Int.reduceEq,Int.reduceLE,Int.reduceLT,if_true,if_false,grpE,Int.reduceToNat,Nat.reduceSub,Nat.reduceBEq,beq_true,beq_false,bits_i64]
  by_cases hz : ps.length = 0
  ·have hnil : ps = [] := List.eq_nil_of_length_eq_zero hz
   subst hnil
   obtain ⟨st',g,w,e⟩ := endNil (h := hpPl (.agg [.int .i64 L,.int .i64 kd,.sl T,.sl R]) [] 0) (v := true) rfl
   exact ⟨st',g,w,e⟩
  ·have ex : x10 ps.length = .lsl 54 0 ps.length := if_neg hz
   rw [ex]
   exact ⟨_,_,Wk.refl _,endPl hz hfl⟩
theorem plC_bad {tab : Tab} {v f : Nat} {vb : Bool} {a b n L kd : Int} {T R : List AV} (hv : tab v [.agg [.int .i64 L,.int .i64 kd,.sl T,.sl R]] = some (.bool vb,.any))
  (hb : (!vb || (decide (a < 0) || (decide (1000 < a) || (decide (b < 0) || (decide (1000 < b) || (decide (n < 0) || decide (64 < n))))))) = true) :
  wpA tab (icPl v f) (startSt [.agg [.int .i64 L,.int .i64 kd,.sl T,.sl R],.int .i64 a,.int .i64 b,.int .i64 n]) (RetO [.t 8,.t 9] (.tup [.sl [],.bool false]) (.tup [.lsl 1000007 0 0,.bool false]) (plB 4 [])) := by
 show eA _ _ _ _
 unfold icPl
 have fin : ∀ h,lk none h 54 = none → RetO [.t 8,.t 9] (.tup [.sl [],.bool false]) (.tup [.lsl 1000007 0 0,.bool false]) (plB 4 []) .ret ⟨[(8,.snil),(9,.bool false)],h⟩ := fun h h54 => endNil h54
 cases vb with
 | false => simp only [grpX,Option.map,reduceIte,Nat.reduceEqDiff,Nat.reduceAdd,Nat.reduceMul,Nat.reduceLT,Nat.reduceLeDiff,implies_true,forall_const,eq_self,Int.reduceEq,Int.reduceLE,Int.reduceLT,if_true,if_false,grpE,Int.reduceToNat,Nat.reduceSub,Nat.reduceBEq,beq_true,beq_false,bits_i64,hv,b_pick,ePk_true,ePk_false]; exact fin _ rfl
 | true =>
  cases h1 : decide (a < 0) with
  | true => simp only [grpX,Option.map,reduceIte,Nat.reduceEqDiff,Nat.reduceAdd,Nat.reduceMul,Nat.reduceLT,Nat.reduceLeDiff,implies_true,forall_const,eq_self,Int.reduceEq,Int.reduceLE,Int.reduceLT,if_true,if_false,grpE,Int.reduceToNat,Nat.reduceSub,Nat.reduceBEq,beq_true,beq_false,bits_i64,hv,h1,b_pick,ePk_true,ePk_false]; exact fin _ rfl
  | false =>
   cases h2 : decide (1000 < a) with
   | true => simp only [grpX,Option.map,reduceIte,Nat.reduceEqDiff,Nat.reduceAdd,Nat.reduceMul,Nat.reduceLT,Nat.reduceLeDiff,implies_true,forall_const,eq_self,Int.reduceEq,Int.reduceLE,Int.reduceLT,if_true,if_false,grpE,Int.reduceToNat,Nat.reduceSub,Nat.reduceBEq,beq_true,beq_false,bits_i64,hv,h1,h2,b_pick,ePk_true,ePk_false]; exact fin _ rfl
   | false =>
    cases h3 : decide (b < 0) with
    | true => simp only [grpX,Option.map,reduceIte,Nat.reduceEqDiff,Nat.reduceAdd,Nat.reduceMul,Nat.reduceLT,Nat.reduceLeDiff,implies_true,forall_const,eq_self,Int.reduceEq,Int.reduceLE,Int.reduceLT,if_true,if_false,grpE,Int.reduceToNat,Nat.reduceSub,Nat.reduceBEq,beq_true,beq_false,bits_i64,hv,h1,h2,h3,b_pick,ePk_true,ePk_false]; exact fin _ rfl
    | false =>
     cases h4 : decide (1000 < b) with
     | true => simp only [grpX,Option.map,reduceIte,Nat.reduceEqDiff,Nat.reduceAdd,Nat.reduceMul,Nat.reduceLT,Nat.reduceLeDiff,implies_true,forall_const,eq_self,Int.reduceEq,Int.reduceLE,Int.reduceLT,if_true,if_false,grpE,Int.reduceToNat,Nat.reduceSub,Nat.reduceBEq,beq_true,beq_false,bits_i64,hv,h1,h2,h3,h4,b_pick,ePk_true,ePk_false]; exact fin _ rfl
     | false =>
      cases h5 : decide (n < 0) with
      | true => simp only [grpX,Option.map,reduceIte,Nat.reduceEqDiff,Nat.reduceAdd,Nat.reduceMul,Nat.reduceLT,Nat.reduceLeDiff,implies_true,forall_const,eq_self,Int.reduceEq,Int.reduceLE,Int.reduceLT,if_true,if_false,grpE,Int.reduceToNat,Nat.reduceSub,Nat.reduceBEq,beq_true,beq_false,bits_i64,hv,h1,h2,h3,h4,h5,b_pick,ePk_true,ePk_false]; exact fin _ rfl
      | false =>
       cases h6 : decide (64 < n) with
       | true => simp only [grpX,Option.map,reduceIte,Nat.reduceEqDiff,Nat.reduceAdd,Nat.reduceMul,Nat.reduceLT,Nat.reduceLeDiff,implies_true,forall_const,eq_self,Int.reduceEq,Int.reduceLE,Int.reduceLT,if_true,if_false,grpE,Int.reduceToNat,Nat.reduceSub,Nat.reduceBEq,beq_true,beq_false,bits_i64,hv,h1,h2,h3,h4,h5,h6,b_pick,ePk_true,ePk_false]; exact fin _ rfl
       | false => rw [h1,h2,h3,h4,h5,h6] at hb; cases hb
end Go.Ab

namespace Go.Ab
open Go.RowKit

section
variable {es e2 : Nat} {xss : List (List AV)} {rs : List AV} {ps : List PT} {h : List (Nat × Option Blk)} {env : List (Nat × AV)}
theorem lk_pl (l : Nat) : lk none ((plB 4 ps).map (fun p => (p.1,some p.2)) ++ h) l = match HW (plB 4 ps) l with
  | some b => some b
  | none => lk none h l := by
 rcases lk_HW (plB 4 ps) h l with ⟨b,h1,h2⟩ | ⟨h1,h2⟩
 ·rw [h2,h1]
 ·rw [h2,h1]
theorem HW_pl_none {l : Nat} (hl : l < 1000000 ∨ l % 8 ≠ 7) : HW (plB 4 ps) l = none := by
 cases hb : HW (plB 4 ps) l with
 | none => rfl
 | some b =>
  have := pl_names _ (HW_mem hb)
  simp only at this
  omega
theorem HW_clL_none {l : Nat} (hl : l < 1000000 ∨ l % 8 ≠ 3) : HW (clL es e2 xss rs) l = none := by
 cases hb : HW (clL es e2 xss rs) l with
 | none => rfl
 | some b =>
  have h1 := clL_names _ (HW_mem hb)
  have h2 := (clL_cls _ (HW_mem hb)).1
  simp only at h1 h2
  omega
theorem lk_pl_lo {l : Nat} (hl : l < 1000000) : lk none ((plB 4 ps).map (fun p => (p.1,some p.2)) ++ h) l = lk none h l := by
 rw [lk_pl,HW_pl_none (.inl hl)]
theorem lk_pl_a : lk none ((plB 4 ps).map (fun p => (p.1,some p.2)) ++ h) 1000007 = some ⟨4,false,posE 1000015 ps⟩ := by
 rw [lk_pl,HW_pl,if_pos rfl]
theorem lk_pl_3 : lk none ((plB 4 ps).map (fun p => (p.1,some p.2)) ++ h) 1000003 = lk none h 1000003 := by
 rw [lk_pl,HW_pl_none (.inr (by omega))]
theorem lk_pl_11 : lk none ((plB 4 ps).map (fun p => (p.1,some p.2)) ++ h) 1000011 = lk none h 1000011 := by
 rw [lk_pl,HW_pl_none (.inr (by omega))]
theorem lk_clL_7 : lk none ((clL es e2 xss rs).map (fun p => (p.1,some p.2)) ++ h) 1000007 = lk none h 1000007 := by
 rw [lk_clL,HW_clL_none (.inr (by omega))]
theorem lk_pl_t {i : Nat} {y : List AV} (hy : (ins ps)[i]? = some y) : lk none ((plB 4 ps).map (fun p => (p.1,some p.2)) ++ h) (1000015 + 8 * i) = some ⟨4,true,y⟩ := by
 rw [lk_pl,HW_pl,if_neg (by omega),tlAt_hit,hy]; rfl
theorem pureEs_tl_congr {g g' : Nat → Option Blk} : ∀ (c : Nat) (zss : List (List AV)),(∀ i,g (c + 8 * i) = g' (c + 8 * i)) → pureEs g (tlE c zss) = pureEs g' (tlE c zss)
 | _,[],_ => rfl
 | c,z :: zss,hh => by
  have ih := pureEs_tl_congr (g := g) (g' := g') (c + 8) zss fun i => by
   have := hh (i + 1)
   rwa [show c + 8 * (i + 1) = c + 8 + 8 * i by omega] at this
  have e := hh 0
  rw [show c + 8 * 0 = c by omega] at e
  unfold pureEs at ih ⊢
  simp only [tlE,List.mapM_cons,ih,pure0X,pure0,e]
theorem pureEs_pos_congr {g g' : Nat → Option Blk} : ∀ (c : Nat) (qs : List PT),(∀ i,g (c + 8 * i) = g' (c + 8 * i)) → pureEs g (posE c qs) = pureEs g' (posE c qs)
 | _,[],_ => rfl
 | c,z :: qs,hh => by
  have ih := pureEs_pos_congr (g := g) (g' := g') (c + 8) qs fun i => by
   have := hh (i + 1)
   rwa [show c + 8 * (i + 1) = c + 8 + 8 * i by omega] at this
  have e := hh 0
  rw [show c + 8 * 0 = c by omega] at e
  have e2 : pure0X g (posV c z) = pure0X g' (posV c z) := by
   simp only [posV,pure0X,pure0X.pure0',List.mapM_cons,List.mapM_nil,pure0,e]
  unfold pureEs at ih ⊢
  simp only [posE,List.mapM_cons,ih,e2]
theorem pureEs_skipPl : pureEs (St.hp ⟨env,(plB 4 ps).map (fun p => (p.1,some p.2)) ++ h⟩) (tlE 1000019 xss) = pureEs (St.hp ⟨env,h⟩) (tlE 1000019 xss) :=
 pureEs_tl_congr _ _ fun i => by show lk none _ _ = lk none _ _; rw [lk_pl,HW_pl_none (.inr (by omega))]
theorem pos_skip {k : Nat} {v : Option Blk} {qs : List PT} (hk : k < 1000000) : pureEs (St.hp ⟨env,(k,v) :: h⟩) (posE 1000015 qs) = pureEs (St.hp ⟨env,h⟩) (posE 1000015 qs) :=
 pureEs_pos_congr _ _ fun i => by show (if k = _ then _ else _) = _; rw [if_neg (by omega)]; rfl
theorem pos_skipCl {qs : List PT} : pureEs (St.hp ⟨env,(clL es e2 xss rs).map (fun p => (p.1,some p.2)) ++ h⟩) (posE 1000015 qs) = pureEs (St.hp ⟨env,h⟩) (posE 1000015 qs) :=
 pureEs_pos_congr _ _ fun i => by show lk none _ _ = lk none _ _; rw [lk_clL,HW_clL_none (.inr (by omega))]
theorem pos_hit : pureEs (St.hp ⟨env,(plB 4 ps).map (fun p => (p.1,some p.2)) ++ h⟩) (posE 1000015 ps) = some (ps.map posP) := pureEs_pos fun _ _ hy => lk_pl_t hy
theorem grab_pl {g : Nat → Option Blk} (ha : g 1000007 = some ⟨4,false,posE 1000015 ps⟩) (ht : ∀ (i : Nat) y,(ins ps)[i]? = some y → g (1000015 + 8 * i) = some ⟨4,true,y⟩) (k : Int) (n : Nat) : grab g [.lsl 1000007 0 n,.int .i64 k] = plB 4 ps := by
 have h1 := grabE_pos (n := 4) ht
 simp only [grab,List.flatMap_cons,List.flatMap_nil,AV.cells,grabC,ha,h1,List.append_nil,List.nil_append,plB,List.cons_append]
theorem grab_pl0 {k : Int} {n : Nat} : grab (St.hp ⟨env,(plB 4 ps).map (fun p => (p.1,some p.2)) ++ h⟩) [.lsl 1000007 0 n,.int .i64 k] = plB 4 ps := grab_pl lk_pl_a (fun _ _ hy => lk_pl_t hy) k n
theorem grab_plC {k : Int} {n : Nat} : grab (St.hp ⟨env,(clL es e2 xss rs).map (fun p => (p.1,some p.2)) ++ ((plB 4 ps).map (fun p => (p.1,some p.2)) ++ h)⟩) [.lsl 1000007 0 n,.int .i64 k] = plB 4 ps :=
 grab_pl (lk_clL_7.trans lk_pl_a) (fun i _ hy => by show lk none _ _ = _; rw [lk_clL,HW_clL_none (.inr (by omega))]; exact lk_pl_t hy) k n
theorem hasL_pl (hh : HasL (St.hp ⟨env,h⟩) es e2 xss rs) : HasL (St.hp ⟨env,(plB 4 ps).map (fun p => (p.1,some p.2)) ++ h⟩) es e2 xss rs :=
 ⟨lk_pl_3.trans hh.a,lk_pl_11.trans hh.b,fun i y hy => by
  show lk none _ _ = _
  rw [lk_pl,HW_pl_none (.inr (by omega))]
  exact hh.t i y hy⟩
theorem grab_pcl0 {a b c : Int} {n m : Nat} : grab (St.hp ⟨env,(plB 4 ps).map (fun p => (p.1,some p.2)) ++ ((clL es e2 xss rs).map (fun p => (p.1,some p.2)) ++ h)⟩) [.agg [.int .i64 a,.int .i64 b,.lsl 1000003 0 n,.lsl 1000011 0 m],.int .i64 c] = clL es e2 xss rs := grab_clL (hasL_pl hasL_top) a b c n m
theorem grab_pcl1 {a b c : Int} {n m k1 : Nat} {v1 : Option Blk} (h1 : k1 < 1000000) : grab (St.hp ⟨env,(plB 4 ps).map (fun p => (p.1,some p.2)) ++ ((k1,v1) :: ((clL es e2 xss rs).map (fun p => (p.1,some p.2)) ++ h))⟩) [.agg [.int .i64 a,.int .i64 b,.lsl 1000003 0 n,.lsl 1000011 0 m],.int .i64 c] = clL es e2 xss rs := grab_clL (hasL_pl (hasL_cons h1 hasL_top)) a b c n m
theorem grab_pcl2 {a b c : Int} {n m k1 k2 : Nat} {v1 v2 : Option Blk} (h1 : k1 < 1000000) (h2 : k2 < 1000000) : grab (St.hp ⟨env,(plB 4 ps).map (fun p => (p.1,some p.2)) ++ ((k1,v1) :: (k2,v2) :: ((clL es e2 xss rs).map (fun p => (p.1,some p.2)) ++ h))⟩) [.agg [.int .i64 a,.int .i64 b,.lsl 1000003 0 n,.lsl 1000011 0 m],.int .i64 c] = clL es e2 xss rs := grab_clL (hasL_pl (hasL_cons h1 (hasL_cons h2 hasL_top))) a b c n m
def Free7 (h : List (Nat × Option Blk)) : Prop := ∀ l,1000000 ≤ l → l % 8 = 7 → lk none h l = none
theorem free7_lo (hh : loH h = true) : Free7 h := fun l h1 _ => loH_none h1 hh
theorem free7_cl (hh : Free7 h) : Free7 ((clL es e2 xss rs).map (fun p => (p.1,some p.2)) ++ h) := fun l h1 h2 => by
 rw [lk_clL,HW_clL_none (.inr (by omega))]; exact hh l h1 h2
theorem free7_cons {k : Nat} {v : Option Blk} (hk : k < 1000000) (hh : Free7 h) : Free7 ((k,v) :: h) := fun l h1 h2 => by
 rw [lk_cons,if_neg (by omega)]; exact hh l h1 h2
theorem fresh_pl (hh : Free7 h) : (∀ p ∈ plB 4 ps,St.hp ⟨env,h⟩ p.1 = none) = True := eq_true fun p hp => hh _ (pl_names p hp).1 (pl_names p hp).2
theorem fresh_pl0 (hh : loH h = true) : (∀ p ∈ plB 4 ps,St.hp ⟨env,h⟩ p.1 = none) = True := fresh_pl (free7_lo hh)
theorem fresh_pl1 {k1 : Nat} {v1 : Option Blk} (h1 : k1 < 1000000) (hh : loH h = true) : (∀ p ∈ plB 4 ps,St.hp ⟨env,(k1,v1) :: ((clL es e2 xss rs).map (fun p => (p.1,some p.2)) ++ h)⟩ p.1 = none) = True := fresh_pl (free7_cons h1 (free7_cl (free7_lo hh)))
theorem fresh_pl2 {k1 k2 : Nat} {v1 v2 : Option Blk} (h1 : k1 < 1000000) (h2 : k2 < 1000000) (hh : loH h = true) : (∀ p ∈ plB 4 ps,St.hp ⟨env,(k1,v1) :: (k2,v2) :: ((clL es e2 xss rs).map (fun p => (p.1,some p.2)) ++ h)⟩ p.1 = none) = True := fresh_pl (free7_cons h1 (free7_cons h2 (free7_cl (free7_lo hh))))
end
theorem hEnc_pl_inj {ps qs : List PT} (h : hEnc (plB 4 ps) = hEnc (plB 4 qs)) : ps = qs := by
 have h0 := hEnc_inj h
 unfold plB at h0
 have h1 : ins ps = ins qs := tlB_inj (List.cons.inj h0).2
 have h2 : posE 1000015 ps = posE 1000015 qs := by
  have := (List.cons.inj h0).1
  simpa using this
 refine List.ext_getElem? fun i => ?_
 have e1 := congrArg (fun l => l[i]?) h1
 have e2 := congrArg (fun l => l[i]?) h2
 simp only [ins_get,posE_get] at e1 e2
 cases hp : ps[i]? with
 | none =>
  rw [hp] at e1
  cases hq : qs[i]? with
  | none => rfl
  | some q => rw [hq] at e1; cases e1
 | some p =>
  rw [hp] at e1 e2
  cases hq : qs[i]? with
  | none => rw [hq] at e1; cases e1
  | some q =>
   rw [hq] at e1 e2
   simp only [Option.map,Option.some.injEq,posV,AV.agg.injEq,List.cons.injEq,AV.flt.injEq,true_and] at e1 e2
   obtain ⟨a,b,c,d⟩ := p
   obtain ⟨a',b',c',d'⟩ := q
   simp only at e1 e2
   rw [e2.1,e2.2.1,e2.2.2.1,e1]
end Go.Ab

