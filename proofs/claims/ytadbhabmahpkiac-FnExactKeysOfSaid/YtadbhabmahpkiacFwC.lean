/- Each operation that makes or writes blocks does what the abstract reading says. No conditions. -/
import Derived.Test.YtadbhabmahpkiacFwB
import Derived.Lib.AppendStr
set_option linter.all false
namespace Go.Ab
open Go.RowKit

section
variable {P : Program} {cf : Cfg} {ρ : Nat → Option Nat} {st : St} {a : Act} {w : World}

abbrev StRρ.Z (_ : StRρ cf ρ st a w) : Nat → Prop := Zf cf.Z0 cf.base ρ st.hp w

theorem shape_heap {w w' : World} {B : Nat} (h : w'.heap[B]? = w.heap[B]?) : w'.shape? B = w.shape? B := by simp [World.shape?,h]

theorem Fr.drewN {base : Nat} {M : Nat → Prop} {w0 w : World} (h : Fr base M w0 w) (n : Nat) : Fr base M w0 (w.drewN n) := ⟨h.os,h.tape,h.output,h.size,h.base_le,h.block⟩

theorem StRρ.drewN (h : StRρ cf ρ st a w) (n : Nat) : StRρ cf ρ st a (w.drewN n) := by
 have hz : Zf cf.Z0 cf.base ρ st.hp (w.drewN n) = Zf cf.Z0 cf.base ρ st.hp w := rfl
 have hm : ∀ {v x},V ρ st.hp w (Zf cf.Z0 cf.base ρ st.hp w) v x → V ρ st.hp (w.drewN n) (Zf cf.Z0 cf.base ρ st.hp w) v x :=
  fun hv => hv.mono (w := w) (w' := w.drewN n) (fun b hb => ⟨hb,rfl⟩) (fun l b hb => ⟨rfl,⟨b,hb,rfl,rfl⟩,fun B _ => rfl⟩)
 refine ⟨⟨fun l b B hb hρ => ?_,h.hp.nil,h.hp.inj⟩,fun t => hm (h.tmp t),h.size,h.defers,h.fr.drewN n,h.own,h.z0,h.pin,h.shp⟩
 obtain ⟨c,t,h1,h2,h3,h4,h5⟩ := h.hp.blk l b B hb hρ
 exact ⟨c,t,h1,h2,h3,fun i x j d v q1 q2 q3 => hm (h4 i x j d v q1 q2 q3),fun hp i x j d v q1 q2 q3 => (h5 hp i x j d v q1 q2 q3).mono (w := w) (w' := w.drewN n) (fun b hb => ⟨hb,rfl⟩)⟩

theorem getD_set (xs : Array Value) (d t : Nat) (v u : Value) : (xs.setIfInBounds d v).getD t u = if d = t ∧ d < xs.size then v else xs.getD t u := by
 simp only [Array.getD_eq_getD_getElem?]
 by_cases hd : d = t
 ·subst hd
  by_cases hlt : d < xs.size
  ·simp [hlt]
  ·simp [hlt]
 ·simp [hd,Array.getElem?_setIfInBounds_ne hd]

theorem StRρ.put (h : StRρ cf ρ st a w) {v : Value} {x : AV} (hv : V ρ st.hp w (Zf cf.Z0 cf.base ρ st.hp w) v x) {dst : Option Nat} (hd : ∀ d,dst = some d → d < cf.n) : StRρ cf ρ (st.put dst x) (a.put dst v) w := by
 cases dst with
 | none => exact h
 | some d =>
  refine ⟨h.hp,fun t => ?_,by simpa [Act.put] using h.size,h.defers,h.fr,h.own,h.z0,h.pin,h.shp⟩
  show V ρ st.hp w _ ((a.tmps.setIfInBounds d v).getD t undef) (if d = t then x else st.get t)
  rw [getD_set]
  by_cases hdt : d = t
  ·rw [if_pos ⟨hdt,by rw [h.size]; exact hd d rfl⟩,if_pos hdt]; exact hv
  ·rw [if_neg (fun q => hdt q.1),if_neg hdt]; exact h.tmp t

theorem StRρ.ev (h : StRρ cf ρ st a w) (x : Operand) (ox : Opd) (hx : cOpd x = some ox) : V ρ st.hp w (Zf cf.Z0 cf.base ρ st.hp w) (a.eval x) (Go.Ab.ev st ox) := by
 cases x with
 | tmp t => cases hx; exact h.tmp t
 | const v =>
  simp only [cOpd] at hx
  cases hc : constAV v with
  | none => rw [hc] at hx; cases hx
  | some c => rw [hc] at hx; cases hx; exact .pure (constAV_V0 hc)
 | func f =>
  cases hx
  exact .pure (.fn _ _ _ _ _ rfl rfl (fun i c d hc => by simp at hc) (fun i c d hc => by simp at hc))
 | global g => cases hx

def upd {α : Type} (f : Nat → α) (k : Nat) (v : α) : Nat → α := fun l => if k = l then v else f l

theorem StRρ.alloc (h : StRρ cf ρ st a w) {d : Nat} (hdp : d < 1000000) (hd : st.hp d = none) (b : Blk) (cs : Array Value) (ty : TypeId) (hsz : b.elems.length * b.es ≤ cs.size) (hes : ∀ x ∈ b.elems,x.cells.length = b.es)
  (hv : ∀ (i : Nat) x (j : Nat) e v,b.elems[i]? = some x → x.cells[j]? = some e → cs[i * b.es + j]? = some v → V ρ st.hp w (Zf cf.Z0 cf.base ρ st.hp w) v e)
  (hv0 : b.pur = true → ∀ (i : Nat) x (j : Nat) e v,b.elems[i]? = some x → x.cells[j]? = some e → cs[i * b.es + j]? = some v → V0 w (Zf cf.Z0 cf.base ρ st.hp w) v e) :
  StRρ cf (upd ρ d (some w.heap.size)) (st.setH d (some b)) a (w.alloc (.cells cs ty)) ∧
  (∀ v x,V ρ st.hp w (Zf cf.Z0 cf.base ρ st.hp w) v x → V (upd ρ d (some w.heap.size)) (st.setH d (some b)).hp (w.alloc (.cells cs ty)) (Zf cf.Z0 cf.base (upd ρ d (some w.heap.size)) (st.setH d (some b)).hp (w.alloc (.cells cs ty))) v x) := by
 have hhp : (st.setH d (some b)).hp = upd st.hp d (some b) := by funext l; rfl
 rw [hhp]
 have hρd : upd ρ d (some w.heap.size) d = some w.heap.size := by simp [upd]
 have hold : ∀ k,k < w.heap.size → (w.alloc (.cells cs ty)).heap[k]? = w.heap[k]? := fun k hk => heap_alloc_old w _ hk
 have hne : ∀ l b',st.hp l = some b' → d ≠ l := fun l b' hb' e => by subst e; rw [hd] at hb'; cases hb'
 have hzone : ∀ k,Zf cf.Z0 cf.base ρ st.hp w k → Zf cf.Z0 cf.base (upd ρ d (some w.heap.size)) (upd st.hp d (some b)) (w.alloc (.cells cs ty)) k ∧ (w.alloc (.cells cs ty)).heap[k]? = w.heap[k]? := by
  intro k hk
  refine ⟨⟨hk.1,by have := hk.2.1; simp; omega,fun l hl he => ?_⟩,hold k hk.2.1⟩
  by_cases hdl : d = l
  ·subst hdl
   rw [hρd] at he
   have := hk.2.1
   cases he; omega
  ·simp only [upd,hdl,if_false] at hl he
   exact hk.2.2 l hl he
 have hlt : ∀ l b' B,st.hp l = some b' → ρ l = some B → B < w.heap.size := by
  intro l b' B hb' hB
  obtain ⟨c,t,hc,_⟩ := h.hp.blk l b' B hb' hB
  exact (Array.getElem?_eq_some_iff.1 hc).1
 have hnames : ∀ l b',st.hp l = some b' → upd ρ d (some w.heap.size) l = ρ l ∧ (∃ b'',upd st.hp d (some b) l = some b'' ∧ b''.es = b'.es ∧ b''.elems.length = b'.elems.length) ∧ ∀ B,ρ l = some B → (w.alloc (.cells cs ty)).shape? B = w.shape? B := by
  intro l b' hb'
  have := hne l b' hb'
  refine ⟨by simp [upd,this],⟨b',by simp [upd,this,hb'],rfl,rfl⟩,fun B hB => shape_heap (hold B (hlt l b' B hb' hB))⟩
 have hmono : ∀ v x,V ρ st.hp w (Zf cf.Z0 cf.base ρ st.hp w) v x → V (upd ρ d (some w.heap.size)) (upd st.hp d (some b)) (w.alloc (.cells cs ty)) (Zf cf.Z0 cf.base (upd ρ d (some w.heap.size)) (upd st.hp d (some b)) (w.alloc (.cells cs ty))) v x :=
  fun v x hv => hv.mono hzone hnames
 refine ⟨?_,hmono⟩
 refine ⟨⟨fun l b' B hb' hB => ?_,fun l b' hb' hn => ?_,fun l l' B h1 h2 h3 h4 => ?_⟩,fun t => ?_,h.size,h.defers,?_,fun l B hl hB => ?_,h.z0,fun l hl => by rw [← h.pin l hl]; simp only [upd]; rw [if_neg (by have := hl.1; omega)],fun k hk => (shape_heap (hold k (by have := h.fr.size; have := h.fr.base_le; omega))).trans (h.shp k hk)⟩
 ·rw [hhp] at hb' ⊢
  by_cases hdl : d = l
  ·subst hdl
   rw [hρd] at hB; cases hB
   simp only [upd,if_true] at hb'; cases hb'
   exact ⟨cs,ty,heap_alloc_new w _,hsz,hes,fun i x j e v q1 q2 q3 => hmono _ _ (hv i x j e v q1 q2 q3),fun hp i x j e v q1 q2 q3 => (hv0 hp i x j e v q1 q2 q3).mono hzone⟩
  ·simp only [upd,hdl,if_false] at hb' hB
   obtain ⟨c,t,g1,g2,g3,g4,g5⟩ := h.hp.blk l b' B hb' hB
   exact ⟨c,t,by rw [hold B (hlt l b' B hb' hB)]; exact g1,g2,g3,fun i x j e v q1 q2 q3 => hmono _ _ (g4 i x j e v q1 q2 q3),fun hp i x j e v q1 q2 q3 => (g5 hp i x j e v q1 q2 q3).mono hzone⟩
 ·rw [hhp] at hb'
  by_cases hdl : d = l
  ·subst hdl; rw [hρd] at hn; cases hn
  ·simp only [upd,hdl,if_false] at hb' hn
   exact h.hp.nil l b' hb' hn
 ·rw [hhp] at h1 h2
  by_cases hdl : d = l
  ·subst hdl
   by_cases hdl' : d = l'
   ·exact hdl'
   ·simp only [upd,hdl',if_false] at h2 h4
    rw [hρd] at h3; cases h3
    obtain ⟨b',hb'⟩ := Option.isSome_iff_exists.1 h2
    have := hlt l' b' _ hb' h4; omega
  ·by_cases hdl' : d = l'
   ·subst hdl'
    simp only [upd,hdl,if_false] at h1 h3
    rw [hρd] at h4; cases h4
    obtain ⟨b',hb'⟩ := Option.isSome_iff_exists.1 h1
    have := hlt l b' _ hb' h3; omega
   ·simp only [upd,hdl,hdl',if_false] at h1 h2 h3 h4
    exact h.hp.inj l l' B h1 h2 h3 h4
 ·rw [hhp]; exact hmono _ _ (h.tmp t)
 ·have f := h.fr
  refine ⟨f.os,f.tape,f.output,by have := f.size; simp; omega,f.base_le,fun k hk hm => ?_⟩
  rw [hold k (by have := f.size; have := f.base_le; omega)]
  exact f.block k hk hm
 ·rw [hhp] at hl
  by_cases hdl : d = l
  ·subst hdl
   rw [hρd] at hB; cases hB
   have := h.fr.size; have := h.fr.base_le
   exact .inl (by omega)
  ·simp only [upd,hdl,if_false] at hl hB
   exact h.own l B hl hB
end
end Go.Ab

namespace Go.Ab
open Go.RowKit

section
variable {P : Program} {cf : Cfg} {ρ : Nat → Option Nat} {st : St} {a : Act} {w : World}

def RunsTo (P : Program) (s : Sem Next) (w : World) (Q : Value → Prop) : Prop := ∃ v n,s.run P w = .ok (.value v) (w.drewN n) ∧ Q v
theorem Gives.runs {s : Sem Value} {Q : Value → Prop} (h : Gives P s w Q) : RunsTo P (do pure (Next.value (← s))) w Q := by
 obtain ⟨v,n,h1,h2⟩ := h
 exact ⟨v,n,by simp [h1],h2⟩

theorem opt_ok (h : StRρ cf ρ st a w) {o : Option Operand} {oo : Option Opd} (ho : optOpd o = some oo) : OptR ρ st.hp w (Zf cf.Z0 cf.base ρ st.hp w) (o.map a.eval) (oo.map (ev st)) := by
 cases o with
 | none => cases ho; trivial
 | some x =>
  simp only [optOpd] at ho
  cases hx : cOpd x with
  | none => rw [hx] at ho; cases ho
  | some ox => rw [hx] at ho; cases ho; exact h.ev x ox hx

theorem opds_ok (h : StRρ cf ρ st a w) {xs : List Operand} {os : List Opd} (ho : cOpds xs = some os) :
  (xs.map a.eval).length = (os.map (ev st)).length ∧ ∀ (i : Nat) c d,(xs.map a.eval)[i]? = some c → (os.map (ev st))[i]? = some d → V ρ st.hp w (Zf cf.Z0 cf.base ρ st.hp w) c d := by
 obtain ⟨h1,h2⟩ := mapM_some ho
 refine ⟨by simp [h1],fun i c d hc hd => ?_⟩
 simp only [List.getElem?_map,Option.map_eq_some_iff] at hc hd
 obtain ⟨x,hx,rfl⟩ := hc
 obtain ⟨o,ho',rfl⟩ := hd
 exact h.ev x o (h2 i x o hx ho')

theorem sliceT_inv {t e : TypeId} (h : elemT P t = some e) : P.underlying t = some (.slice e) := by
 unfold elemT at h
 split at h
 ·cases h; assumption
 ·cases h

theorem vop_sound (h : StRρ cf ρ st a w) {own mu : List Nat} {o : Oper} {iop : IOp} (hc : cOp P own mu o.op = some iop) {av : AV} (he : vop st iop = some av) :
  RunsTo P (execOp a.eval o) w fun v => V ρ st.hp w (Zf cf.Z0 cf.base ρ st.hp w) v av := by
 obtain ⟨dst,op,type,pos,after,guard⟩ := o
 have hev := h.ev
 dsimp only at hc
 cases op with
 | move x =>
  simp only [cOp,Option.map_eq_some_iff] at hc
  obtain ⟨ox,hx,rfl⟩ := hc
  cases he
  exact ⟨_,0,rfl,hev x ox hx⟩
 | assign x =>
  simp only [cOp,Option.map_eq_some_iff] at hc
  obtain ⟨ox,hx,rfl⟩ := hc
  cases he
  exact ⟨_,0,rfl,hev x ox hx⟩
 | pick c x y =>
  simp only [cOp,bind,Option.bind_eq_some_iff,pure,Option.some.injEq] at hc
  obtain ⟨oc,hc1,ox,hx,oy,hy,rfl⟩ := hc
  simp only [vop] at he
  have h1 := hev c oc hc1
  generalize ev st oc = cv at *
  cases cv with
  | bool t =>
   cases he
   have e1 := h1.bool_inv
   refine ⟨if t = true then a.eval x else a.eval y,0,?_,?_⟩
   ·simp [execOp,e1,asBool]; rfl
   ·cases t
    ·exact hev y oy hy
    ·exact hev x ox hx
  | _ => cases he
 | build t parts =>
  exact (snd_build (ev0 := a.eval) hev hc he).runs
 | load t x =>
  simp only [cOp,bind,Option.bind_eq_some_iff,pure,Option.some.injEq] at hc
  obtain ⟨n,hn,ox,hx,rfl⟩ := hc
  exact (snd_load h.hp hn (hev x ox hx) he).runs
 | nilCheck x =>
  simp only [cOp,Option.map_eq_some_iff] at hc
  obtain ⟨ox,hx,rfl⟩ := hc
  obtain ⟨h1,h2⟩ := snd_nil (hev x ox hx) he
  refine ⟨a.eval x,0,?_,h2⟩
  simp only [execOp]
  generalize a.eval x = v at h1
  unfold notNil at h1
  split at h1
  ·rfl
  ·rfl
  ·cases h1
 | binOp op t x y yt =>
  have hb : ∀ {ox oy},cOpd x = some ox → cOpd y = some oy → iop = .bin op (isBoolT P t) ox oy → RunsTo P (execOp a.eval ⟨dst,.binOp op t x y yt,type,pos,after,guard⟩) w fun v => V ρ st.hp w (Zf cf.Z0 cf.base ρ st.hp w) v av := by
   intro ox oy hx hy hi
   subst hi
   exact (snd_bin (hev x ox hx) (hev y oy hy) he).runs
  simp only [cOp] at hc
  split at hc
  ·split at hc
   ·simp only [Option.map_eq_some_iff] at hc
    obtain ⟨ox,hx,rfl⟩ := hc
    cases he
   ·cases hc
  ·split at hc
   ·simp only [Option.map_eq_some_iff] at hc
    obtain ⟨ox,hx,rfl⟩ := hc
    cases he
   ·cases hc
  ·split at hc
   ·simp only [bind,Option.bind_eq_some_iff,pure,Option.some.injEq] at hc
    obtain ⟨ox,hx,oy,hy,hi⟩ := hc
    exact hb hx hy hi.symm
   ·cases hc
 | unOp op t x =>
  simp only [cOp,Option.map_eq_some_iff] at hc
  obtain ⟨ox,hx,rfl⟩ := hc
  exact (snd_un (hev x ox hx) he).runs
 | convert s d x =>
  simp only [cOp] at hc
  have fin : ∀ (cd : CD),CDok P s d cd → (cOpd x).map (.conv cd) = some iop → RunsTo P (execOp a.eval ⟨dst,.convert s d x,type,pos,after,guard⟩) w fun v => V ρ st.hp w (Zf cf.Z0 cf.base ρ st.hp w) v av := by
   intro cd hcd hm
   simp only [Option.map_eq_some_iff] at hm
   obtain ⟨ox,hx,rfl⟩ := hm
   exact (snd_conv h.hp hcd (hev x ox hx) he).runs
  split at hc
  ·rename_i h1 h2; exact fin (.int _) ⟨h2,_,h1⟩ hc
  ·rename_i h1 h2; exact fin (.int _) ⟨h2,_,h1⟩ hc
  ·rename_i h1 h2; exact fin (.flt _) ⟨h2,_,h1⟩ hc
  ·rename_i h1 h2; exact fin (.flt _) ⟨h2,_,h1⟩ hc
  ·rename_i e h1 h2
   split at hc
   ·rename_i h3
    refine fin .str ⟨h2,e,h1,?_⟩ hc
    unfold isU8T at h3
    split at h3
    ·assumption
    ·cases h3
   ·cases hc
  ·cases hc
 | slice t x lo hi mx =>
  simp only [cOp] at hc
  split at hc
  ·rename_i hu
   simp only [bind,Option.bind_eq_some_iff,pure,Option.some.injEq] at hc
   obtain ⟨ox,hx,olo,hlo,ohi,hhi,rfl⟩ := hc
   exact (snd_sliceS hu (hev x ox hx) (opt_ok h hlo) (opt_ok h hhi) he).runs
  ·rename_i hu
   simp only [bind,Option.bind_eq_some_iff,pure,Option.some.injEq] at hc
   obtain ⟨es,hs,ox,hx,olo,hlo,ohi,hhi,rfl⟩ := hc
   simp only [vop] at he
   split at he
   ·rename_i hes
    refine (snd_sliceX hu hs (hev x ox hx) (opt_ok h hlo) (opt_ok h hhi) ⟨fun l off len e b hb _ => ?_,fun xs e y hy => ?_⟩ he).runs
    ·rw [e] at hes
     simp only [esOk,hb] at hes
     simpa using hes
    ·rw [e] at hes
     simp only [esOk,List.all_eq_true] at hes
     simpa [esIs] using hes y hy
   ·cases he
  ·split at hc
   ·simp only [bind,Option.bind_eq_some_iff,pure,Option.some.injEq] at hc
    obtain ⟨_,_,_,_,rfl⟩ := hc
    cases he
   ·cases hc
  ·cases hc
 | fieldAddr s x f =>
  simp only [cOp] at hc
  split at hc
  ·rename_i fs hu
   simp only [bind,Option.bind_eq_some_iff] at hc
   obtain ⟨fd,hf,hc⟩ := hc
   split at hc
   ·cases hc
   ·rename_i hs
    simp only [Option.bind_eq_some_iff,pure,Option.some.injEq] at hc
    obtain ⟨ox,hx,rfl⟩ := hc
    exact (snd_faddr hu hf hs (hev x ox hx) he).runs
  ·cases hc
 | indexAddr t x i =>
  simp only [cOp] at hc
  split at hc
  ·rename_i n e hu
   simp only [bind,Option.bind_eq_some_iff,pure,Option.some.injEq] at hc
   obtain ⟨es,hs,ox,hx,oi,hi,rfl⟩ := hc
   exact (snd_iaddrA hu hs (hev x ox hx) (hev i oi hi) he).runs
  ·rename_i e hu
   simp only [bind,Option.bind_eq_some_iff,pure,Option.some.injEq] at hc
   obtain ⟨es,hs,ox,hx,oi,hi,rfl⟩ := hc
   exact (snd_iaddrS hu hs (hev x ox hx) (hev i oi hi) he).runs
  ·cases hc
 | index t x i =>
  simp only [cOp] at hc
  split at hc
  ·rename_i n e hu
   split at hc
   ·rename_i hg
    simp only [bind,Option.bind_eq_some_iff,pure,Option.some.injEq] at hc
    obtain ⟨es,hs,ox,hx,oi,hi,rfl⟩ := hc
    exact (snd_idxA hu hs hg (hev x ox hx) (hev i oi hi) he).runs
   ·cases hc
  ·rename_i hu
   simp only [bind,Option.bind_eq_some_iff,pure,Option.some.injEq] at hc
   obtain ⟨ox,hx,oi,hi,rfl⟩ := hc
   exact (snd_idxS hu (hev x ox hx) (hev i oi hi) he).runs
  ·cases hc
 | field t x f =>
  simp only [cOp] at hc
  split at hc
  ·rename_i fs hu
   simp only [bind,Option.bind_eq_some_iff,pure,Option.some.injEq] at hc
   obtain ⟨fd,hf,n,hn,ox,hx,rfl⟩ := hc
   exact (snd_field hu hf hn (hev x ox hx) he).runs
  ·cases hc
 | extract x i =>
  simp only [cOp,bind,Option.bind_eq_some_iff,pure,Option.some.injEq] at hc
  obtain ⟨ox,hx,rfl⟩ := hc
  exact (snd_extract (hev x ox hx) he).runs
 | makeFunc fn first caps =>
  simp only [cOp,bind,Option.bind_eq_some_iff,pure,Option.some.injEq] at hc
  obtain ⟨o1,h1,o2,h2,rfl⟩ := hc
  cases he
  obtain ⟨l1,v1⟩ := opds_ok h h1
  obtain ⟨l2,v2⟩ := opds_ok h h2
  refine (snd_fn (by simpa using l1) (by simpa using l2) (fun i c d hc hd => v1 i c d ?_ hd) (fun i c d hc hd => v2 i c d ?_ hd)).runs
  ·simpa using hc
  ·simpa using hc
 | call c =>
  obtain ⟨callee,args,argTypes⟩ := c
  simp only [cOp] at hc
  split at hc
  ·split at hc
   ·split at hc
    ·cases hc
    ·split at hc
     ·simp only [bind,Option.bind_eq_some_iff,pure,Option.some.injEq] at hc
      obtain ⟨o1,h1,rfl⟩ := hc
      cases he
     ·simp only [bind,Option.bind_eq_some_iff,pure,Option.some.injEq] at hc
      obtain ⟨o1,h1,rfl⟩ := hc
      cases he
   ·cases hc
  ·simp only [bind,Option.bind_eq_some_iff,pure,Option.some.injEq] at hc
   obtain ⟨o1,h1,rfl⟩ := hc
   cases he
  ·split at hc
   ·rename_i x hargs hu
    simp only [Option.map_eq_some_iff] at hc
    obtain ⟨ox,hx,rfl⟩ := hc
    simp only [Option.bind_eq_some_iff] at hu
    obtain ⟨t,h0,hu⟩ := hu
    have := snd_len (P := P) (t := t) (s := true) hu (av := av) type h0 (hev x ox hx) he
    have e : args = #[x] := by rw [← Array.toArray_toList (xs := args),hargs]
    subst e
    obtain ⟨v,n,h1,h2⟩ := this
    exact ⟨v,n,by simp [execOp,resolve,invoke,builtin,h1],h2⟩
   ·rename_i x e hargs hu
    simp only [Option.map_eq_some_iff] at hc
    obtain ⟨ox,hx,rfl⟩ := hc
    simp only [Option.bind_eq_some_iff] at hu
    obtain ⟨t,h0,hu⟩ := hu
    have := snd_len (P := P) (t := t) (s := false) ⟨_,hu⟩ (av := av) type h0 (hev x ox hx) he
    have e : args = #[x] := by rw [← Array.toArray_toList (xs := args),hargs]
    subst e
    obtain ⟨v,n,h1,h2⟩ := this
    exact ⟨v,n,by simp [execOp,resolve,invoke,builtin,h1],h2⟩
   ·cases hc
  ·split at hc
   ·simp only [bind,Option.bind_eq_some_iff] at hc
    obtain ⟨_,_,_,_,_,_,hc⟩ := hc
    split at hc
    ·simp only [Option.bind_eq_some_iff,pure,Option.some.injEq] at hc; obtain ⟨_,_,_,_,_,_,rfl⟩ := hc; cases he
    ·cases hc
   ·cases hc
  ·split at hc
   ·rename_i x y hargs
    simp only [bind,Option.bind_eq_some_iff,pure,Option.some.injEq] at hc
    obtain ⟨ox,hx,oy,hy,rfl⟩ := hc
    have := snd_mm (P := P) (mx := true) argTypes type (hev x ox hx) (hev y oy hy) he
    have e : args = #[x,y] := by rw [← Array.toArray_toList (xs := args),hargs]
    subst e
    obtain ⟨v,n,h1,h2⟩ := this
    rw [if_pos rfl] at h1
    exact ⟨v,n,by simp [execOp,resolve,invoke,builtin,h1],h2⟩
   ·cases hc
  ·split at hc
   ·rename_i x y hargs
    simp only [bind,Option.bind_eq_some_iff,pure,Option.some.injEq] at hc
    obtain ⟨ox,hx,oy,hy,rfl⟩ := hc
    have := snd_mm (P := P) (mx := false) argTypes type (hev x ox hx) (hev y oy hy) he
    have e : args = #[x,y] := by rw [← Array.toArray_toList (xs := args),hargs]
    subst e
    obtain ⟨v,n,h1,h2⟩ := this
    rw [if_neg (by decide)] at h1
    exact ⟨v,n,by simp [execOp,resolve,invoke,builtin,h1],h2⟩
   ·cases hc
  ·split at hc
   ·simp only [bind,Option.bind_eq_some_iff] at hc
    obtain ⟨_,_,_,_,_,_,hc⟩ := hc
    split at hc
    ·simp only [Option.bind_eq_some_iff,pure,Option.some.injEq] at hc; obtain ⟨_,_,_,_,_,_,rfl⟩ := hc; cases he
    ·cases hc
   ·cases hc
  ·cases hc
 | alloc e => simp only [cOp,Option.map_eq_some_iff] at hc; obtain ⟨z,_,rfl⟩ := hc; cases he
 | box e x => simp only [cOp,bind,Option.bind_eq_some_iff,pure,Option.some.injEq] at hc; obtain ⟨_,_,_,_,rfl⟩ := hc; cases he
 | buildSlice t len parts =>
  simp only [cOp,bind,Option.bind_eq_some_iff] at hc
  obtain ⟨_,_,_,_,hc⟩ := hc
  split at hc
  ·simp only [Option.bind_eq_some_iff,pure,Option.some.injEq] at hc; obtain ⟨_,_,_,_,rfl⟩ := hc; cases he
  ·cases hc
 | store t x y => simp only [cOp,bind,Option.bind_eq_some_iff,pure,Option.some.injEq] at hc; obtain ⟨_,_,_,_,_,_,rfl⟩ := hc; cases he
 | makeSlice t l c => simp only [cOp,bind,Option.bind_eq_some_iff,pure,Option.some.injEq] at hc; obtain ⟨_,_,_,_,_,_,_,_,_,_,_,_,rfl⟩ := hc; cases he
 | _ => cases hc
end
end Go.Ab

namespace Go.Ab
open Go.RowKit

section
variable {P : Program} {cf : Cfg} {ρ : Nat → Option Nat} {st : St} {a : Act} {w : World}

theorem V.refless1 {h : Nat → Option Blk} {Z : Nat → Prop} {v : Value} {x : AV} (hv : V ρ h w Z v x) (hx : refless1 x = true) : V0 w Z v x := by
 cases hv with
 | pure h0 => exact h0
 | agg => cases hx
 | tup => cases hx
 | lptr => cases hx
 | lsl => cases hx
 | lnil => cases hx
 | fn f c1 c2 d1 d2 l1 l2 h1 h2 =>
  simp only [Go.Ab.refless1,Bool.and_eq_true,List.isEmpty_iff] at hx
  obtain ⟨rfl,rfl⟩ := hx
  exact .fn f c1 c2 [] [] l1 l2 (fun i c d _ hd => by simp at hd) (fun i c d _ hd => by simp at hd)
theorem V.refless {h : Nat → Option Blk} {Z : Nat → Prop} {v : Value} {x : AV} (hv : V ρ h w Z v x) (hx : refless x = true) : V0 w Z v x := by
 cases x with
 | agg cs =>
  obtain ⟨vs,rfl,hl,hd⟩ := agg_inv hv
  simp only [Go.Ab.refless,List.all_eq_true] at hx
  exact .agg vs cs hl fun i c d hc hd' => (hd i c d hc hd').refless1 (hx d (List.mem_of_getElem? hd'))
 | _ => exact hv.refless1 hx

theorem storable_laid {x : AV} (hx : storable x = true) : laid x = true := by
 cases x <;> first | rfl | exact hx

theorem single_get {x y : AV} {i : Nat} (h : [x][i]? = some y) : i = 0 ∧ y = x := by
 cases i with
 | zero => simp at h; exact ⟨rfl,h.symm⟩
 | succ i => simp at h

theorem constCell_one {v : Value} {x : AV} (h : constCell v = some x) : v.cells = #[v] ∧ x.cells = [x] := by
 unfold constCell at h
 split at h
 ·cases h; exact ⟨rfl,rfl⟩
 ·split at h <;> cases h
  exact ⟨rfl,rfl⟩
 ·split at h <;> cases h
  exact ⟨rfl,rfl⟩
 ·split at h <;> cases h
  exact ⟨rfl,rfl⟩
 ·cases h; exact ⟨rfl,rfl⟩
 all_goals first | (cases h; exact ⟨rfl,rfl⟩) | cases h
theorem constAV_cells {v : Value} {x : AV} {Z : Nat → Prop} (h : constAV v = some x) : v.cells.size = x.cells.length ∧ ∀ (j : Nat) c d,v.cells[j]? = some c → x.cells[j]? = some d → V0 w Z c d := by
 have hv := constAV_V0 (w := w) (Z := Z) h
 unfold constAV at h
 split at h
 ·rename_i cs
  cases hm : cs.toList.mapM constCell with
  | none => rw [hm] at h; cases h
  | some ds =>
   rw [hm] at h; cases h
   cases hv with | agg _ _ hl hd => exact ⟨hl,hd⟩
 ·obtain ⟨e1,e2⟩ := constCell_one h
  rw [e1,e2]
  refine ⟨rfl,fun j c d hc hd => ?_⟩
  cases j with
  | zero => simp at hc hd; subst hc; subst hd; exact hv
  | succ j => simp at hc

theorem zeroT_inv {t : TypeId} {z : AV} (hz : zeroT P t = some z) : ∃ it v,P.info? t = some it ∧ it.zero = some v ∧ constAV v = some z := by
 unfold zeroT at hz
 cases hi : P.info? t with
 | none => rw [hi] at hz; cases hz
 | some it =>
  rw [hi] at hz
  cases hv : it.zero with
  | none => simp [hv] at hz
  | some v => simp [hv] at hz; exact ⟨it,v,rfl,hv,hz⟩

def Steps1 (P : Program) (cf : Cfg) (o : Oper) (st' : St) (a : Act) (w : World) : Prop :=
 (∃ v w',(execOp a.eval o).run P w = .ok (.value v) w' ∧ StR cf st' (a.put o.dst v) w') ∨
 (∃ w',(execOp a.eval o).run P w = .ok .skip w' ∧ StR cf st' (a.put o.dst undef) w') ∨
 (∃ f args w',(execOp a.eval o).run P w = .ok (.enter f args) w' ∧ Calls P f args w' fun e w'' => ∃ v,e = .returned v ∧ StR cf st' (a.put o.dst v) w'')

theorem newblk (h : StRρ cf ρ st a w) {d : Nat} (hdn : d < cf.n) (hd : st.hp d = none) (b : Blk) (cs : Array Value) (ty : TypeId) (hsz : b.elems.length * b.es ≤ cs.size) (hes : ∀ x ∈ b.elems,x.cells.length = b.es)
  (hv : ∀ (i : Nat) x (j : Nat) e v,b.elems[i]? = some x → x.cells[j]? = some e → cs[i * b.es + j]? = some v → V ρ st.hp w (Zf cf.Z0 cf.base ρ st.hp w) v e)
  (hv0 : b.pur = true → ∀ (i : Nat) x (j : Nat) e v,b.elems[i]? = some x → x.cells[j]? = some e → cs[i * b.es + j]? = some v → V0 w (Zf cf.Z0 cf.base ρ st.hp w) v e)
  {v : Value} {x : AV} (hx : V (upd ρ d (some w.heap.size)) (upd st.hp d (some b)) (w.alloc (.cells cs ty)) (Zf cf.Z0 cf.base (upd ρ d (some w.heap.size)) (upd st.hp d (some b)) (w.alloc (.cells cs ty))) v x) :
  StR cf ((st.setH d (some b)).set d x) (a.put (some d) v) (w.alloc (.cells cs ty)) := by
 have h1 := (h.alloc (Nat.lt_of_lt_of_le hdn cf.hn) hd b cs ty hsz hes hv hv0).1
 have hhp : (st.setH d (some b)).hp = upd st.hp d (some b) := by funext l; rfl
 exact ⟨_,h1.put (x := x) (by rw [hhp]; exact hx) (dst := some d) (fun k hk => by cases hk; exact hdn)⟩

theorem mem_ptr {d : Nat} {b : Blk} {cs : Array Value} {ty : TypeId} {Z : Nat → Prop} : V (upd ρ d (some w.heap.size)) (upd st.hp d (some b)) (w.alloc (.cells cs ty)) Z (.pointer (some ⟨w.heap.size,0,none⟩)) (.lptr d 0 0) := by
 have := V.lptr (ρ := upd ρ d (some w.heap.size)) (h := upd st.hp d (some b)) (w := w.alloc (.cells cs ty)) (Z := Z) d 0 0 w.heap.size b (by simp [upd]) (by simp [upd])
 simpa using this

theorem mem_sl {d len cap : Nat} {b : Blk} {cs : Array Value} {ty : TypeId} {Z : Nat → Prop} (hl : len ≤ b.elems.length) (hc : len ≤ cap) (hs : cap * b.es ≤ cs.size) (hm : len ≤ maxLen) :
  V (upd ρ d (some w.heap.size)) (upd st.hp d (some b)) (w.alloc (.cells cs ty)) Z (.slice (some ⟨w.heap.size,0,none⟩) len cap) (.lsl d 0 len) := by
 have hsh : (w.alloc (.cells cs ty)).shape? w.heap.size = some (ty,cs.size) := by
  unfold World.shape?; rw [heap_alloc_new]
 have := V.lsl (ρ := upd ρ d (some w.heap.size)) (h := upd st.hp d (some b)) (w := w.alloc (.cells cs ty)) (Z := Z) d 0 len cap w.heap.size b ty cs.size (by simp [upd]) (by simp [upd]) hsh hc (by simpa using hs) (by simpa using hl) hm
 simpa using this

theorem snd_alloc (h : StRρ cf ρ st a w) {own mu : List Nat} {tab : Tab} {o : Oper} {e : TypeId} (ho : o.op = .alloc e) {iop : IOp} (hc : cOp P own mu o.op = some iop) {st' : St} (he : eop tab st o.dst iop = some st') (hdn : ∀ d,o.dst = some d → d < cf.n) :
  Steps1 P cf o st' a w := by
 rw [ho] at hc
 simp only [cOp,Option.map_eq_some_iff] at hc
 obtain ⟨z,hz,rfl⟩ := hc
 obtain ⟨it,zv,hit,hzv,hcz⟩ := zeroT_inv hz
 simp only [eop] at he
 split at he
 ·rename_i d hd
  split at he
  ·rename_i hfree
   cases he
   have hfree' : st.hp d = none := by simpa using hfree
   have hcells := constAV_cells (w := w) (Z := Zf cf.Z0 cf.base ρ st.hp w) hcz
   refine .inl ⟨.pointer (some ⟨w.heap.size,0,none⟩),w.alloc (.cells zv.cells e),by simp [execOp,ho,Instr.alloc,zeroValue,typeInfo,hit,hzv,newVar,newRow],?_⟩
   rw [hd]
   refine newblk h (hdn d hd) hfree' _ _ _ (by simp [hcells.1]) (fun x hx => by simp at hx; subst hx; rfl) (fun i x j d v q1 q2 q3 => ?_) (fun hp => by cases hp) mem_ptr
   obtain ⟨rfl,rfl⟩ := single_get q1
   simp only [Nat.zero_mul,Nat.zero_add] at q3
   exact .pure (hcells.2 j v d q3 q2)
  ·cases he
 ·cases he

theorem snd_box (h : StRρ cf ρ st a w) {own mu : List Nat} {tab : Tab} {o : Oper} {e : TypeId} {x : Operand} (ho : o.op = .box e x) {iop : IOp} (hc : cOp P own mu o.op = some iop) {st' : St} (he : eop tab st o.dst iop = some st') (hdn : ∀ d,o.dst = some d → d < cf.n) :
  Steps1 P cf o st' a w := by
 rw [ho] at hc
 simp only [cOp,bind,Option.bind_eq_some_iff,pure,Option.some.injEq] at hc
 obtain ⟨es,hes,ox,hx,rfl⟩ := hc
 simp only [eop] at he
 split at he
 ·rename_i d hd
  split at he
  ·rename_i hb
   cases he
   have hfree' : st.hp d = none := by simpa using hb.1
   have hcells := (h.ev x ox hx).cells (laid_or (storable_laid hb.2.2))
   refine .inl ⟨.pointer (some ⟨w.heap.size,0,none⟩),w.alloc (.cells (a.eval x).cells e),by simp [execOp,ho,Instr.box,newVar,newRow],?_⟩
   rw [hd]
   refine newblk h (hdn d hd) hfree' _ _ _ (by simp [hcells.1,hb.2.1]) (fun y hy => by simp at hy; subst hy; exact hb.2.1) (fun i y j d v q1 q2 q3 => ?_) (fun hp => by cases hp) mem_ptr
   obtain ⟨rfl,rfl⟩ := single_get q1
   simp only [Nat.zero_mul,Nat.zero_add] at q3
   exact hcells.2 j v d q3 q2
  ·cases he
 ·cases he

def EL (w : World) (Z : Nat → Prop) (es : Nat) (cs : Array Value) (xs : List AV) : Prop :=
 xs.length * es ≤ cs.size ∧ (∀ x ∈ xs,x.cells.length = es) ∧ ∀ (i : Nat) x (j : Nat) d v,xs[i]? = some x → x.cells[j]? = some d → cs[i * es + j]? = some v → V0 w Z v d

theorem made_get {z : Array Value} {n k : Nat} {v : Value} (hz : 0 < z.size) (h : (madeCells z n)[k]? = some v) : z[k % z.size]? = some v := by
 have hk : k < n := by
  have := (Array.getElem?_eq_some_iff.1 h).1
  rw [size_madeCells] at this; exact this
 have hm := Nat.mod_lt k hz
 simp [madeCells,hk] at h
 rw [getElem!_pos z _ hm] at h
 rw [← h]; simp [hm]

theorem nzE_cells (x : AV) : (nzE x).cells = x.cells.map nz := by
 cases x <;> rfl
theorem constAV_cellsN {v : Value} {x : AV} {Z : Nat → Prop} (h : constAV v = some x) : v.cells.size = (nzE x).cells.length ∧ ∀ (j : Nat) c d,v.cells[j]? = some c → (nzE x).cells[j]? = some d → V0 w Z c d := by
 obtain ⟨h1,h2⟩ := constAV_cells (w := w) (Z := Z) h
 rw [nzE_cells]
 refine ⟨by simpa using h1,fun j c d q1 q2 => ?_⟩
 simp only [List.getElem?_map,Option.map_eq_some_iff] at q2
 obtain ⟨d',q2,rfl⟩ := q2
 have h0 := h2 j c d' q1 q2
 cases d' <;> first | exact h0 | skip
 cases h0; exact .slnil (.inl rfl)
theorem EL.madeN {Z : Nat → Prop} {z : Value} {x : AV} {es n m : Nat} (hz : constAV z = some x) (hes : x.cells.length = es) (hn : n ≤ m) : EL w Z es (madeCells z.cells (m * es)) (List.replicate n (nzE x)) := by
 have hc := constAV_cellsN (w := w) (Z := Z) hz
 have hes : (nzE x).cells.length = es := by rw [nzE_cells]; simpa using hes
 generalize nzE x = x at *
 refine ⟨by rw [size_madeCells]; simp; exact Nat.mul_le_mul_right _ hn,fun y hy => by rw [List.eq_of_mem_replicate hy]; exact hes,fun i y j d v q1 q2 q3 => ?_⟩
 have hy : y = x := List.eq_of_mem_replicate (List.mem_of_getElem? q1)
 subst hy
 have hj : j < es := by rw [← hes]; exact (List.getElem?_eq_some_iff.1 q2).1
 have hzs : z.cells.size = es := by rw [hc.1,hes]
 have := made_get (by rw [hzs]; omega) q3
 rw [hzs,Nat.add_comm,Nat.add_mul_mod_self_right,Nat.mod_eq_of_lt hj] at this
 exact hc.2 j v d this q2
theorem EL.made {Z : Nat → Prop} {z : Value} {x : AV} {es n m : Nat} (hz : constAV z = some x) (hes : x.cells.length = es) (hn : n ≤ m) : EL w Z es (madeCells z.cells (m * es)) (List.replicate n x) := by
 have hc := constAV_cells (w := w) (Z := Z) hz
 refine ⟨by rw [size_madeCells]; simp; exact Nat.mul_le_mul_right _ hn,fun y hy => by rw [List.eq_of_mem_replicate hy]; exact hes,fun i y j d v q1 q2 q3 => ?_⟩
 have hy : y = x := List.eq_of_mem_replicate (List.mem_of_getElem? q1)
 subst hy
 have hj : j < es := by rw [← hes]; exact (List.getElem?_eq_some_iff.1 q2).1
 have hzs : z.cells.size = es := by rw [hc.1,hes]
 have := made_get (by rw [hzs]; omega) q3
 rw [hzs,Nat.add_comm,Nat.add_mul_mod_self_right,Nat.mod_eq_of_lt hj] at this
 exact hc.2 j v d this q2

theorem snd_mkslice (h : StRρ cf ρ st a w) {own mu : List Nat} {tab : Tab} {o : Oper} {t : TypeId} {l c : Operand} (ho : o.op = .makeSlice t l c) {iop : IOp} (hc : cOp P own mu o.op = some iop) {st' : St} (he : eop tab st o.dst iop = some st') (hdn : ∀ d,o.dst = some d → d < cf.n) :
  Steps1 P cf o st' a w := by
 rw [ho] at hc
 simp only [cOp,bind,Option.bind_eq_some_iff,pure,Option.some.injEq] at hc
 obtain ⟨e,hel,es,hes,by0,hby,z,hz,ol,hl,oc,hcc,rfl⟩ := hc
 have hu := sliceT_inv hel
 obtain ⟨ti,hti,rfl⟩ := sizeT_some hes
 have hbt : ti.bytes = by0 := by
  unfold bytesT at hby; rw [hti] at hby; simpa using hby
 obtain ⟨it,zv,hit,hzv,hcz⟩ := zeroT_inv hz
 rw [hti] at hit; cases hit
 simp only [eop] at he
 have vl := h.ev l ol hl
 have vc := h.ev c oc hcc
 generalize ev st ol = al at *
 generalize ev st oc = ac at *
 split at he
 ·rename_i d kl lv kc cv hd
  split at he
  ·rename_i hb
   cases he
   obtain ⟨h1,h2,h3,h4,h5,h6,h7⟩ := hb
   have hfree' : st.hp d = none := by simpa using h1
   obtain ⟨e1,_⟩ := vl.int_inv
   obtain ⟨e2,_⟩ := vc.int_inv
   have hrun := run_make (P := P) w t e ti zv hu hti hzv kl kc lv cv h4 h5 (by rw [hbt,Int.mul_comm]; omega) (by omega)
   refine .inl ⟨_,_,by simp [execOp,ho,e1,e2,hrun]; exact ⟨rfl,rfl⟩,?_⟩
   rw [hd]
   have hEL := EL.madeN (w := w) (Z := Zf cf.Z0 cf.base ρ st.hp w) hcz h2 (show lv.toNat ≤ cv.toNat by omega)
   refine newblk h (hdn d hd) hfree' ⟨ti.size,true,_⟩ _ _ hEL.1 hEL.2.1 (fun i x j d v q1 q2 q3 => .pure (hEL.2.2 i x j d v q1 q2 q3)) (fun _ => hEL.2.2) (mem_sl (by simp) (by omega) (by rw [size_madeCells]; exact Nat.le_refl _) (by unfold maxLen; omega))
  ·cases he
 ·cases he

theorem EL.put {Z : Nat → Prop} {cs : Array Value} {xs : List AV} {es i : Nat} {v : Value} {x : AV} (hE : EL w Z es cs xs) (hv : V0 w Z v x) (hx : laid x = true) (hes : x.cells.length = es) (hi : i < xs.length) :
  v.cells.size = es ∧ i * es + v.cells.size ≤ cs.size ∧ EL w Z es (v.cells.zipIdx.foldl (fun cs (c,j) => cs.setIfInBounds (i * es + j) c) cs) (xs.set i x) := by
 have hc0 : v.cells.size = x.cells.length ∧ ∀ (j : Nat) c d,v.cells[j]? = some c → x.cells[j]? = some d → V0 w Z c d := by
  rcases laid_or hx with ho | ⟨ds,rfl⟩
  ·have e1 : v.cells = #[v] := by
    have := hv.one ho
    cases v <;> first | rfl | cases this
   have e2 : x.cells = [x] := by cases x <;> first | rfl | cases ho
   rw [e1,e2]
   refine ⟨rfl,fun j c d hc hd => ?_⟩
   cases j with
   | zero => simp at hc hd; subst hc; subst hd; exact hv
   | succ j => simp at hc
  ·cases hv with | agg vs _ hl hd => exact ⟨hl,hd⟩
 have hsz : v.cells.size = es := by rw [hc0.1,hes]
 have hfit : i * es + es ≤ cs.size := by
  have := Nat.mul_le_mul_right es (show i + 1 ≤ xs.length from hi)
  rw [Nat.add_mul,Nat.one_mul] at this
  have := hE.1; omega
 refine ⟨hsz,by omega,?_⟩
 obtain ⟨h1,h2⟩ := foldl_put (i * es) v.cells.toList 0 cs (by simp [hsz]; exact hfit)
 have e : v.cells.zipIdx.foldl (fun cs (c,j) => cs.setIfInBounds (i * es + j) c) cs = (v.cells.toList.zipIdx 0).foldl (fun (cs : Array Value) (x : Value × Nat) => cs.setIfInBounds (i * es + x.2) x.1) cs := by
  rw [← Array.foldl_toList,Array.toList_zipIdx]
 rw [e]
 refine ⟨by rw [h1]; simpa using hE.1,fun y hy => ?_,fun k y j d u q1 q2 q3 => ?_⟩
 ·rcases List.mem_or_eq_of_mem_set hy with hy | rfl
  ·exact hE.2.1 y hy
  ·exact hes
 ·rw [h2] at q3
  simp only [Nat.add_zero,Array.length_toList,hsz] at q3
  by_cases hk : k = i
  ·subst hk
   have hy : y = x := by
    rw [List.getElem?_set_self hi] at q1; simpa using q1.symm
   subst hy
   have hj : j < es := by rw [← hes]; exact (List.getElem?_eq_some_iff.1 q2).1
   rw [if_pos ⟨by omega,by omega⟩,Nat.add_sub_cancel_left] at q3
   exact hc0.2 j u d (by simpa using q3) q2
  ·rw [List.getElem?_set_ne (fun e => hk e.symm)] at q1
   have hj : j < es := by rw [← hE.2.1 y (List.mem_of_getElem? q1)]; exact (List.getElem?_eq_some_iff.1 q2).1
   have hout : ¬ (i * es ≤ k * es + j ∧ k * es + j < i * es + es) := by
    rcases Nat.lt_or_gt_of_ne hk with hlt | hgt
    ·have := idx_lt hlt hj
     omega
    ·have := Nat.mul_le_mul_right es (show i + 1 ≤ k from hgt)
     rw [Nat.add_mul,Nat.one_mul] at this
     omega
   rw [if_neg hout] at q3
   exact hE.2.2 k y j d u q1 q2 q3

theorem fillE_ok {h : Nat → Option Blk} {Z : Nat → Prop} {ev0 : Operand → Value} {es : Nat} (hev : ∀ x ox,cOpd x = some ox → V ρ h w Z (ev0 x) (ev st ox)) : ∀ (parts : List (Nat × Operand)) (ps : List (Nat × Opd)) (cs : Array Value) (xs xs' : List AV),
  partsS parts = some ps → EL w Z es cs xs → fillE st es xs ps = some xs' → ∃ cs',Instr.fill (fun i => some (i * es,es)) cs (parts.map fun (i,x) => (i,ev0 x)) = some cs' ∧ EL w Z es cs' xs' ∧ xs'.length = xs.length
 | [],ps,cs,xs,xs',hp,hE,hf => by
  cases hp; cases hf
  exact ⟨cs,rfl,hE,rfl⟩
 | (i,x) :: r,ps,cs,xs,xs',hp,hE,hf => by
  simp only [partsS] at hp
  split at hp
  ·rename_i ox r' h1 h2
   cases hp
   simp only [fillE] at hf
   split at hf
   ·rename_i hb
    have hv := (hev x ox h1).refless hb.2.1
    obtain ⟨g1,g2,g3⟩ := hE.put hv (storable_laid hb.2.2.1) hb.1 hb.2.2.2
    obtain ⟨cs',h4,h5,h6⟩ := fillE_ok hev r r' _ _ xs' h2 g3 hf
    refine ⟨cs',?_,h5,by rw [h6]; simp⟩
    simp only [List.map_cons,Instr.fill]
    rw [if_neg (by simp [g1]; rw [g1] at g2; omega)]
    exact h4
   ·cases hf
  ·cases hp

def ELV (ρ0 : Nat → Option Nat) (h0 : Nat → Option Blk) (w : World) (Z : Nat → Prop) (es : Nat) (cs : Array Value) (xs : List AV) : Prop :=
 xs.length * es ≤ cs.size ∧ (∀ x ∈ xs,x.cells.length = es) ∧ ∀ (i : Nat) x (j : Nat) d v,xs[i]? = some x → x.cells[j]? = some d → cs[i * es + j]? = some v → V ρ0 h0 w Z v d

theorem EL.v {ρ0 : Nat → Option Nat} {h0 : Nat → Option Blk} {Z : Nat → Prop} {es : Nat} {cs : Array Value} {xs : List AV} (h : EL w Z es cs xs) : ELV ρ0 h0 w Z es cs xs := ⟨h.1,h.2.1,fun i x j d v q1 q2 q3 => .pure (h.2.2 i x j d v q1 q2 q3)⟩
theorem ELV.put {ρ0 : Nat → Option Nat} {h0 : Nat → Option Blk} {Z : Nat → Prop} {cs : Array Value} {xs : List AV} {es i : Nat} {v : Value} {x : AV} (hE : ELV ρ0 h0 w Z es cs xs) (hv : V ρ0 h0 w Z v x) (hx : laid x = true) (hes : x.cells.length = es) (hi : i < xs.length) :
  v.cells.size = es ∧ i * es + v.cells.size ≤ cs.size ∧ ELV ρ0 h0 w Z es (v.cells.zipIdx.foldl (fun cs (c,j) => cs.setIfInBounds (i * es + j) c) cs) (xs.set i x) := by
 have hc0 : v.cells.size = x.cells.length ∧ ∀ (j : Nat) c d,v.cells[j]? = some c → x.cells[j]? = some d → V ρ0 h0 w Z c d := by
  rcases laid_or hx with ho | ⟨ds,rfl⟩
  ·have e1 : v.cells = #[v] := by
    have := hv.one ho
    cases v <;> first | rfl | cases this
   have e2 : x.cells = [x] := by cases x <;> first | rfl | cases ho
   rw [e1,e2]
   refine ⟨rfl,fun j c d hc hd => ?_⟩
   cases j with
   | zero => simp at hc hd; subst hc; subst hd; exact hv
   | succ j => simp at hc
  ·obtain ⟨vs,rfl,hl,hd⟩ := agg_inv hv; exact ⟨hl,hd⟩
 have hsz : v.cells.size = es := by rw [hc0.1,hes]
 have hfit : i * es + es ≤ cs.size := by
  have := Nat.mul_le_mul_right es (show i + 1 ≤ xs.length from hi)
  rw [Nat.add_mul,Nat.one_mul] at this
  have := hE.1; omega
 refine ⟨hsz,by omega,?_⟩
 obtain ⟨h1,h2⟩ := foldl_put (i * es) v.cells.toList 0 cs (by simp [hsz]; exact hfit)
 have e : v.cells.zipIdx.foldl (fun cs (c,j) => cs.setIfInBounds (i * es + j) c) cs = (v.cells.toList.zipIdx 0).foldl (fun (cs : Array Value) (x : Value × Nat) => cs.setIfInBounds (i * es + x.2) x.1) cs := by
  rw [← Array.foldl_toList,Array.toList_zipIdx]
 rw [e]
 refine ⟨by rw [h1]; simpa using hE.1,fun y hy => ?_,fun k y j d u q1 q2 q3 => ?_⟩
 ·rcases List.mem_or_eq_of_mem_set hy with hy | rfl
  ·exact hE.2.1 y hy
  ·exact hes
 ·rw [h2] at q3
  simp only [Nat.add_zero,Array.length_toList,hsz] at q3
  by_cases hk : k = i
  ·subst hk
   have hy : y = x := by
    rw [List.getElem?_set_self hi] at q1; simpa using q1.symm
   subst hy
   have hj : j < es := by rw [← hes]; exact (List.getElem?_eq_some_iff.1 q2).1
   rw [if_pos ⟨by omega,by omega⟩,Nat.add_sub_cancel_left] at q3
   exact hc0.2 j u d (by simpa using q3) q2
  ·rw [List.getElem?_set_ne (fun e => hk e.symm)] at q1
   have hj : j < es := by rw [← hE.2.1 y (List.mem_of_getElem? q1)]; exact (List.getElem?_eq_some_iff.1 q2).1
   have hout : ¬ (i * es ≤ k * es + j ∧ k * es + j < i * es + es) := by
    rcases Nat.lt_or_gt_of_ne hk with hlt | hgt
    ·have := idx_lt hlt hj
     omega
    ·have := Nat.mul_le_mul_right es (show i + 1 ≤ k from hgt)
     rw [Nat.add_mul,Nat.one_mul] at this
     omega
   rw [if_neg hout] at q3
   exact hE.2.2 k y j d u q1 q2 q3

theorem fillH_ok {ρ0 : Nat → Option Nat} {h0 : Nat → Option Blk} {Z : Nat → Prop} {ev0 : Operand → Value} {es : Nat} (hev : ∀ x ox,cOpd x = some ox → V ρ0 h0 w Z (ev0 x) (ev st ox)) : ∀ (parts : List (Nat × Operand)) (ps : List (Nat × Opd)) (cs : Array Value) (xs xs' : List AV),
  partsS parts = some ps → ELV ρ0 h0 w Z es cs xs → fillH st es xs ps = some xs' → ∃ cs',Instr.fill (fun i => some (i * es,es)) cs (parts.map fun (i,x) => (i,ev0 x)) = some cs' ∧ ELV ρ0 h0 w Z es cs' xs' ∧ xs'.length = xs.length
 | [],ps,cs,xs,xs',hp,hE,hf => by
  cases hp; cases hf
  exact ⟨cs,rfl,hE,rfl⟩
 | (i,x) :: r,ps,cs,xs,xs',hp,hE,hf => by
  simp only [partsS] at hp
  split at hp
  ·rename_i ox r' h1 h2
   cases hp
   simp only [fillH] at hf
   split at hf
   ·rename_i hb
    have hv := hev x ox h1
    obtain ⟨g1,g2,g3⟩ := hE.put hv (storable_laid hb.2.1) hb.1 hb.2.2
    obtain ⟨cs',h4,h5,h6⟩ := fillH_ok hev r r' _ _ xs' h2 g3 hf
    refine ⟨cs',?_,h5,by rw [h6]; simp⟩
    simp only [List.map_cons,Instr.fill]
    rw [if_neg (by simp [g1]; rw [g1] at g2; omega)]
    exact h4
   ·cases hf
  ·cases hp

theorem snd_bslice (h : StRρ cf ρ st a w) {own mu : List Nat} {tab : Tab} {o : Oper} {t : TypeId} {len : Nat} {parts : Array (Nat × Operand)} (ho : o.op = .buildSlice t len parts) {iop : IOp} (hc : cOp P own mu o.op = some iop) {st' : St} (he : eop tab st o.dst iop = some st') (hdn : ∀ d,o.dst = some d → d < cf.n) :
  Steps1 P cf o st' a w := by
 rw [ho] at hc
 simp only [cOp,bind,Option.bind_eq_some_iff] at hc
 obtain ⟨e,hel,es,hes,hc⟩ := hc
 split at hc
 ·rename_i hsmall
  simp only [Option.bind_eq_some_iff,pure,Option.some.injEq] at hc
  obtain ⟨z,hz,ps,hps,rfl⟩ := hc
  have hu := sliceT_inv hel
  obtain ⟨ti,hti,rfl⟩ := sizeT_some hes
  obtain ⟨it,zv,hit,hzv,hcz⟩ := zeroT_inv hz
  rw [hti] at hit; cases hit
  simp only [eop] at he
  split at he
  ·rename_i d hd
   split at he
   ·rename_i hb
    split at he
    ·rename_i xs hxs
     cases he
     have hfree' : st.hp d = none := by simpa using hb.1
     have hE0 := EL.made (w := w) (Z := Zf cf.Z0 cf.base ρ st.hp w) (n := len) (m := len) hcz hb.2.1 (Nat.le_refl _)
     obtain ⟨cs,h1,h2,h3⟩ := fillE_ok (ev0 := a.eval) h.ev parts.toList ps _ _ xs hps hE0 hxs
     refine .inl ⟨.slice (some ⟨w.heap.size,0,none⟩) len len,w.alloc (.cells cs e),?_,?_⟩
     ·have hns : ¬ (16777216 < len * ti.size) := by omega
      by_cases h0 : len * ti.size = 0
      ·have hmade : (Array.range (len * ti.size)).map (fun x => (#[] : Array Value)[x % (#[] : Array Value).size]!) = madeCells zv.cells (len * ti.size) := by simp [h0,madeCells]
       rw [← hmade] at h1
       simp [execOp,ho,Instr.buildSlice,run_underlying hu,run_size hti,hns,h0,newRow] at h1 ⊢
       simp [h1]
      ·simp [execOp,ho,Instr.buildSlice,run_underlying hu,run_size hti,hns,h0,zeroValue,typeInfo,hti,hzv,newRow]
       simp only [madeCells] at h1
       simp [h1]
     ·rw [hd]
      have hlen : xs.length = len := by rw [h3]; simp
      refine newblk h (hdn d hd) hfree' ⟨ti.size,true,xs⟩ _ _ h2.1 h2.2.1 (fun i x j d v q1 q2 q3 => .pure (h2.2.2 i x j d v q1 q2 q3)) (fun _ => h2.2.2) (mem_sl (by simp [hlen]) (Nat.le_refl _) (by rw [← hlen]; exact h2.1) (by unfold maxLen; omega))
    ·split at he
     ·rename_i xs hxs
      cases he
      have hfree' : st.hp d = none := by simpa using hb.1
      have hE0 : ELV ρ st.hp w (Zf cf.Z0 cf.base ρ st.hp w) ti.size _ (List.replicate len z) := (EL.made (w := w) (Z := Zf cf.Z0 cf.base ρ st.hp w) (n := len) (m := len) hcz hb.2.1 (Nat.le_refl _)).v
      obtain ⟨cs,h1,h2,h3⟩ := fillH_ok (ev0 := a.eval) h.ev parts.toList ps _ _ xs hps hE0 hxs
      refine .inl ⟨.slice (some ⟨w.heap.size,0,none⟩) len len,w.alloc (.cells cs e),?_,?_⟩
      ·have hns : ¬ (16777216 < len * ti.size) := by omega
       by_cases h0 : len * ti.size = 0
       ·have hmade : (Array.range (len * ti.size)).map (fun x => (#[] : Array Value)[x % (#[] : Array Value).size]!) = madeCells zv.cells (len * ti.size) := by simp [h0,madeCells]
        rw [← hmade] at h1
        simp [execOp,ho,Instr.buildSlice,run_underlying hu,run_size hti,hns,h0,newRow] at h1 ⊢
        simp [h1]
       ·simp [execOp,ho,Instr.buildSlice,run_underlying hu,run_size hti,hns,h0,zeroValue,typeInfo,hti,hzv,newRow]
        simp only [madeCells] at h1
        simp [h1]
      ·rw [hd]
       have hlen : xs.length = len := by rw [h3]; simp
       refine newblk h (hdn d hd) hfree' ⟨ti.size,false,xs⟩ _ _ h2.1 h2.2.1 h2.2.2 (fun hp => by cases hp) (mem_sl (by simp [hlen]) (Nat.le_refl _) (by rw [← hlen]; exact h2.1) (by unfold maxLen; omega))
     ·cases he
   ·cases he
  ·cases he
 ·cases hc
end
end Go.Ab

namespace Go.Ab
open Go.RowKit

section
variable {P : Program} {cf : Cfg} {ρ : Nat → Option Nat} {st : St} {a : Act} {w : World}

theorem one_of_V {h : Nat → Option Blk} {Z : Nat → Prop} {v : Value} {x : AV} (hv : V ρ h w Z v x) (hx : x.one = true) : v.oneCell' = true := by
 have := hv.one hx
 cases v <;> first | rfl | cases this

def Stored (y z v : AV) (off : Nat) : Prop :=
 z.cells.length = y.cells.length ∧ off + v.cells.length ≤ y.cells.length ∧ ∀ (j : Nat) d,z.cells[j]? = some d → if off ≤ j ∧ j < off + v.cells.length then v.cells[j - off]? = some d else y.cells[j]? = some d

theorem stored_cell {cs : List AV} {v : AV} {off : Nat} (e : v.cells = [v]) (hb : off < cs.length) : Stored (.agg cs) (.agg (cs.set off v)) v off := by
 unfold Stored
 rw [e]
 refine ⟨by show (cs.set off v).length = cs.length; simp,by show off + 1 ≤ cs.length; omega,fun j d hd => ?_⟩
 change (cs.set off v)[j]? = some d at hd
 by_cases hj : off = j
 ·subst hj
  rw [if_pos ⟨Nat.le_refl _,by simp⟩]
  rw [List.getElem?_set_self hb] at hd
  simpa using hd
 ·rw [if_neg (by simp; omega)]
  rw [List.getElem?_set_ne hj] at hd
  exact hd
theorem stored_one {y v : AV} (e : v.cells = [v]) (e2 : y.cells = [y]) : Stored y v v 0 := by
 unfold Stored
 rw [e,e2]
 refine ⟨rfl,by simp,fun j d hd => ?_⟩
 cases j with
 | zero => rw [if_pos (by simp)]; exact hd
 | succ j => simp at hd
theorem stored_agg {cs vs : List AV} {z : AV} {off : Nat} (h : storeC (.agg cs) off (.agg vs) = some z) : Stored (.agg cs) z (.agg vs) off := by
 unfold Stored
 simp only [storeC] at h
 split at h
 ·rename_i hb
  cases h
  refine ⟨hb.2,by show off + vs.length ≤ cs.length; omega,fun j d hd => ?_⟩
  have hj : j < vs.length := (List.getElem?_eq_some_iff.1 hd).1
  rw [if_pos ⟨by omega,by show j < off + vs.length; omega⟩,hb.1]
  exact hd
 ·split at h
  ·rename_i hb
   cases h
   have hl : (cs.take off).length = off := by simp; omega
   refine ⟨by show (cs.take off ++ vs ++ cs.drop (off + vs.length)).length = cs.length; simp; omega,hb,fun j d hd => ?_⟩
   change (cs.take off ++ vs ++ cs.drop (off + vs.length))[j]? = some d at hd
   show if off ≤ j ∧ j < off + vs.length then vs[j - off]? = some d else cs[j]? = some d
   by_cases hr : off ≤ j ∧ j < off + vs.length
   ·rw [if_pos hr]
    rw [List.append_assoc,List.getElem?_append_right (by omega),hl,List.getElem?_append_left (by omega)] at hd
    exact hd
   ·rw [if_neg hr]
    by_cases hlo : j < off
    ·rw [List.append_assoc,List.getElem?_append_left (by omega),List.getElem?_take_of_lt hlo] at hd
     exact hd
    ·rw [List.append_assoc,List.getElem?_append_right (by omega),List.getElem?_append_right (by omega),List.getElem?_drop,hl] at hd
     rw [show off + vs.length + (j - off - vs.length) = j by omega] at hd
     exact hd
  ·cases h
theorem storeC_inv {y z v : AV} {off : Nat} (h : storeC y off v = some z) : Stored y z v off := by
 cases v with
 | agg vs =>
  cases y with
  | agg cs => exact stored_agg h
  | _ => simp only [storeC] at h; cases h
 | _ =>
  cases y with
  | agg cs =>
   simp only [storeC] at h
   split at h
   ·rename_i hb; cases h; exact stored_cell rfl hb
   ·cases h
  | _ =>
   simp only [storeC] at h
   split at h
   ·rename_i h0; cases h; subst h0; exact stored_one rfl rfl
   ·cases h

theorem row_get {cur : Array Value} {vs : List Value} {p k : Nat} (hl : p + vs.length ≤ cur.size) :
  (cur.toList.take p ++ vs ++ cur.toList.drop (p + vs.length)).toArray[k]? = if p ≤ k ∧ k < p + vs.length then vs[k - p]? else cur[k]? := by
 have hlt : (cur.toList.take p).length = p := by simp; omega
 rw [List.getElem?_toArray]
 by_cases hr : p ≤ k ∧ k < p + vs.length
 ·rw [if_pos hr,List.append_assoc,List.getElem?_append_right (by omega),hlt,List.getElem?_append_left (by omega)]
 ·rw [if_neg hr]
  by_cases hlo : k < p
  ·rw [List.append_assoc,List.getElem?_append_left (by omega),List.getElem?_take_of_lt hlo]; simp
  ·rw [List.append_assoc,List.getElem?_append_right (by omega),List.getElem?_append_right (by omega),List.getElem?_drop,hlt]
   rw [show p + vs.length + (k - p - vs.length) = k by omega]; simp

theorem StRρ.write (h : StRρ cf ρ st a w) {l i B off : Nat} {b : Blk} {y z x : AV} {v : Value} (hb : st.hp l = some b) (hρ : ρ l = some B) (hy : b.elems[i]? = some y) (hv : V ρ st.hp w (Zf cf.Z0 cf.base ρ st.hp w) v x)
  (hs : storable x = true) (hp : b.pur = true → refless x = true) (hz : storeC y off x = some z) {cur : Array Value} {t : TypeId} (hcur : w.heap[B]? = some (.cells cur t (0,0))) :
  i * b.es + off + v.cells.size ≤ cur.size ∧
  StRρ cf ρ (st.setH l (some { b with elems := b.elems.set i z })) a (w.setRow B (cur.toList.take (i * b.es + off) ++ v.cells.toList ++ cur.toList.drop (i * b.es + off + v.cells.toList.length)).toArray) := by
 obtain ⟨c0,t0,hc0,hsz,hes,hcv,hc0v⟩ := h.hp.blk l b B hb hρ
 rw [hcur] at hc0
 cases hc0
 obtain ⟨hzl,hfit,hzg⟩ := storeC_inv hz
 have hcx := hv.cells (laid_or (storable_laid hs))
 have hi : i < b.elems.length := (List.getElem?_eq_some_iff.1 hy).1
 have hyl : y.cells.length = b.es := hes y (List.mem_of_getElem? hy)
 have hle : i * b.es + b.es ≤ cur.size := by
  have := Nat.mul_le_mul_right b.es (show i + 1 ≤ b.elems.length from hi)
  rw [Nat.add_mul,Nat.one_mul] at this
  omega
 have hroom : i * b.es + off + v.cells.size ≤ cur.size := by rw [hcx.1]; omega
 refine ⟨hroom,?_⟩
 have hrow : (cur.toList.take (i * b.es + off) ++ v.cells.toList ++ cur.toList.drop (i * b.es + off + v.cells.toList.length)).toArray.size = cur.size := by
  simp; omega
 have hget := fun k => row_get (cur := cur) (vs := v.cells.toList) (p := i * b.es + off) (k := k) (by simpa using hroom)
 generalize (cur.toList.take (i * b.es + off) ++ v.cells.toList ++ cur.toList.drop (i * b.es + off + v.cells.toList.length)).toArray = row at hrow hget
 have hhp : (st.setH l (some { b with elems := b.elems.set i z })).hp = upd st.hp l (some { b with elems := b.elems.set i z }) := by funext m; rfl
 have halive : ∀ m,(upd st.hp l (some { b with elems := b.elems.set i z }) m).isSome = (st.hp m).isSome := by
  intro m
  by_cases hm : l = m
  ·subst hm; simp [upd,hb]
  ·simp [upd,hm]
 have hother : ∀ k,k ≠ B → (w.setRow B row).heap[k]? = w.heap[k]? := fun k hk => setRow_other w B k row hk
 have hsame : (w.setRow B row).heap[B]? = some (.cells row t (0,0)) := setRow_heap w B cur row t _ hcur
 have hshape : ∀ k,(w.setRow B row).shape? k = w.shape? k := by
  intro k
  by_cases hk : k = B
  ·subst hk; simp [World.shape?,hsame,hcur,hrow]
  ·exact shape_heap (hother k hk)
 have hzone : ∀ k,Zf cf.Z0 cf.base ρ st.hp w k → Zf cf.Z0 cf.base ρ (upd st.hp l (some { b with elems := b.elems.set i z })) (w.setRow B row) k ∧ (w.setRow B row).heap[k]? = w.heap[k]? := by
  intro k hk
  have hkB : k ≠ B := by
   rintro rfl
   exact hk.2.2 l (by simp [hb]) hρ
  exact ⟨⟨hk.1,by simpa using hk.2.1,fun m hm => hk.2.2 m (by rw [← halive m]; exact hm)⟩,hother k hkB⟩
 have hnames : ∀ m b',st.hp m = some b' → ρ m = ρ m ∧ (∃ b'',upd st.hp l (some { b with elems := b.elems.set i z }) m = some b'' ∧ b''.es = b'.es ∧ b''.elems.length = b'.elems.length) ∧ ∀ B',ρ m = some B' → (w.setRow B row).shape? B' = w.shape? B' := by
  intro m b' hb'
  refine ⟨rfl,?_,fun B' _ => hshape B'⟩
  by_cases hm : l = m
  ·subst hm
   rw [hb] at hb'; cases hb'
   exact ⟨{ b with elems := b.elems.set i z },by simp [upd],rfl,by simp⟩
  ·exact ⟨b',by simp [upd,hm,hb'],rfl,rfl⟩
 have hmono : ∀ {u q},V ρ st.hp w (Zf cf.Z0 cf.base ρ st.hp w) u q → V ρ (upd st.hp l (some { b with elems := b.elems.set i z })) (w.setRow B row) (Zf cf.Z0 cf.base ρ (upd st.hp l (some { b with elems := b.elems.set i z })) (w.setRow B row)) u q :=
  fun hq => hq.mono hzone hnames
 have hx0 : b.pur = true → ∀ (j : Nat) c d,v.cells[j]? = some c → x.cells[j]? = some d → V0 w (Zf cf.Z0 cf.base ρ st.hp w) c d := by
  intro hpur j c d hc hd
  have hr := hp hpur
  refine (hcx.2 j c d hc hd).refless1 ?_
  cases x with
  | agg cs =>
   simp only [refless,List.all_eq_true] at hr
   exact hr d (List.mem_of_getElem? hd)
  | _ =>
   cases j with
   | zero => simp only [AV.cells,List.length_cons,List.length_nil,List.getElem?_cons_zero,Option.some.injEq] at hd; subst hd; exact hr
   | succ j => simp [AV.cells] at hd
 refine ⟨⟨fun m b' B' hb' hB' => ?_,fun m b' hb' hn => ?_,fun m m' B' h1 h2 h3 h4 => ?_⟩,fun t' => ?_,h.size,h.defers,?_,fun m B' hm hB' => ?_,h.z0,h.pin,fun k hk => (hshape k).trans (h.shp k hk)⟩
 ·rw [hhp] at hb' ⊢
  by_cases hm : l = m
  ·subst hm
   rw [hρ] at hB'; cases hB'
   simp only [upd,if_true] at hb'; cases hb'
   have cell : ∀ (k : Nat) q (j : Nat) d u,(b.elems.set i z)[k]? = some q → q.cells[j]? = some d → row[k * b.es + j]? = some u →
     (∃ j' : Nat,v.cells[j']? = some u ∧ x.cells[j']? = some d) ∨ (∃ q',b.elems[k]? = some q' ∧ q'.cells[j]? = some d ∧ cur[k * b.es + j]? = some u) := by
    intro k q j d u q1 q2 q3
    rw [hget] at q3
    simp only [Array.length_toList] at q3
    by_cases hk : k = i
    ·subst hk
     have hq : q = z := by rw [List.getElem?_set_self hi] at q1; simpa using q1.symm
     subst hq
     have := hzg j d q2
     by_cases hr : off ≤ j ∧ j < off + x.cells.length
     ·rw [if_pos hr] at this
      rw [if_pos ⟨by omega,by rw [hcx.1]; omega⟩] at q3
      refine .inl ⟨j - off,?_,this⟩
      rw [show k * b.es + j - (k * b.es + off) = j - off by omega] at q3
      simpa using q3
     ·rw [if_neg hr] at this
      rw [if_neg (by rw [hcx.1]; omega)] at q3
      exact .inr ⟨y,hy,this,q3⟩
    ·rw [List.getElem?_set_ne (fun e => hk e.symm)] at q1
     have hj : j < b.es := by rw [← hes q (List.mem_of_getElem? q1)]; exact (List.getElem?_eq_some_iff.1 q2).1
     have hout : ¬ (i * b.es + off ≤ k * b.es + j ∧ k * b.es + j < i * b.es + off + v.cells.size) := by
      rw [hcx.1]
      rcases Nat.lt_or_gt_of_ne hk with hlt | hgt
      ·have := idx_lt hlt hj
       omega
      ·have := Nat.mul_le_mul_right b.es (show i + 1 ≤ k from hgt)
       rw [Nat.add_mul,Nat.one_mul] at this
       omega
     rw [if_neg hout] at q3
     exact .inr ⟨q,q1,q2,q3⟩
   refine ⟨row,t,hsame,by rw [hrow]; simpa using hsz,fun q hq => ?_,fun k q j d u q1 q2 q3 => ?_,fun hpur k q j d u q1 q2 q3 => ?_⟩
   ·rcases List.mem_or_eq_of_mem_set hq with hq | rfl
    ·exact hes q hq
    ·rw [hzl,hyl]
   ·rcases cell k q j d u q1 q2 q3 with ⟨j',g1,g2⟩ | ⟨q',g1,g2,g3⟩
    ·exact hmono (hcx.2 j' u d g1 g2)
    ·exact hmono (hcv k q' j d u g1 g2 g3)
   ·rcases cell k q j d u q1 q2 q3 with ⟨j',g1,g2⟩ | ⟨q',g1,g2,g3⟩
    ·exact (hx0 hpur j' u d g1 g2).mono hzone
    ·exact (hc0v hpur k q' j d u g1 g2 g3).mono hzone
  ·simp only [upd,hm,if_false] at hb'
   have hBB : B' ≠ B := by
    rintro rfl
    exact hm (h.hp.inj l m B' (by simp [hb]) (by simp [hb']) hρ hB')
   obtain ⟨c,t',g1,g2,g3,g4,g5⟩ := h.hp.blk m b' B' hb' hB'
   exact ⟨c,t',by rw [hother B' hBB]; exact g1,g2,g3,fun k q j d u q1 q2 q3 => hmono (g4 k q j d u q1 q2 q3),fun hpur k q j d u q1 q2 q3 => (g5 hpur k q j d u q1 q2 q3).mono hzone⟩
 ·rw [hhp] at hb'
  by_cases hm : l = m
  ·subst hm; rw [hρ] at hn; cases hn
  ·simp only [upd,hm,if_false] at hb'
   exact h.hp.nil m b' hb' hn
 ·rw [hhp,halive] at h1 h2
  exact h.hp.inj m m' B' h1 h2 h3 h4
 ·rw [hhp]; exact hmono (h.tmp t')
 ·have f := h.fr
  refine ⟨f.os,f.tape,f.output,by have := f.size; simp; omega,f.base_le,fun k hk hm => ?_⟩
  have hkB : k ≠ B := by
   rintro rfl
   rcases h.own l k (by simp [hb]) hρ with hge | hM
   ·omega
   ·exact hm hM
  rw [hother k hkB]
  exact f.block k hk hm
 ·rw [hhp,halive] at hm
  exact h.own m B' hm hB'

theorem snd_store (h : StRρ cf ρ st a w) {own mu : List Nat} {tab : Tab} {o : Oper} {t : TypeId} {ad x : Operand} (ho : o.op = .store t ad x) {iop : IOp} (hc : cOp P own mu o.op = some iop) {st' : St} (he : eop tab st o.dst iop = some st') :
  Steps1 P cf o st' a w := by
 rw [ho] at hc
 simp only [cOp,bind,Option.bind_eq_some_iff,pure,Option.some.injEq] at hc
 obtain ⟨n,hn,oa,hoa,ox,hox,rfl⟩ := hc
 obtain ⟨ti,hti,rfl⟩ := sizeT_some hn
 simp only [eop] at he
 have va := h.ev ad oa hoa
 have vx := h.ev x ox hox
 generalize ev st oa = av at *
 generalize ev st ox = xv at *
 generalize e1 : a.eval ad = adv at va
 split at he
 ·rename_i hd
  split at he
  ·rename_i l i off
   split at he
   ·rename_i b hb
    split at he
    ·rename_i y hy
     split at he
     ·rename_i hcond
      split at he
      ·rename_i z hz
       cases he
       cases va with
       | pure h0 => cases h0
       | lptr _ _ _ B b' hρ hh =>
        rw [hb] at hh; cases hh
        obtain ⟨cur,t0,hcur,_⟩ := h.hp.blk l b B hb hρ
        obtain ⟨hroom,hst⟩ := h.write hb hρ hy vx hcond.1 hcond.2.2 hz hcur
        have hcx := vx.cells (laid_or (storable_laid hcond.1))
        have hone : ∀ u ∈ (a.eval x).cells.toList,u.oneCell' = true := by
         intro u hu
         obtain ⟨j,hj⟩ := List.mem_iff_getElem?.1 hu
         have hj' : (a.eval x).cells[j]? = some u := by simpa using hj
         have hjl : j < xv.cells.length := by rw [← hcx.1]; exact (Array.getElem?_eq_some_iff.1 hj').1
         refine one_of_V (hcx.2 j u xv.cells[j] hj' (by simp [hjl])) ?_
         have hs := hcond.1
         cases xv with
         | agg cs => simp only [storable,List.all_eq_true] at hs; exact hs _ (List.getElem_mem hjl)
         | _ =>
          have : j = 0 := by simp [AV.cells] at hjl; exact hjl
          subst this; exact hs
        have hrun := run_storeCells_at P B (i * b.es + off) t0 (a.eval x).cells.toList 0 cur w hcur (by simpa using hroom) hone
        simp only [Nat.add_zero] at hrun
        have hsize : ¬ ((a.eval x).cells.size ≠ ti.size) := by rw [hcx.1,hcond.2.1]; simp
        refine .inr (.inl ⟨_,?_,⟨ρ,by rw [hd]; exact hst⟩⟩)
        have hsz2 : (a.eval x).cells.size = ti.size := by rw [hcx.1,hcond.2.1]
        simp only [Array.length_toList] at hrun
        simp [execOp,ho,e1,Instr.storeAt,Instr.sureAddr,storeVar,run_size hti,hsz2,hrun]
      ·cases he
     ·cases he
    ·cases he
   ·cases he
  ·cases he
 ·cases he
end
end Go.Ab

namespace Go.Ab
open Go.RowKit

section
variable {P : Program} {cf : Cfg} {ρ : Nat → Option Nat} {st : St} {a : Act} {w : World}

theorem lk_map {α β : Type} (d : α) (e : β) (f : α → β) (hf : f d = e) : ∀ (l : List (Nat × α)) (t : Nat),lk e (l.map fun p => (p.1,f p.2)) t = f (lk d l t)
 | [],t => hf.symm
 | (k,v) :: r,t => by
  simp only [List.map_cons,lk]
  split
  ·rfl
  ·exact lk_map d e f hf r t

theorem get_purge (l : Nat) (env : List (Nat × AV)) (t : Nat) : lk .any (purge l env) t = if hasName l (lk .any env t) = true then .any else lk .any env t :=
 lk_map .any .any (fun x => if hasName l x = true then AV.any else x) rfl env t
theorem hp_purge (l : Nat) (h : List (Nat × Option Blk)) (m : Nat) : lk none (purgeH l h) m = (lk none h m).map (purgeB l) :=
 lk_map none none (fun x : Option Blk => x.map (purgeB l)) rfl h m

theorem V.but {l : Nat} {ρ ρ' : Nat → Option Nat} {h h' : Nat → Option Blk} {w w' : World} {Z Z' : Nat → Prop}
  (hw : ∀ b,Z b → Z' b ∧ w'.heap[b]? = w.heap[b]?)
  (hr : ∀ m b,m ≠ l → h m = some b → ρ' m = ρ m ∧ (∃ b',h' m = some b' ∧ b'.es = b.es ∧ b'.elems.length = b.elems.length) ∧ ∀ B,ρ m = some B → w'.shape? B = w.shape? B)
  {v : Value} {x : AV} (hv : V ρ h w Z v x) (hx : name1 l x = false) : V ρ' h' w' Z' v x := by
 cases hv with
 | pure hv => exact .pure (hv.mono hw)
 | agg => cases hx
 | tup => cases hx
 | fn f c1 c2 d1 d2 l1 l2 h1 h2 =>
  simp only [name1,Bool.not_eq_false',Bool.and_eq_true,List.isEmpty_iff] at hx
  obtain ⟨rfl,rfl⟩ := hx
  exact .fn f c1 c2 [] [] l1 l2 (fun i c d _ hd => by simp at hd) (fun i c d _ hd => by simp at hd)
 | lptr m i off B b hρ hh =>
  have hm : m ≠ l := by simpa [name1] using hx
  obtain ⟨e1,⟨b',hb',es',_⟩,_⟩ := hr m b hm hh
  rw [← es']
  exact .lptr m i off B b' (by rw [e1]; exact hρ) hb'
 | lsl m off len cap B b t n hρ hh hw' hc hn hl hm' =>
  have hm : m ≠ l := by simpa [name1] using hx
  obtain ⟨e1,⟨b',hb',es',el'⟩,e3⟩ := hr m b hm hh
  rw [← es'] at hn
  rw [← es']
  exact .lsl m off len cap B b' t n (by rw [e1]; exact hρ) hb' (by rw [e3 B hρ]; exact hw') hc hn (by rw [el']; exact hl) hm'
 | lnil m b hv hρ hh =>
  have hm : m ≠ l := by simpa [name1] using hx
  obtain ⟨e1,⟨b',hb',_⟩,_⟩ := hr m b hm hh
  exact .lnil m b' hv (by rw [e1]; exact hρ) hb'
theorem V.butE {l : Nat} {ρ ρ' : Nat → Option Nat} {h h' : Nat → Option Blk} {w w' : World} {Z Z' : Nat → Prop}
  (hw : ∀ b,Z b → Z' b ∧ w'.heap[b]? = w.heap[b]?)
  (hr : ∀ m b,m ≠ l → h m = some b → ρ' m = ρ m ∧ (∃ b',h' m = some b' ∧ b'.es = b.es ∧ b'.elems.length = b.elems.length) ∧ ∀ B,ρ m = some B → w'.shape? B = w.shape? B)
  {v : Value} {x : AV} (hv : V ρ h w Z v x) : V ρ' h' w' Z' v (if hasName l x = true then .any else x) := by
 by_cases hx : hasName l x = true
 ·rw [if_pos hx]; exact .pure (.any v)
 ·rw [if_neg hx]
  cases x with
  | agg cs =>
   obtain ⟨vs,rfl,hl,hd⟩ := agg_inv hv
   simp only [hasName,List.any_eq_true,not_exists,not_and] at hx
   exact .agg vs cs hl fun i c d hc hd' => (hd i c d hc hd').but hw hr (by simpa using hx d (List.mem_of_getElem? hd'))
  | tup cs =>
   obtain ⟨vs,rfl,hl,hd⟩ := tup_inv hv
   simp only [hasName,List.any_eq_true,not_exists,not_and] at hx
   exact .tup vs cs hl fun i c d hc hd' => (hd i c d hc hd').but hw hr (by simpa using hx d (List.mem_of_getElem? hd'))
  | fn f d1 d2 =>
   simp only [hasName,Bool.or_eq_true,List.any_eq_true,not_or,not_exists,not_and] at hx
   cases hv with
   | pure h0 => exact .pure (h0.mono hw)
   | fn f c1 c2 d1 d2 l1 l2 h1 h2 =>
    exact .fn f c1 c2 d1 d2 l1 l2 (fun i c d hc hd' => (h1 i c d hc hd').but hw hr (by simpa using hx.1 d (List.mem_of_getElem? hd')))
     (fun i c d hc hd' => (h2 i c d hc hd').but hw hr (by simpa using hx.2 d (List.mem_of_getElem? hd')))
  | _ => exact hv.but hw hr (by simpa [hasName] using hx)

theorem purgeE_cells (l : Nat) (x : AV) : (purgeE l x).cells.length = x.cells.length ∧ ∀ (j : Nat) d,(purgeE l x).cells[j]? = some d → ∃ d',x.cells[j]? = some d' ∧ d = if name1 l d' = true then .any else d' := by
 cases x with
 | agg cs =>
  refine ⟨by show (cs.map _).length = cs.length; simp,fun j d hd => ?_⟩
  change (cs.map fun c => if name1 l c = true then AV.any else c)[j]? = some d at hd
  simp only [List.getElem?_map,Option.map_eq_some_iff] at hd
  obtain ⟨d',h1,h2⟩ := hd
  exact ⟨d',h1,h2.symm⟩
 | _ =>
  simp only [purgeE]
  split
  ·rename_i hn
   refine ⟨rfl,fun j d hd => ?_⟩
   cases j with
   | zero => simp [AV.cells] at hd; subst hd; exact ⟨_,rfl,by rw [if_pos hn]⟩
   | succ j => simp [AV.cells] at hd
  ·rename_i hn
   refine ⟨rfl,fun j d hd => ?_⟩
   cases j with
   | zero => simp [AV.cells] at hd; subst hd; exact ⟨_,rfl,by rw [if_neg hn]⟩
   | succ j => simp [AV.cells] at hd

theorem StRρ.change (h : StRρ cf ρ st a w) {l : Nat} {b b' : Blk} (hb : st.hp l = some b) {r : Option Nat} {w' : World}
  (hsize : w.heap.size ≤ w'.heap.size) (hos : w'.os = w.os) (htape : w'.tape = w.tape) (hout : w'.output = w.output)
  (hlp : l < 1000000) (hshp : ∀ k,k < w.heap.size → w'.shape? k = w.shape? k) (hheap : ∀ k,k < w.heap.size → ρ l ≠ some k → w'.heap[k]? = w.heap[k]?)
  (hr : ∀ B,r = some B → (ρ l = some B ∨ w.heap.size ≤ B) ∧ B < w'.heap.size)
  (hnew : ∀ B,r = some B → ∃ c t,w'.heap[B]? = some (.cells c t (0,0)) ∧ b'.elems.length * b'.es ≤ c.size ∧ (∀ x ∈ b'.elems,x.cells.length = b'.es) ∧
   ∀ (i : Nat) x (j : Nat) d v,b'.elems[i]? = some x → x.cells[j]? = some d → c[i * b'.es + j]? = some v → V0 w (Zf cf.Z0 cf.base ρ st.hp w) v d)
  (hnil : r = none → b'.elems = []) :
  StRρ cf (upd ρ l r) ⟨purge l st.env,(l,some b') :: purgeH l st.heap⟩ a w' := by
 let st' : St := ⟨purge l st.env,(l,some b') :: purgeH l st.heap⟩
 have hhp : st'.hp = upd (fun m => (st.hp m).map (purgeB l)) l (some b') := by
  funext m
  show (if l = m then some b' else lk none (purgeH l st.heap) m) = _
  rw [hp_purge]; rfl
 show StRρ cf (upd ρ l r) st' a w'
 have halive : ∀ m,(st'.hp m).isSome = true → (st.hp m).isSome = true := by
  intro m hm
  rw [hhp] at hm
  by_cases hlm : l = m
  ·subst hlm; simp [hb]
  ·simpa [upd,hlm] using hm
 have hlt : ∀ m B,(st.hp m).isSome = true → ρ m = some B → B < w.heap.size := by
  intro m B hm hB
  obtain ⟨b0,hb0⟩ := Option.isSome_iff_exists.1 hm
  obtain ⟨c,t,hc,_⟩ := h.hp.blk m b0 B hb0 hB
  exact (Array.getElem?_eq_some_iff.1 hc).1
 have hzone : ∀ k,Zf cf.Z0 cf.base ρ st.hp w k → Zf cf.Z0 cf.base (upd ρ l r) st'.hp w' k ∧ w'.heap[k]? = w.heap[k]? := by
  intro k hk
  have hkl : ρ l ≠ some k := hk.2.2 l (by simp [hb])
  refine ⟨⟨hk.1,by have := hk.2.1; omega,fun m hm he => ?_⟩,hheap k hk.2.1 hkl⟩
  by_cases hlm : l = m
  ·subst hlm
   simp only [upd,if_true] at he
   rcases (hr k he).1 with h1 | h1
   ·exact hkl h1
   ·have := hk.2.1; omega
  ·simp only [upd,hlm,if_false] at he
   exact hk.2.2 m (halive m hm) he
 have hnames : ∀ m b0,m ≠ l → st.hp m = some b0 → upd ρ l r m = ρ m ∧ (∃ b'',st'.hp m = some b'' ∧ b''.es = b0.es ∧ b''.elems.length = b0.elems.length) ∧ ∀ B,ρ m = some B → w'.shape? B = w.shape? B := by
  intro m b0 hm hb0
  refine ⟨by simp [upd,Ne.symm hm],⟨purgeB l b0,by rw [hhp]; simp [upd,Ne.symm hm,hb0],by unfold purgeB; split <;> rfl,by unfold purgeB; split <;> simp⟩,fun B hB => ?_⟩
  refine shape_heap (hheap B (hlt m B (by simp [hb0]) hB) fun e => hm ?_)
  exact (h.hp.inj m l B (by simp [hb0]) (by simp [hb]) hB e)
 refine ⟨⟨fun m b0 B hb0 hB => ?_,fun m b0 hb0 hn => ?_,fun m m' B h1 h2 h3 h4 => ?_⟩,fun t => ?_,h.size,h.defers,?_,fun m B hm hB => ?_,h.z0,fun m hm => by rw [← h.pin m hm]; simp only [upd]; rw [if_neg (by have := hm.1; omega)],fun k hk => (hshp k (by have := h.fr.size; have := h.fr.base_le; omega)).trans (h.shp k hk)⟩
 ·rw [hhp] at hb0
  by_cases hlm : l = m
  ·subst hlm
   simp only [upd,if_true] at hb0 hB; cases hb0
   obtain ⟨c,t,g1,g2,g3,g4⟩ := hnew B hB
   exact ⟨c,t,g1,g2,g3,fun i x j d v q1 q2 q3 => .pure ((g4 i x j d v q1 q2 q3).mono hzone),fun _ i x j d v q1 q2 q3 => (g4 i x j d v q1 q2 q3).mono hzone⟩
  ·simp only [upd,hlm,if_false] at hb0 hB
   cases hbm : st.hp m with
   | none => rw [hbm] at hb0; cases hb0
   | some b1 =>
    rw [hbm] at hb0; cases hb0
    obtain ⟨c,t,g1,g2,g3,g4,g5⟩ := h.hp.blk m b1 B hbm hB
    have hheapB : w'.heap[B]? = w.heap[B]? := hheap B (hlt m B (by simp [hbm]) hB) fun e => hlm (h.hp.inj m l B (by simp [hbm]) (by simp [hb]) hB e).symm
    unfold purgeB
    by_cases hpur : b1.pur = true
    ·rw [if_pos hpur]
     have g6 := g5 hpur
     exact ⟨c,t,by rw [hheapB]; exact g1,g2,g3,fun i x j d v q1 q2 q3 => .pure ((g6 i x j d v q1 q2 q3).mono hzone),fun _ i x j d v q1 q2 q3 => (g6 i x j d v q1 q2 q3).mono hzone⟩
    ·rw [if_neg hpur]
     refine ⟨c,t,by rw [hheapB]; exact g1,by simpa using g2,fun x hx => ?_,fun i x j d v q1 q2 q3 => ?_,fun hp => absurd hp hpur⟩
     ·simp only [List.mem_map] at hx
      obtain ⟨y,hy,rfl⟩ := hx
      rw [(purgeE_cells l y).1]; exact g3 y hy
     ·simp only [List.getElem?_map,Option.map_eq_some_iff] at q1
      obtain ⟨y,hy,rfl⟩ := q1
      obtain ⟨d',hd',rfl⟩ := (purgeE_cells l y).2 j d q2
      have g7 := g4 i y j d' v hy hd' q3
      by_cases hn : name1 l d' = true
      ·rw [if_pos hn]; exact .pure (.any v)
      ·rw [if_neg hn]; exact g7.but hzone hnames (by simpa using hn)
 ·rw [hhp] at hb0
  by_cases hlm : l = m
  ·subst hlm
   simp only [upd,if_true] at hb0 hn; cases hb0
   exact hnil hn
  ·simp only [upd,hlm,if_false] at hb0 hn
   cases hbm : st.hp m with
   | none => rw [hbm] at hb0; cases hb0
   | some b1 =>
    rw [hbm] at hb0; cases hb0
    have := h.hp.nil m b1 hbm hn
    unfold purgeB; split
    ·exact this
    ·simp [this]
 ·have a1 := halive m h1
  have a2 := halive m' h2
  by_cases hlm : l = m
  ·subst hlm
   by_cases hlm' : l = m'
   ·exact hlm'
   ·simp only [upd,if_true] at h3
    simp only [upd,hlm',if_false] at h4
    rcases (hr B h3).1 with h5 | h5
    ·exact h.hp.inj l m' B a1 a2 h5 h4
    ·have := hlt m' B a2 h4; omega
  ·by_cases hlm' : l = m'
   ·subst hlm'
    simp only [upd,if_true] at h4
    simp only [upd,hlm,if_false] at h3
    rcases (hr B h4).1 with h5 | h5
    ·exact h.hp.inj m l B a1 a2 h3 h5
    ·have := hlt m B a1 h3; omega
   ·simp only [upd,hlm,hlm',if_false] at h3 h4
    exact h.hp.inj m m' B a1 a2 h3 h4
 ·show V _ st'.hp w' _ _ (lk .any (purge l st.env) t)
  rw [get_purge]
  exact (h.tmp t).butE hzone hnames
 ·have f := h.fr
  refine ⟨hos.trans f.os,htape.trans f.tape,hout.trans f.output,Nat.le_trans f.size hsize,f.base_le,fun k hk hm => ?_⟩
  rw [hheap k (by have := f.size; have := f.base_le; omega) fun e => ?_]
  ·exact f.block k hk hm
  ·rcases h.own l k (by simp [hb]) e with h1 | h1
   ·omega
   ·exact hm h1
 ·have a1 := halive m hm
  by_cases hlm : l = m
  ·subst hlm
   simp only [upd,if_true] at hB
   rcases (hr B hB).1 with h5 | h5
   ·exact h.own l B a1 h5
   ·have := h.fr.size; have := h.fr.base_le
    exact .inl (by omega)
  ·simp only [upd,hlm,if_false] at hB
   exact h.own m B a1 hB
theorem StRρ.changeV (h : StRρ cf ρ st a w) {l : Nat} {b b' : Blk} (hb : st.hp l = some b) {r : Option Nat} {w' : World}
  (hsize : w.heap.size ≤ w'.heap.size) (hos : w'.os = w.os) (htape : w'.tape = w.tape) (hout : w'.output = w.output)
  (hlp : l < 1000000) (hshp : ∀ k,k < w.heap.size → w'.shape? k = w.shape? k) (hheap : ∀ k,k < w.heap.size → ρ l ≠ some k → w'.heap[k]? = w.heap[k]?)
  (hr : ∀ B,r = some B → (ρ l = some B ∨ w.heap.size ≤ B) ∧ B < w'.heap.size)
  (hnew : ∀ B,r = some B → ∃ c t,w'.heap[B]? = some (.cells c t (0,0)) ∧ b'.elems.length * b'.es ≤ c.size ∧ (∀ x ∈ b'.elems,x.cells.length = b'.es) ∧
   ∀ (i : Nat) x (j : Nat) d v,b'.elems[i]? = some x → x.cells[j]? = some d → c[i * b'.es + j]? = some v → V ρ st.hp w (Zf cf.Z0 cf.base ρ st.hp w) v d ∧ name1 l d = false)
  (hnil : r = none → b'.elems = []) (hpb : b'.pur = false) :
  StRρ cf (upd ρ l r) ⟨purge l st.env,(l,some b') :: purgeH l st.heap⟩ a w' := by
 let st' : St := ⟨purge l st.env,(l,some b') :: purgeH l st.heap⟩
 have hhp : st'.hp = upd (fun m => (st.hp m).map (purgeB l)) l (some b') := by
  funext m
  show (if l = m then some b' else lk none (purgeH l st.heap) m) = _
  rw [hp_purge]; rfl
 show StRρ cf (upd ρ l r) st' a w'
 have halive : ∀ m,(st'.hp m).isSome = true → (st.hp m).isSome = true := by
  intro m hm
  rw [hhp] at hm
  by_cases hlm : l = m
  ·subst hlm; simp [hb]
  ·simpa [upd,hlm] using hm
 have hlt : ∀ m B,(st.hp m).isSome = true → ρ m = some B → B < w.heap.size := by
  intro m B hm hB
  obtain ⟨b0,hb0⟩ := Option.isSome_iff_exists.1 hm
  obtain ⟨c,t,hc,_⟩ := h.hp.blk m b0 B hb0 hB
  exact (Array.getElem?_eq_some_iff.1 hc).1
 have hzone : ∀ k,Zf cf.Z0 cf.base ρ st.hp w k → Zf cf.Z0 cf.base (upd ρ l r) st'.hp w' k ∧ w'.heap[k]? = w.heap[k]? := by
  intro k hk
  have hkl : ρ l ≠ some k := hk.2.2 l (by simp [hb])
  refine ⟨⟨hk.1,by have := hk.2.1; omega,fun m hm he => ?_⟩,hheap k hk.2.1 hkl⟩
  by_cases hlm : l = m
  ·subst hlm
   simp only [upd,if_true] at he
   rcases (hr k he).1 with h1 | h1
   ·exact hkl h1
   ·have := hk.2.1; omega
  ·simp only [upd,hlm,if_false] at he
   exact hk.2.2 m (halive m hm) he
 have hnames : ∀ m b0,m ≠ l → st.hp m = some b0 → upd ρ l r m = ρ m ∧ (∃ b'',st'.hp m = some b'' ∧ b''.es = b0.es ∧ b''.elems.length = b0.elems.length) ∧ ∀ B,ρ m = some B → w'.shape? B = w.shape? B := by
  intro m b0 hm hb0
  refine ⟨by simp [upd,Ne.symm hm],⟨purgeB l b0,by rw [hhp]; simp [upd,Ne.symm hm,hb0],by unfold purgeB; split <;> rfl,by unfold purgeB; split <;> simp⟩,fun B hB => ?_⟩
  refine shape_heap (hheap B (hlt m B (by simp [hb0]) hB) fun e => hm ?_)
  exact (h.hp.inj m l B (by simp [hb0]) (by simp [hb]) hB e)
 refine ⟨⟨fun m b0 B hb0 hB => ?_,fun m b0 hb0 hn => ?_,fun m m' B h1 h2 h3 h4 => ?_⟩,fun t => ?_,h.size,h.defers,?_,fun m B hm hB => ?_,h.z0,fun m hm => by rw [← h.pin m hm]; simp only [upd]; rw [if_neg (by have := hm.1; omega)],fun k hk => (hshp k (by have := h.fr.size; have := h.fr.base_le; omega)).trans (h.shp k hk)⟩
 ·rw [hhp] at hb0
  by_cases hlm : l = m
  ·subst hlm
   simp only [upd,if_true] at hb0 hB; cases hb0
   obtain ⟨c,t,g1,g2,g3,g4⟩ := hnew B hB
   exact ⟨c,t,g1,g2,g3,fun i x j d v q1 q2 q3 => (g4 i x j d v q1 q2 q3).1.but hzone hnames (g4 i x j d v q1 q2 q3).2,fun hp => by rw [hpb] at hp; cases hp⟩
  ·simp only [upd,hlm,if_false] at hb0 hB
   cases hbm : st.hp m with
   | none => rw [hbm] at hb0; cases hb0
   | some b1 =>
    rw [hbm] at hb0; cases hb0
    obtain ⟨c,t,g1,g2,g3,g4,g5⟩ := h.hp.blk m b1 B hbm hB
    have hheapB : w'.heap[B]? = w.heap[B]? := hheap B (hlt m B (by simp [hbm]) hB) fun e => hlm (h.hp.inj m l B (by simp [hbm]) (by simp [hb]) hB e).symm
    unfold purgeB
    by_cases hpur : b1.pur = true
    ·rw [if_pos hpur]
     have g6 := g5 hpur
     exact ⟨c,t,by rw [hheapB]; exact g1,g2,g3,fun i x j d v q1 q2 q3 => .pure ((g6 i x j d v q1 q2 q3).mono hzone),fun _ i x j d v q1 q2 q3 => (g6 i x j d v q1 q2 q3).mono hzone⟩
    ·rw [if_neg hpur]
     refine ⟨c,t,by rw [hheapB]; exact g1,by simpa using g2,fun x hx => ?_,fun i x j d v q1 q2 q3 => ?_,fun hp => absurd hp hpur⟩
     ·simp only [List.mem_map] at hx
      obtain ⟨y,hy,rfl⟩ := hx
      rw [(purgeE_cells l y).1]; exact g3 y hy
     ·simp only [List.getElem?_map,Option.map_eq_some_iff] at q1
      obtain ⟨y,hy,rfl⟩ := q1
      obtain ⟨d',hd',rfl⟩ := (purgeE_cells l y).2 j d q2
      have g7 := g4 i y j d' v hy hd' q3
      by_cases hn : name1 l d' = true
      ·rw [if_pos hn]; exact .pure (.any v)
      ·rw [if_neg hn]; exact g7.but hzone hnames (by simpa using hn)
 ·rw [hhp] at hb0
  by_cases hlm : l = m
  ·subst hlm
   simp only [upd,if_true] at hb0 hn; cases hb0
   exact hnil hn
  ·simp only [upd,hlm,if_false] at hb0 hn
   cases hbm : st.hp m with
   | none => rw [hbm] at hb0; cases hb0
   | some b1 =>
    rw [hbm] at hb0; cases hb0
    have := h.hp.nil m b1 hbm hn
    unfold purgeB; split
    ·exact this
    ·simp [this]
 ·have a1 := halive m h1
  have a2 := halive m' h2
  by_cases hlm : l = m
  ·subst hlm
   by_cases hlm' : l = m'
   ·exact hlm'
   ·simp only [upd,if_true] at h3
    simp only [upd,hlm',if_false] at h4
    rcases (hr B h3).1 with h5 | h5
    ·exact h.hp.inj l m' B a1 a2 h5 h4
    ·have := hlt m' B a2 h4; omega
  ·by_cases hlm' : l = m'
   ·subst hlm'
    simp only [upd,if_true] at h4
    simp only [upd,hlm,if_false] at h3
    rcases (hr B h4).1 with h5 | h5
    ·exact h.hp.inj m l B a1 a2 h3 h5
    ·have := hlt m B a1 h3; omega
   ·simp only [upd,hlm,hlm',if_false] at h3 h4
    exact h.hp.inj m m' B a1 a2 h3 h4
 ·show V _ st'.hp w' _ _ (lk .any (purge l st.env) t)
  rw [get_purge]
  exact (h.tmp t).butE hzone hnames
 ·have f := h.fr
  refine ⟨hos.trans f.os,htape.trans f.tape,hout.trans f.output,Nat.le_trans f.size hsize,f.base_le,fun k hk hm => ?_⟩
  rw [hheap k (by have := f.size; have := f.base_le; omega) fun e => ?_]
  ·exact f.block k hk hm
  ·rcases h.own l k (by simp [hb]) e with h1 | h1
   ·omega
   ·exact hm h1
 ·have a1 := halive m hm
  by_cases hlm : l = m
  ·subst hlm
   simp only [upd,if_true] at hB
   rcases (hr B hB).1 with h5 | h5
   ·exact h.own l B a1 h5
   ·have := h.fr.size; have := h.fr.base_le
    exact .inl (by omega)
  ·simp only [upd,hlm,if_false] at hB
   exact h.own m B a1 hB
end
end Go.Ab

namespace Go.Ab
open Go.RowKit

section
variable {P : Program} {cf : Cfg} {ρ : Nat → Option Nat} {st : St} {a : Act} {w : World}

def News (P : Program) (w : World) (Z : Nat → Prop) (es : Nat) (u : Value) (ys : List AV) (news : List Value) : Prop :=
 news.length = ys.length * es ∧ (∀ w',(Builtin.lenOf u).run P w' = .ok ys.length w') ∧ (∀ w' : World,w'.heap = w.heap → (Builtin.firstCells es ys.length u).run P w' = .ok news.toArray w') ∧
 (∀ v ∈ news,v.oneCell' = true) ∧ ∀ (i : Nat) x (j : Nat) d v,ys[i]? = some x → x.cells[j]? = some d → news[i * es + j]? = some v → V0 w Z v d

theorem V0.one' {Z : Nat → Prop} {v : Value} {x : AV} (hv : V0 w Z v x) (hx : x.one = true) : v.oneCell' = true := by
 have := hv.one hx
 cases v <;> first | rfl | cases this
theorem storable_cell {x d : AV} {j : Nat} (hx : storable x = true) (hd : x.cells[j]? = some d) : d.one = true := by
 cases x with
 | agg cs => simp only [storable,List.all_eq_true] at hx; exact hx d (List.mem_of_getElem? hd)
 | _ =>
  cases j with
  | zero => simp [AV.cells] at hd; subst hd; exact hx
  | succ j => simp [AV.cells] at hd

theorem news_cells {Z : Nat → Prop} {B o es cap : Nat} {ys : List AV} (hes : ∀ x ∈ ys,x.cells.length = es ∧ storable x = true)
  (hc : ∀ (i : Nat) x,ys[i]? = some x → ∀ (j : Nat) d,x.cells[j]? = some d → ∃ c,w.cell? ⟨B,o + i * es + j,none⟩ = some c ∧ V0 w Z c d) :
  ∃ news,News P w Z es (.slice (some ⟨B,o,none⟩) ys.length cap) ys news := by
 have cell : ∀ k,k < ys.length * es → ∃ c x d,ys[k / es]? = some x ∧ x.cells[k % es]? = some d ∧ w.cell? ⟨B,o + k,none⟩ = some c ∧ V0 w Z c d := by
  intro k hk
  have hpos : 0 < es := by
   rcases Nat.eq_zero_or_pos es with h0 | h0
   ·rw [h0] at hk; simp at hk
   ·exact h0
  have hi : k / es < ys.length := (Nat.div_lt_iff_lt_mul hpos).2 hk
  have hj : k % es < es := Nat.mod_lt _ hpos
  have hx : ys[k / es]? = some ys[k / es] := by simp [hi]
  have hl := (hes _ (List.mem_of_getElem? hx)).1
  have hd : ys[k / es].cells[k % es]? = some (ys[k / es].cells[k % es]'(by omega)) := by simp [hl,hj]
  obtain ⟨c,h1,h2⟩ := hc _ _ hx _ _ hd
  refine ⟨c,_,_,hx,hd,?_,h2⟩
  have : o + k / es * es + k % es = o + k := by
   have := Nat.div_add_mod k es
   rw [Nat.mul_comm] at this; omega
  rw [this] at h1; exact h1
 let f : Nat → Value := fun k => (w.cell? ⟨B,o + k,none⟩).getD undef
 have hf : ∀ k,k < ys.length * es → w.cell? ⟨B,o + k,none⟩ = some (f k) := by
  intro k hk
  obtain ⟨c,_,_,_,_,h1,_⟩ := cell k hk
  simp [f,h1]
 refine ⟨(List.range (ys.length * es)).map f,by simp,fun w' => rfl,fun w' hw' => ?_,fun v hv => ?_,fun i x j d v q1 q2 q3 => ?_⟩
 ·refine run_firstCells_some w' es ys.length ⟨B,o,none⟩ ys.length cap _ (by simp) fun j v hj => ?_
  have hjl : j < ys.length * es := by
   have := (List.getElem?_eq_some_iff.1 hj).1
   simpa using this
  rw [addr_add]
  have : w'.cell? ⟨B,o + j,none⟩ = w.cell? ⟨B,o + j,none⟩ := by simp [World.cell?,hw']
  rw [this,hf j hjl]
  simpa [hjl] using hj
 ·simp only [List.mem_map,List.mem_range] at hv
  obtain ⟨k,hk,rfl⟩ := hv
  obtain ⟨c,x,d,h1,h2,h3,h4⟩ := cell k hk
  rw [hf k hk] at h3; cases h3
  exact h4.one' (storable_cell (hes x (List.mem_of_getElem? h1)).2 h2)
 ·obtain ⟨c,h1,h2⟩ := hc i x q1 j d q2
  have hi : i < ys.length := (List.getElem?_eq_some_iff.1 q1).1
  have hj : j < es := by rw [← (hes x (List.mem_of_getElem? q1)).1]; exact (List.getElem?_eq_some_iff.1 q2).1
  have hk := idx_lt hi hj
  rw [Nat.add_assoc,hf _ hk] at h1; cases h1
  have : v = f (i * es + j) := by simpa [hk] using q3.symm
  rw [this]; exact h2

theorem elems_ok (h : StRρ cf ρ st a w) {u : Value} {y : AV} {ys : List AV} {es : Nat} (hv : V ρ st.hp w (Zf cf.Z0 cf.base ρ st.hp w) u y) (he : elemsOf st.hp y = some ys) (hes : ∀ x ∈ ys,x.cells.length = es ∧ storable x = true) :
  ∃ news,News P w (Zf cf.Z0 cf.base ρ st.hp w) es u ys news := by
 have empty : ∀ {es' : Nat},News P w (Zf cf.Z0 cf.base ρ st.hp w) es' (.slice none 0 0) [] [] := by
  intro es'
  exact ⟨by simp,fun w' => rfl,fun w' _ => run_firstCells_none w' _ _ _ _,fun v hv => (by cases hv),fun i x j d v q1 => (by simp at q1)⟩
 have empty0 : ∀ {es' : Nat} {u : Value},Nil0 u → News P w (Zf cf.Z0 cf.base ρ st.hp w) es' u [] [] := by
  rintro es' u (rfl | ⟨a,rfl⟩)
  ·exact empty
  ·exact ⟨by simp,fun w' => rfl,fun w' _ => run_firstCells_some w' es' 0 a 0 0 [] (by simp) (fun j v hj => by simp at hj),fun v hv => (by cases hv),fun i x j d v q1 => (by simp at q1)⟩
 cases y with
 | sl xs =>
  cases he
  rcases sl_inv hv with ⟨B,o,cap,es0,rfl,hc,hm,hz,hsz,hca⟩ | ⟨hnil,rfl⟩
  ·refine news_cells hes fun i x hx j d hd => ?_
   have : es0 = es := by rw [← hsz x (List.mem_of_getElem? hx),(hes x (List.mem_of_getElem? hx)).1]
   subst this
   exact (hca i x hx).2 j d hd
  ·exact ⟨[],empty0 hnil⟩
 | snil =>
  cases he
  have := snil_inv hv; subst this
  exact ⟨[],empty⟩
 | str l =>
  cases he
  obtain ⟨s,rfl,rfl,hm⟩ := hv.str_inv
  have hl : (s.data.toList.map fun b : UInt8 => AV.int .u8 b.toNat).length = s.size := by rw [List.length_map,str_len]
  have he1 : s.size * es = s.size := by
   cases hq : s.data.toList with
   | nil =>
    have : s.size = 0 := by rw [← str_len,hq]; rfl
    rw [this]; simp
   | cons b r =>
    have := (hes (.int .u8 b.toNat) (by rw [hq]; simp)).1
    have : es = 1 := this.symm
    rw [this]; simp
  refine ⟨Lib.strCells s,?_,fun w' => ?_,fun w' _ => ?_,Lib.strCells_oneCell s,fun i x j d v q1 q2 q3 => ?_⟩
  ·rw [Lib.strCells_length,hl,he1]
  ·rw [hl]; rfl
  ·rw [hl]; exact Lib.run_firstCells_string w' es s
  ·simp only [List.getElem?_map,Option.map_eq_some_iff] at q1
   obtain ⟨b,hb,rfl⟩ := q1
   have hee : es = 1 := by
    have := (hes (.int .u8 b.toNat) (List.mem_map.2 ⟨b,List.mem_of_getElem? hb,rfl⟩)).1
    exact this.symm
   subst hee
   cases j with
   | succ j => simp [AV.cells] at q2
   | zero =>
    simp [AV.cells] at q2
    subst q2
    have hv' : v = .int .u8 b.toNat := by
     simp only [Nat.mul_one,Nat.add_zero,Lib.strCells] at q3
     simp [hb] at q3
     exact q3.symm
    subst hv'
    have := b.toNat_lt
    exact .int _ _ (bounds_wf (by show (0 : Int) ≤ _; omega) (by show _ ≤ (255 : Int); omega))
 | lsl l off len =>
  simp only [elemsOf,partL_eq] at he
  rcases lsl_inv hv with ⟨B,b,t,n,cap,h1,h2,h3,rfl,h4,h5,h6,h7⟩ | ⟨b,h1,h2,hnil,rfl,rfl⟩
  ·rw [h2] at he
   dsimp only at he
   split at he
   ·rename_i hpur
    cases he
    obtain ⟨_,_,_,_,hbes,_,_⟩ := h.hp.blk l b B h2 h1
    have hlen : ((b.elems.drop off).take len).length = len := by simp; omega
    have get : ∀ (i : Nat) x,((b.elems.drop off).take len)[i]? = some x → b.elems[off + i]? = some x := by
     intro i x hx
     have hi : i < len := by
      have := (List.getElem?_eq_some_iff.1 hx).1
      omega
     rw [List.getElem?_take_of_lt hi,List.getElem?_drop] at hx
     exact hx
    have key := news_cells (P := P) (w := w) (Z := Zf cf.Z0 cf.base ρ st.hp w) (B := B) (o := off * b.es) (es := es) (cap := cap) (ys := (b.elems.drop off).take len) hes (fun i x hx j d hd => by
     have hx' := get i x hx
     have : b.es = es := by rw [← hbes x (List.mem_of_getElem? hx'),(hes x (List.mem_of_getElem? hx)).1]
     obtain ⟨c,g1,g2⟩ := h.hp.ca0 h2 h1 hx' hpur.1 j d hd
     rw [mul_add'] at g1
     rw [← this]
     exact ⟨c,g1,g2⟩)
    rw [hlen] at key
    exact key
   ·cases he
  ·rw [h2] at he
   dsimp only at he
   split at he
   ·cases he
    simp only [Nat.zero_add,List.take_zero]
    exact ⟨[],empty0 hnil⟩
   ·cases he
 | _ => cases he
end
end Go.Ab

namespace Go.Ab
open Go.RowKit

section
variable {P : Program} {cf : Cfg} {ρ : Nat → Option Nat} {st : St} {a : Act} {w : World}

theorem appT_or {u : TypeId} (hu : appT P u = true) : (∃ e,P.underlying u = some (.slice e)) ∨ P.underlying u = some .string := by
 unfold appT at hu
 split at hu
 ·rename_i e; exact .inl ⟨_,e⟩
 ·rename_i e; exact .inr e
 ·cases hu

theorem append_room {tys : Array TypeId} {t u ty e : TypeId} {i : TypeInfo} (h0 : tys[0]? = some t) (h1 : tys[1]? = some u) (ht : P.underlying t = some (.slice e)) (hu : appT P u = true) (hi : P.info? e = some i)
  {g sLen sCap : Nat} {cur : Array Value} {t0 : TypeId} (hg : w.heap[g]? = some (.cells cur t0 (0,0))) {Z : Nat → Prop} {x : Value} {ys : List AV} {news : List Value} (hn : News P w Z i.size x ys news)
  (hroom : sLen + ys.length ≤ sCap) (hfit : sLen * i.size + news.length ≤ cur.size) :
  (Builtin.append_ tys ty #[.slice (some ⟨g,0,none⟩) sLen sCap,x]).run P w =
   .ok (.slice (some ⟨g,0,none⟩) (sLen + ys.length) sCap) (w.setRow g (cur.toList.take (sLen * i.size) ++ news ++ cur.toList.drop (sLen * i.size + news.length)).toArray) := by
 have hst := run_storeCells_at P g (sLen * i.size) t0 news 0 cur w hg (by simpa using hfit) hn.2.2.2.1
 simp only [Nat.add_zero] at hst
 have hf := hn.2.2.1 w rfl
 have hl := hn.2.1 w
 rcases appT_or hu with ⟨e',hd⟩ | hd <;> simp [Builtin.append_,h0,h1,run_underlying ht,run_underlying hd,sizeOf,typeInfo,hi,hl,hroom,hf,addr_add,hst]

theorem append_none {tys : Array TypeId} {t u ty e : TypeId} {i : TypeInfo} (h0 : tys[0]? = some t) (h1 : tys[1]? = some u) (ht : P.underlying t = some (.slice e)) (hu : appT P u = true) (hi : P.info? e = some i)
  {Z : Nat → Prop} {x : Value} {news : List Value} (hn : News P w Z i.size x [] news) :
  (Builtin.append_ tys ty #[.slice none 0 0,x]).run P w = .ok (.slice none 0 0) w := by
 have hf := hn.2.2.1 w rfl
 have hl := hn.2.1 w
 simp only [List.length_nil] at hf hl
 rcases appT_or hu with ⟨e',hd⟩ | hd <;> simp [Builtin.append_,h0,h1,run_underlying ht,run_underlying hd,sizeOf,typeInfo,hi,hl,hf]

theorem append_nil0 {tys : Array TypeId} {t u ty e : TypeId} {i : TypeInfo} (h0 : tys[0]? = some t) (h1 : tys[1]? = some u) (ht : P.underlying t = some (.slice e)) (hu : appT P u = true) (hi : P.info? e = some i)
  {Z : Nat → Prop} {x v : Value} {news : List Value} (hn : News P w Z i.size x [] news) (hv : Nil0 v) :
  (Builtin.append_ tys ty #[v,x]).run P w = .ok v w := by
 rcases hv with rfl | ⟨a,rfl⟩
 ·exact append_none h0 h1 ht hu hi hn
 ·have hf := hn.2.2.1 w rfl
  have hl := hn.2.1 w
  have hnil : news = [] := by
   have := hn.1
   simp at this; exact this
  subst hnil
  simp only [List.length_nil] at hf hl
  rcases appT_or hu with ⟨e',hd⟩ | hd <;> simp [Builtin.append_,h0,h1,run_underlying ht,run_underlying hd,sizeOf,typeInfo,hi,hl,hf,storeCells]

theorem append_grow {tys : Array TypeId} {t u ty e : TypeId} {i : TypeInfo} {z : Value} (h0 : tys[0]? = some t) (h1 : tys[1]? = some u) (ht : P.underlying t = some (.slice e)) (hu : appT P u = true) (hi : P.info? e = some i) (hz0 : i.zero = some z)
  {base : Option Addr} {sLen sCap : Nat} {olds : List Value} (hold : ∀ w' : World,w'.heap = w.heap → (Builtin.firstCells i.size sLen (.slice base sLen sCap)).run P w' = .ok olds.toArray w')
  {Z : Nat → Prop} {x : Value} {ys : List AV} {news : List Value} (hn : News P w Z i.size x ys news)
  (hg : sCap < sLen + ys.length) (hb : (sLen + ys.length) * i.bytes ≤ 2 ^ 44) (hb2 : sLen + ys.length ≤ 2 ^ 44) :
  (Builtin.append_ tys ty #[.slice base sLen sCap,x]).run P w =
   .ok (.slice (some ⟨w.heap.size,0,none⟩) (sLen + ys.length) (grownCap w (sLen + ys.length) sCap e))
    (w.drew.alloc (.cells (olds.toArray ++ news.toArray ++ Builtin.zeroCells z.cells (grownCap w (sLen + ys.length) sCap e - (sLen + ys.length))) e)) := by
 have hf := hn.2.2.1 w.drew rfl
 have hfo := hold w.drew rfl
 have hl := hn.2.1 w
 have n1 : ¬ (sLen + ys.length ≤ sCap) := by omega
 have n2 : ¬ (9223372036854775807 < ((sLen : Int) + (ys.length : Int))) := by omega
 have n3 : ¬ (281474976710656 < Builtin.nextslicecap (sLen + ys.length) sCap * i.bytes) := by
  have := growslice_fits hg (show (sLen + ys.length) * i.bytes ≤ 140737488355328 by omega)
  omega
 rcases appT_or hu with ⟨e',hd⟩ | hd <;> simp [Builtin.append_,h0,h1,run_underlying ht,run_underlying hd,sizeOf,typeInfo,zeroValue,hi,hz0,hl,n1,n2,n3,Question.forced,hf,hfo,newRow,grownCap,Array.append_assoc,-List.append_toArray]

theorem StRρ.virt (h : StRρ cf ρ st a w) {d : Nat} (hdp : d < 1000000) (hd : st.hp d = none) (es : Nat) (p : Bool) : StRρ cf (upd ρ d none) (st.setH d (some ⟨es,p,[]⟩)) a w := by
 have hhp : (st.setH d (some ⟨es,p,[]⟩)).hp = upd st.hp d (some ⟨es,p,[]⟩) := by funext l; rfl
 have hne : ∀ l b',st.hp l = some b' → d ≠ l := fun l b' hb' e => by subst e; rw [hd] at hb'; cases hb'
 have hz : ∀ k,Zf cf.Z0 cf.base ρ st.hp w k → Zf cf.Z0 cf.base (upd ρ d none) (upd st.hp d (some ⟨es,p,[]⟩)) w k := by
  intro k hk
  refine ⟨hk.1,hk.2.1,fun l hl he => ?_⟩
  by_cases hdl : d = l
  ·subst hdl; simp [upd] at he
  ·simp only [upd,hdl,if_false] at hl he
   exact hk.2.2 l hl he
 have hmono : ∀ {v x},V ρ st.hp w (Zf cf.Z0 cf.base ρ st.hp w) v x → V (upd ρ d none) (upd st.hp d (some ⟨es,p,[]⟩)) w (Zf cf.Z0 cf.base (upd ρ d none) (upd st.hp d (some ⟨es,p,[]⟩)) w) v x :=
  fun hv => hv.mono (fun k hk => ⟨hz k hk,rfl⟩) (fun l b hb => ⟨by simp [upd,hne l b hb],⟨b,by simp [upd,hne l b hb,hb],rfl,rfl⟩,fun B _ => rfl⟩)
 refine ⟨⟨fun l b' B hb' hB => ?_,fun l b' hb' hn => ?_,fun l l' B h1 h2 h3 h4 => ?_⟩,fun t => by rw [hhp]; exact hmono (h.tmp t),h.size,h.defers,h.fr,fun l B hl hB => ?_,h.z0,fun l hl => by rw [← h.pin l hl]; simp only [upd]; rw [if_neg (by have := hl.1; omega)],h.shp⟩
 ·rw [hhp] at hb' ⊢
  by_cases hdl : d = l
  ·subst hdl; simp [upd] at hB
  ·simp only [upd,hdl,if_false] at hb' hB
   obtain ⟨c,t,g1,g2,g3,g4,g5⟩ := h.hp.blk l b' B hb' hB
   exact ⟨c,t,g1,g2,g3,fun i x j e v q1 q2 q3 => hmono (g4 i x j e v q1 q2 q3),fun hp i x j e v q1 q2 q3 => (g5 hp i x j e v q1 q2 q3).mono (fun k hk => ⟨hz k hk,rfl⟩)⟩
 ·rw [hhp] at hb'
  by_cases hdl : d = l
  ·subst hdl; simp [upd] at hb'; subst hb'; rfl
  ·simp only [upd,hdl,if_false] at hb' hn
   exact h.hp.nil l b' hb' hn
 ·rw [hhp] at h1 h2
  by_cases hdl : d = l
  ·subst hdl; simp [upd] at h3
  ·by_cases hdl' : d = l'
   ·subst hdl'; simp [upd] at h4
   ·simp only [upd,hdl,hdl',if_false] at h1 h2 h3 h4
    exact h.hp.inj l l' B h1 h2 h3 h4
 ·rw [hhp] at hl
  by_cases hdl : d = l
  ·subst hdl; simp [upd] at hB
  ·simp only [upd,hdl,if_false] at hl hB
   exact h.own l B hl hB

theorem el_append {Z : Nat → Prop} {es : Nat} {xs ys : List AV} {olds news rest : List Value} (ho : olds.length = xs.length * es) (hn : news.length = ys.length * es)
  (hx : ∀ (i : Nat) x (j : Nat) d v,xs[i]? = some x → x.cells[j]? = some d → olds[i * es + j]? = some v → V0 w Z v d) (hxe : ∀ x ∈ xs,x.cells.length = es)
  (hy : ∀ (i : Nat) x (j : Nat) d v,ys[i]? = some x → x.cells[j]? = some d → news[i * es + j]? = some v → V0 w Z v d) (hye : ∀ x ∈ ys,x.cells.length = es) :
  ∀ (i : Nat) x (j : Nat) d v,(xs ++ ys)[i]? = some x → x.cells[j]? = some d → (olds ++ news ++ rest)[i * es + j]? = some v → V0 w Z v d := by
 intro i x j d v q1 q2 q3
 by_cases hi : i < xs.length
 ·rw [List.getElem?_append_left hi] at q1
  have hj : j < es := by rw [← hxe x (List.mem_of_getElem? q1)]; exact (List.getElem?_eq_some_iff.1 q2).1
  have hk := idx_lt hi hj
  rw [List.append_assoc,List.getElem?_append_left (by omega)] at q3
  exact hx i x j d v q1 q2 q3
 ·rw [List.getElem?_append_right (by omega)] at q1
  have hj : j < es := by rw [← hye x (List.mem_of_getElem? q1)]; exact (List.getElem?_eq_some_iff.1 q2).1
  have hi2 : i - xs.length < ys.length := (List.getElem?_eq_some_iff.1 q1).1
  have hk := idx_lt hi2 hj
  have hsplit : i * es = xs.length * es + (i - xs.length) * es := by rw [← Nat.add_mul]; congr 1; omega
  rw [List.append_assoc,List.getElem?_append_right (by omega),List.getElem?_append_left (by omega)] at q3
  rw [show i * es + j - olds.length = (i - xs.length) * es + j by omega] at q3
  exact hy _ x j d v q1 q2 q3

def NewsV (P : Program) (ρ0 : Nat → Option Nat) (h0 : Nat → Option Blk) (w : World) (Z : Nat → Prop) (es : Nat) (u : Value) (ys : List AV) (news : List Value) : Prop :=
 news.length = ys.length * es ∧ (∀ w',(Builtin.lenOf u).run P w' = .ok ys.length w') ∧ (∀ w' : World,w'.heap = w.heap → (Builtin.firstCells es ys.length u).run P w' = .ok news.toArray w') ∧
 (∀ v ∈ news,v.oneCell' = true) ∧ ∀ (i : Nat) x (j : Nat) d v,ys[i]? = some x → x.cells[j]? = some d → news[i * es + j]? = some v → V ρ0 h0 w Z v d

theorem V.one' {ρ0 : Nat → Option Nat} {h0 : Nat → Option Blk} {Z : Nat → Prop} {v : Value} {x : AV} (hv : V ρ0 h0 w Z v x) (hx : x.one = true) : v.oneCell' = true := by
 have := hv.one hx
 cases v <;> first | rfl | cases this
theorem news_cellsV {ρ0 : Nat → Option Nat} {h0 : Nat → Option Blk} {Z : Nat → Prop} {B o es cap : Nat} {ys : List AV} (hes : ∀ x ∈ ys,x.cells.length = es ∧ storable x = true)
  (hc : ∀ (i : Nat) x,ys[i]? = some x → ∀ (j : Nat) d,x.cells[j]? = some d → ∃ c,w.cell? ⟨B,o + i * es + j,none⟩ = some c ∧ V ρ0 h0 w Z c d) :
  ∃ news,NewsV P ρ0 h0 w Z es (.slice (some ⟨B,o,none⟩) ys.length cap) ys news := by
 have cell : ∀ k,k < ys.length * es → ∃ c x d,ys[k / es]? = some x ∧ x.cells[k % es]? = some d ∧ w.cell? ⟨B,o + k,none⟩ = some c ∧ V ρ0 h0 w Z c d := by
  intro k hk
  have hpos : 0 < es := by
   rcases Nat.eq_zero_or_pos es with h0 | h0
   ·rw [h0] at hk; simp at hk
   ·exact h0
  have hi : k / es < ys.length := (Nat.div_lt_iff_lt_mul hpos).2 hk
  have hj : k % es < es := Nat.mod_lt _ hpos
  have hx : ys[k / es]? = some ys[k / es] := by simp [hi]
  have hl := (hes _ (List.mem_of_getElem? hx)).1
  have hd : ys[k / es].cells[k % es]? = some (ys[k / es].cells[k % es]'(by omega)) := by simp [hl,hj]
  obtain ⟨c,h1,h2⟩ := hc _ _ hx _ _ hd
  refine ⟨c,_,_,hx,hd,?_,h2⟩
  have : o + k / es * es + k % es = o + k := by
   have := Nat.div_add_mod k es
   rw [Nat.mul_comm] at this; omega
  rw [this] at h1; exact h1
 let f : Nat → Value := fun k => (w.cell? ⟨B,o + k,none⟩).getD undef
 have hf : ∀ k,k < ys.length * es → w.cell? ⟨B,o + k,none⟩ = some (f k) := by
  intro k hk
  obtain ⟨c,_,_,_,_,h1,_⟩ := cell k hk
  simp [f,h1]
 refine ⟨(List.range (ys.length * es)).map f,by simp,fun w' => rfl,fun w' hw' => ?_,fun v hv => ?_,fun i x j d v q1 q2 q3 => ?_⟩
 ·refine run_firstCells_some w' es ys.length ⟨B,o,none⟩ ys.length cap _ (by simp) fun j v hj => ?_
  have hjl : j < ys.length * es := by
   have := (List.getElem?_eq_some_iff.1 hj).1
   simpa using this
  rw [addr_add]
  have : w'.cell? ⟨B,o + j,none⟩ = w.cell? ⟨B,o + j,none⟩ := by simp [World.cell?,hw']
  rw [this,hf j hjl]
  simpa [hjl] using hj
 ·simp only [List.mem_map,List.mem_range] at hv
  obtain ⟨k,hk,rfl⟩ := hv
  obtain ⟨c,x,d,h1,h2,h3,h4⟩ := cell k hk
  rw [hf k hk] at h3; cases h3
  exact h4.one' (storable_cell (hes x (List.mem_of_getElem? h1)).2 h2)
 ·obtain ⟨c,h1,h2⟩ := hc i x q1 j d q2
  have hi : i < ys.length := (List.getElem?_eq_some_iff.1 q1).1
  have hj : j < es := by rw [← (hes x (List.mem_of_getElem? q1)).1]; exact (List.getElem?_eq_some_iff.1 q2).1
  have hk := idx_lt hi hj
  rw [Nat.add_assoc,hf _ hk] at h1; cases h1
  have : v = f (i * es + j) := by simpa [hk] using q3.symm
  rw [this]; exact h2

def anyE (x : AV) : AV := .agg (x.cells.map fun _ => .any)
theorem NewsV.any {ρ0 : Nat → Option Nat} {h0 : Nat → Option Blk} {Z : Nat → Prop} {es : Nat} {u : Value} {ys : List AV} {news : List Value} (h : NewsV P ρ0 h0 w Z es u ys news) : News P w Z es u (ys.map anyE) news := by
 refine ⟨by rw [List.length_map]; exact h.1,by rw [List.length_map]; exact h.2.1,by rw [List.length_map]; exact h.2.2.1,h.2.2.2.1,fun i x j d v q1 q2 _ => ?_⟩
 simp only [List.getElem?_map,Option.map_eq_some_iff] at q1
 obtain ⟨y,_,rfl⟩ := q1
 simp only [anyE,AV.cells,List.getElem?_map,Option.map_eq_some_iff] at q2
 obtain ⟨_,_,rfl⟩ := q2
 exact .any v
theorem noName_cell {l : Nat} {x d : AV} {j : Nat} (hx : noName l x = true) (hd : x.cells[j]? = some d) : name1 l d = false := by
 have := List.all_eq_true.1 hx d (List.mem_of_getElem? hd)
 simpa using this
theorem el_appendV {ρ0 : Nat → Option Nat} {h0 : Nat → Option Blk} {Z : Nat → Prop} {es : Nat} {xs ys : List AV} {olds news rest : List Value} (ho : olds.length = xs.length * es) (hn : news.length = ys.length * es)
  (hx : ∀ (i : Nat) x (j : Nat) d v,xs[i]? = some x → x.cells[j]? = some d → olds[i * es + j]? = some v → V ρ0 h0 w Z v d) (hxe : ∀ x ∈ xs,x.cells.length = es)
  (hy : ∀ (i : Nat) x (j : Nat) d v,ys[i]? = some x → x.cells[j]? = some d → news[i * es + j]? = some v → V ρ0 h0 w Z v d) (hye : ∀ x ∈ ys,x.cells.length = es) :
  ∀ (i : Nat) x (j : Nat) d v,(xs ++ ys)[i]? = some x → x.cells[j]? = some d → (olds ++ news ++ rest)[i * es + j]? = some v → V ρ0 h0 w Z v d := by
 intro i x j d v q1 q2 q3
 by_cases hi : i < xs.length
 ·rw [List.getElem?_append_left hi] at q1
  have hj : j < es := by rw [← hxe x (List.mem_of_getElem? q1)]; exact (List.getElem?_eq_some_iff.1 q2).1
  have hk := idx_lt hi hj
  rw [List.append_assoc,List.getElem?_append_left (by omega)] at q3
  exact hx i x j d v q1 q2 q3
 ·rw [List.getElem?_append_right (by omega)] at q1
  have hj : j < es := by rw [← hye x (List.mem_of_getElem? q1)]; exact (List.getElem?_eq_some_iff.1 q2).1
  have hi2 : i - xs.length < ys.length := (List.getElem?_eq_some_iff.1 q1).1
  have hk := idx_lt hi2 hj
  have hsplit : i * es = xs.length * es + (i - xs.length) * es := by rw [← Nat.add_mul]; congr 1; omega
  rw [List.append_assoc,List.getElem?_append_right (by omega),List.getElem?_append_left (by omega)] at q3
  rw [show i * es + j - olds.length = (i - xs.length) * es + j by omega] at q3
  exact hy _ x j d v q1 q2 q3

theorem snd_append (h : StRρ cf ρ st a w) {own mu : List Nat} {tab : Tab} {o : Oper} {c : Call} (ho : o.op = .call c) (hcb : c.callee = .builtin .append) {iop : IOp} (hc : cOp P own mu o.op = some iop) {st' : St} (he : eop tab st o.dst iop = some st')
  (hdn : ∀ d,o.dst = some d → d < cf.n) : Steps1 P cf o st' a w := by
 rw [ho] at hc
 obtain ⟨callee,args,argTypes⟩ := c
 dsimp only at hcb
 subst hcb
 simp only [cOp] at hc
 split at hc
 ·rename_i x y t u hargs htys
  simp only [bind,Option.bind_eq_some_iff] at hc
  obtain ⟨e,hel,es,hes,z,hz,hc⟩ := hc
  split at hc
  ·rename_i hcond
   simp only [Option.bind_eq_some_iff,pure,Option.some.injEq] at hc
   obtain ⟨by0,hby,ox,hx,oy,hy,rfl⟩ := hc
   have ht := sliceT_inv hel
   obtain ⟨ti,hti,rfl⟩ := sizeT_some hes
   have hbt : ti.bytes = by0 := by
    unfold bytesT at hby; rw [hti] at hby; simpa using hby
   subst hbt
   obtain ⟨it,zv,hit,hzv,hcz⟩ := zeroT_inv hz
   rw [hti] at hit; cases hit
   have hzsz : zv.cells.size = ti.size := by rw [(constAV_cells (w := w) (Z := fun _ => True) hcz).1,hcond.1]
   have ea : args = #[x,y] := by rw [← Array.toArray_toList (xs := args),hargs]
   have et : argTypes = #[t,u] := by rw [← Array.toArray_toList (xs := argTypes),htys]
   subst ea; subst et
   have t0 : (#[t,u] : Array TypeId)[0]? = some t := rfl
   have t1 : (#[t,u] : Array TypeId)[1]? = some u := rfl
   have vx := h.ev x ox hx
   have vy := h.ev y oy hy
   have hexec : ∀ {r w'},(Builtin.append_ #[t,u] o.type #[a.eval x,a.eval y]).run P w = .ok r w' → (execOp a.eval o).run P w = .ok (.value r) w' := by
    intro r w' hr
    simp [execOp,ho,resolve,invoke,builtin,hr]
   generalize e1 : a.eval x = xv at *
   generalize e2 : a.eval y = yv at *
   simp only [eop] at he
   generalize ev st ox = ax at *
   generalize ev st oy = ay at *
   split at he
   ·rename_i d ys hd hys
    split at he
    ·rename_i hall
     have hyes : ∀ x ∈ ys,x.cells.length = ti.size ∧ storable x = true := by
      intro x hx
      have := List.all_eq_true.1 hall x hx
      simpa [esSt] using this
     obtain ⟨news,hn⟩ := elems_ok (P := P) h vy hys hyes
     have hdlt := hdn d hd
     have hput : ∀ {r : Value} {w' : World} {s' : St},(Builtin.append_ #[t,u] o.type #[xv,yv]).run P w = .ok r w' → StR cf s' (a.put (some d) r) w' → Steps1 P cf o s' a w := by
      intro r w' s' h1 h2
      exact .inl ⟨r,w',hexec h1,by rw [hd]; exact h2⟩
     have hzone1 : Zf cf.Z0 cf.base ρ st.hp (w.drewN 1) = Zf cf.Z0 cf.base ρ st.hp w := rfl
     have hzs : ∀ n,(Builtin.zeroCells zv.cells n).size = n * ti.size := fun n => by rw [size_zeroCells,hzsz]
     have to1 : ∀ {v x},V0 w (Zf cf.Z0 cf.base ρ st.hp w) v x → V0 (w.drewN 1) (Zf cf.Z0 cf.base ρ st.hp w) v x := fun hv => hv.mono (w := w) (w' := w.drewN 1) (fun b hb => ⟨hb,rfl⟩)
     -- a new block,behind a draw
     have hcap : ∀ (m c : Nat),m ≤ 2 ^ 44 → m ≤ grownCap w m c e ∧ grownCap w m c e ≤ maxLen := fun m c hm => ⟨grownCap_ge w m c e,grownCap_le_maxLen w m c e (by unfold maxLen; omega)⟩
     split at he
     ·-- onto nil
      split at he
      ·rename_i hb
       cases he
       have := snil_inv vx; subst this
       have hfree : st.hp d = none := by simpa using hb.1
       by_cases h0 : ys = []
       ·subst h0
        refine hput (append_none t0 t1 ht hcond.2 hti hn) ⟨_,(h.virt (Nat.lt_of_lt_of_le hdlt cf.hn) hfree ti.size true).put (x := .lsl d 0 0) (dst := some d) ?_ (fun k hk => by cases hk; exact hdlt)⟩
        exact .lnil d ⟨ti.size,true,[]⟩ (.inl rfl) (by simp [upd]) (by simp [St.hp,St.setH,lk])
       ·have hpos : 0 < ys.length := List.length_pos_iff.2 h0
        have hrun := append_grow (P := P) (w := w) (base := none) (sLen := 0) (sCap := 0) (olds := []) (ty := o.type) t0 t1 ht hcond.2 hti hzv (fun w' _ => run_firstCells_none w' _ _ _ _) hn (by omega) (by simpa using hb.2.1) (by simpa using hb.2.2)
        simp only [Nat.zero_add] at hrun
        refine hput hrun ?_
        obtain ⟨c1,c2⟩ := hcap ys.length 0 hb.2.2
        have hsz : (#[] ++ news.toArray ++ Builtin.zeroCells zv.cells (grownCap w ys.length 0 e - ys.length)).size = grownCap w ys.length 0 e * ti.size := by
         simp only [Array.size_append,List.size_toArray,hzs,hn.1,List.length_nil,Nat.zero_add]
         rw [← Nat.add_mul]; congr 1; omega
        have hel := el_append (w := w) (Z := Zf cf.Z0 cf.base ρ st.hp w) (es := ti.size) (xs := []) (olds := []) (rest := (Builtin.zeroCells zv.cells (grownCap w ys.length 0 e - ys.length)).toList) (by simp) hn.1 (fun i x j d v q => by simp at q) (fun x hx => by cases hx) hn.2.2.2.2 (fun x hx => (hyes x hx).1)
        have hcells : ∀ (i : Nat) x (j : Nat) d v,ys[i]? = some x → x.cells[j]? = some d → (#[] ++ news.toArray ++ Builtin.zeroCells zv.cells (grownCap w ys.length 0 e - ys.length))[i * ti.size + j]? = some v → V0 w (Zf cf.Z0 cf.base ρ st.hp w) v d := by
         intro i x j d v q1 q2 q3
         refine hel i x j d v (by simpa using q1) q2 ?_
         rw [← q3,← Array.getElem?_toList]; simp
        have := newblk (h.drewN 1) hdlt hfree ⟨ti.size,true,ys⟩ (#[] ++ news.toArray ++ Builtin.zeroCells zv.cells (grownCap w ys.length 0 e - ys.length)) e (by rw [hsz]; exact Nat.mul_le_mul_right _ c1) (fun x hx => (hyes x hx).1)
         (fun i x j d v q1 q2 q3 => .pure (to1 (hcells i x j d v q1 q2 q3))) (fun _ i x j d v q1 q2 q3 => to1 (hcells i x j d v q1 q2 q3))
         (v := .slice (some ⟨w.heap.size,0,none⟩) ys.length (grownCap w ys.length 0 e)) (x := .lsl d 0 ys.length) (mem_sl (w := w.drewN 1) (Nat.le_refl _) c1 (by rw [hsz]; exact Nat.le_refl _) (by omega))
        exact this
      ·cases he
     ·rename_i l len
      split at he
      ·rename_i b hb
       split at he
       ·rename_i hbc
        cases he
        obtain ⟨hpur,hbes,hlen,hlp,hbb,hbl⟩ := hbc
        subst hlen
        have fin : ∀ {ρ' : Nat → Option Nat} {w' : World} {r : Value},StRρ cf ρ' ⟨purge l st.env,(l,some { b with elems := b.elems ++ ys }) :: purgeH l st.heap⟩ a w' →
          V ρ' (St.hp ⟨purge l st.env,(l,some { b with elems := b.elems ++ ys }) :: purgeH l st.heap⟩) w' (Zf cf.Z0 cf.base ρ' (St.hp ⟨purge l st.env,(l,some { b with elems := b.elems ++ ys }) :: purgeH l st.heap⟩) w') r (.lsl l 0 (b.elems.length + ys.length)) →
          StR cf ⟨(d,.lsl l 0 (b.elems.length + ys.length)) :: purge l st.env,(l,some { b with elems := b.elems ++ ys }) :: purgeH l st.heap⟩ (a.put (some d) r) w' := by
         intro ρ' w' r g1 g2
         exact ⟨ρ',g1.put (x := .lsl l 0 (b.elems.length + ys.length)) (dst := some d) g2 (fun k hk => by cases hk; exact hdlt)⟩
        have hhl : (St.hp ⟨purge l st.env,(l,some { b with elems := b.elems ++ ys }) :: purgeH l st.heap⟩) l = some { b with elems := b.elems ++ ys } := by simp [St.hp,lk]
        -- into a new block
        have grow : ∀ (base : Option Addr) (cap : Nat) (olds : List Value),xv = .slice base b.elems.length cap → cap < b.elems.length + ys.length → olds.length = b.elems.length * ti.size →
          (∀ w' : World,w'.heap = w.heap → (Builtin.firstCells ti.size b.elems.length (.slice base b.elems.length cap)).run P w' = .ok olds.toArray w') →
          (∀ (i : Nat) x (j : Nat) d v,b.elems[i]? = some x → x.cells[j]? = some d → olds[i * ti.size + j]? = some v → V0 w (Zf cf.Z0 cf.base ρ st.hp w) v d) → (∀ x ∈ b.elems,x.cells.length = ti.size) →
          Steps1 P cf o ⟨(d,.lsl l 0 (b.elems.length + ys.length)) :: purge l st.env,(l,some { b with elems := b.elems ++ ys }) :: purgeH l st.heap⟩ a w := by
         intro base cap olds hxv hlt hol hold hov hoe
         subst hxv
         have hrun := append_grow (P := P) (w := w) (ty := o.type) t0 t1 ht hcond.2 hti hzv hold hn hlt hbb hbl
         refine hput hrun (fin (ρ' := upd ρ l (some w.heap.size)) ?_ ?_)
         all_goals
          obtain ⟨c1,c2⟩ := hcap (b.elems.length + ys.length) cap hbl
          have hsz : (olds.toArray ++ news.toArray ++ Builtin.zeroCells zv.cells (grownCap w (b.elems.length + ys.length) cap e - (b.elems.length + ys.length))).size = grownCap w (b.elems.length + ys.length) cap e * ti.size := by
           simp only [Array.size_append,List.size_toArray,hzs,hn.1,hol]
           rw [← Nat.add_mul,← Nat.add_mul]; congr 1; omega
         ·have hel := el_append (w := w) (Z := Zf cf.Z0 cf.base ρ st.hp w) (es := ti.size) (xs := b.elems) (olds := olds) (rest := (Builtin.zeroCells zv.cells (grownCap w (b.elems.length + ys.length) cap e - (b.elems.length + ys.length))).toList) hol hn.1 hov hoe hn.2.2.2.2 (fun x hx => (hyes x hx).1)
          refine (h.drewN 1).change hb (r := some w.heap.size) (w' := (w.drewN 1).alloc _) (by simp) rfl rfl rfl hlp (fun k hk => shape_heap (heap_alloc_old _ _ hk)) (fun k hk _ => heap_alloc_old _ _ hk) (fun B hB => by cases hB; exact ⟨.inr (Nat.le_refl _),by simp⟩) (fun B hB => ?_) (fun e => by cases e)
          cases hB
          refine ⟨_,_,heap_alloc_new (w.drewN 1) _,?_,fun x hx => ?_,fun i x j d v q1 q2 q3 => ?_⟩
          ·rw [hsz]; simp only [List.length_append,hbes]; exact Nat.mul_le_mul_right _ c1
          ·rcases List.mem_append.1 hx with hx | hx
           ·rw [hoe x hx,hbes]
           ·rw [(hyes x hx).1,hbes]
          ·rw [hbes] at q3
           refine to1 (hel i x j d v q1 q2 ?_)
           rw [← q3,← Array.getElem?_toList]; simp
         ·have hsh : ((w.drewN 1).alloc (.cells (olds.toArray ++ news.toArray ++ Builtin.zeroCells zv.cells (grownCap w (b.elems.length + ys.length) cap e - (b.elems.length + ys.length))) e)).shape? w.heap.size = some (e,grownCap w (b.elems.length + ys.length) cap e * ti.size) := by
           unfold World.shape?; rw [show w.heap.size = (w.drewN 1).heap.size from rfl,heap_alloc_new]; exact congrArg (fun n => some (e,n)) hsz
          have := V.lsl (ρ := upd ρ l (some w.heap.size)) (h := St.hp ⟨purge l st.env,(l,some { b with elems := b.elems ++ ys }) :: purgeH l st.heap⟩) (w := (w.drewN 1).alloc (.cells (olds.toArray ++ news.toArray ++ Builtin.zeroCells zv.cells (grownCap w (b.elems.length + ys.length) cap e - (b.elems.length + ys.length))) e))
           (Z := Zf cf.Z0 cf.base (upd ρ l (some w.heap.size)) (St.hp ⟨purge l st.env,(l,some { b with elems := b.elems ++ ys }) :: purgeH l st.heap⟩) ((w.drewN 1).alloc (.cells (olds.toArray ++ news.toArray ++ Builtin.zeroCells zv.cells (grownCap w (b.elems.length + ys.length) cap e - (b.elems.length + ys.length))) e)))
           l 0 (b.elems.length + ys.length) (grownCap w (b.elems.length + ys.length) cap e) w.heap.size _ _ _ (by simp [upd]) hhl hsh c1 (by simp [hbes]) (by simp) (by omega)
          rw [show (0 : Nat) * b.es = 0 from Nat.zero_mul _] at this
          exact this
        rcases lsl_inv vx with ⟨B,b',t',n',cap,g1,g2,g3,rfl,g4,g5,g6,g7⟩ | ⟨b',g1,g2,hnil,_,g3⟩
        ·rw [hb] at g2; cases g2
         obtain ⟨cur,ct,k1,k2,k3,_,k5⟩ := h.hp.blk l b B hb g1
         have hn' : n' = cur.size := by
          simp only [World.shape?,k1,Option.some.injEq,Prod.mk.injEq] at g3
          exact g3.2.symm
         have hol : (cur.toList.take (b.elems.length * ti.size)).length = b.elems.length * ti.size := by
          rw [hbes] at k2; simp; omega
         have hov : ∀ (i : Nat) x (j : Nat) d v,b.elems[i]? = some x → x.cells[j]? = some d → (cur.toList.take (b.elems.length * ti.size))[i * ti.size + j]? = some v → V0 w (Zf cf.Z0 cf.base ρ st.hp w) v d := by
          intro i x j d v q1 q2 q3
          refine k5 hpur i x j d v q1 q2 ?_
          have hi : i < b.elems.length := (List.getElem?_eq_some_iff.1 q1).1
          have hj : j < ti.size := by rw [← hbes,← k3 x (List.mem_of_getElem? q1)]; exact (List.getElem?_eq_some_iff.1 q2).1
          rw [List.getElem?_take_of_lt (idx_lt hi hj)] at q3
          rw [hbes]; simpa using q3
         have hoe : ∀ x ∈ b.elems,x.cells.length = ti.size := fun x hx => by rw [← hbes]; exact k3 x hx
         simp only [Nat.zero_mul,Nat.zero_add] at *
         by_cases hroom : b.elems.length + ys.length ≤ cap
         ·have hfit : b.elems.length * ti.size + news.length ≤ cur.size := by
           rw [hn.1,← Nat.add_mul,← hn',← hbes]
           exact Nat.le_trans (Nat.mul_le_mul_right _ hroom) g5
          have hrun := append_room (P := P) (ty := o.type) t0 t1 ht hcond.2 hti k1 hn hroom hfit
          have hrs : (cur.toList.take (b.elems.length * ti.size) ++ news ++ cur.toList.drop (b.elems.length * ti.size + news.length)).toArray.size = cur.size := by simp; omega
          have hshr : ∀ k,(w.setRow B (cur.toList.take (b.elems.length * ti.size) ++ news ++ cur.toList.drop (b.elems.length * ti.size + news.length)).toArray).shape? k = w.shape? k := by
           intro k
           by_cases hk : k = B
           ·subst hk
            unfold World.shape?
            rw [setRow_heap w k cur _ ct _ k1,k1]
            exact congrArg (fun n => some (ct,n)) hrs
           ·exact shape_heap (setRow_other w B k _ hk)
          refine hput hrun (fin (ρ' := upd ρ l (some B)) ?_ ?_)
          ·refine h.change hb (r := some B) (w' := w.setRow B _) (by simp) rfl rfl rfl hlp (fun k hk => hshr k) (fun k hk hne => setRow_other w B k _ (fun e => hne (by rw [g1,e]))) (fun B' hB' => by cases hB'; exact ⟨.inl g1,by simpa using (Array.getElem?_eq_some_iff.1 k1).1⟩) (fun B' hB' => ?_) (fun e => by cases e)
           cases hB'
           refine ⟨_,_,setRow_heap w B cur _ ct _ k1,?_,fun x hx => ?_,fun i x j d v q1 q2 q3 => ?_⟩
           ·rw [hrs]; simp only [List.length_append,hbes]; rw [Nat.add_mul,← hn.1]; exact hfit
           ·rcases List.mem_append.1 hx with hx | hx
            ·rw [hoe x hx,hbes]
            ·rw [(hyes x hx).1,hbes]
           ·rw [hbes] at q3
            exact el_append (w := w) (Z := Zf cf.Z0 cf.base ρ st.hp w) (es := ti.size) (xs := b.elems) (rest := cur.toList.drop (b.elems.length * ti.size + news.length)) hol hn.1 hov hoe hn.2.2.2.2 (fun x hx => (hyes x hx).1) i x j d v q1 q2 (by simpa using q3)
          ·have hsh : (w.setRow B (cur.toList.take (b.elems.length * ti.size) ++ news ++ cur.toList.drop (b.elems.length * ti.size + news.length)).toArray).shape? B = some (ct,cur.size) := by
            unfold World.shape?; rw [setRow_heap w B cur _ ct _ k1]; exact congrArg (fun n => some (ct,n)) hrs
           have := V.lsl (ρ := upd ρ l (some B)) (h := St.hp ⟨purge l st.env,(l,some { b with elems := b.elems ++ ys }) :: purgeH l st.heap⟩) (w := w.setRow B (cur.toList.take (b.elems.length * ti.size) ++ news ++ cur.toList.drop (b.elems.length * ti.size + news.length)).toArray)
            (Z := Zf cf.Z0 cf.base (upd ρ l (some B)) (St.hp ⟨purge l st.env,(l,some { b with elems := b.elems ++ ys }) :: purgeH l st.heap⟩) (w.setRow B (cur.toList.take (b.elems.length * ti.size) ++ news ++ cur.toList.drop (b.elems.length * ti.size + news.length)).toArray))
            l 0 (b.elems.length + ys.length) cap B _ _ _ (by simp [upd]) hhl hsh hroom (by rw [← hn']; simpa using g5) (by simp) (by unfold maxLen; omega)
           simpa using this
         ·refine grow _ cap _ rfl (by omega) hol (fun w' hw' => ?_) hov hoe
          refine run_firstCells_some w' ti.size b.elems.length ⟨B,0,none⟩ b.elems.length cap _ hol fun j v hj => ?_
          have hjl := (List.getElem?_eq_some_iff.1 hj).1
          rw [hol] at hjl
          rw [addr_add,cell_of w' B _ cur ct _ (by rw [hw']; exact k1)]
          rw [List.getElem?_take_of_lt hjl] at hj
          simpa using hj
        ·rw [hb] at g2; cases g2
         have hb0 : b.elems = [] := h.hp.nil l b hb g1
         by_cases h0 : ys = []
         ·subst h0
          refine hput (append_nil0 t0 t1 ht hcond.2 hti hn hnil) (fin (ρ' := upd ρ l none) ?_ ?_)
          ·exact h.change hb (r := none) (w' := w) (Nat.le_refl _) rfl rfl rfl hlp (fun k hk => rfl) (fun k hk _ => rfl) (fun B hB => by cases hB) (fun B hB => by cases hB) (fun _ => by simp [hb0])
          ·have := V.lnil (ρ := upd ρ l none) (h := St.hp ⟨purge l st.env,(l,some { b with elems := b.elems ++ [] }) :: purgeH l st.heap⟩) (w := w) (Z := Zf cf.Z0 cf.base (upd ρ l none) (St.hp ⟨purge l st.env,(l,some { b with elems := b.elems ++ [] }) :: purgeH l st.heap⟩) w) l _ hnil (by simp [upd]) hhl
           simpa [hb0] using this
         ·have hpos : 0 < ys.length := List.length_pos_iff.2 h0
          have hl0 : b.elems.length = 0 := by rw [hb0]; rfl
          rcases hnil with hnil | ⟨an,hnil⟩
          ·exact grow none 0 [] (by rw [hl0]; exact hnil) (by omega) (by rw [hl0]; simp) (fun w' _ => by rw [hl0]; exact run_firstCells_none w' _ _ _ _) (fun i x j d v q => by rw [hb0] at q; simp at q) (fun x hx => by rw [hb0] at hx; cases hx)
          ·exact grow (some an) 0 [] (by rw [hl0]; exact hnil) (by omega) (by rw [hl0]; simp) (fun w' _ => by rw [hl0]; exact run_firstCells_some w' ti.size 0 an 0 0 [] (by simp) (fun j v hj => by simp at hj)) (fun i x j d v q => by rw [hb0] at q; simp at q) (fun x hx => by rw [hb0] at hx; cases hx)
       ·cases he
      ·cases he
     ·cases he
    ·cases he
   ·rename_i d hd hys0
    have hdlt := hdn d hd
    have hput : ∀ {r : Value} {w' : World} {s' : St},(Builtin.append_ #[t,u] o.type #[xv,yv]).run P w = .ok r w' → StR cf s' (a.put (some d) r) w' → Steps1 P cf o s' a w := by
     intro r w' s' h1 h2
     exact .inl ⟨r,w',hexec h1,by rw [hd]; exact h2⟩
    have hzs : ∀ n,(Builtin.zeroCells zv.cells n).size = n * ti.size := fun n => by rw [size_zeroCells,hzsz]
    have hcap : ∀ (m c : Nat),m ≤ 2 ^ 44 → m ≤ grownCap w m c e ∧ grownCap w m c e ≤ maxLen := fun m c hm => ⟨grownCap_ge w m c e,grownCap_le_maxLen w m c e (by unfold maxLen; omega)⟩
    have to1 : ∀ {v x},V ρ st.hp w (Zf cf.Z0 cf.base ρ st.hp w) v x → V ρ st.hp (w.drewN 1) (Zf cf.Z0 cf.base ρ st.hp (w.drewN 1)) v x := fun hv => hv.mono (w := w) (w' := w.drewN 1) (fun b hb => ⟨hb,rfl⟩) (fun l b hb => ⟨rfl,⟨b,hb,rfl,rfl⟩,fun B _ => rfl⟩)
    unfold appH at he
    split at he
    ·rename_i ly n
     split at he
     ·rename_i c hc'
      split at he
      ·rename_i hcc
       obtain ⟨hces,hnl,hcall,hcne⟩ := hcc
       subst hnl
       have hyes : ∀ x ∈ c.elems,x.cells.length = ti.size ∧ storable x = true := by
        intro x hx
        have := List.all_eq_true.1 hcall x hx
        simpa [esSt] using this
       rcases lsl_inv vy with ⟨By,c',ty',ny,capy,y1,y2,y3,hyv,y4,y5,y6,y7⟩ | ⟨c',y1,y2,_,_,_⟩
       ·rw [hc'] at y2; cases y2
        obtain ⟨curY,ctY,m1,m2,m3,m4,_⟩ := h.hp.blk ly c By hc' y1
        have hN := news_cellsV (P := P) (w := w) (ρ0 := ρ) (h0 := st.hp) (Z := Zf cf.Z0 cf.base ρ st.hp w) (B := By) (o := 0) (es := ti.size) (cap := capy) (ys := c.elems) hyes (fun i x hx j d hd => by
         have hi : i < c.elems.length := (List.getElem?_eq_some_iff.1 hx).1
         have hj : j < ti.size := by rw [← (hyes x (List.mem_of_getElem? hx)).1]; exact (List.getElem?_eq_some_iff.1 hd).1
         have hk := idx_lt hi hj
         have hlt : i * ti.size + j < curY.size := by rw [hces] at m2; omega
         refine ⟨curY[i * ti.size + j],?_,m4 i x j d _ hx hd (by rw [hces]; simp [hlt])⟩
         rw [Nat.zero_add,cell_of w By _ curY ctY _ m1]
         simp [hlt])
        obtain ⟨news,hn⟩ := hN
        have hyv' : yv = .slice (some ⟨By,0,none⟩) c.elems.length capy := by rw [hyv,Nat.zero_mul]
        rw [← hyv'] at hn
        have hnA := hn.any
        have hlA : (c.elems.map anyE).length = c.elems.length := List.length_map _
        have hpos : 0 < c.elems.length := List.length_pos_iff.2 hcne
        split at he
        ·split at he
         ·rename_i hb
          cases he
          have := snil_inv vx; subst this
          have hfree : st.hp d = none := by simpa using hb.1
          have hrun := append_grow (P := P) (w := w) (base := none) (sLen := 0) (sCap := 0) (olds := []) (ty := o.type) t0 t1 ht hcond.2 hti hzv (fun w' _ => run_firstCells_none w' _ _ _ _) hnA (by omega) (by rw [hlA]; simpa using hb.2.1) (by rw [hlA]; simpa using hb.2.2)
          simp only [Nat.zero_add,hlA] at hrun
          refine hput hrun ?_
          obtain ⟨c1,c2⟩ := hcap c.elems.length 0 hb.2.2
          have hsz : (#[] ++ news.toArray ++ Builtin.zeroCells zv.cells (grownCap w c.elems.length 0 e - c.elems.length)).size = grownCap w c.elems.length 0 e * ti.size := by
           simp only [Array.size_append,List.size_toArray,hzs,hn.1,List.length_nil,Nat.zero_add]
           rw [← Nat.add_mul]; congr 1; omega
          have hel := el_appendV (w := w) (ρ0 := ρ) (h0 := st.hp) (Z := Zf cf.Z0 cf.base ρ st.hp w) (es := ti.size) (xs := []) (olds := []) (rest := (Builtin.zeroCells zv.cells (grownCap w c.elems.length 0 e - c.elems.length)).toList) (by simp) hn.1 (fun i x j d v q => by simp at q) (fun x hx => by cases hx) hn.2.2.2.2 (fun x hx => (hyes x hx).1)
          have hcells : ∀ (i : Nat) x (j : Nat) d v,c.elems[i]? = some x → x.cells[j]? = some d → (#[] ++ news.toArray ++ Builtin.zeroCells zv.cells (grownCap w c.elems.length 0 e - c.elems.length))[i * ti.size + j]? = some v → V ρ st.hp w (Zf cf.Z0 cf.base ρ st.hp w) v d := by
           intro i x j d v q1 q2 q3
           refine hel i x j d v (by simpa using q1) q2 ?_
           rw [← q3,← Array.getElem?_toList]; simp
          have := newblk (h.drewN 1) hdlt hfree ⟨ti.size,false,c.elems⟩ (#[] ++ news.toArray ++ Builtin.zeroCells zv.cells (grownCap w c.elems.length 0 e - c.elems.length)) e (by rw [hsz]; exact Nat.mul_le_mul_right _ c1) (fun x hx => (hyes x hx).1)
           (fun i x j d v q1 q2 q3 => to1 (hcells i x j d v q1 q2 q3)) (fun hp => by cases hp)
           (v := .slice (some ⟨w.heap.size,0,none⟩) c.elems.length (grownCap w c.elems.length 0 e)) (x := .lsl d 0 c.elems.length) (mem_sl (w := w.drewN 1) (Nat.le_refl _) c1 (by rw [hsz]; exact Nat.le_refl _) (by omega))
          exact this
         ·cases he
        ·rename_i l len
         split at he
         ·rename_i b hb
          split at he
          ·rename_i hbc
           cases he
           obtain ⟨hpur,hbes,hlen,hlp,hnc,hnb,hbne,hbb,hbl⟩ := hbc
           subst hlen
           have fin : ∀ {ρ' : Nat → Option Nat} {w' : World} {r : Value},StRρ cf ρ' ⟨purge l st.env,(l,some { b with elems := b.elems ++ c.elems }) :: purgeH l st.heap⟩ a w' →
             V ρ' (St.hp ⟨purge l st.env,(l,some { b with elems := b.elems ++ c.elems }) :: purgeH l st.heap⟩) w' (Zf cf.Z0 cf.base ρ' (St.hp ⟨purge l st.env,(l,some { b with elems := b.elems ++ c.elems }) :: purgeH l st.heap⟩) w') r (.lsl l 0 (b.elems.length + c.elems.length)) →
             StR cf ⟨(d,.lsl l 0 (b.elems.length + c.elems.length)) :: purge l st.env,(l,some { b with elems := b.elems ++ c.elems }) :: purgeH l st.heap⟩ (a.put (some d) r) w' := by
            intro ρ' w' r g1 g2
            exact ⟨ρ',g1.put (x := .lsl l 0 (b.elems.length + c.elems.length)) (dst := some d) g2 (fun k hk => by cases hk; exact hdlt)⟩
           have hhl : (St.hp ⟨purge l st.env,(l,some { b with elems := b.elems ++ c.elems }) :: purgeH l st.heap⟩) l = some { b with elems := b.elems ++ c.elems } := by simp [St.hp,lk]
           have hname : ∀ (i : Nat) x (j : Nat) d,(b.elems ++ c.elems)[i]? = some x → x.cells[j]? = some d → name1 l d = false := by
            intro i x j d q1 q2
            rcases List.mem_append.1 (List.mem_of_getElem? q1) with hx | hx
            ·exact noName_cell (List.all_eq_true.1 hnb x hx) q2
            ·exact noName_cell (List.all_eq_true.1 hnc x hx) q2
           rcases lsl_inv vx with ⟨B,b',t',n',cap,g1,g2,g3,rfl,g4,g5,g6,g7⟩ | ⟨b',g1,g2,hnil,_,g3⟩
           ·rw [hb] at g2; cases g2
            obtain ⟨cur,ct,k1,k2,k3,k5,_⟩ := h.hp.blk l b B hb g1
            have hn' : n' = cur.size := by
             simp only [World.shape?,k1,Option.some.injEq,Prod.mk.injEq] at g3
             exact g3.2.symm
            have hol : (cur.toList.take (b.elems.length * ti.size)).length = b.elems.length * ti.size := by
             rw [hbes] at k2; simp; omega
            have hov : ∀ (i : Nat) x (j : Nat) d v,b.elems[i]? = some x → x.cells[j]? = some d → (cur.toList.take (b.elems.length * ti.size))[i * ti.size + j]? = some v → V ρ st.hp w (Zf cf.Z0 cf.base ρ st.hp w) v d := by
             intro i x j d v q1 q2 q3
             refine k5 i x j d v q1 q2 ?_
             have hi : i < b.elems.length := (List.getElem?_eq_some_iff.1 q1).1
             have hj : j < ti.size := by rw [← hbes,← k3 x (List.mem_of_getElem? q1)]; exact (List.getElem?_eq_some_iff.1 q2).1
             rw [List.getElem?_take_of_lt (idx_lt hi hj)] at q3
             rw [hbes]; simpa using q3
            have hoe : ∀ x ∈ b.elems,x.cells.length = ti.size := fun x hx => by rw [← hbes]; exact k3 x hx
            simp only [Nat.zero_mul,Nat.zero_add] at *
            by_cases hroom : b.elems.length + c.elems.length ≤ cap
            ·have hfit : b.elems.length * ti.size + news.length ≤ cur.size := by
              rw [hn.1,← Nat.add_mul,← hn',← hbes]
              exact Nat.le_trans (Nat.mul_le_mul_right _ hroom) g5
             have hrun := append_room (P := P) (ty := o.type) t0 t1 ht hcond.2 hti k1 hnA (by rw [hlA]; exact hroom) hfit
             rw [hlA] at hrun
             have hrs : (cur.toList.take (b.elems.length * ti.size) ++ news ++ cur.toList.drop (b.elems.length * ti.size + news.length)).toArray.size = cur.size := by simp; omega
             have hshr : ∀ k,(w.setRow B (cur.toList.take (b.elems.length * ti.size) ++ news ++ cur.toList.drop (b.elems.length * ti.size + news.length)).toArray).shape? k = w.shape? k := by
              intro k
              by_cases hk : k = B
              ·subst hk
               unfold World.shape?
               rw [setRow_heap w k cur _ ct _ k1,k1]
               exact congrArg (fun n => some (ct,n)) hrs
              ·exact shape_heap (setRow_other w B k _ hk)
             refine hput hrun (fin (ρ' := upd ρ l (some B)) ?_ ?_)
             ·refine h.changeV hb (r := some B) (w' := w.setRow B _) (by simp) rfl rfl rfl hlp (fun k hk => hshr k) (fun k hk hne => setRow_other w B k _ (fun e => hne (by rw [g1,e]))) (fun B' hB' => by cases hB'; exact ⟨.inl g1,by simpa using (Array.getElem?_eq_some_iff.1 k1).1⟩) (fun B' hB' => ?_) (fun e => by cases e) hpur
              cases hB'
              refine ⟨_,_,setRow_heap w B cur _ ct _ k1,?_,fun x hx => ?_,fun i x j d v q1 q2 q3 => ⟨?_,hname i x j d q1 q2⟩⟩
              ·rw [hrs]; simp only [List.length_append,hbes]; rw [Nat.add_mul,← hn.1]; exact hfit
              ·rcases List.mem_append.1 hx with hx | hx
               ·rw [hoe x hx,hbes]
               ·rw [(hyes x hx).1,hbes]
              ·rw [hbes] at q3
               exact el_appendV (w := w) (ρ0 := ρ) (h0 := st.hp) (Z := Zf cf.Z0 cf.base ρ st.hp w) (es := ti.size) (xs := b.elems) (rest := cur.toList.drop (b.elems.length * ti.size + news.length)) hol hn.1 hov hoe hn.2.2.2.2 (fun x hx => (hyes x hx).1) i x j d v q1 q2 (by simpa using q3)
             ·have hsh : (w.setRow B (cur.toList.take (b.elems.length * ti.size) ++ news ++ cur.toList.drop (b.elems.length * ti.size + news.length)).toArray).shape? B = some (ct,cur.size) := by
               unfold World.shape?; rw [setRow_heap w B cur _ ct _ k1]; exact congrArg (fun n => some (ct,n)) hrs
              have := V.lsl (ρ := upd ρ l (some B)) (h := St.hp ⟨purge l st.env,(l,some { b with elems := b.elems ++ c.elems }) :: purgeH l st.heap⟩) (w := w.setRow B (cur.toList.take (b.elems.length * ti.size) ++ news ++ cur.toList.drop (b.elems.length * ti.size + news.length)).toArray)
               (Z := Zf cf.Z0 cf.base (upd ρ l (some B)) (St.hp ⟨purge l st.env,(l,some { b with elems := b.elems ++ c.elems }) :: purgeH l st.heap⟩) (w.setRow B (cur.toList.take (b.elems.length * ti.size) ++ news ++ cur.toList.drop (b.elems.length * ti.size + news.length)).toArray))
               l 0 (b.elems.length + c.elems.length) cap B _ _ _ (by simp [upd]) hhl hsh hroom (by rw [← hn']; simpa using g5) (by simp) (by unfold maxLen; omega)
              simpa using this
            ·have hold : ∀ w' : World,w'.heap = w.heap → (Builtin.firstCells ti.size b.elems.length (.slice (some ⟨B,0,none⟩) b.elems.length cap)).run P w' = .ok (cur.toList.take (b.elems.length * ti.size)).toArray w' := by
              intro w' hw'
              refine run_firstCells_some w' ti.size b.elems.length ⟨B,0,none⟩ b.elems.length cap _ hol fun j v hj => ?_
              have hjl := (List.getElem?_eq_some_iff.1 hj).1
              rw [hol] at hjl
              rw [addr_add,cell_of w' B _ cur ct _ (by rw [hw']; exact k1)]
              rw [List.getElem?_take_of_lt hjl] at hj
              simpa using hj
             generalize cur.toList.take (b.elems.length * ti.size) = olds at hol hov hold
             have hrun := append_grow (P := P) (w := w) (ty := o.type) t0 t1 ht hcond.2 hti hzv hold hnA (by rw [hlA]; omega) (by rw [hlA]; exact hbb) (by rw [hlA]; exact hbl)
             rw [hlA] at hrun
             refine hput hrun (fin (ρ' := upd ρ l (some w.heap.size)) ?_ ?_)
             all_goals
              obtain ⟨c1,c2⟩ := hcap (b.elems.length + c.elems.length) cap hbl
              have hsz : (olds.toArray ++ news.toArray ++ Builtin.zeroCells zv.cells (grownCap w (b.elems.length + c.elems.length) cap e - (b.elems.length + c.elems.length))).size = grownCap w (b.elems.length + c.elems.length) cap e * ti.size := by
               simp only [Array.size_append,List.size_toArray,hzs,hn.1,hol]
               rw [← Nat.add_mul,← Nat.add_mul]; congr 1; omega
             ·have hel := el_appendV (w := w) (ρ0 := ρ) (h0 := st.hp) (Z := Zf cf.Z0 cf.base ρ st.hp w) (es := ti.size) (xs := b.elems) (olds := olds) (rest := (Builtin.zeroCells zv.cells (grownCap w (b.elems.length + c.elems.length) cap e - (b.elems.length + c.elems.length))).toList) hol hn.1 hov hoe hn.2.2.2.2 (fun x hx => (hyes x hx).1)
              refine (h.drewN 1).changeV hb (r := some w.heap.size) (w' := (w.drewN 1).alloc _) (by simp) rfl rfl rfl hlp (fun k hk => shape_heap (heap_alloc_old _ _ hk)) (fun k hk _ => heap_alloc_old _ _ hk) (fun B hB => by cases hB; exact ⟨.inr (Nat.le_refl _),by simp⟩) (fun B hB => ?_) (fun e => by cases e) hpur
              cases hB
              refine ⟨_,_,heap_alloc_new (w.drewN 1) _,?_,fun x hx => ?_,fun i x j d v q1 q2 q3 => ⟨?_,hname i x j d q1 q2⟩⟩
              ·rw [hsz]; simp only [List.length_append,hbes]; exact Nat.mul_le_mul_right _ c1
              ·rcases List.mem_append.1 hx with hx | hx
               ·rw [hoe x hx,hbes]
               ·rw [(hyes x hx).1,hbes]
              ·rw [hbes] at q3
               refine to1 (hel i x j d v q1 q2 ?_)
               rw [← q3,← Array.getElem?_toList]; simp
             ·have hsh : ((w.drewN 1).alloc (.cells (olds.toArray ++ news.toArray ++ Builtin.zeroCells zv.cells (grownCap w (b.elems.length + c.elems.length) cap e - (b.elems.length + c.elems.length))) e)).shape? w.heap.size = some (e,grownCap w (b.elems.length + c.elems.length) cap e * ti.size) := by
               unfold World.shape?; rw [show w.heap.size = (w.drewN 1).heap.size from rfl,heap_alloc_new]; exact congrArg (fun n => some (e,n)) hsz
              have := V.lsl (ρ := upd ρ l (some w.heap.size)) (h := St.hp ⟨purge l st.env,(l,some { b with elems := b.elems ++ c.elems }) :: purgeH l st.heap⟩) (w := (w.drewN 1).alloc (.cells (olds.toArray ++ news.toArray ++ Builtin.zeroCells zv.cells (grownCap w (b.elems.length + c.elems.length) cap e - (b.elems.length + c.elems.length))) e))
               (Z := Zf cf.Z0 cf.base (upd ρ l (some w.heap.size)) (St.hp ⟨purge l st.env,(l,some { b with elems := b.elems ++ c.elems }) :: purgeH l st.heap⟩) ((w.drewN 1).alloc (.cells (olds.toArray ++ news.toArray ++ Builtin.zeroCells zv.cells (grownCap w (b.elems.length + c.elems.length) cap e - (b.elems.length + c.elems.length))) e)))
               l 0 (b.elems.length + c.elems.length) (grownCap w (b.elems.length + c.elems.length) cap e) w.heap.size _ _ _ (by simp [upd]) hhl hsh c1 (by simp [hbes]) (by simp) (by omega)
              rw [show (0 : Nat) * b.es = 0 from Nat.zero_mul _] at this
              exact this
           ·rw [hb] at g2; cases g2
            exact absurd (h.hp.nil l b hb g1) hbne
          ·cases he
         ·cases he
        ·cases he
       ·rw [hc'] at y2; cases y2
        exact absurd (h.hp.nil ly c hc' y1) hcne
      ·cases he
     ·cases he
    ·cases he
   ·cases he
  ·cases hc
 ·cases hc
end
end Go.Ab

namespace Go.Ab
open Go.RowKit

section
variable {P : Program} {cf : Cfg} {ρ : Nat → Option Nat} {st : St} {a : Act} {w : World}

theorem V0.nz {Z : Nat → Prop} {v : Value} {x : AV} (hv : V0 w Z v x) : V0 w Z v (nz x) := by
 cases x <;> first | exact hv | skip
 cases hv; exact .slnil (.inl rfl)
theorem V0.nzE {Z : Nat → Prop} {v : Value} {x : AV} (hv : V0 w Z v x) : V0 w Z v (nzE x) := by
 cases x <;> first | exact hv.nz | skip
 rename_i cs
 cases hv with
 | agg vs _ hl hd =>
  refine .agg vs _ (by simpa using hl) fun i c d h1 h2 => ?_
  simp only [List.getElem?_map,Option.map_eq_some_iff] at h2
  obtain ⟨d',h3,rfl⟩ := h2
  exact (hd i c d' h1 h3).nz
theorem V0.nzV {Z : Nat → Prop} {v : Value} {x : AV} (hv : V0 w Z v x) : V0 w Z v (nzV x) := by
 cases x <;> first | exact hv.nzE | skip
 rename_i cs
 cases hv with
 | tup vs _ hl hd =>
  refine .tup vs _ (by simpa using hl) fun i c d h1 h2 => ?_
  simp only [List.getElem?_map,Option.map_eq_some_iff] at h2
  obtain ⟨d',h3,rfl⟩ := h2
  exact (hd i c d' h1 h3).nzE
theorem nz_args {Z : Nat → Prop} {args : Array Value} {ps : List AV} (h : ∀ (i : Nat) c d,args[i]? = some c → ps[i]? = some d → V0 w Z c d) : ∀ (i : Nat) c d,args[i]? = some c → (ps.map Go.Ab.nzV)[i]? = some d → V0 w Z c d := by
 intro i c d h1 h2
 simp only [List.getElem?_map,Option.map_eq_some_iff] at h2
 obtain ⟨d',h3,rfl⟩ := h2
 exact (h i c d' h1 h3).nzV

theorem is0_ok {o : Option Operand} (h : is0 o = true) : ∃ k,o = some (.const (.int k 0)) := by
 unfold is0 at h
 split at h
 ·rename_i k n
  have : n = 0 := by simpa using h
  subst this; exact ⟨k,rfl⟩
 ·cases h

theorem snd_zero3 (h : StRρ cf ρ st a w) {own mu : List Nat} {tab : Tab} {o : Oper} {t : TypeId} {x : Operand} {lo hi mx : Option Operand} (ho : o.op = .slice t x lo hi mx) {es : Nat} {ox : Opd} (hc : cOp P own mu o.op = some (.zero3 es ox)) {st' : St}
  (he : eop tab st o.dst (.zero3 es ox) = some st') (hdn : ∀ d,o.dst = some d → d < cf.n) : Steps1 P cf o st' a w := by
 rw [ho] at hc
 simp only [cOp] at hc
 split at hc
 ·simp only [bind,Option.bind_eq_some_iff,pure,Option.some.injEq,reduceCtorEq,and_false,exists_false,exists_const] at hc
 ·simp only [bind,Option.bind_eq_some_iff,pure,Option.some.injEq,reduceCtorEq,and_false,exists_false,exists_const] at hc
 ·rename_i m e hu
  split at hc
  ·rename_i hz
   obtain ⟨hm,hh,hl⟩ := hz
   simp only [bind,Option.bind_eq_some_iff,pure,Option.some.injEq] at hc
   obtain ⟨es',hs,ox',hx,hc⟩ := hc
   cases hc
   obtain ⟨km,hm⟩ := is0_ok hm
   obtain ⟨kh,rfl⟩ := is0_ok hh
   cases hm
   obtain ⟨ti,hti,rfl⟩ := sizeT_some hs
   have vx := h.ev x ox hx
   have hrun : ∀ (ad : Option Addr) (len cap : Nat),a.eval x = .slice ad len cap → (execOp a.eval o).run P w = .ok (.value (.slice ad 0 0)) w := by
    intro ad len cap hv
    have ez : ∀ k,a.eval (.const (.int k 0)) = .int k 0 := fun k => rfl
    rcases (by simpa using hl : lo = none ∨ is0 lo = true) with rfl | hl0
    ·simp [execOp,ho,hv,Instr.sliceAt,Instr.slice,run_underlying hu,Instr.sliceBounds,Instr.sliceBound,ez,asIntOf,run_size hti]
    ·obtain ⟨kl,rfl⟩ := is0_ok hl0
     simp [execOp,ho,hv,Instr.sliceAt,Instr.slice,run_underlying hu,Instr.sliceBounds,Instr.sliceBound,ez,asIntOf,run_size hti]
   have fin : ∀ {ad : Option Addr} {len cap d : Nat},o.dst = some d → a.eval x = .slice ad len cap → Nil0 (.slice ad 0 0) → (if (st.hp d).isNone = true then some ((st.setH d (some ⟨ti.size,true,[]⟩)).set d (.lsl d 0 0)) else none) = some st' → Steps1 P cf o st' a w := by
    intro ad len cap d hd hv hn he
    split at he
    ·rename_i hf
     cases he
     have hfree : st.hp d = none := by simpa using hf
     refine .inl ⟨_,w,hrun ad len cap hv,?_⟩
     rw [hd]
     refine ⟨_,(h.virt (Nat.lt_of_lt_of_le (hdn d hd) cf.hn) hfree ti.size true).put (x := .lsl d 0 0) (dst := some d) ?_ (fun k hk => by cases hk; exact hdn d hd)⟩
     exact .lnil d ⟨ti.size,true,[]⟩ hn (by simp [upd]) (by simp [St.hp,St.setH,lk])
    ·cases he
   simp only [eop] at he
   generalize ev st ox = xv at *
   generalize a.eval x = av at *
   split at he
   ·rename_i d xs hd
    rcases sl_inv vx with ⟨B,off,cap,es,rfl,_⟩ | ⟨hn,_⟩
    ·exact fin hd rfl (.inr ⟨_,rfl⟩) he
    ·obtain ⟨ad,rfl,hn'⟩ := hn.ad
     exact fin hd rfl hn' he
   ·rename_i d hd
    have := snil_inv vx; subst this
    exact fin hd rfl (.inl rfl) he
   ·rename_i d l off len hd
    rcases lsl_inv vx with ⟨B,b,t',n',cap,_,_,_,rfl,_⟩ | ⟨b,_,_,hn,_,_⟩
    ·exact fin hd rfl (.inr ⟨_,rfl⟩) he
    ·obtain ⟨ad,rfl,hn'⟩ := hn.ad
     exact fin hd rfl hn' he
   ·cases he
  ·cases hc
 ·cases hc

theorem StRρ.same (h : StRρ cf ρ st a w) {st' : St} (hh : st'.hp = st.hp) (hg : ∀ t,st'.get t = st.get t) : StRρ cf ρ st' a w := by
 refine ⟨?_,fun t => ?_,h.size,h.defers,h.fr,?_,h.z0,h.pin,h.shp⟩
 ·rw [hh]; exact h.hp
 ·rw [hh,hg t]; exact h.tmp t
 ·rw [hh]; exact h.own

theorem StRρ.rewrite (h : StRρ cf ρ st a w) {l B : Nat} {b : Blk} (hb : st.hp l = some b) (hρ : ρ l = some B) {cur : Array Value} {t : TypeId} (hcur : w.heap[B]? = some (.cells cur t (0,0))) {row : Array Value} {xs : List AV}
  (hlen : xs.length = b.elems.length) (hrow : row.size = cur.size) (hes : ∀ x ∈ xs,x.cells.length = b.es)
  (hv : ∀ (i : Nat) x (j : Nat) d v,xs[i]? = some x → x.cells[j]? = some d → row[i * b.es + j]? = some v → V0 w (Zf cf.Z0 cf.base ρ st.hp w) v d) :
  StRρ cf ρ (st.setH l (some { b with elems := xs })) a (w.setRow B row) := by
 obtain ⟨c0,t0,hc0,hsz,_,_,_⟩ := h.hp.blk l b B hb hρ
 rw [hcur] at hc0
 cases hc0
 have hhp : (st.setH l (some { b with elems := xs })).hp = upd st.hp l (some { b with elems := xs }) := by funext m; rfl
 have halive : ∀ m,(upd st.hp l (some { b with elems := xs }) m).isSome = (st.hp m).isSome := by
  intro m
  by_cases hm : l = m
  ·subst hm; simp [upd,hb]
  ·simp [upd,hm]
 have hother : ∀ k,k ≠ B → (w.setRow B row).heap[k]? = w.heap[k]? := fun k hk => setRow_other w B k row hk
 have hsame : (w.setRow B row).heap[B]? = some (.cells row t (0,0)) := setRow_heap w B cur row t _ hcur
 have hshape : ∀ k,(w.setRow B row).shape? k = w.shape? k := by
  intro k
  by_cases hk : k = B
  ·subst hk; simp [World.shape?,hsame,hcur,hrow]
  ·exact shape_heap (hother k hk)
 have hzone : ∀ k,Zf cf.Z0 cf.base ρ st.hp w k → Zf cf.Z0 cf.base ρ (upd st.hp l (some { b with elems := xs })) (w.setRow B row) k ∧ (w.setRow B row).heap[k]? = w.heap[k]? := by
  intro k hk
  have hkB : k ≠ B := by
   rintro rfl
   exact hk.2.2 l (by simp [hb]) hρ
  exact ⟨⟨hk.1,by simpa using hk.2.1,fun m hm => hk.2.2 m (by rw [← halive m]; exact hm)⟩,hother k hkB⟩
 have hnames : ∀ m b',st.hp m = some b' → ρ m = ρ m ∧ (∃ b'',upd st.hp l (some { b with elems := xs }) m = some b'' ∧ b''.es = b'.es ∧ b''.elems.length = b'.elems.length) ∧ ∀ B',ρ m = some B' → (w.setRow B row).shape? B' = w.shape? B' := by
  intro m b' hb'
  refine ⟨rfl,?_,fun B' _ => hshape B'⟩
  by_cases hm : l = m
  ·subst hm
   rw [hb] at hb'; cases hb'
   exact ⟨{ b with elems := xs },by simp [upd],rfl,hlen⟩
  ·exact ⟨b',by simp [upd,hm,hb'],rfl,rfl⟩
 have hmono : ∀ {u q},V ρ st.hp w (Zf cf.Z0 cf.base ρ st.hp w) u q → V ρ (upd st.hp l (some { b with elems := xs })) (w.setRow B row) (Zf cf.Z0 cf.base ρ (upd st.hp l (some { b with elems := xs })) (w.setRow B row)) u q :=
  fun hq => hq.mono hzone hnames
 refine ⟨⟨fun m b' B' hb' hB' => ?_,fun m b' hb' hn => ?_,fun m m' B' h1 h2 h3 h4 => ?_⟩,fun t' => ?_,h.size,h.defers,?_,fun m B' hm hB' => ?_,h.z0,h.pin,fun k hk => (hshape k).trans (h.shp k hk)⟩
 ·rw [hhp] at hb' ⊢
  by_cases hm : l = m
  ·subst hm
   rw [hρ] at hB'; cases hB'
   simp only [upd,if_true] at hb'; cases hb'
   exact ⟨row,t,hsame,by rw [hrow]; simpa [hlen] using hsz,hes,fun i x j d v q1 q2 q3 => .pure ((hv i x j d v q1 q2 q3).mono hzone),fun _ i x j d v q1 q2 q3 => (hv i x j d v q1 q2 q3).mono hzone⟩
  ·simp only [upd,hm,if_false] at hb'
   have hBB : B' ≠ B := by
    rintro rfl
    exact hm (h.hp.inj l m B' (by simp [hb]) (by simp [hb']) hρ hB')
   obtain ⟨c,t',g1,g2,g3,g4,g5⟩ := h.hp.blk m b' B' hb' hB'
   exact ⟨c,t',by rw [hother B' hBB]; exact g1,g2,g3,fun k q j d u q1 q2 q3 => hmono (g4 k q j d u q1 q2 q3),fun hpur k q j d u q1 q2 q3 => (g5 hpur k q j d u q1 q2 q3).mono hzone⟩
 ·rw [hhp] at hb'
  by_cases hm : l = m
  ·subst hm; rw [hρ] at hn; cases hn
  ·simp only [upd,hm,if_false] at hb'
   exact h.hp.nil m b' hb' hn
 ·rw [hhp,halive] at h1 h2
  exact h.hp.inj m m' B' h1 h2 h3 h4
 ·rw [hhp]; exact hmono (h.tmp t')
 ·have f := h.fr
  refine ⟨f.os,f.tape,f.output,by have := f.size; simp; omega,f.base_le,fun k hk hm => ?_⟩
  have hkB : k ≠ B := by
   rintro rfl
   rcases h.own l k (by simp [hb]) hρ with hge | hM
   ·omega
   ·exact hm hM
  rw [hother k hkB]
  exact f.block k hk hm
 ·rw [hhp,halive] at hm
  exact h.own m B' hm hB'

theorem V.shorter {h : Nat → Option Blk} {Z : Nat → Prop} {v : Value} {y : AV} {ys : List AV} (hv : V ρ h w Z v y) (he : elemsS h y = some ys) {m : Nat} (hm : m ≤ ys.length) :
  ∃ ad cap y',v = .slice ad ys.length cap ∧ V ρ h w Z (.slice ad m cap) y' ∧ elemsOf h y' = some (ys.take m) := by
 cases y with
 | sl xs =>
  cases he
  rcases sl_inv hv with ⟨B,o,cap,es,rfl,hc,hl,hz,hsz,hca⟩ | ⟨hnil,rfl⟩
  ·refine ⟨_,cap,.sl (ys.take m),rfl,.pure (.sl B o m cap es _ (by simp; omega) (by omega) (by omega) (fun hne => hz ?_) (fun x hx => hsz x (List.mem_of_mem_take hx)) (fun i x j d q1 q2 => ?_) (fun i x j d c q1 q2 q3 => ?_)),rfl⟩
   ·rintro rfl; simp at hne
   ·have hi : i < m := by have := (List.getElem?_eq_some_iff.1 q1).1; simp at this; omega
    rw [List.getElem?_take_of_lt hi] at q1
    obtain ⟨c,h1,_⟩ := (hca i x q1).2 j d q2
    exact ⟨c,h1⟩
   ·have hi : i < m := by have := (List.getElem?_eq_some_iff.1 q1).1; simp at this; omega
    rw [List.getElem?_take_of_lt hi] at q1
    obtain ⟨c',h1,h2⟩ := (hca i x q1).2 j d q2
    rw [h1] at q3; cases q3; exact h2
  ·simp at hm; subst hm
   obtain ⟨ad,rfl,hn'⟩ := hnil.ad
   exact ⟨ad,0,.sl [],rfl,.pure (.slnil hn'),rfl⟩
 | snil =>
  cases he
  have := snil_inv hv; subst this
  simp at hm; subst hm
  exact ⟨none,0,.snil,rfl,hv,rfl⟩
 | lsl l off len =>
  simp only [elemsS,elemsOf,partL_eq] at he
  rcases lsl_inv hv with ⟨B,b,t,n,cap,h1,h2,h3,rfl,h4,h5,h6,h7⟩ | ⟨b,h1,h2,hnil,rfl,rfl⟩
  ·rw [h2] at he
   dsimp only at he
   split at he
   ·rename_i hp
    cases he
    have hl : ((b.elems.drop off).take len).length = len := by simp; omega
    rw [hl] at hm ⊢
    refine ⟨_,cap,.lsl l off m,rfl,.lsl l off m cap B b t n h1 h2 h3 (by omega) h5 (by omega) (by omega),?_⟩
    simp only [elemsOf,h2,partL_eq]
    rw [if_pos ⟨hp.1,by omega⟩,List.take_take,Nat.min_eq_left hm]
   ·cases he
  ·rw [h2] at he
   dsimp only at he
   split at he
   ·rename_i hp
    cases he
    simp at hm; subst hm
    have e2 : elemsOf h (.lsl l 0 0) = some [] := by simp only [elemsOf,h2,partL_eq]; rw [if_pos hp]; rfl
    obtain ⟨ad,rfl,_⟩ := hnil.ad
    exact ⟨ad,0,.lsl l 0 0,rfl,hv,e2⟩
   ·cases he
 | str l => cases he
 | _ => cases he

theorem snd_copy (h : StRρ cf ρ st a w) {own mu : List Nat} {tab : Tab} {o : Oper} {c : Call} (ho : o.op = .call c) (hcb : c.callee = .builtin .copy) {es by0 : Nat} {ox oy : Opd} (hc : cOp P own mu o.op = some (.copy es by0 ox oy)) {st' : St}
  (he : eop tab st o.dst (.copy es by0 ox oy) = some st') (hdn : ∀ d,o.dst = some d → d < cf.n) : Steps1 P cf o st' a w := by
 rw [ho] at hc
 obtain ⟨callee,args,argTypes⟩ := c
 dsimp only at hcb
 subst hcb
 simp only [cOp] at hc
 split at hc
 ·rename_i x y t u hargs htys
  simp only [bind,Option.bind_eq_some_iff] at hc
  obtain ⟨e,hel,es',hes,z,hz,hc⟩ := hc
  split at hc
  ·rename_i hcond
   simp only [Option.bind_eq_some_iff,pure,Option.some.injEq] at hc
   obtain ⟨by1,hby,ox',hx,oy',hy,hc⟩ := hc
   cases hc
   have ht := sliceT_inv hel
   obtain ⟨ti,hti,rfl⟩ := sizeT_some hes
   have ea : args = #[x,y] := by rw [← Array.toArray_toList (xs := args),hargs]
   have et : argTypes = #[t,u] := by rw [← Array.toArray_toList (xs := argTypes),htys]
   subst ea; subst et
   have t0 : (#[t,u] : Array TypeId)[0]? = some t := rfl
   have vx := h.ev x ox hx
   have vy := h.ev y oy hy
   simp only [eop] at he
   generalize ev st ox = ax at *
   generalize ev st oy = ay at *
   split at he
   ·rename_i ys l off len hys
    split at he
    ·rename_i b hb
     split at he
     ·rename_i hcnd
      cases he
      obtain ⟨hpur,hbes,hroom,hall⟩ := hcnd
      have hyes : ∀ x ∈ ys,x.cells.length = ti.size ∧ storable x = true := fun x hx => by
       have := List.all_eq_true.1 hall x hx
       simpa [esSt,hbes] using this
      have hmle : min len ys.length ≤ ys.length := Nat.min_le_right _ _
      obtain ⟨ad,cap,y',hvy,hv',hel'⟩ := vy.shorter hys hmle
      obtain ⟨news,hn⟩ := elems_ok (P := P) h hv' hel' (es := ti.size) fun x hx => hyes x (List.mem_of_mem_take hx)
      have hml : (ys.take (min len ys.length)).length = min len ys.length := by simp
      rw [News,hml] at hn
      obtain ⟨n1,n2,n3,n4,n5⟩ := hn
      have hfc : ∀ w' : World,w'.heap = w.heap → (Builtin.firstCells ti.size (min len ys.length) (a.eval y)).run P w' = .ok news.toArray w' := by
       intro w' hw'
       have := n3 w' hw'
       rw [hvy]
       cases ad <;> exact this
      have hlen : ∀ w' : World,(Builtin.lenOf (a.eval y)).run P w' = .ok ys.length w' := fun w' => by rw [hvy]; rfl
      have wf : (Lit.int .i64 ((min len ys.length : Nat) : Int)).wf = true := by
       refine wf_len ?_
       rcases lsl_inv vx with ⟨B,b',t',n',cap',_,_,_,_,_,_,_,g7⟩ | ⟨b',_,_,_,_,rfl⟩
       ·omega
       ·simp
      rcases lsl_inv vx with ⟨B,b',t',n',cap',g1,g2,g3,hvx,g4,g5,g6,g7⟩ | ⟨b',g1,g2,hnil,rfl,rfl⟩
      ·rw [hb] at g2; cases g2
       obtain ⟨cur,ct,k1,k2,k3,_,k5⟩ := h.hp.blk l b B hb g1
       rw [← hbes] at n1 n5 hyes
       have hfit : off * b.es + news.length ≤ cur.size := by
        rw [n1,← Nat.add_mul]
        exact Nat.le_trans (Nat.mul_le_mul_right _ (by omega)) k2
       have hst := run_storeCells_at P B (off * b.es) ct news 0 cur w k1 (by simpa using hfit) n4
       simp only [Nat.add_zero] at hst
       have hget := fun k => row_get (cur := cur) (vs := news) (p := off * b.es) (k := k) hfit
       have hrs : (cur.toList.take (off * b.es) ++ news ++ cur.toList.drop (off * b.es + news.length)).toArray.size = cur.size := by simp; omega
       refine .inl ⟨.int .i64 (min len ys.length : Nat),w.setRow B (cur.toList.take (off * b.es) ++ news ++ cur.toList.drop (off * b.es + news.length)).toArray,?_,ρ,?_⟩
       ·have hmin : ys.length.min len = min len ys.length := Nat.min_comm _ _
        have hf := hfc w rfl
        simp [execOp,ho,resolve,invoke,builtin,Builtin.copy_,run_underlying ht,hvx,hlen,hmin,sizeOf,typeInfo,hti,hf,hst,goInt]
       ·refine StRρ.put (h.rewrite hb g1 k1 ?_ hrs ?_ ?_) (.pure (.int _ _ wf)) hdn
        ·simp; omega
        ·intro q hq
         rcases List.mem_append.1 hq with hq | hq
         ·rcases List.mem_append.1 hq with hq | hq
          ·exact k3 q (List.mem_of_mem_take hq)
          ·exact (hyes q (List.mem_of_mem_take hq)).1
         ·exact k3 q (List.mem_of_mem_drop hq)
        ·intro i q j d v q1 q2 q3
         rw [hget] at q3
         generalize hm : min len ys.length = m at *
         have hjl : j < b.es := by
          have hq : q.cells.length = b.es := by
           have hq := List.mem_of_getElem? q1
           rcases List.mem_append.1 hq with hq | hq
           ·rcases List.mem_append.1 hq with hq | hq
            ·exact k3 q (List.mem_of_mem_take hq)
            ·exact (hyes q (List.mem_of_mem_take hq)).1
           ·exact k3 q (List.mem_of_mem_drop hq)
          rw [← hq]; exact (List.getElem?_eq_some_iff.1 q2).1
         have htl : (b.elems.take off).length = off := by simp; omega
         by_cases c1 : i < off
         ·rw [List.append_assoc,List.getElem?_append_left (by omega),List.getElem?_take_of_lt c1] at q1
          have := idx_lt c1 hjl
          rw [if_neg (by omega)] at q3
          exact k5 hpur i q j d v q1 q2 q3
         ·by_cases c2 : i < off + m
          ·rw [List.append_assoc,List.getElem?_append_right (by omega),htl,List.getElem?_append_left (by omega)] at q1
           have h1 := idx_lt (show i - off < m by omega) hjl
           have h2 : i * b.es = off * b.es + (i - off) * b.es := by rw [← Nat.add_mul]; congr 1; omega
           rw [if_pos ⟨by omega,by omega⟩,show i * b.es + j - off * b.es = (i - off) * b.es + j by omega] at q3
           exact n5 (i - off) q j d v q1 q2 q3
          ·rw [List.append_assoc,List.getElem?_append_right (by omega),htl,List.getElem?_append_right (by omega),hml,List.getElem?_drop,show off + m + (i - off - m) = i by omega] at q1
           have h1 := Nat.mul_le_mul_right b.es (show off + m ≤ i by omega)
           rw [Nat.add_mul] at h1
           rw [if_neg (by omega)] at q3
           exact k5 hpur i q j d v q1 q2 q3
      ·rw [hb] at g2; cases g2
       simp only [Nat.zero_min] at *
       have hnews : news = [] := by
        apply List.eq_nil_of_length_eq_zero; simpa using n1
       subst hnews
       have hsame : StRρ cf ρ (st.setH l (some { b with elems := b.elems.take 0 ++ ys.take 0 ++ b.elems.drop (0 + 0) })) a w := by
        refine h.same ?_ fun t => rfl
        funext m
        simp only [St.hp_setH]
        split
        ·rename_i e; subst e; rw [hb]; simp
        ·rfl
       refine .inl ⟨.int .i64 ((0 : Nat) : Int),w,?_,ρ,hsame.put (.pure (.int _ _ wf)) hdn⟩
       have hmin : ys.length.min 0 = 0 := Nat.min_zero _
       have hf := hfc w rfl
       rcases hnil with hvx | ⟨an,hvx⟩
       ·simp [execOp,ho,resolve,invoke,builtin,Builtin.copy_,run_underlying ht,hvx,hlen,hmin,sizeOf,typeInfo,hti,hf,goInt]
       ·simp [execOp,ho,resolve,invoke,builtin,Builtin.copy_,run_underlying ht,hvx,hlen,hmin,sizeOf,typeInfo,hti,hf,goInt,storeCells]
     ·cases he
    ·cases he
   ·cases he
  ·cases hc
 ·cases hc
end
end Go.Ab

