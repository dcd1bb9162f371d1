/- Loops, functions of the library without body, and how great the results of operations on floats may be. No conditions. -/
import Derived.Test.YtadbhabmahpkiacFwD
import Derived.ChangeShapes
import Derived.ChangeArms
import Derived.DataReads
import Derived.Below
import Derived.Carry
import Derived.Laws.Externs
set_option linter.all false
namespace Go.Ab
open Go.RowKit

def hpIs (st : St) : List (Nat × Blk) → Prop
 | [] => True
 | p :: r => st.hp p.1 = some p.2 ∧ p.2.pur = true ∧ p.2.elems.all flatE = true ∧ hpIs st r
def RetW (rs : List RV) (r : AV) (H' : List (Nat × Blk)) : IExit → St → Prop
 | .exit _,_ => False
 | _,st => outM .any st rs = some r ∧ hpIs st H'
def startW (vs : List AV) (H : List (Nat × Blk)) : St := ⟨envOf 0 vs,H.map fun p => (p.1,some p.2)⟩
def highN : List (Nat × Blk) → Bool
 | [] => true
 | p :: r => (decide (1000000 ≤ p.1) && Nat.beq (p.1 % 4) 0) && highN r
theorem highN_nil : highN [] = true := rfl
theorem highN_cons {n : Nat} {b : Blk} {r : List (Nat × Blk)} (h1 : Nat.ble 1000000 n = true) (h2 : n % 4 = 0) (h : highN r = true) : highN ((n,b) :: r) = true := by
 simp only [highN,Bool.and_eq_true,decide_eq_true_eq]
 exact ⟨⟨Nat.le_of_ble_eq_true h1,by rw [h2]; rfl⟩,h⟩

section
variable {P : Program} {cf : Cfg} {tab : Tab} {ρ : Nat → Option Nat} {st : St} {a : Act} {w : World}

theorem hpIs_mem : ∀ {H' : List (Nat × Blk)},hpIs st H' → ∀ p ∈ H',st.hp p.1 = some p.2 ∧ p.2.pur = true ∧ p.2.elems.all flatE = true
 | q :: H',h,p,hp => by
  obtain ⟨h1,h2,h3,h4⟩ := h
  rcases List.mem_cons.1 hp with rfl | hp
  ·exact ⟨h1,h2,h3⟩
  ·exact hpIs_mem h4 p hp
theorem highN_mem : ∀ {H : List (Nat × Blk)},highN H = true → ∀ p ∈ H,1000000 ≤ p.1 ∧ p.1 % 4 = 0
 | q :: H,h,p,hp => by
  simp only [highN,Bool.and_eq_true,decide_eq_true_eq] at h
  rcases List.mem_cons.1 hp with rfl | hp
  ·exact ⟨h.1.1,Nat.eq_of_beq_eq_true h.1.2⟩
  ·exact highN_mem h.2 p hp

theorem spec_ofW (hm : P.follows .mixedOrders = true) (ht : TabOk P tab) {f : FuncId} {fn : Func} {c : Code} {ic : ICode} {cp : CP} {rvl : List RV} (hf : P.funcs[f]? = some fn) (hname : (fn.name == "runtime.NumGoroutine") = false) (hb : fn.body = some c)
  (hn : cp.n = fn.ntmps) (hc : cCode P cp c = some ic) (hr : fn.results.toList.mapM (cRV P) = some rvl) {ess : List Nat} {yss : List (List AV)} {ps vs : List AV} {H H' : List (Nat × Blk)} {r : AV} (hlim : cp.n ≤ 1000000) (hlen : vs.length ≤ fn.ntmps)
  (hnm : nmAs 1000000 ess ps = some (vs,H,[])) (hz : zipW H yss = some H') (hhi : highN H = true) (hdup : noDupN (H.map (·.1)) = true) (hflat : flatT r = true) (hw : wpA tab ic (startW vs H) (RetW rvl r H')) : SaysX P (.wr ess yss) f ps r := by
 intro vs0 H0 hnm0
 rw [hnm] at hnm0
 cases hnm0
 refine ⟨H',hz,?_⟩
 intro w ρ args hHp hsz hV
 have hname' : ¬ fn.name = "runtime.NumGoroutine" := by simpa using hname
 refine .inr ⟨by simp [callFunc,hf,hname',hb],?_⟩
 refine calls_of_wp hf hb ?_
 let M : Nat → Prop := fun b => ∃ l,(HW H l).isSome = true ∧ ρ l = some b
 let cf : Cfg := ⟨fn.ntmps,w.heap.size,M,M,w,fun _ h => h,ρ,by rw [← hn]; exact hlim,false⟩
 have ht : TabOkC P cf tab := ⟨ht,fun h => by cases h⟩
 have hst : (startW vs H).hp = HW H := rfl
 have hz0 : ∀ b,(fun _ : Nat => False) b → Zf cf.Z0 cf.base ρ (HW H) w b ∧ w.heap[b]? = w.heap[b]? := fun b hb => hb.elim
 have mono : ∀ {v x},V ρ (HW H) w (fun _ => False) v x → V ρ (HW H) w (Zf cf.Z0 cf.base ρ (HW H) w) v x := fun hv => hv.mono hz0 fun l b hb => ⟨rfl,⟨b,hb,rfl,rfl⟩,fun _ _ => rfl⟩
 have hlt : ∀ l b B,HW H l = some b → ρ l = some B → B < w.heap.size := by
  intro l b B h1 h2
  obtain ⟨c,t,g,_⟩ := hHp.blk l b B h1 h2
  exact (Array.getElem?_eq_some_iff.1 g).1
 have hstart : StRρ cf ρ (startW vs H) { tmps := args ++ Array.replicate (fn.ntmps - args.size) undef,defers := [] } w := by
  refine ⟨?_,fun t => ?_,?_,rfl,Fr.refl _ w,fun l B hl hB => .inr ⟨l,hl,hB⟩,fun b hb => ?_,fun _ _ => rfl,fun _ _ => rfl⟩
  ·rw [hst]
   refine ⟨fun l b B hb hB => ?_,hHp.nil,hHp.inj⟩
   obtain ⟨c,t,g1,g2,g3,g4,g5⟩ := hHp.blk l b B hb hB
   exact ⟨c,t,g1,g2,g3,fun i x j d v q1 q2 q3 => mono (g4 i x j d v q1 q2 q3),fun hp i x j d v q1 q2 q3 => (g5 hp i x j d v q1 q2 q3).mono hz0⟩
  ·rw [hst]
   have hget : (startW vs H).get t = vs.getD t .any := by
    have := lk_envOf vs 0 t (Nat.zero_le _)
    rw [Nat.sub_zero] at this
    exact this
   rw [hget]
   by_cases hltt : t < vs.length
   ·have h1 : args[t]? = some (args[t]'(by omega)) := by simp [hsz,hltt]
    have h2 : vs[t]? = some vs[t] := by simp [hltt]
    have h3 : (args ++ Array.replicate (fn.ntmps - args.size) undef).getD t undef = args[t]'(by omega) := by
     simp [Array.getD_eq_getD_getElem?,Array.getElem?_append,hsz,hltt]
    have h4 : vs.getD t .any = vs[t] := by simp [hltt]
    rw [h4]
    show V ρ (HW H) w _ ((args ++ Array.replicate (fn.ntmps - args.size) undef).getD t undef) _
    rw [h3]
    exact mono (hV t _ _ h1 h2)
   ·have h4 : vs.getD t .any = .any := by simp [show vs.length ≤ t by omega]
    rw [h4]; exact .pure (.any _)
  ·simp [cf,hsz]; omega
  ·obtain ⟨l,h1,h2⟩ := hb
   obtain ⟨b',hb'⟩ := Option.isSome_iff_exists.1 h1
   exact hlt l b' b hb' h2
 have hnames : ∀ {H H' : List (Nat × Blk)} {yss : List (List AV)},zipW H yss = some H' → H'.map (·.1) = H.map (·.1) := by
  intro H
  induction H with
  | nil =>
   intro H' yss hz
   cases yss with
   | nil => cases hz; rfl
   | cons => cases hz
  | cons p H ih =>
   intro H' yss hz
   cases yss with
   | nil => cases hz
   | cons ys yss =>
    simp only [zipW] at hz
    split at hz
    ·rename_i r' hr'
     split at hz
     ·cases hz; simp [ih hr']
     ·cases hz
    ·cases hz
 have hfin : ∀ {ρe : Nat → Option Nat} {st : St} {a' : Act} {w' : World},StRρ cf ρe st a' w' → (outM .any st rvl = some r ∧ hpIs st H') → a'.defers = [] ∧ ∃ v,(results fn a'.tmps).run P w' = .ok v w' ∧ ∃ u,Ending.returned v = .returned u ∧ V0 w' (fun _ => False) u r ∧ WrW ρ H H' w w' := by
  rintro ρe st a' w' h ⟨hx,hhp⟩
  unfold outM at hx
  split at hx
  ·rename_i r0 hr0
   split at hx
   ·cases hx
    obtain ⟨v,h1,h2,_⟩ := out_ok h hr hr0
    refine ⟨h.defers,v,h1,v,rfl,(V.pure (ρ := ρe) (h := st.hp) h2.nzV).flatT hflat,?_⟩
    have hin : ∀ l b,HW H' l = some b → (l,b) ∈ H' := fun l b hb => HW_mem hb
    have hhi' : ∀ l b,HW H' l = some b → 1000000 ≤ l ∧ l % 4 = 0 := by
     intro l b hb
     have hm : l ∈ H'.map (·.1) := List.mem_map.2 ⟨(l,b),hin l b hb,rfl⟩
     rw [hnames hz] at hm
     obtain ⟨p,hp,e⟩ := List.mem_map.1 hm
     have := highN_mem hhi p hp
     rw [e] at this; exact this
    have hkeep : ∀ l b,HW H' l = some b → st.hp l = some b ∧ b.pur = true ∧ b.elems.all flatE = true ∧ ρe l = ρ l := fun l b hb => by
     obtain ⟨k1,k2,k3⟩ := hpIs_mem hhp (l,b) (hin l b hb)
     exact ⟨k1,k2,k3,h.pin l ⟨(hhi' l b hb).1,by have := (hhi' l b hb).2; omega,by have := (hhi' l b hb).2; omega⟩⟩
    refine ⟨h.fr.os,h.fr.tape,h.fr.output,h.fr.size,fun k hk hne => h.fr.block k hk ?_,fun k hk => h.shp k hk,⟨fun l b B hb hB => ?_,fun l b hb hB => ?_,fun l l' B h1 h2 h3 h4 => ?_⟩⟩
    ·rintro ⟨l,hl,hB⟩
     exact hne l hl hB
    ·obtain ⟨k1,k2,k3,k4⟩ := hkeep l b hb
     obtain ⟨c,t,g1,g2,g3,g4,g5⟩ := h.hp.blk l b B k1 (by rw [k4]; exact hB)
     have hv : ∀ (i : Nat) y (j : Nat) d v,b.elems[i]? = some y → y.cells[j]? = some d → c[i * b.es + j]? = some v → V0 w' (fun _ => False) v d := by
      intro i y j d v p1 p2 p3
      have hf := List.all_eq_true.1 k3 y (List.mem_of_getElem? p1)
      refine (V.pure (ρ := ρe) (h := st.hp) (g5 k2 i y j d v p1 p2 p3)).flatC ?_
      cases y with
      | agg cs => simp only [flatE,List.all_eq_true] at hf; exact hf d (List.mem_of_getElem? p2)
      | _ =>
       cases j with
       | zero => simp [AV.cells] at p2; subst p2; exact hf
       | succ j => simp [AV.cells] at p2
     exact ⟨c,t,g1,g2,g3,fun i y j d v p1 p2 p3 => .pure (hv i y j d v p1 p2 p3),fun _ => hv⟩
    ·obtain ⟨k1,k2,k3,k4⟩ := hkeep l b hb
     exact h.hp.nil l b k1 (by rw [k4]; exact hB)
    ·obtain ⟨b,hb⟩ := Option.isSome_iff_exists.1 h1
     obtain ⟨b',hb'⟩ := Option.isSome_iff_exists.1 h2
     obtain ⟨k1,_,_,k4⟩ := hkeep l b hb
     obtain ⟨m1,_,_,m4⟩ := hkeep l' b' hb'
     exact h.hp.inj l l' B (by simp [k1]) (by simp [m1]) (by rw [k4]; exact h3) (by rw [m4]; exact h4)
   ·cases hx
  ·cases hx
 refine wp_mono (code_sound (cf := cf) hm ht hn c hc ⟨_,hstart⟩ hw) fun e a' w' hq => ?_
 cases e with
 | normal =>
  obtain ⟨st,⟨ρ,h⟩,hk⟩ := hq
  exact hfin h hk
 | ret =>
  obtain ⟨st,⟨ρ,h⟩,hk⟩ := hq
  exact hfin h hk
 | exit id =>
  obtain ⟨st,h,hk⟩ := hq
  exact hk.elim
 | goto l => exact hq.elim
 | panic ch => exact hq.elim
 | outgrown => exact hq.elim
end
theorem retW_ok {st : St} (rs : List RV) (r : AV) (H' : List (Nat × Blk)) : RetW rs r H' .ret st = (outM .any st rs = some r ∧ hpIs st H') := rfl
theorem retW_normal {st : St} (rs : List RV) (r : AV) (H' : List (Nat × Blk)) : RetW rs r H' .normal st = (outM .any st rs = some r ∧ hpIs st H') := rfl
end Go.Ab

namespace Go.Ab
open Go.RowKit

def pureT (h : Nat → Option Blk) : AV → Option AV
 | .tup ds => (ds.mapM (pureV h)).map .tup
 | x => pureV h x
def RnC (H : List (Nat × Blk)) (g : Nat → Nat) (d d0 : AV) : Prop := (flatC d = true ∧ d0 = d) ∨ ∃ l off len,d = .lsl l off len ∧ d0 = .lsl (g l) off len ∧ (HW H l).isSome = true
def RnV (H : List (Nat × Blk)) (g : Nat → Nat) (d d0 : AV) : Prop :=
 (∃ cs cs0,d = .agg cs ∧ d0 = .agg cs0 ∧ cs.length = cs0.length ∧ ∀ (j : Nat) c c0,cs[j]? = some c → cs0[j]? = some c0 → RnC H g c c0) ∨ RnC H g d d0
structure RnB (H : List (Nat × Blk)) (g : Nat → Nat) (b b0 : Blk) : Prop where
 es : b.es = b0.es
 pur : b.pur = b0.pur
 len : b.elems.length = b0.elems.length
 cell : ∀ (i : Nat) x x0,b.elems[i]? = some x → b0.elems[i]? = some x0 → x.cells.length = x0.cells.length ∧ ∀ (j : Nat) d d0,x.cells[j]? = some d → x0.cells[j]? = some d0 → RnC H g d d0
structure EndO (st : St) (rs : List RV) (r r' : AV) (H : List (Nat × Blk)) (g : Nat → Nat) : Prop where
 out : outM .any st rs = some r
 pure : pureT (HW H) r' = some r
 blk : ∀ l b,HW H l = some b → ∃ b0,st.hp (g l) = some b0 ∧ RnB H g b b0
 inj : ∀ l l',(HW H l).isSome = true → (HW H l').isSome = true → g l = g l' → l = l'
 res : (∃ rv raw,rs = [rv] ∧ rvRaw st rv = some raw ∧ RnV H g r' raw) ∨ (∃ ds,(∀ rv,rs ≠ [rv]) ∧ r' = .tup ds ∧ ds.length = rs.length ∧ ∀ (i : Nat) rv d,rs[i]? = some rv → ds[i]? = some d → ∃ raw,rvRaw st rv = some raw ∧ RnV H g d raw)
def RetO (rs : List RV) (r r' : AV) (H : List (Nat × Blk)) : IExit → St → Prop
 | .exit _,_ => False
 | _,st => ∃ st' g,Wk st st' ∧ EndO st' rs r r' H g
def RetN (rs : List RV) (r : AV) (H' : List (Nat × Blk)) : IExit → St → Prop
 | .exit _,_ => False
 | _,st => ∃ st',Wk st st' ∧ outM .any st' rs = some r ∧ ∀ l b,HW H' l = some b → st'.hp l = some b

theorem hEnc_inj : ∀ {H H' : List (Nat × Blk)},hEnc H = hEnc H' → H = H' := by
 have key : ∀ {H H' : List (Nat × Blk)},H.map (fun p => AV.tup [.lsl p.1 p.2.es (if p.2.pur = true then 1 else 0),.sl p.2.elems]) = H'.map (fun p => AV.tup [.lsl p.1 p.2.es (if p.2.pur = true then 1 else 0),.sl p.2.elems]) → H = H' := by
  intro H
  induction H with
  | nil => intro H' h; cases H' with
   | nil => rfl
   | cons => cases h
  | cons p H ih =>
   intro H' h
   cases H' with
   | nil => cases h
   | cons q H' =>
    obtain ⟨n,es,pur,xs⟩ := p
    obtain ⟨n',es',pur',xs'⟩ := q
    simp only [List.map_cons,List.cons.injEq,AV.tup.injEq,AV.lsl.injEq,AV.sl.injEq,and_true] at h
    obtain ⟨⟨⟨rfl,rfl,h3⟩,rfl⟩,h5⟩ := h
    rw [ih h5]
    have : pur = pur' := by cases pur <;> cases pur' <;> simp_all
    rw [this]
 intro H H' h
 unfold hEnc at h
 exact key (AV.tup.inj h)

section
variable {P : Program} {cf : Cfg} {tab : Tab} {ρ : Nat → Option Nat} {st : St} {a : Act} {w : World}

theorem V.rn {h : Nat → Option Blk} {Z : Nat → Prop} {H : List (Nat × Blk)} {g : Nat → Nat} (hH : ∀ l b,HW H l = some b → ∃ b0,h (g l) = some b0 ∧ RnB H g b b0) {ρ' : Nat → Option Nat} (hρ : ∀ l,(HW H l).isSome = true → ρ' l = ρ (g l))
  {v : Value} {d d0 : AV} (hv : V ρ h w Z v d0) (hr : RnC H g d d0) : V ρ' (HW H) w (fun _ => False) v d := by
 rcases hr with ⟨hf,rfl⟩ | ⟨l,off,len,rfl,rfl,hl⟩
 ·exact .pure (hv.flatC hf)
 ·obtain ⟨b,hb⟩ := Option.isSome_iff_exists.1 hl
  obtain ⟨b0,k1,k2⟩ := hH l b hb
  rcases lsl_inv hv with ⟨B,b',t,n,cap,h1,h2,h3,rfl,h4,h5,h6,h7⟩ | ⟨b',h1,h2,hnil,h00,h0⟩
  ·rw [k1] at h2; cases h2
   rw [← k2.es] at h5 ⊢
   rw [← k2.len] at h6
   exact .lsl l off len cap B b t n (by rw [hρ l hl]; exact h1) hb h3 h4 h5 h6 h7
  ·rw [h00,h0]
   exact .lnil l b hnil (by rw [hρ l hl]; exact h1) hb
theorem V.rnV {h : Nat → Option Blk} {Z : Nat → Prop} {H : List (Nat × Blk)} {g : Nat → Nat} (hH : ∀ l b,HW H l = some b → ∃ b0,h (g l) = some b0 ∧ RnB H g b b0) {ρ' : Nat → Option Nat} (hρ : ∀ l,(HW H l).isSome = true → ρ' l = ρ (g l))
  {v : Value} {d d0 : AV} (hv : V ρ h w Z v d0) (hr : RnV H g d d0) : V ρ' (HW H) w (fun _ => False) v d := by
 rcases hr with ⟨cs,cs0,rfl,rfl,hl,hc⟩ | hr
 ·obtain ⟨vs,rfl,hl2,hd⟩ := agg_inv hv
  refine .agg vs cs (by rw [hl2,hl]) fun i c d q1 q2 => ?_
  have hi : i < cs0.length := by rw [← hl]; exact (List.getElem?_eq_some_iff.1 q2).1
  have hx : cs0[i]? = some cs0[i] := by simp [hi]
  exact (hd i c _ q1 hx).rn hH hρ (hc i d _ q2 hx)
 ·exact hv.rn hH hρ hr

theorem spec_ofO (hm : P.follows .mixedOrders = true) (ht : TabOk P tab) {f : FuncId} {fn : Func} {c : Code} {ic : ICode} {cp : CP} {rvl : List RV} (hf : P.funcs[f]? = some fn) (hname : (fn.name == "runtime.NumGoroutine") = false) (hb : fn.body = some c)
  (hn : cp.n = fn.ntmps) (hc : cCode P cp c = some ic) (hr : fn.results.toList.mapM (cRV P) = some rvl) {vs : List AV} {r r' : AV} {H : List (Nat × Blk)} (hcl : ClsH H) (hlim : cp.n ≤ 1000000) (hlen : vs.length ≤ fn.ntmps) (hw : wpA tab ic (startSt vs) (RetO rvl r r' H)) : SaysM P (.ownH r' H) f vs r := by
 intro w Z args hZ hsz hV
 have hname' : ¬ fn.name = "runtime.NumGoroutine" := by simpa using hname
 refine .inr ⟨by simp [callFunc,hf,hname',hb],?_⟩
 refine calls_of_wp hf hb ?_
 let cf : Cfg := ⟨fn.ntmps,w.heap.size,fun _ => False,Z,w,fun _ h => h.elim,fun _ => none,by rw [← hn]; exact hlim,false⟩
 have ht : TabOkC P cf tab := ⟨ht,fun h => by cases h⟩
 have hstart : StRρ cf (fun _ => none) (startSt vs) { tmps := args ++ Array.replicate (fn.ntmps - args.size) undef,defers := [] } w := by
  refine ⟨⟨fun l b B hb _ => (by cases hb),fun l b hb _ => (by cases hb),fun l l' B hl => (by cases hl)⟩,fun t => ?_,?_,rfl,Fr.refl _ w,fun l B hl => (by cases hl),fun b hb => hZ b hb,fun _ _ => rfl,fun _ _ => rfl⟩
  ·refine .pure ?_
   have hget : (startSt vs).get t = vs.getD t .any := by
    have := lk_envOf vs 0 t (Nat.zero_le _)
    rw [Nat.sub_zero] at this
    exact this
   rw [hget]
   by_cases hlt : t < vs.length
   ·have h1 : args[t]? = some (args[t]'(by omega)) := by simp [hsz,hlt]
    have h2 : vs[t]? = some vs[t] := by simp [hlt]
    have h3 : (args ++ Array.replicate (fn.ntmps - args.size) undef).getD t undef = args[t]'(by omega) := by
     simp [Array.getD_eq_getD_getElem?,Array.getElem?_append,hsz,hlt]
    have h4 : vs.getD t .any = vs[t] := by simp [hlt]
    rw [h4]
    show V0 w _ ((args ++ Array.replicate (fn.ntmps - args.size) undef).getD t undef) _
    rw [h3]
    exact (hV t _ _ h1 h2).widen fun b hb => ⟨.inl hb,hZ b hb,fun l hl => (by cases hl)⟩
   ·have h4 : vs.getD t .any = .any := by simp [show vs.length ≤ t by omega]
    rw [h4]; exact .any _
  ·simp [cf,hsz]; omega
 have hfin : ∀ {ρ : Nat → Option Nat} {st0 : St} {a' : Act} {w' : World},StRρ cf ρ st0 a' w' → (∃ st' g,Wk st0 st' ∧ EndO st' rvl r r' H g) → a'.defers = [] ∧ ∃ v,(results fn a'.tmps).run P w' = .ok v w' ∧ ∃ u,Ending.returned v = .returned u ∧ ResM (.ownH r' H) Z w r u w' := by
  rintro ρ0 st0 a' w' h00 ⟨st,g,hwk,he⟩
  obtain ⟨ρ,h⟩ := hwk cf a' w' ⟨ρ0,h00⟩
  have hx := he.out
  unfold outM at hx
  split at hx
  ·rename_i x hx0
   split at hx
   ·cases hx
    obtain ⟨v,h1,h2,h3⟩ := out_ok h hr hx0
    let ρ' : Nat → Option Nat := fun l => if (HW H l).isSome = true then ρ (g l) else none
    have hρ : ∀ l,(HW H l).isSome = true → ρ' l = ρ (g l) := fun l hl => if_pos hl
    have hHp : Hp ρ' (HW H) w' (fun _ => False) := by
     refine ⟨fun l b B hb hB => ?_,fun l b hb hB => ?_,fun l l' B q1 q2 q3 q4 => ?_⟩
     ·rw [hρ l (by rw [hb]; rfl)] at hB
      obtain ⟨b0,k1,k2⟩ := he.blk l b hb
      obtain ⟨cs,t,g1,g2,g3,g4,g5⟩ := h.hp.blk (g l) b0 B k1 hB
      have el : ∀ (i : Nat) x,b.elems[i]? = some x → ∃ x0,b0.elems[i]? = some x0 := by
       intro i x hx
       have hi : i < b0.elems.length := by rw [← k2.len]; exact (List.getElem?_eq_some_iff.1 hx).1
       exact ⟨_,List.getElem?_eq_getElem hi⟩
      have ce : ∀ (i : Nat) x x0 (j : Nat) d,b.elems[i]? = some x → b0.elems[i]? = some x0 → x.cells[j]? = some d → ∃ d0,x0.cells[j]? = some d0 ∧ RnC H g d d0 := by
       intro i x x0 j d q1 q2 q3
       obtain ⟨c1,c2⟩ := k2.cell i x x0 q1 q2
       have hj : j < x0.cells.length := by rw [← c1]; exact (List.getElem?_eq_some_iff.1 q3).1
       exact ⟨_,List.getElem?_eq_getElem hj,c2 j d _ q3 (List.getElem?_eq_getElem hj)⟩
      refine ⟨cs,t,g1,by rw [k2.len,k2.es]; exact g2,fun x hx => ?_,fun i x j d v q1 q2 q3 => ?_,fun hp i x j d v q1 q2 q3 => ?_⟩
      ·obtain ⟨i,hi⟩ := List.mem_iff_getElem?.1 hx
       obtain ⟨x0,hx0⟩ := el i x hi
       rw [(k2.cell i x x0 hi hx0).1,g3 x0 (List.mem_of_getElem? hx0),k2.es]
      ·obtain ⟨x0,hx0⟩ := el i x q1
       obtain ⟨d0,hd0,hrn⟩ := ce i x x0 j d q1 hx0 q2
       rw [k2.es] at q3
       exact (g4 i x0 j d0 v hx0 hd0 q3).rn he.blk hρ hrn
      ·obtain ⟨x0,hx0⟩ := el i x q1
       obtain ⟨d0,hd0,hrn⟩ := ce i x x0 j d q1 hx0 q2
       rw [k2.es] at q3
       have hq := g5 (by rw [← k2.pur]; exact hp) i x0 j d0 v hx0 hd0 q3
       rcases hrn with ⟨hf,rfl⟩ | ⟨m,off,len,rfl,rfl,_⟩
       ·exact (V.pure (ρ := ρ) (h := st.hp) hq).flatC hf
       ·cases hq
     ·rw [hρ l (by rw [hb]; rfl)] at hB
      obtain ⟨b0,k1,k2⟩ := he.blk l b hb
      have := h.hp.nil (g l) b0 k1 hB
      have hl := k2.len
      rw [this] at hl
      exact List.eq_nil_of_length_eq_zero hl
     ·rw [hρ l q1] at q3
      rw [hρ l' q2] at q4
      obtain ⟨b,hb⟩ := Option.isSome_iff_exists.1 q1
      obtain ⟨b',hb'⟩ := Option.isSome_iff_exists.1 q2
      obtain ⟨b0,k1,_⟩ := he.blk l b hb
      obtain ⟨b0',k1',_⟩ := he.blk l' b' hb'
      exact he.inj l l' q1 q2 (h.hp.inj _ _ B (by rw [k1]; rfl) (by rw [k1']; rfl) q3 q4)
    have hlo : ∀ l B,(HW H l).isSome = true → ρ' l = some B → w.heap.size ≤ B := by
     intro l B hl hB
     rw [hρ l hl] at hB
     obtain ⟨b,hb⟩ := Option.isSome_iff_exists.1 hl
     obtain ⟨b0,k1,_⟩ := he.blk l b hb
     rcases h.own (g l) B (by rw [k1]; rfl) hB with q | q
     ·exact q
     ·exact q.elim
    have hzo : ∀ b,Zo (fun _ => False) ρ' (HW H) b → w.heap.size ≤ b ∧ b < w'.heap.size := by
     rintro b (hb | ⟨l,hl,hB⟩)
     ·exact hb.elim
     ·refine ⟨hlo l b hl hB,?_⟩
      obtain ⟨b',hb'⟩ := Option.isSome_iff_exists.1 hl
      obtain ⟨cs,t,q,_⟩ := hHp.blk l b' b hb' hB
      exact (Array.getElem?_eq_some_iff.1 q).1
    have hpu := he.pure
    have hnew : V ρ' (HW H) w' (fun _ => False) v r' ∧ V0 w' (fun b => w.heap.size ≤ b ∧ b < w'.heap.size) v (nzV x) := by
     rcases he.res with ⟨rv,raw,e1,e2,e3⟩ | ⟨ds,e0,rfl,e1,e2⟩
     ·rcases h3 with ⟨rv',raw',f1,f2,f3,f4⟩ | ⟨_,_,f0,_⟩
      ·rw [e1] at f1; cases f1
       rw [e2] at f2; cases f2
       have hv := f3.rnV he.blk hρ e3
       refine ⟨hv,?_⟩
       have hp1 : pureV (HW H) r' = some (nzV x) := by
        rcases e3 with ⟨cs,_,rfl,_⟩ | e3
        ·exact hpu
        ·rcases e3 with ⟨hf,_⟩ | ⟨_,_,_,rfl,_⟩
         ·cases r' <;> first | (cases hf; done) | exact hpu
         ·exact hpu
       exact (pureV_ok hHp hv hp1).widen hzo
      ·exact absurd e1 (f0 rv)
     ·rcases h3 with ⟨rv',raw',f1,_⟩ | ⟨us,xs,f0,rfl,rfl,f1,f2,f3⟩
      ·exact absurd f1 (e0 rv')
      ·have hd : ∀ (i : Nat) c d,us[i]? = some c → ds[i]? = some d → V ρ' (HW H) w' (fun _ => False) c d := by
        intro i c d q1 q2
        have hi : i < rvl.length := by rw [← e1]; exact (List.getElem?_eq_some_iff.1 q2).1
        have hrv : rvl[i]? = some rvl[i] := by simp [hi]
        have hxi : xs[i]? = some (xs[i]'(by omega)) := by simp [show i < xs.length by omega]
        obtain ⟨raw,k1,k2⟩ := e2 i _ d hrv q2
        obtain ⟨raw',m1,m2,_⟩ := f3 i c _ _ q1 hxi hrv
        rw [k1] at m1; cases m1
        exact m2.rnV he.blk hρ k2
       have hsz : us.toArray.size = ds.length := by simp; omega
       refine ⟨.tup us.toArray ds hsz fun i c d q1 q2 => hd i c d (by simpa using q1) q2,?_⟩
       simp only [pureT,Option.map_eq_some_iff] at hpu
       obtain ⟨ps,hps,hpx⟩ := hpu
       rw [← hpx]
       obtain ⟨m1,m2⟩ := mapM_some hps
       refine .tup us.toArray ps (by simp; omega) fun i c p q1 q2 => ?_
       have hi : i < ds.length := by rw [m1]; exact (List.getElem?_eq_some_iff.1 q2).1
       have hdi : ds[i]? = some ds[i] := by simp [hi]
       exact (pureV_ok hHp (hd i c _ (by simpa using q1) hdi) (m2 i _ p hdi q2)).widen hzo
    exact ⟨h.defers,v,h1,v,rfl,h.fr.below,hnew.2,⟨ρ',hHp,hnew.1,hlo⟩,hcl⟩
   ·cases hx
  ·cases hx
 refine wp_mono (code_sound (cf := cf) hm ht hn c hc ⟨_,hstart⟩ hw) fun e a' w' hq => ?_
 cases e with
 | normal =>
  obtain ⟨st,⟨ρ,h⟩,hk⟩ := hq
  exact hfin h hk
 | ret =>
  obtain ⟨st,⟨ρ,h⟩,hk⟩ := hq
  exact hfin h hk
 | exit id =>
  obtain ⟨st,h,hk⟩ := hq
  exact hk.elim
 | goto l => exact hq.elim
 | panic ch => exact hq.elim
 | outgrown => exact hq.elim

theorem spec_ofN (hm : P.follows .mixedOrders = true) (ht : TabOk P tab) (hno : ∀ f vs r m,tab f vs = some (r,m) → m.isOwnH = false) {f : FuncId} {fn : Func} {c : Code} {ic : ICode} {cp : CP} {rvl : List RV} (hf : P.funcs[f]? = some fn) (hname : (fn.name == "runtime.NumGoroutine") = false) (hb : fn.body = some c)
  (hn : cp.n = fn.ntmps) (hc : cCode P cp c = some ic) (hr : fn.results.toList.mapM (cRV P) = some rvl) {vs : List AV} {H H' : List (Nat × Blk)} {r : AV} (hlim : cp.n ≤ 1000000) (hlen : vs.length ≤ fn.ntmps)
  (hcl : ClsH H) (hnest : NestH vs H H') (hnest' : ∀ l b,HW H' l = some b → ∀ x ∈ b.elems,∀ d ∈ x.cells,ClosC H' d) (hflat : flatT r = true) (hw : wpA tab ic (startW vs H) (RetN rvl r H')) : SaysX P (.wrH H') f (vs ++ [hEnc H]) r := by
 intro vs0 H0 heq
 have hl : vs = vs0 ∧ hEnc H = hEnc H0 := by
  have := List.append_inj' heq rfl
  exact ⟨this.1,by simpa using this.2⟩
 obtain ⟨rfl,h2⟩ := hl
 have := hEnc_inj h2
 subst this
 refine ⟨hflat,hnest,?_⟩
 intro w ρ args hHp hsz hV
 have hname' : ¬ fn.name = "runtime.NumGoroutine" := by simpa using hname
 refine .inr ⟨by simp [callFunc,hf,hname',hb],?_⟩
 refine calls_of_wp hf hb ?_
 let M : Nat → Prop := fun b => ∃ l,(HW H l).isSome = true ∧ ρ l = some b
 let cf : Cfg := ⟨fn.ntmps,w.heap.size,M,M,w,fun _ h => h,ρ,by rw [← hn]; exact hlim,true⟩
 have ht : TabOkC P cf tab := ⟨ht,fun _ => hno⟩
 have hst : (startW vs H).hp = HW H := rfl
 have hz0 : ∀ b,(fun _ : Nat => False) b → Zf cf.Z0 cf.base ρ (HW H) w b ∧ w.heap[b]? = w.heap[b]? := fun b hb => hb.elim
 have mono : ∀ {v x},V ρ (HW H) w (fun _ => False) v x → V ρ (HW H) w (Zf cf.Z0 cf.base ρ (HW H) w) v x := fun hv => hv.mono hz0 fun l b hb => ⟨rfl,⟨b,hb,rfl,rfl⟩,fun _ _ => rfl⟩
 have hlt : ∀ l b B,HW H l = some b → ρ l = some B → B < w.heap.size := by
  intro l b B h1 h2
  obtain ⟨c,t,g,_⟩ := hHp.blk l b B h1 h2
  exact (Array.getElem?_eq_some_iff.1 g).1
 have hstart : StRρ cf ρ (startW vs H) { tmps := args ++ Array.replicate (fn.ntmps - args.size) undef,defers := [] } w := by
  refine ⟨?_,fun t => ?_,?_,rfl,Fr.refl _ w,fun l B hl hB => .inr ⟨l,hl,hB⟩,fun b hb => ?_,fun _ _ => rfl,fun _ _ => rfl⟩
  ·rw [hst]
   refine ⟨fun l b B hb hB => ?_,hHp.nil,hHp.inj⟩
   obtain ⟨c,t,g1,g2,g3,g4,g5⟩ := hHp.blk l b B hb hB
   exact ⟨c,t,g1,g2,g3,fun i x j d v q1 q2 q3 => mono (g4 i x j d v q1 q2 q3),fun hp i x j d v q1 q2 q3 => (g5 hp i x j d v q1 q2 q3).mono hz0⟩
  ·rw [hst]
   have hget : (startW vs H).get t = vs.getD t .any := by
    have := lk_envOf vs 0 t (Nat.zero_le _)
    rw [Nat.sub_zero] at this
    exact this
   rw [hget]
   by_cases hltt : t < vs.length
   ·have h1 : args[t]? = some (args[t]'(by omega)) := by simp [hsz,hltt]
    have h2 : vs[t]? = some vs[t] := by simp [hltt]
    have h3 : (args ++ Array.replicate (fn.ntmps - args.size) undef).getD t undef = args[t]'(by omega) := by
     simp [Array.getD_eq_getD_getElem?,Array.getElem?_append,hsz,hltt]
    have h4 : vs.getD t .any = vs[t] := by simp [hltt]
    rw [h4]
    show V ρ (HW H) w _ ((args ++ Array.replicate (fn.ntmps - args.size) undef).getD t undef) _
    rw [h3]
    exact mono (hV t _ _ h1 h2)
   ·have h4 : vs.getD t .any = .any := by simp [show vs.length ≤ t by omega]
    rw [h4]; exact .pure (.any _)
  ·simp [cf,hsz]; omega
  ·obtain ⟨l,h1,h2⟩ := hb
   obtain ⟨b',hb'⟩ := Option.isSome_iff_exists.1 h1
   exact hlt l b' b hb' h2
 have hfin : ∀ {ρ0 : Nat → Option Nat} {st0 : St} {a' : Act} {w' : World},StRρ cf ρ0 st0 a' w' → (∃ st',Wk st0 st' ∧ outM .any st' rvl = some r ∧ ∀ l b,HW H' l = some b → st'.hp l = some b) → a'.defers = [] ∧ ∃ v,(results fn a'.tmps).run P w' = .ok v w' ∧ ∃ u,Ending.returned v = .returned u ∧ V0 w' (fun _ => False) u r ∧ WrW ρ H H' w w' := by
  rintro ρ0 st0 a' w' h00 ⟨st,hwk,hx,hhp⟩
  obtain ⟨ρe,h⟩ := hwk cf a' w' ⟨ρ0,h00⟩
  unfold outM at hx
  split at hx
  ·rename_i r0 hr0
   split at hx
   ·cases hx
    obtain ⟨v,h1,h2,_⟩ := out_ok h hr hr0
    refine ⟨h.defers,v,h1,v,rfl,(V.pure (ρ := ρe) (h := st.hp) h2.nzV).flatT hflat,?_⟩
    have hkeep : ∀ l,(HW H' l).isSome = true → ρe l = ρ l := fun l hl => by
     obtain ⟨b,hb⟩ := Option.isSome_iff_exists.1 (hnest.back l hl)
     have := hcl _ (HW_mem hb)
     exact h.pin l ⟨this.1,by have := this.2; simp only at this; omega,fun _ => rfl⟩
    have down : ∀ {v d},V ρe st.hp w' (Zf cf.Z0 cf.base ρe st.hp w') v d → ClosC H' d → V ρ (HW H') w' (fun _ => False) v d := by
     intro v d hv hcd
     refine (hv.close hhp hcd).mono (fun b hb => hb.elim) fun l b hb => ⟨(hkeep l (by rw [hb]; rfl)).symm,⟨b,hb,rfl,rfl⟩,fun _ _ => rfl⟩
    refine ⟨h.fr.os,h.fr.tape,h.fr.output,h.fr.size,fun k hk hne => h.fr.block k hk ?_,fun k hk => h.shp k hk,⟨fun l b B hb hB => ?_,fun l b hb hB => ?_,fun l l' B h1 h2 h3 h4 => ?_⟩⟩
    ·rintro ⟨l,hl,hB⟩
     exact hne l hl hB
    ·obtain ⟨c,t,g1,g2,g3,g4,g5⟩ := h.hp.blk l b B (hhp l b hb) (by rw [hkeep l (by rw [hb]; rfl)]; exact hB)
     refine ⟨c,t,g1,g2,g3,fun i y j d v p1 p2 p3 => down (g4 i y j d v p1 p2 p3) (hnest' l b hb y (List.mem_of_getElem? p1) d (List.mem_of_getElem? p2)),fun hp i y j d v p1 p2 p3 => ?_⟩
     have hq := g5 hp i y j d v p1 p2 p3
     rcases hnest' l b hb y (List.mem_of_getElem? p1) d (List.mem_of_getElem? p2) with hf | ⟨m,off,len,rfl,_⟩
     ·exact (V.pure (ρ := ρe) (h := st.hp) hq).flatC hf
     ·cases hq
    ·exact h.hp.nil l b (hhp l b hb) (by rw [hkeep l (by rw [hb]; rfl)]; exact hB)
    ·obtain ⟨b,hb⟩ := Option.isSome_iff_exists.1 h1
     obtain ⟨b',hb'⟩ := Option.isSome_iff_exists.1 h2
     exact h.hp.inj l l' B (by rw [hhp l b hb]; rfl) (by rw [hhp l' b' hb']; rfl) (by rw [hkeep l h1]; exact h3) (by rw [hkeep l' h2]; exact h4)
   ·cases hx
  ·cases hx
 refine wp_mono (code_sound (cf := cf) hm ht hn c hc ⟨_,hstart⟩ hw) fun e a' w' hq => ?_
 cases e with
 | normal =>
  obtain ⟨st,⟨ρ,h⟩,hk⟩ := hq
  exact hfin h hk
 | ret =>
  obtain ⟨st,⟨ρ,h⟩,hk⟩ := hq
  exact hfin h hk
 | exit id =>
  obtain ⟨st,h,hk⟩ := hq
  exact hk.elim
 | goto l => exact hq.elim
 | panic ch => exact hq.elim
 | outgrown => exact hq.elim
end
end Go.Ab

namespace Go.Ab

def bindSt (o : Option St) (k : St → Prop) : Prop := match o with
 | some s => k s
 | none => False
theorem bindSt_some (s : St) (k : St → Prop) : bindSt (some s) k = k s := rfl
theorem bindSt_none (k : St → Prop) : bindSt none k = False := rfl
theorem bindSt_ite (c : Prop) [Decidable c] (x y : Option St) (k : St → Prop) : bindSt (if c then x else y) k = ((c → bindSt x k) ∧ (¬ c → bindSt y k)) := by
 by_cases h : c <;> simp [h]
theorem bindSt_eq (o : Option St) (k : St → Prop) : (∃ s,o = some s ∧ k s) = bindSt o k := by
 cases o <;> simp [bindSt]

def eA (tab : Tab) (c : ICode) (st : St) (K : IExit → St → Prop) : Prop := wpA tab c st K
def eI (tab : Tab) (ops : List IOper) (st : St) (K : St → Prop) : Prop := Go.Ab.wpOps tab ops st K
def eR (tab : Tab) (ops : List IOper) (K : St → Prop) (st : St) : Prop := Go.Ab.wpOps tab ops st K
def Kreg (keep : List Nat) (K : IExit → St → Prop) (st : St) : Prop := K .normal (keepOnly keep st)
def Kq (tab : Tab) (b : ICode) (K : IExit → St → Prop) : IExit → St → Prop := Kseq (fun s => wpA tab b s K) K
def eC (c : AV) (A B : Prop) : Prop := match c with
 | .bool t => (t = true → A) ∧ (t = false → B)
 | _ => False
def eG (c : AV) (w : Bool) (A B : Prop) : Prop := match c with
 | .bool b => (b = w → A) ∧ (b = !w → B)
 | .raw v => nb v = true ∧ B
 | _ => False
def eGI (tab : Tab) (c : AV) (w : Bool) (dst : Option Nat) (op : IOp) (r : List IOper) (st : St) (k : St → Prop) : Prop := eG c w (bindSt (eop tab st dst op) (eR tab r k)) (eI tab r (st.put dst (.raw undef)) k)
def eCc (tab : Tab) (c : AV) (a b : ICode) (st : St) (K : IExit → St → Prop) : Prop := eC c (eA tab a st K) (eA tab b st K)
def isEq : IOp → Bool
 | .eqnil .. => true
 | _ => false

section
variable {tab : Tab} {st : St} {K : IExit → St → Prop} {k : St → Prop}
theorem eA_skip : eA tab .skip st K = K .normal st := rfl
theorem eA_reg (ops : List IOper) (keep : List Nat) : eA tab (.reg ops keep) st K = eI tab ops st (Kreg keep K) := rfl
theorem eA_seq (a b : ICode) : eA tab (.seq a b) st K = eA tab a st (Kq tab b K) := rfl
theorem eA_cond (c : Opd) (a b : ICode) : eA tab (.cond c a b) st K = eCc tab (ev st c) a b st K := rfl
theorem eCc_true (a b : ICode) : eCc tab (.bool true) a b st K = eA tab a st K := by simp [eCc,eC]
theorem eCc_false (a b : ICode) : eCc tab (.bool false) a b st K = eA tab b st K := by simp [eCc,eC]
theorem eCc_of {t : Bool} {a b : ICode} (h1 : t = true → eCc tab (.bool true) a b st K) (h2 : t = false → eCc tab (.bool false) a b st K) : eCc tab (.bool t) a b st K := by cases t <;> simp_all
theorem eA_block (id : Nat) (c : ICode) : eA tab (.block id c) st K = eA tab c st (Kblock id K) := rfl
theorem eA_exit (id : Nat) : eA tab (.exit id) st K = K (.exit id) st := rfl
theorem eA_ret : eA tab .ret st K = K .ret st := rfl
theorem Kq_normal (b : ICode) : Kq tab b K .normal st = eA tab b st K := rfl
theorem Kq_exit (b : ICode) (id : Nat) : Kq tab b K (.exit id) st = K (.exit id) st := rfl
theorem Kq_ret (b : ICode) : Kq tab b K .ret st = K .ret st := rfl
theorem Kb_normal (id : Nat) : Kblock id K .normal st = K .normal st := rfl
theorem Kb_exit (id id' : Nat) : Kblock id K (.exit id') st = if id' = id then KW (K .normal) st else K (.exit id') st := rfl
theorem Kb_ret (id : Nat) : Kblock id K .ret st = K .ret st := rfl
theorem Kreg_eq (keep : List Nat) : Kreg keep K st = K .normal (keepOnly keep st) := rfl
theorem eC_bool (t : Bool) (A B : Prop) : eC (.bool t) A B = ((t = true → A) ∧ (t = false → B)) := rfl
theorem eG_bool (t w : Bool) (A B : Prop) : eG (.bool t) w A B = ((t = w → A) ∧ (t = !w → B)) := rfl
theorem eGI_tt {dst : Option Nat} {op : IOp} {r : List IOper} : eGI tab (.bool true) true dst op r st k = bindSt (eop tab st dst op) (eR tab r k) := by simp [eGI,eG]
theorem eGI_ff {dst : Option Nat} {op : IOp} {r : List IOper} : eGI tab (.bool false) false dst op r st k = bindSt (eop tab st dst op) (eR tab r k) := by simp [eGI,eG]
theorem eGI_tf {dst : Option Nat} {op : IOp} {r : List IOper} : eGI tab (.bool true) false dst op r st k = eI tab r (st.put dst (.raw undef)) k := by simp [eGI,eG]
theorem eGI_ft {dst : Option Nat} {op : IOp} {r : List IOper} : eGI tab (.bool false) true dst op r st k = eI tab r (st.put dst (.raw undef)) k := by simp [eGI,eG]
theorem eGI_raw {w : Bool} {dst : Option Nat} {op : IOp} {r : List IOper} : eGI tab (.raw undef) w dst op r st k = eI tab r (st.put dst (.raw undef)) k := by simp [eGI,eG,nb,undef]
theorem eGI_of {t w : Bool} {dst : Option Nat} {op : IOp} {r : List IOper} (h1 : t = true → eGI tab (.bool true) w dst op r st k) (h2 : t = false → eGI tab (.bool false) w dst op r st k) : eGI tab (.bool t) w dst op r st k := by cases t <;> simp_all
theorem eR_eq (ops : List IOper) : eR tab ops k st = eI tab ops st k := rfl
theorem eI_nil : eI tab [] st k = k st := rfl
theorem eI_op {dst : Option Nat} {op : IOp} {r : List IOper} (h : isEq op = false) : eI tab (⟨dst,none,op⟩ :: r) st k = bindSt (eop tab st dst op) (eR tab r k) := by
 unfold eI Go.Ab.wpOps
 cases op <;> first | exact bindSt_eq _ _ | (cases h; done)
theorem eI_opG {dst : Option Nat} {g : Nat} {w : Bool} {op : IOp} {r : List IOper} (h : isEq op = false) :
  eI tab (⟨dst,some (g,w),op⟩ :: r) st k = eG (st.get g) w (bindSt (eop tab st dst op) (eR tab r k)) (eI tab r (st.put dst (.raw undef)) k) := by
 show Go.Ab.wpOps tab (_ :: r) st k = eG _ w (bindSt _ _) (Go.Ab.wpOps tab r _ k)
 conv => lhs; unfold Go.Ab.wpOps
 dsimp only
 generalize st.get g = v
 cases op <;> first | (cases h; done) | (cases v <;> first | rfl | (simp only [eG]; rw [bindSt_eq]; rfl))
theorem e_mov {a0} {dst : Option Nat} {r : List IOper} : eI tab (⟨dst,none,.mov a0⟩ :: r) st k = bindSt (eop tab st dst (.mov a0)) (eR tab r k) := eI_op rfl
theorem g_mov {a0} {dst : Option Nat} {g : Nat} {w : Bool} {r : List IOper} : eI tab (⟨dst,some (g,w),.mov a0⟩ :: r) st k = eGI tab (st.get g) w dst (.mov a0) r st k := eI_opG rfl
theorem e_pick {a0 a1 a2} {dst : Option Nat} {r : List IOper} : eI tab (⟨dst,none,.pick a0 a1 a2⟩ :: r) st k = bindSt (eop tab st dst (.pick a0 a1 a2)) (eR tab r k) := eI_op rfl
theorem g_pick {a0 a1 a2} {dst : Option Nat} {g : Nat} {w : Bool} {r : List IOper} : eI tab (⟨dst,some (g,w),.pick a0 a1 a2⟩ :: r) st k = eGI tab (st.get g) w dst (.pick a0 a1 a2) r st k := eI_opG rfl
theorem e_alloc {a0} {dst : Option Nat} {r : List IOper} : eI tab (⟨dst,none,.alloc a0⟩ :: r) st k = bindSt (eop tab st dst (.alloc a0)) (eR tab r k) := eI_op rfl
theorem g_alloc {a0} {dst : Option Nat} {g : Nat} {w : Bool} {r : List IOper} : eI tab (⟨dst,some (g,w),.alloc a0⟩ :: r) st k = eGI tab (st.get g) w dst (.alloc a0) r st k := eI_opG rfl
theorem e_box {a0 a1} {dst : Option Nat} {r : List IOper} : eI tab (⟨dst,none,.box a0 a1⟩ :: r) st k = bindSt (eop tab st dst (.box a0 a1)) (eR tab r k) := eI_op rfl
theorem g_box {a0 a1} {dst : Option Nat} {g : Nat} {w : Bool} {r : List IOper} : eI tab (⟨dst,some (g,w),.box a0 a1⟩ :: r) st k = eGI tab (st.get g) w dst (.box a0 a1) r st k := eI_opG rfl
theorem e_build {a0 a1} {dst : Option Nat} {r : List IOper} : eI tab (⟨dst,none,.build a0 a1⟩ :: r) st k = bindSt (eop tab st dst (.build a0 a1)) (eR tab r k) := eI_op rfl
theorem g_build {a0 a1} {dst : Option Nat} {g : Nat} {w : Bool} {r : List IOper} : eI tab (⟨dst,some (g,w),.build a0 a1⟩ :: r) st k = eGI tab (st.get g) w dst (.build a0 a1) r st k := eI_opG rfl
theorem e_bslice {a0 a1 a2 a3} {dst : Option Nat} {r : List IOper} : eI tab (⟨dst,none,.bslice a0 a1 a2 a3⟩ :: r) st k = bindSt (eop tab st dst (.bslice a0 a1 a2 a3)) (eR tab r k) := eI_op rfl
theorem g_bslice {a0 a1 a2 a3} {dst : Option Nat} {g : Nat} {w : Bool} {r : List IOper} : eI tab (⟨dst,some (g,w),.bslice a0 a1 a2 a3⟩ :: r) st k = eGI tab (st.get g) w dst (.bslice a0 a1 a2 a3) r st k := eI_opG rfl
theorem e_load {a0 a1} {dst : Option Nat} {r : List IOper} : eI tab (⟨dst,none,.load a0 a1⟩ :: r) st k = bindSt (eop tab st dst (.load a0 a1)) (eR tab r k) := eI_op rfl
theorem g_load {a0 a1} {dst : Option Nat} {g : Nat} {w : Bool} {r : List IOper} : eI tab (⟨dst,some (g,w),.load a0 a1⟩ :: r) st k = eGI tab (st.get g) w dst (.load a0 a1) r st k := eI_opG rfl
theorem e_store {a0 a1 a2} {dst : Option Nat} {r : List IOper} : eI tab (⟨dst,none,.store a0 a1 a2⟩ :: r) st k = bindSt (eop tab st dst (.store a0 a1 a2)) (eR tab r k) := eI_op rfl
theorem g_store {a0 a1 a2} {dst : Option Nat} {g : Nat} {w : Bool} {r : List IOper} : eI tab (⟨dst,some (g,w),.store a0 a1 a2⟩ :: r) st k = eGI tab (st.get g) w dst (.store a0 a1 a2) r st k := eI_opG rfl
theorem e_nilchk {a0} {dst : Option Nat} {r : List IOper} : eI tab (⟨dst,none,.nilchk a0⟩ :: r) st k = bindSt (eop tab st dst (.nilchk a0)) (eR tab r k) := eI_op rfl
theorem g_nilchk {a0} {dst : Option Nat} {g : Nat} {w : Bool} {r : List IOper} : eI tab (⟨dst,some (g,w),.nilchk a0⟩ :: r) st k = eGI tab (st.get g) w dst (.nilchk a0) r st k := eI_opG rfl
theorem e_bin {a0 a1 a2 a3} {dst : Option Nat} {r : List IOper} : eI tab (⟨dst,none,.bin a0 a1 a2 a3⟩ :: r) st k = bindSt (eop tab st dst (.bin a0 a1 a2 a3)) (eR tab r k) := eI_op rfl
theorem g_bin {a0 a1 a2 a3} {dst : Option Nat} {g : Nat} {w : Bool} {r : List IOper} : eI tab (⟨dst,some (g,w),.bin a0 a1 a2 a3⟩ :: r) st k = eGI tab (st.get g) w dst (.bin a0 a1 a2 a3) r st k := eI_opG rfl
theorem e_un {a0 a1} {dst : Option Nat} {r : List IOper} : eI tab (⟨dst,none,.un a0 a1⟩ :: r) st k = bindSt (eop tab st dst (.un a0 a1)) (eR tab r k) := eI_op rfl
theorem g_un {a0 a1} {dst : Option Nat} {g : Nat} {w : Bool} {r : List IOper} : eI tab (⟨dst,some (g,w),.un a0 a1⟩ :: r) st k = eGI tab (st.get g) w dst (.un a0 a1) r st k := eI_opG rfl
theorem e_conv {a0 a1} {dst : Option Nat} {r : List IOper} : eI tab (⟨dst,none,.conv a0 a1⟩ :: r) st k = bindSt (eop tab st dst (.conv a0 a1)) (eR tab r k) := eI_op rfl
theorem g_conv {a0 a1} {dst : Option Nat} {g : Nat} {w : Bool} {r : List IOper} : eI tab (⟨dst,some (g,w),.conv a0 a1⟩ :: r) st k = eGI tab (st.get g) w dst (.conv a0 a1) r st k := eI_opG rfl
theorem e_mkslice {a0 a1 a2 a3 a4} {dst : Option Nat} {r : List IOper} : eI tab (⟨dst,none,.mkslice a0 a1 a2 a3 a4⟩ :: r) st k = bindSt (eop tab st dst (.mkslice a0 a1 a2 a3 a4)) (eR tab r k) := eI_op rfl
theorem g_mkslice {a0 a1 a2 a3 a4} {dst : Option Nat} {g : Nat} {w : Bool} {r : List IOper} : eI tab (⟨dst,some (g,w),.mkslice a0 a1 a2 a3 a4⟩ :: r) st k = eGI tab (st.get g) w dst (.mkslice a0 a1 a2 a3 a4) r st k := eI_opG rfl
theorem e_sliceS {a0 a1 a2} {dst : Option Nat} {r : List IOper} : eI tab (⟨dst,none,.sliceS a0 a1 a2⟩ :: r) st k = bindSt (eop tab st dst (.sliceS a0 a1 a2)) (eR tab r k) := eI_op rfl
theorem g_sliceS {a0 a1 a2} {dst : Option Nat} {g : Nat} {w : Bool} {r : List IOper} : eI tab (⟨dst,some (g,w),.sliceS a0 a1 a2⟩ :: r) st k = eGI tab (st.get g) w dst (.sliceS a0 a1 a2) r st k := eI_opG rfl
theorem e_sliceX {a0 a1 a2 a3} {dst : Option Nat} {r : List IOper} : eI tab (⟨dst,none,.sliceX a0 a1 a2 a3⟩ :: r) st k = bindSt (eop tab st dst (.sliceX a0 a1 a2 a3)) (eR tab r k) := eI_op rfl
theorem g_sliceX {a0 a1 a2 a3} {dst : Option Nat} {g : Nat} {w : Bool} {r : List IOper} : eI tab (⟨dst,some (g,w),.sliceX a0 a1 a2 a3⟩ :: r) st k = eGI tab (st.get g) w dst (.sliceX a0 a1 a2 a3) r st k := eI_opG rfl
theorem e_faddr {a0 a1} {dst : Option Nat} {r : List IOper} : eI tab (⟨dst,none,.faddr a0 a1⟩ :: r) st k = bindSt (eop tab st dst (.faddr a0 a1)) (eR tab r k) := eI_op rfl
theorem g_faddr {a0 a1} {dst : Option Nat} {g : Nat} {w : Bool} {r : List IOper} : eI tab (⟨dst,some (g,w),.faddr a0 a1⟩ :: r) st k = eGI tab (st.get g) w dst (.faddr a0 a1) r st k := eI_opG rfl
theorem e_iaddrA {a0 a1 a2 a3} {dst : Option Nat} {r : List IOper} : eI tab (⟨dst,none,.iaddrA a0 a1 a2 a3⟩ :: r) st k = bindSt (eop tab st dst (.iaddrA a0 a1 a2 a3)) (eR tab r k) := eI_op rfl
theorem g_iaddrA {a0 a1 a2 a3} {dst : Option Nat} {g : Nat} {w : Bool} {r : List IOper} : eI tab (⟨dst,some (g,w),.iaddrA a0 a1 a2 a3⟩ :: r) st k = eGI tab (st.get g) w dst (.iaddrA a0 a1 a2 a3) r st k := eI_opG rfl
theorem e_iaddrS {a0 a1 a2} {dst : Option Nat} {r : List IOper} : eI tab (⟨dst,none,.iaddrS a0 a1 a2⟩ :: r) st k = bindSt (eop tab st dst (.iaddrS a0 a1 a2)) (eR tab r k) := eI_op rfl
theorem g_iaddrS {a0 a1 a2} {dst : Option Nat} {g : Nat} {w : Bool} {r : List IOper} : eI tab (⟨dst,some (g,w),.iaddrS a0 a1 a2⟩ :: r) st k = eGI tab (st.get g) w dst (.iaddrS a0 a1 a2) r st k := eI_opG rfl
theorem e_idxA {a0 a1 a2 a3} {dst : Option Nat} {r : List IOper} : eI tab (⟨dst,none,.idxA a0 a1 a2 a3⟩ :: r) st k = bindSt (eop tab st dst (.idxA a0 a1 a2 a3)) (eR tab r k) := eI_op rfl
theorem g_idxA {a0 a1 a2 a3} {dst : Option Nat} {g : Nat} {w : Bool} {r : List IOper} : eI tab (⟨dst,some (g,w),.idxA a0 a1 a2 a3⟩ :: r) st k = eGI tab (st.get g) w dst (.idxA a0 a1 a2 a3) r st k := eI_opG rfl
theorem e_idxS {a0 a1} {dst : Option Nat} {r : List IOper} : eI tab (⟨dst,none,.idxS a0 a1⟩ :: r) st k = bindSt (eop tab st dst (.idxS a0 a1)) (eR tab r k) := eI_op rfl
theorem g_idxS {a0 a1} {dst : Option Nat} {g : Nat} {w : Bool} {r : List IOper} : eI tab (⟨dst,some (g,w),.idxS a0 a1⟩ :: r) st k = eGI tab (st.get g) w dst (.idxS a0 a1) r st k := eI_opG rfl
theorem e_field {a0 a1 a2} {dst : Option Nat} {r : List IOper} : eI tab (⟨dst,none,.field a0 a1 a2⟩ :: r) st k = bindSt (eop tab st dst (.field a0 a1 a2)) (eR tab r k) := eI_op rfl
theorem g_field {a0 a1 a2} {dst : Option Nat} {g : Nat} {w : Bool} {r : List IOper} : eI tab (⟨dst,some (g,w),.field a0 a1 a2⟩ :: r) st k = eGI tab (st.get g) w dst (.field a0 a1 a2) r st k := eI_opG rfl
theorem e_extract {a0 a1} {dst : Option Nat} {r : List IOper} : eI tab (⟨dst,none,.extract a0 a1⟩ :: r) st k = bindSt (eop tab st dst (.extract a0 a1)) (eR tab r k) := eI_op rfl
theorem g_extract {a0 a1} {dst : Option Nat} {g : Nat} {w : Bool} {r : List IOper} : eI tab (⟨dst,some (g,w),.extract a0 a1⟩ :: r) st k = eGI tab (st.get g) w dst (.extract a0 a1) r st k := eI_opG rfl
theorem e_call {a0 a1 a2} {dst : Option Nat} {r : List IOper} : eI tab (⟨dst,none,.call a0 a1 a2⟩ :: r) st k = bindSt (eop tab st dst (.call a0 a1 a2)) (eR tab r k) := eI_op rfl
theorem g_call {a0 a1 a2} {dst : Option Nat} {g : Nat} {w : Bool} {r : List IOper} : eI tab (⟨dst,some (g,w),.call a0 a1 a2⟩ :: r) st k = eGI tab (st.get g) w dst (.call a0 a1 a2) r st k := eI_opG rfl
theorem e_len {a0 a1} {dst : Option Nat} {r : List IOper} : eI tab (⟨dst,none,.len a0 a1⟩ :: r) st k = bindSt (eop tab st dst (.len a0 a1)) (eR tab r k) := eI_op rfl
theorem g_len {a0 a1} {dst : Option Nat} {g : Nat} {w : Bool} {r : List IOper} : eI tab (⟨dst,some (g,w),.len a0 a1⟩ :: r) st k = eGI tab (st.get g) w dst (.len a0 a1) r st k := eI_opG rfl
theorem e_append {a0 a1 a2 a3} {dst : Option Nat} {r : List IOper} : eI tab (⟨dst,none,.append a0 a1 a2 a3⟩ :: r) st k = bindSt (eop tab st dst (.append a0 a1 a2 a3)) (eR tab r k) := eI_op rfl
theorem g_append {a0 a1 a2 a3} {dst : Option Nat} {g : Nat} {w : Bool} {r : List IOper} : eI tab (⟨dst,some (g,w),.append a0 a1 a2 a3⟩ :: r) st k = eGI tab (st.get g) w dst (.append a0 a1 a2 a3) r st k := eI_opG rfl
theorem e_mm {a0 a1 a2} {dst : Option Nat} {r : List IOper} : eI tab (⟨dst,none,.mm a0 a1 a2⟩ :: r) st k = bindSt (eop tab st dst (.mm a0 a1 a2)) (eR tab r k) := eI_op rfl
theorem g_mm {a0 a1 a2} {dst : Option Nat} {g : Nat} {w : Bool} {r : List IOper} : eI tab (⟨dst,some (g,w),.mm a0 a1 a2⟩ :: r) st k = eGI tab (st.get g) w dst (.mm a0 a1 a2) r st k := eI_opG rfl
theorem e_mkfn {a0 a1 a2} {dst : Option Nat} {r : List IOper} : eI tab (⟨dst,none,.mkfn a0 a1 a2⟩ :: r) st k = bindSt (eop tab st dst (.mkfn a0 a1 a2)) (eR tab r k) := eI_op rfl
theorem g_mkfn {a0 a1 a2} {dst : Option Nat} {g : Nat} {w : Bool} {r : List IOper} : eI tab (⟨dst,some (g,w),.mkfn a0 a1 a2⟩ :: r) st k = eGI tab (st.get g) w dst (.mkfn a0 a1 a2) r st k := eI_opG rfl

theorem e_zero3 {a0 a1} {dst : Option Nat} {r : List IOper} : eI tab (⟨dst,none,.zero3 a0 a1⟩ :: r) st k = bindSt (eop tab st dst (.zero3 a0 a1)) (eR tab r k) := eI_op rfl
theorem g_zero3 {a0 a1} {dst : Option Nat} {g : Nat} {w : Bool} {r : List IOper} : eI tab (⟨dst,some (g,w),.zero3 a0 a1⟩ :: r) st k = eGI tab (st.get g) w dst (.zero3 a0 a1) r st k := eI_opG rfl
theorem e_copy {a0 a1 a2 a3} {dst : Option Nat} {r : List IOper} : eI tab (⟨dst,none,.copy a0 a1 a2 a3⟩ :: r) st k = bindSt (eop tab st dst (.copy a0 a1 a2 a3)) (eR tab r k) := eI_op rfl
theorem g_copy {a0 a1 a2 a3} {dst : Option Nat} {g : Nat} {w : Bool} {r : List IOper} : eI tab (⟨dst,some (g,w),.copy a0 a1 a2 a3⟩ :: r) st k = eGI tab (st.get g) w dst (.copy a0 a1 a2 a3) r st k := eI_opG rfl

theorem e_callM {a0 a1} {dst : Option Nat} {r : List IOper} : eI tab (⟨dst,none,.callM a0 a1⟩ :: r) st k = bindSt (eop tab st dst (.callM a0 a1)) (eR tab r k) := eI_op rfl
theorem g_callM {a0 a1} {dst : Option Nat} {g : Nat} {w : Bool} {r : List IOper} : eI tab (⟨dst,some (g,w),.callM a0 a1⟩ :: r) st k = eGI tab (st.get g) w dst (.callM a0 a1) r st k := eI_opG rfl
def eN (tab : Tab) (x : AV) (neg : Bool) (dst : Option Nat) (r : List IOper) (st : St) (k : St → Prop) : Prop := match x with
 | .sl xs => ∀ b : Bool,(xs ≠ [] → b = false) → eI tab r (st.put dst (.bool (b != neg))) k
 | .snil => eI tab r (st.put dst (.bool (true != neg))) k
 | .lsl _ _ (_ + 1) => eI tab r (st.put dst (.bool (false != neg))) k
 | _ => False
theorem e_eqnil {neg : Bool} {x : Opd} {dst : Option Nat} {r : List IOper} : eI tab (⟨dst,none,.eqnil neg x⟩ :: r) st k = eN tab (ev st x) neg dst r st k := by
 show Go.Ab.wpOps tab (_ :: r) st k = _
 conv => lhs; unfold Go.Ab.wpOps
 dsimp only
 unfold eN
 cases ev st x with
 | lsl l off len => cases len <;> rfl
 | _ => rfl
theorem eN_snil {neg : Bool} {dst : Option Nat} {r : List IOper} : eN tab .snil neg dst r st k = eI tab r (st.put dst (.bool (true != neg))) k := rfl
theorem eN_of {α : Type} {e : α → AV} {y : List α} {neg : Bool} {dst : Option Nat} {r : List IOper} (h1 : y = [] → eI tab r (st.put dst (.bool (true != neg))) k) (h2 : eI tab r (st.put dst (.bool (false != neg))) k) : eN tab (.sl (List.map e y)) neg dst r st k := by
 intro b hb
 cases b with
 | false => exact h2
 | true =>
  refine h1 ?_
  cases y with
  | nil => rfl
  | cons z y => have := hb (by simp); cases this

theorem set_eq (env : List (Nat × AV)) (h : List (Nat × Option Blk)) (t : Nat) (v : AV) : St.set ⟨env,h⟩ t v = ⟨(t,v) :: env,h⟩ := rfl
theorem put_some (st : St) (d : Nat) (v : AV) : st.put (some d) v = st.set d v := rfl
theorem put_none (st : St) (v : AV) : st.put none v = st := rfl
theorem setH_eq (env : List (Nat × AV)) (h : List (Nat × Option Blk)) (l : Nat) (b : Option Blk) : St.setH ⟨env,h⟩ l b = ⟨env,(l,b) :: h⟩ := rfl
theorem get_eq (env : List (Nat × AV)) (h : List (Nat × Option Blk)) (t : Nat) : St.get ⟨env,h⟩ t = lk .any env t := rfl
theorem hp_eq (env : List (Nat × AV)) (h : List (Nat × Option Blk)) (t : Nat) : St.hp ⟨env,h⟩ t = lk none h t := rfl
theorem ev_t (st : St) (t : Nat) : ev st (.t t) = st.get t := rfl
theorem ev_c (st : St) (a : AV) : ev st (.c a) = a := rfl
theorem ev_f (st : St) (id : Nat) : ev st (.f id) = .fn (.func id) [] [] := rfl
theorem keep_eq (ks : List Nat) (env : List (Nat × AV)) (h : List (Nat × Option Blk)) : keepOnly ks ⟨env,h⟩ = ⟨ks.map fun k => (k,lk .any env k),h⟩ := rfl
theorem keep_cons (k : Nat) (ks : List Nat) (env : List (Nat × AV)) (h : List (Nat × Option Blk)) : (keepOnly (k :: ks) ⟨env,h⟩) = ⟨(k,lk .any env k) :: (keepOnly ks ⟨env,h⟩).env,h⟩ := rfl
theorem keep_nil (env : List (Nat × AV)) (h : List (Nat × Option Blk)) : (keepOnly [] ⟨env,h⟩) = ⟨[],h⟩ := rfl
theorem lk_cons {α : Type} (d : α) (k : Nat) (v : α) (r : List (Nat × α)) (t : Nat) : lk d ((k,v) :: r) t = if k = t then v else lk d r t := rfl
theorem lk_nil {α : Type} (d : α) (t : Nat) : lk d [] t = d := rfl

theorem ret_ok (m : Md) (rs : List RV) (Q : AV → Prop) : Ret m rs Q .ret st = ∃ r,outM m st rs = some r ∧ Q r := rfl
theorem ret_normal (m : Md) (rs : List RV) (Q : AV → Prop) : Ret m rs Q .normal st = ∃ r,outM m st rs = some r ∧ Q r := rfl
end
theorem ex_some {α : Type} (x : α) (p : α → Prop) : (∃ y,some x = some y ∧ p y) ↔ p x := by simp

def withM (m : Md) : Option AV → Option (AV × Md)
 | some r => some (r,m)
 | none => none
theorem withM_some (m : Md) (r : AV) : withM m (some r) = some (r,m) := rfl
def wM (m : Md) (g : List AV → Option AV) (vs : List AV) : Option (AV × Md) := withM m (g vs)
theorem wM_eq (m : Md) (g : List AV → Option AV) (vs : List AV) : wM m g vs = withM m (g vs) := rfl
def tabOf : List (Nat × (List AV → Option (AV × Md))) → Tab
 | [],_,_ => none
 | (k,g) :: r,f,vs => if k = f then g vs else tabOf r f vs
theorem tabOf_cons (k : Nat) (g : List AV → Option (AV × Md)) (r : List (Nat × (List AV → Option (AV × Md)))) (f : Nat) (vs : List AV) : tabOf ((k,g) :: r) f vs = if k = f then g vs else tabOf r f vs := rfl
theorem tabOk_nil {P : Program} : TabOk P (tabOf []) := fun _ _ _ _ h => by cases h
theorem tabOk_consW {P : Program} {k : Nat} {g : List AV → Option (AV × Md)} {l : List (Nat × (List AV → Option (AV × Md)))} (h : ∀ vs r m,g vs = some (r,m) → SaysX P m k vs r) (hl : TabOk P (tabOf l)) : TabOk P (tabOf ((k,g) :: l)) := by
 intro f vs r m' hh
 simp only [tabOf] at hh
 split at hh
 ·rename_i e; subst e; exact h vs r m' hh
 ·exact hl f vs r m' hh
theorem SaysM.x {P : Program} {m : Md} {f : FuncId} {vs : List AV} {r : AV} (h : SaysM P m f vs r) (hm : m.isWr = false) : SaysX P m f vs r := by
 cases m <;> first | exact h | cases hm
theorem tabOk_cons {P : Program} {k : Nat} {m : Md} {g : List AV → Option AV} {l : List (Nat × (List AV → Option (AV × Md)))} (h : ∀ vs r,g vs = some r → SaysM P m k vs r) (hl : TabOk P (tabOf l)) (hm : m.isWr = false := by rfl) : TabOk P (tabOf ((k,wM m g) :: l)) := by
 refine tabOk_consW (fun vs r m' hg => ?_) hl
 cases hq : g vs with
 | none => rw [wM_eq,hq] at hg; cases hg
 | some r' => rw [wM_eq,hq] at hg; cases hg; exact (h vs _ hq).x hm
theorem nz_raw (v : Value) : nz (.raw v) = .raw v := rfl
theorem nz_any  : nz (AV.any) = .any := rfl
theorem nz_bool (b : Bool) : nz (.bool b) = .bool b := rfl
theorem nz_int (k : IntKind) (n : Int) : nz (.int k n) = .int k n := rfl
theorem nz_flt (k : FloatKind) (c : Nat) : nz (.flt k c) = .flt k c := rfl
theorem nz_str (l : List UInt8) : nz (.str l) = .str l := rfl
theorem nz_sl (xs : List AV) : nz (.sl xs) = .sl xs := rfl
theorem nz_snil  : nz (.snil) = .sl [] := rfl
theorem nz_ptr (x : AV) (o : Nat) : nz (.ptr x o) = .ptr x o := rfl
theorem nz_fn (f : Fn) (a b : List AV) : nz (.fn f a b) = .fn f a b := rfl
theorem nzE_raw (v : Value) : nzE (.raw v) = .raw v := rfl
theorem nzE_any  : nzE (AV.any) = .any := rfl
theorem nzE_bool (b : Bool) : nzE (.bool b) = .bool b := rfl
theorem nzE_int (k : IntKind) (n : Int) : nzE (.int k n) = .int k n := rfl
theorem nzE_flt (k : FloatKind) (c : Nat) : nzE (.flt k c) = .flt k c := rfl
theorem nzE_str (l : List UInt8) : nzE (.str l) = .str l := rfl
theorem nzE_sl (xs : List AV) : nzE (.sl xs) = .sl xs := rfl
theorem nzE_snil  : nzE (.snil) = .sl [] := rfl
theorem nzE_ptr (x : AV) (o : Nat) : nzE (.ptr x o) = .ptr x o := rfl
theorem nzE_fn (f : Fn) (a b : List AV) : nzE (.fn f a b) = .fn f a b := rfl
theorem nzE_agg (cs : List AV) : nzE (.agg cs) = .agg (cs.map nz) := rfl
theorem nzV_raw (v : Value) : nzV (.raw v) = .raw v := rfl
theorem nzV_any  : nzV (AV.any) = .any := rfl
theorem nzV_bool (b : Bool) : nzV (.bool b) = .bool b := rfl
theorem nzV_int (k : IntKind) (n : Int) : nzV (.int k n) = .int k n := rfl
theorem nzV_flt (k : FloatKind) (c : Nat) : nzV (.flt k c) = .flt k c := rfl
theorem nzV_str (l : List UInt8) : nzV (.str l) = .str l := rfl
theorem nzV_sl (xs : List AV) : nzV (.sl xs) = .sl xs := rfl
theorem nzV_snil  : nzV (.snil) = .sl [] := rfl
theorem nzV_ptr (x : AV) (o : Nat) : nzV (.ptr x o) = .ptr x o := rfl
theorem nzV_fn (f : Fn) (a b : List AV) : nzV (.fn f a b) = .fn f a b := rfl
theorem nzV_agg (cs : List AV) : nzV (.agg cs) = .agg (cs.map nz) := rfl
theorem nzV_tup (cs : List AV) : nzV (.tup cs) = .tup (cs.map nzE) := rfl
end Go.Ab

namespace Go.Ab
open Go.RowKit

section
variable (P : Program)
def layT : Nat → List Field → Option Nat
 | off,[] => some off
 | off,f :: fs => if f.offset = off then layT (off + P.cellsOf f.type) fs else none
def plainT : Nat → Bool → TypeId → Bool
 | 0,_,_ => false
 | n + 1,top,t => match P.underlying t with
  | some .bool | some (.int _) | some (.float _) | some .string => true
  | some (.slice e) => plainT n top e && decide (0 < P.cellsOf e)
  | some (.struct fs) => fs.toList.all (fun f => plainT n top f.type) && decide (layT P 0 fs.toList = some (P.cellsOf t))
  | some (.array m e) => plainT n top e && decide (m * P.cellsOf e = P.cellsOf t)
  | _ => false
def wrapT (t : TypeId) (cs : List AV) : AV := match P.underlying t with
 | some (.struct _) | some (.array _ _) => .agg cs
 | _ => cs.headD .any
def HasF (H : TypeId → List AV → Prop) : List TypeId → List AV → Prop
 | [],xs => xs = []
 | t :: ts,xs => ∃ a b,xs = a ++ b ∧ H t a ∧ HasF H ts b
def HasC : Nat → TypeId → List AV → Prop
 | 0,_,_ => False
 | n + 1,t,xs => match P.underlying t with
  | some .bool => ∃ b,xs = [.bool b]
  | some (.int k) => ∃ m,xs = [.int k m] ∧ (Lit.int k m).wf = true
  | some (.float k) => ∃ b c,xs = [.flt k c] ∧ FV k b c
  | some .string => ∃ l,xs = [.str l] ∧ l.length ≤ maxLen
  | some (.slice e) => ∃ ys : List AV,xs = [.sl ys] ∧ ys.length ≤ maxLen ∧ ∀ y ∈ ys,∃ cs,HasC n e cs ∧ y = wrapT P e cs
  | some (.struct fs) => HasF (HasC n) (fs.toList.map (·.type)) xs
  | some (.array m e) => HasF (HasC n) (List.replicate m e) xs
  | _ => False
end

section
variable {P : Program} {w : World} {H : Type} {enc : TypeId × Value → H} {base : Nat} {spare : Nat → Bool} {held : Bool}

def spotless (c : Value) : Prop := ∀ a len cap,c = .slice (some a) len cap → a.spot = none
def VC (w : World) (cs : List Value) (xs : List AV) : Prop := xs.length = cs.length ∧ ∀ (j : Nat) c x,cs[j]? = some c → xs[j]? = some x → V0 w (· < w.heap.size) c x

theorem VC.append {a b : List Value} {x y : List AV} (h : VC w a x) (k : VC w b y) : VC w (a ++ b) (x ++ y) := by
 refine ⟨by simp [h.1,k.1],fun j c d q1 q2 => ?_⟩
 by_cases hj : j < a.length
 ·rw [List.getElem?_append_left hj] at q1
  rw [List.getElem?_append_left (by rw [h.1]; exact hj)] at q2
  exact h.2 j c d q1 q2
 ·rw [List.getElem?_append_right (by omega)] at q1
  rw [List.getElem?_append_right (by rw [h.1]; omega),h.1] at q2
  exact k.2 _ c d q1 q2
theorem VC.one {c : Value} {x : AV} (h : V0 w (· < w.heap.size) c x) : VC w [c] [x] :=
 ⟨rfl,fun j c' d q1 q2 => by obtain ⟨rfl,rfl⟩ := single_get q2; simp at q1; subst q1; exact h⟩

theorem exists_list {p : Nat → AV → Prop} : ∀ n,(∀ i,i < n → ∃ x,p i x) → ∃ xs : List AV,xs.length = n ∧ ∀ i x,xs[i]? = some x → p i x
 | 0,_ => ⟨[],rfl,fun i x h => by simp at h⟩
 | n + 1,h => by
  obtain ⟨xs,h1,h2⟩ := exists_list n fun i hi => h i (by omega)
  obtain ⟨x,hx⟩ := h n (by omega)
  refine ⟨xs ++ [x],by simp [h1],fun i y hy => ?_⟩
  by_cases hi : i < xs.length
  ·rw [List.getElem?_append_left hi] at hy; exact h2 i y hy
  ·rw [List.getElem?_append_right (by omega)] at hy
   obtain ⟨h3,rfl⟩ := single_get hy
   have : i = n := by omega
   rw [this]; exact hx

theorem fields_ok {Hh : TypeId → List AV → Prop} {cs : List Value} {each : TypeId → List Value → Prop} (hh : ∀ t c,each t c → c.length = P.cellsOf t → ∃ xs,VC w c xs ∧ Hh t xs) :
  ∀ (fs : List Field) (off : Nat),layT P off fs = some cs.length → (∀ f ∈ fs,each f.type ((cs.drop f.offset).take (P.cellsOf f.type))) → ∃ xs,VC w (cs.drop off) xs ∧ HasF Hh (fs.map (·.type)) xs
 | [],off,hl,_ => by
  simp only [layT,Option.some.injEq] at hl
  subst hl
  exact ⟨[],⟨by simp,fun j c d q1 => by simp at q1⟩,rfl⟩
 | f :: fs,off,hl,hf => by
  simp only [layT] at hl
  split at hl
  ·rename_i ho
   have hle : ∀ (fs : List Field) (off n : Nat),layT P off fs = some n → off ≤ n := by
    intro fs
    induction fs with
    | nil => intro off n h; simp only [layT,Option.some.injEq] at h; omega
    | cons f fs ih =>
     intro off n h
     simp only [layT] at h
     split at h
     ·have := ih _ _ h; omega
     ·cases h
   have h1 := hle _ _ _ hl
   have h2 := hf f List.mem_cons_self
   rw [ho] at h2
   obtain ⟨a,ha,hha⟩ := hh f.type _ h2 (by simp; omega)
   obtain ⟨b,hb,hhb⟩ := fields_ok hh fs _ hl fun f' hf' => hf f' (List.mem_cons_of_mem _ hf')
   refine ⟨a ++ b,?_,a,b,rfl,hha,hhb⟩
   have : cs.drop off = (cs.drop off).take (P.cellsOf f.type) ++ cs.drop (off + P.cellsOf f.type) := by
    rw [← List.drop_drop,List.take_append_drop]
   rw [this]
   exact ha.append hb
  ·cases hl

theorem array_ok {Hh : TypeId → List AV → Prop} {cs : List Value} {e : TypeId} {n : Nat} (hh : ∀ i,i < n → ∃ xs,VC w ((cs.drop (i * P.cellsOf e)).take (P.cellsOf e)) xs ∧ Hh e xs) (hl : n * P.cellsOf e = cs.length) :
  ∃ xs,VC w cs xs ∧ HasF Hh (List.replicate n e) xs := by
 have key : ∀ k,k ≤ n → ∃ xs,VC w (cs.drop ((n - k) * P.cellsOf e)) xs ∧ HasF Hh (List.replicate k e) xs := by
  intro k
  induction k with
  | zero =>
   intro _
   refine ⟨[],⟨by simp [hl],fun j c d q1 => ?_⟩,rfl⟩
   simp [hl] at q1
  | succ k ih =>
   intro hk
   obtain ⟨b,hb,hhb⟩ := ih (by omega)
   obtain ⟨a,ha,hha⟩ := hh (n - (k + 1)) (by omega)
   refine ⟨a ++ b,?_,a,b,rfl,hha,hhb⟩
   have h1 : (n - k) * P.cellsOf e = (n - (k + 1)) * P.cellsOf e + P.cellsOf e := by
    rw [show n - k = n - (k + 1) + 1 by omega,Nat.add_mul,Nat.one_mul]
   have : cs.drop ((n - (k + 1)) * P.cellsOf e) = (cs.drop ((n - (k + 1)) * P.cellsOf e)).take (P.cellsOf e) ++ cs.drop ((n - k) * P.cellsOf e) := by
    rw [h1,← List.drop_drop,List.take_append_drop]
   rw [this]
   exact ha.append hb
 have := key n (Nat.le_refl _)
 simpa using this

theorem VC.cells_agg {t : TypeId} {cs : List AV} (hs : (∃ fs,P.underlying t = some (.struct fs)) ∨ ∃ n e,P.underlying t = some (.array n e)) : wrapT P t cs = .agg cs := by
 rcases hs with ⟨fs,h⟩ | ⟨n,e,h⟩ <;> simp [wrapT,h]

theorem HasC.cells {n : Nat} {t : TypeId} {xs : List AV} (h : HasC P n t xs) : (wrapT P t xs).cells = xs := by
 cases n with
 | zero => cases h
 | succ n =>
  unfold HasC at h
  split at h <;> rename_i hu
  ·obtain ⟨b,rfl⟩ := h; simp [wrapT,hu,AV.cells]
  ·obtain ⟨b,rfl,_⟩ := h; simp [wrapT,hu,AV.cells]
  ·obtain ⟨b,c,rfl,_⟩ := h; simp [wrapT,hu,AV.cells]
  ·obtain ⟨b,rfl,_⟩ := h; simp [wrapT,hu,AV.cells]
  ·obtain ⟨b,rfl,_⟩ := h; simp [wrapT,hu,AV.cells]
  ·simp [wrapT,hu,AV.cells]
  ·simp [wrapT,hu,AV.cells]
  ·cases h

theorem flt_ok {k : FloatKind} {b : Nat} (h : (Lit.float k b).wf = true) : FV k b (cn k b) := by
 refine ⟨?_,rfl⟩
 cases k
 ·have : b < 4294967296 := by simpa [Lit.wf] using h
  exact this
 ·have : b < 18446744073709551616 := by simpa [Lit.wf] using h
  exact this

theorem trod_float {t : TypeId} {k : FloatKind} {fuel : Nat} {cs : List Value} {x : DataW H × List MemPlace} (ht : P.underlying t = some (.float k)) (h : DataW.trod enc P w base spare held fuel t cs = some x) : ∃ n,cs = [.float k n] ∧ (Lit.float k n).wf = true := by
 cases fuel with
 | zero => simp [DataW.trod] at h
 | succ n =>
  unfold DataW.trod at h
  rw [ht] at h
  split at h <;> simp_all
theorem trod_array {t e : TypeId} {m : Nat} {fuel : Nat} {cs : List Value} {x : DataW H × List MemPlace} (ht : P.underlying t = some (.array m e)) (h : DataW.trod enc P w base spare held fuel t cs = some x) :
  ∃ n,fuel = n + 1 ∧ cs.length = P.cellsOf t ∧ ∀ i,i < m → ∃ y,DataW.trod enc P w base spare held n e ((cs.drop (i * P.cellsOf e)).take (P.cellsOf e)) = some y := by
 obtain ⟨xs,n,h1,_,h2,h3,h4⟩ := DataW.trod_array ht h
 exact ⟨n,h1,h2,fun i hi => ⟨xs[i]'(by omega),by rw [h4 i hi]; simp [h3,hi]⟩⟩

theorem cell_spot {a : Addr} {c : Value} (h : w.cell? a = some c) : a.spot = none := by
 unfold World.cell? at h
 split at h
 ·split at h
  ·cases h
  ·rename_i hs; simpa using hs
 ·cases h
theorem imp0 (hsp : ∀ b,spare b = true) : ∀ (n fuel : Nat) (top : Bool) (t : TypeId) (cs : List Value) (r : DataW H × List MemPlace),plainT P n top t = true → DataW.trod enc P w base spare held fuel t cs = some r →
  cs.length = cs.length ∧ ∃ xs,VC w cs xs ∧ HasC P n t xs := by
 intro n
 induction n with
 | zero => intro fuel top t cs r hp; cases hp
 | succ n ih =>
  intro fuel top t cs r hp ht
  refine ⟨rfl,?_⟩
  unfold plainT at hp
  unfold HasC
  split at hp <;> rename_i hu
  ·obtain ⟨b,rfl,_⟩ := DataW.trod_bool hu ht
   exact ⟨[.bool b],.one (.bool b),⟨b,rfl⟩⟩
  ·obtain ⟨m,rfl,_,hw⟩ := DataW.trod_int hu ht
   exact ⟨_,.one (.int _ m hw),⟨m,rfl,hw⟩⟩
  ·obtain ⟨b,rfl,hw⟩ := trod_float hu ht
   exact ⟨_,.one (.flt _ b _ (flt_ok hw)),⟨b,_,rfl,flt_ok hw⟩⟩
  ·obtain ⟨s,rfl,_,hm⟩ := DataW.trod_string hu ht
   exact ⟨_,.one (.str s hm),⟨_,rfl,by rw [str_len]; exact hm⟩⟩
  ·rename_i e
   simp only [Bool.and_eq_true,decide_eq_true_eq] at hp
   obtain ⟨hpe,hpos⟩ := hp
   rcases DataW.trod_slice hu ht with ⟨rfl,_⟩ | ⟨a,len,cap,elems,rest,m,rfl,rfl,_,hb,hlc,hcm,hel,helem,hrest,_⟩
   ·exact ⟨[.sl []],.one (.slnil (.inl rfl)),⟨[],rfl,by simp,fun y hy => by cases hy⟩⟩
   ·by_cases hcap : cap = 0
    ·have hlen0 : len = 0 := by omega
     subst hcap; subst hlen0
     exact ⟨[.sl []],.one (.slnil (.inr ⟨a,rfl⟩)),⟨[],rfl,by simp,fun y hy => by cases hy⟩⟩
    have spot_of : ∀ {k : Nat} {y : DataW H × List MemPlace},k = 0 → (w.cells? base (a.add (k * P.cellsOf e)) (P.cellsOf e)).bind (DataW.trod enc P w base spare held m e) = some y → a.spot = none := by
     intro k y hk hy
     subst hk
     rw [Option.bind_eq_some_iff] at hy
     obtain ⟨cs,hcs,_⟩ := hy
     obtain ⟨_,hlen,hcell⟩ := World.cells?_some hcs
     have h3 := hcell 0 (by omega)
     have h4 : cs[0]? = some (cs[0]'(by omega)) := by simp [hlen,hpos]
     rw [h4] at h3
     have h5 := cell_spot h3
     simpa [Addr.add] using h5
    have hspot : a.spot = none := by
     by_cases hlen0 : len = 0
     ·obtain ⟨hrl,hrj⟩ := hrest (hsp _)
      have h1 := hrj 0 (by omega)
      have h2 : rest[0]? = some (rest[0]'(by omega)) := by simp [hrl]
      rw [h2] at h1
      exact spot_of (by omega) h1
     ·have h1 := helem 0 (by omega)
      have h2 : elems[0]? = some (elems[0]'(by omega)) := by simp [hel]
      rw [h2] at h1
      exact spot_of rfl h1
    have hadd : ∀ k,a.add k = ⟨a.block,a.off + k,none⟩ := by
     intro k
     obtain ⟨b,o,s⟩ := a
     simp only at hspot
     subst hspot
     exact addr_add b o k
    have each : ∀ i,i < len → ∃ y,(∃ cs : List AV,HasC P n e cs ∧ y = wrapT P e cs ∧ cs.length = P.cellsOf e ∧ ∀ j d,cs[j]? = some d → ∃ c,w.cell? ⟨a.block,a.off + i * P.cellsOf e + j,none⟩ = some c ∧ V0 w (· < w.heap.size) c d) := by
     intro i hi
     have h1 := helem i hi
     have h2 : elems[i]? = some (elems[i]'(by omega)) := by simp [hel,hi]
     rw [h2,Option.bind_eq_some_iff] at h1
     obtain ⟨cs,hcs,htr⟩ := h1
     obtain ⟨_,hlen,hcell⟩ := World.cells?_some hcs
     obtain ⟨_,xs,hv,hc⟩ := ih m top e cs _ hpe htr
     refine ⟨_,xs,hc,rfl,by rw [hv.1,hlen],fun j d hj => ?_⟩
     have hjl : j < cs.length := by rw [← hv.1]; exact (List.getElem?_eq_some_iff.1 hj).1
     have h3 := hcell j (by omega)
     rw [hadd,addr_add] at h3
     refine ⟨cs[j],by rw [h3]; simp [hjl],hv.2 j _ d (by simp [hjl]) hj⟩
    obtain ⟨ys,hyl,hys⟩ := exists_list len each
    refine ⟨[.sl ys],.one ?_,⟨ys,rfl,by omega,fun y hy => ?_⟩⟩
    ·have ha : a = ⟨a.block,a.off,none⟩ := by
      obtain ⟨b,o,s⟩ := a
      simp only at hspot
      subst hspot; rfl
     rw [ha]
     refine .sl a.block a.off len cap (P.cellsOf e) ys hyl hlc (by omega) (fun hne => ?_) (fun x hx => ?_) (fun i x j d q1 q2 => ?_) (fun i x j d c q1 q2 q3 => ?_)
     ·cases ys with
      | nil => exact absurd rfl hne
      | cons y ys =>
       obtain ⟨cs,g1,g2,g3,g4⟩ := hys 0 y rfl
       have h0 : cs[0]? = some (cs[0]'(by omega)) := by simp [g3,hpos]
       obtain ⟨c,hc,_⟩ := g4 0 _ h0
       unfold World.cell? at hc
       dsimp only at hc
       split at hc
       ·rename_i hh; exact (Array.getElem?_eq_some_iff.1 hh).1
       ·cases hc
     ·obtain ⟨i,hi⟩ := List.getElem?_of_mem hx
      obtain ⟨cs,g1,g2,g3,g4⟩ := hys i x hi
      rw [g2,g1.cells,g3]
     ·obtain ⟨cs,g1,g2,g3,g4⟩ := hys i x q1
      rw [g2,g1.cells] at q2
      obtain ⟨c,hc,_⟩ := g4 j d q2
      exact ⟨c,hc⟩
     ·obtain ⟨cs,g1,g2,g3,g4⟩ := hys i x q1
      rw [g2,g1.cells] at q2
      obtain ⟨c',hc,hv⟩ := g4 j d q2
      rw [q3] at hc; cases hc
      exact hv
    ·obtain ⟨i,hi⟩ := List.getElem?_of_mem hy
     obtain ⟨cs,g1,g2,_⟩ := hys i y hi
     exact ⟨cs,g1,g2⟩
  ·rename_i fs
   simp only [Bool.and_eq_true,decide_eq_true_eq,List.all_eq_true] at hp
   obtain ⟨hpf,hlay⟩ := hp
   obtain ⟨xs,m,rfl,_,hlen,hxl,hfield⟩ := DataW.trod_struct hu ht
   rw [← hlen] at hlay
   have := fields_ok (P := P) (w := w) (cs := cs) (Hh := HasC P n) (each := fun t c => (∃ f ∈ fs.toList,f.type = t) ∧ (∃ y,DataW.trod enc P w base spare held m t c = some y) ∧ ∀ v ∈ c,v ∈ cs)
    (fun t c hc hcl => by
     obtain ⟨⟨f,hf,rfl⟩,⟨y,hy⟩,hsub⟩ := hc
     exact (ih m top f.type c y (hpf f hf) hy).2)
    fs.toList 0 hlay (fun f hf => by
     refine ⟨⟨f,hf,rfl⟩,?_,fun v hv => List.mem_of_mem_drop (List.mem_of_mem_take hv)⟩
     obtain ⟨i,hi⟩ := List.getElem?_of_mem hf
     have h1 := hfield i f (by simpa using hi)
     have hil : i < xs.length := by
      have := (List.getElem?_eq_some_iff.1 hi).1
      rw [hxl]; simpa using this
     exact ⟨xs[i],by rw [h1]; simp [hil]⟩)
   obtain ⟨ys,h1,h2⟩ := this
   exact ⟨ys,by simpa using h1,h2⟩
  ·rename_i m e
   simp only [Bool.and_eq_true,decide_eq_true_eq] at hp
   obtain ⟨hpe,hsz⟩ := hp
   obtain ⟨k,rfl,hlen,hel⟩ := trod_array hu ht
   have := array_ok (P := P) (w := w) (cs := cs) (Hh := HasC P n) (e := e) (n := m) (fun i hi => by
    obtain ⟨y,hy⟩ := hel i hi
    exact (ih k top e _ y hpe hy).2) (by rw [hlen]; exact hsz)
   obtain ⟨ys,h1,h2⟩ := this
   exact ⟨ys,h1,h2⟩
  ·cases hp
theorem imp (hsp : ∀ b,spare b = true) {n fuel : Nat} {top : Bool} {t : TypeId} {cs : List Value} {r : DataW H × List MemPlace} (hp : plainT P n top t = true) (ht : DataW.trod enc P w base spare held fuel t cs = some r) :
  ∃ xs,VC w cs xs ∧ HasC P n t xs := (imp0 hsp n fuel top t cs r hp ht).2
end
end Go.Ab

namespace Go.Ab
open Go.RowKit

section
variable {P : Program} {w : World} {H : Type} {enc : TypeId × Value → H} {base : Nat} {spare : Nat → Bool} {held : Bool} {r : Reach}

theorem cell_spotless {u : TypeId} {c : Value} (h : Cell.okWide P w r base u c) : spotless c := by
 intro a len cap e
 subst e
 unfold Cell.okWide at h
 split at h <;> rename_i e1 e2 <;> first | (cases e2; done) | skip
 unfold Cell.ok at h
 split at h <;> rename_i e3 e4 <;> first | (cases e4; done) | skip
 ·cases e4
  exact h.2.2.2.1
 ·exact h.elim

def HasV (P : Program) (n : Nat) (t : TypeId) (x : AV) : Prop := ∃ cs,HasC P n t cs ∧ x = wrapT P t cs

theorem imp_arg {n : Nat} {t : TypeId} {v : Value} {d : DataW H} {ps : List MemPlace} (hp : plainT P n true t = true) (hval : Value.okWide P w r base t v) (hd : DataW.Trod enc P w 0 (fun _ => true) held t v d ps) :
  ∃ x,V0 w (· < w.heap.size) v x ∧ HasV P n t x := by
 obtain ⟨fuel,hf⟩ := hd
 cases n with
 | zero => cases hp
 | succ n =>
  have agg : ∀ {cs : Array Value},v = .agg cs → Row.okWide P w r base t cs → (∀ xs,wrapT P t xs = .agg xs) → ∃ x,V0 w (· < w.heap.size) v x ∧ HasV P (n + 1) t x := by
   rintro cs rfl hrow hw
   obtain ⟨xs,h1,h2⟩ := imp (fun _ => rfl) hp hf
   refine ⟨.agg xs,.agg cs xs (by have := h1.1; simpa [Value.cells] using this.symm) fun i c x q1 q2 => h1.2 i c x (by simpa [Value.cells] using q1) q2,xs,h2,(hw xs).symm⟩
  have one : Cell.okWide P w r base t v → v.cells = #[v] → (∀ xs : List AV,xs.length = 1 → wrapT P t xs = xs.headD .any) → ∃ x,V0 w (· < w.heap.size) v x ∧ HasV P (n + 1) t x := by
   intro hc hcells hw
   rw [hcells] at hf
   obtain ⟨xs,h1,h2⟩ := imp (fun _ => rfl) hp hf
   have hl : xs.length = 1 := by have := h1.1; simpa using this
   obtain ⟨x,rfl⟩ := List.length_eq_one_iff.1 hl
   exact ⟨x,h1.2 0 v x rfl rfl,[x],h2,by rw [hw _ rfl]; rfl⟩
  have cellsOne : Cell.okWide P w r base t v → (P.underlying t = some .bool ∨ (∃ k,P.underlying t = some (.int k)) ∨ (∃ k,P.underlying t = some (.float k)) ∨ P.underlying t = some .string ∨ ∃ e,P.underlying t = some (.slice e)) → v.cells = #[v] := by
   intro hc hu
   cases v <;> first | rfl | skip
   all_goals
    exfalso
    rcases hu with h | ⟨k,h⟩ | ⟨k,h⟩ | h | ⟨e,h⟩ <;> simp [Cell.okWide,Cell.ok,h] at hc
  unfold plainT at hp
  unfold Value.okWide at hval
  split at hp <;> rename_i hu <;> first | (cases hp; done) | (rw [hu] at hval; dsimp only at hval)
  ·exact one hval (cellsOne hval (.inl hu)) fun xs _ => by simp [wrapT,hu]
  ·exact one hval (cellsOne hval (.inr (.inl ⟨_,hu⟩))) fun xs _ => by simp [wrapT,hu]
  ·exact one hval (cellsOne hval (.inr (.inr (.inl ⟨_,hu⟩)))) fun xs _ => by simp [wrapT,hu]
  ·exact one hval (cellsOne hval (.inr (.inr (.inr (.inl hu))))) fun xs _ => by simp [wrapT,hu]
  ·exact one hval (cellsOne hval (.inr (.inr (.inr (.inr ⟨_,hu⟩))))) fun xs _ => by simp [wrapT,hu]
  ·obtain ⟨cs,h1,_,h2⟩ := hval
   exact agg h1 h2 fun xs => by simp [wrapT,hu]
  ·obtain ⟨cs,h1,_,h2⟩ := hval
   exact agg h1 h2 fun xs => by simp [wrapT,hu]

theorem CallOk.calls {f : FuncId} {fn : Func} {args : Array Value} {R : Value → World → Prop} (h : CallOk P f args w R) (hf : P.funcs[f]? = some fn) (hb : fn.body.isSome = true) (hname : (fn.name == "runtime.NumGoroutine") = false) :
  Calls P f args w fun e w' => ∃ v,e = .returned v ∧ R v w' := by
 rcases h with ⟨v,w',h1,_⟩ | ⟨_,h2⟩
 ·exfalso
  have hname' : ¬ fn.name = "runtime.NumGoroutine" := by simpa using hname
  have hb' : ¬ fn.body = none := by
   intro e; rw [e] at hb; cases hb
  simp [callFunc,hf,hname',hb'] at h1
 ·exact h2

theorem law_calls {f : FuncId} {fn : Func} {args : Array Value} {vs : List AV} (hs : Says P f vs (.bool true)) (hf : P.funcs[f]? = some fn) (hb : fn.body.isSome = true) (hname : (fn.name == "runtime.NumGoroutine") = false) (hsz : args.size = vs.length)
  (hv : ∀ (i : Nat) c d,args[i]? = some c → vs[i]? = some d → V0 w (· < w.heap.size) c d) : Calls P f args w fun e w' => e = .returned (.bool true) ∧ Below w.heap.size w w' :=
 ((hs w (· < w.heap.size) args (fun _ h => h) hsz hv).calls hf hb hname).mono fun e w' ⟨v,he,hb',hv'⟩ => by
  cases hv'
  exact ⟨he,hb'⟩
end
end Go.Ab

namespace Go.Ab

def Kl (tab : Tab) (c : ICode) (K : IExit → St → Prop) : IExit → St → Prop := Kseq (fun s => wpLoop (wpA tab c) s K) K
section
variable {tab : Tab} {st : St} {K : IExit → St → Prop} {c : ICode}
theorem Kl_normal : Kl tab c K .normal st = eA tab (.loop c) st K := rfl
theorem Kl_exit (id : Nat) : Kl tab c K (.exit id) st = K (.exit id) st := rfl
theorem Kl_ret : Kl tab c K .ret st = K .ret st := rfl
theorem eA_loop (h : eA tab c st (Kl tab c K)) : eA tab (.loop c) st K := wpLoop_unfold h
theorem eA_wk {s s' : St} (h : Wk s s') (h' : eA tab (.loop c) s' K) : eA tab (.loop c) s K := wpLoop_wk h h'
theorem eA_cast {c : ICode} {s s' : St} (h : s = s') (h' : eA tab c s' K) : eA tab c s K := by subst h; exact h'
end

/- A choice of two values: two ways. -/
def ePk (tab : Tab) (c : AV) (d : Nat) (a b : Opd) (r : List IOper) (st : St) (k : St → Prop) : Prop := match c with
 | .bool t => if t = true then eI tab r (st.set d (ev st a)) k else eI tab r (st.set d (ev st b)) k
 | _ => False
section
variable {tab : Tab} {st : St} {k : St → Prop}
theorem b_pick (d : Nat) (c a b : Opd) (r : List IOper) : bindSt (eop tab st (some d) (.pick c a b)) (eR tab r k) = ePk tab (ev st c) d a b r st k := by
 show bindSt ((vop st (.pick c a b)).map (st.put (some d))) (eR tab r k) = _
 simp only [vop]
 generalize ev st c = x
 cases x with
 | bool t => cases t <;> rfl
 | _ => rfl
theorem ePk_true (d : Nat) (a b : Opd) (r : List IOper) : ePk tab (.bool true) d a b r st k = eI tab r (st.set d (ev st a)) k := rfl
theorem ePk_false (d : Nat) (a b : Opd) (r : List IOper) : ePk tab (.bool false) d a b r st k = eI tab r (st.set d (ev st b)) k := rfl
theorem ePk_of {t : Bool} {d : Nat} {a b : Opd} {r : List IOper} (h1 : t = true → ePk tab (.bool true) d a b r st k) (h2 : t = false → ePk tab (.bool false) d a b r st k) : ePk tab (.bool t) d a b r st k := by cases t <;> simp_all
end
theorem cast_lit (n : Nat) : ((no_index (OfNat.ofNat n) : Nat) : Int) = OfNat.ofNat n := rfl
theorem toNat_lit (n : Nat) : Int.toNat (no_index (OfNat.ofNat n)) = OfNat.ofNat n := rfl
theorem prod_eta {α β : Type} (p : α × β) : (p.1,p.2) = p := rfl
theorem Wk.refl (s : St) : Wk s s := fun _ _ _ h => h
theorem KW_refl {k : St → Prop} {st : St} (h : k st) : KW k st := ⟨st,Wk.refl st,h⟩
theorem KW_of {k : St → Prop} {st st' : St} (hw : Wk st st') (h : k st') : KW k st := ⟨st',hw,h⟩
theorem Wk.cast {s t u : St} (h : Wk s t) (e : t = u) : Wk s u := by subst e; exact h
def need {α : Type} (p : Bool) (x : Option α) : Option α := if p = true then x else none
theorem need_iff {α : Type} {p : Bool} {x : Option α} {o : α} : need p x = some o ↔ p = true ∧ x = some o := by
 unfold need; cases p <;> simp
theorem getD_some {α : Type} {x : Option α} {d : α} (h : x.isSome = true) : x = some (x.getD d) := by cases x <;> simp_all
def inB (n : Int) (len : Nat) : Bool := decide (0 ≤ n) && decide (n < (len : Int))
def atI {α : Type} [Inhabited α] (xs : List α) (n : Int) : α := xs.getD n.toNat default
section
variable {α : Type} [Inhabited α] {e : α → AV} {xs : List α} {n : Int} {h : Nat → Option Blk} {k : IntKind} {es : Nat}
theorem atI_get (hb : inB n xs.length = true) : xs[n.toNat]? = some (atI xs n) := by
 simp only [inB,Bool.and_eq_true,decide_eq_true_eq] at hb
 have : n.toNat < xs.length := by omega
 simp [atI,this]
theorem getE (hb : inB n xs.length = true) : (xs.map e)[n.toNat]? = some (e (atI xs n)) := by rw [List.getElem?_map,atI_get hb]; rfl
theorem iaddr_sl (hb : inB n xs.length = true) (hc : (e (atI xs n)).cells.length = es) : viaddrS h es (.sl (xs.map e)) (.int k n) = some (.ptr (e (atI xs n)) 0) := by
 have h0 : 0 ≤ n := by simp only [inB,Bool.and_eq_true,decide_eq_true_eq] at hb; exact hb.1
 simp only [viaddrS,if_pos h0,getE hb,if_pos hc]
theorem iaddr_lsl {l off len : Nat} (hb : inB n len = true) : viaddrS h es (.lsl l off len) (.int k n) = match h l with
  | some b => if b.es = es then some (.lptr l (off + n.toNat) 0) else none
  | none => none := by
 simp only [inB,Bool.and_eq_true,decide_eq_true_eq] at hb
 simp only [viaddrS]
 rw [if_pos hb]
 cases h l <;> rfl
end
def f2iOk (d : IntKind) (k : FloatKind) (c : Nat) : Bool := match f2i k c with
 | some n => decide (d.min ≤ n) && decide (n ≤ d.max)
 | none => false
def f2iV (k : FloatKind) (c : Nat) : Int := (f2i k c).getD 0
theorem f2iK_eq (d : IntKind) (k : FloatKind) (c : Nat) : f2iK d (f2i k c) = if f2iOk d k c = true then some (.int d (f2iV k c)) else none := by
 unfold f2iK f2iOk f2iV
 cases f2i k c with
 | none => rfl
 | some n => simp
theorem bits_i64 : IntKind.bits .i64 = 64 := rfl
theorem bits_i32 : IntKind.bits .i32 = 32 := rfl
theorem bits_u64 : IntKind.bits .u64 = 64 := rfl
theorem bits_u32 : IntKind.bits .u32 = 32 := rfl
theorem bits_u8 : IntKind.bits .u8 = 8 := rfl

def nameIn : Nat → List Nat → AV → Bool
 | _,ls,.lptr m _ _ => ls.contains m
 | _,ls,.lsl m _ _ => ls.contains m
 | n + 1,ls,.agg cs => cs.all (nameIn n ls)
 | n + 1,ls,.tup cs => cs.all (nameIn n ls)
 | n + 1,ls,.fn _ a b => a.all (nameIn n ls) && b.all (nameIn n ls)
 | 0,_,.agg _ => false
 | 0,_,.tup _ => false
 | 0,_,.fn .. => false
 | _,_,_ => true
def blkIn (ls : List Nat) (b : Blk) : Bool := b.pur || b.elems.all fun x => x.cells.all (nameIn 2 ls)
def optIn (ls : List Nat) : Option Blk → Bool
 | none => true
 | some b => blkIn ls b
def normOk (ks ls : List Nat) (st : St) : Bool := ks.all (fun k => nameIn 2 ls (st.get k)) && ls.all (fun l => optIn ls (st.hp l))
def normS (ks ls : List Nat) (st : St) : St := ⟨ks.map fun k => (k,st.get k),ls.map fun l => (l,st.hp l)⟩

theorem V.keepNames {ρ : Nat → Option Nat} {h h' : Nat → Option Blk} {w : World} {Z Z' : Nat → Prop} {ls : List Nat} (hh : ∀ l ∈ ls,h' l = h l) (hz : ∀ b,Z b → Z' b) :
  ∀ {v : Value} {a : AV},V ρ h w Z v a → ∀ {n : Nat},nameIn n ls a = true → V ρ h' w Z' v a := by
 intro v a hv
 induction hv with
 | pure hv => intro n _; exact .pure (hv.widen hz)
 | agg cs ds hl _ ih =>
  intro n hn
  cases n with
  | zero => cases hn
  | succ n =>
   simp only [nameIn,List.all_eq_true] at hn
   exact .agg cs ds hl fun i c d hc hd => ih i c d hc hd (hn d (List.mem_of_getElem? hd))
 | tup cs ds hl _ ih =>
  intro n hn
  cases n with
  | zero => cases hn
  | succ n =>
   simp only [nameIn,List.all_eq_true] at hn
   exact .tup cs ds hl fun i c d hc hd => ih i c d hc hd (hn d (List.mem_of_getElem? hd))
 | fn f c1 c2 d1 d2 hl1 hl2 _ _ ih1 ih2 =>
  intro n hn
  cases n with
  | zero => cases hn
  | succ n =>
   simp only [nameIn,List.all_eq_true,Bool.and_eq_true] at hn
   exact .fn f c1 c2 d1 d2 hl1 hl2 (fun i c d hc hd => ih1 i c d hc hd (hn.1 d (List.mem_of_getElem? hd))) (fun i c d hc hd => ih2 i c d hc hd (hn.2 d (List.mem_of_getElem? hd)))
 | lptr l i off B b hρ hb =>
  intro n hn
  have hl : l ∈ ls := by cases n <;> simpa [nameIn] using hn
  exact .lptr l i off B b hρ (by rw [hh l hl]; exact hb)
 | lsl l off len cap B b t k hρ hb hw hc hn' hl hm =>
  intro n hn
  have hl' : l ∈ ls := by cases n <;> simpa [nameIn] using hn
  exact .lsl l off len cap B b t k hρ (by rw [hh l hl']; exact hb) hw hc hn' hl hm
 | lnil l b hv hρ hb =>
  intro n hn
  have hl : l ∈ ls := by cases n <;> simpa [nameIn] using hn
  exact .lnil l b hv hρ (by rw [hh l hl]; exact hb)

theorem lk_map_mem {α : Type} (d : α) (f : Nat → α) : ∀ (ks : List Nat) (t : Nat),t ∈ ks → lk d (ks.map fun k => (k,f k)) t = f t
 | [],t,h => by cases h
 | k :: ks,t,h => by
  simp only [List.map_cons,lk]
  split
  ·rename_i e; subst e; rfl
  ·rename_i e
   refine lk_map_mem d f ks t ?_
   rcases List.mem_cons.1 h with h | h
   ·exact absurd h.symm e
   ·exact h
theorem lk_map_not {α : Type} (d : α) (f : Nat → α) : ∀ (ks : List Nat) (t : Nat),t ∉ ks → lk d (ks.map fun k => (k,f k)) t = d
 | [],t,h => rfl
 | k :: ks,t,h => by
  simp only [List.map_cons,lk]
  split
  ·rename_i e; subst e; exact absurd List.mem_cons_self h
  ·exact lk_map_not d f ks t fun hm => h (List.mem_cons_of_mem _ hm)

theorem wk_norm {ks ls : List Nat} {st : St} (hok : normOk ks ls st = true) : Wk st (normS ks ls st) := by
 rintro cf a w ⟨ρ,h⟩
 simp only [normOk,Bool.and_eq_true,List.all_eq_true] at hok
 have hin : ∀ l ∈ ls,(normS ks ls st).hp l = st.hp l := fun l hl => lk_map_mem none st.hp ls l hl
 have hout : ∀ l b,(normS ks ls st).hp l = some b → l ∈ ls ∧ st.hp l = some b := fun l b hb => by
  by_cases hl : l ∈ ls
  ·exact ⟨hl,by rw [← hin l hl]; exact hb⟩
  ·have : (normS ks ls st).hp l = none := lk_map_not none st.hp ls l hl
   rw [this] at hb; cases hb
 have hsome : ∀ l,((normS ks ls st).hp l).isSome = true → l ∈ ls ∧ (st.hp l).isSome = true := fun l hl => by
  cases hb : (normS ks ls st).hp l with
  | none => rw [hb] at hl; cases hl
  | some b => obtain ⟨h1,h2⟩ := hout l b hb; exact ⟨h1,by rw [h2]; rfl⟩
 have hz : ∀ b,Zf cf.Z0 cf.base ρ st.hp w b → Zf cf.Z0 cf.base ρ (normS ks ls st).hp w b := fun b hb => ⟨hb.1,hb.2.1,fun l hl => hb.2.2 l (hsome l hl).2⟩
 have hV : ∀ {v : Value} {a : AV} {n : Nat},V ρ st.hp w (Zf cf.Z0 cf.base ρ st.hp w) v a → nameIn n ls a = true → V ρ (normS ks ls st).hp w (Zf cf.Z0 cf.base ρ (normS ks ls st).hp w) v a := fun hv hn => hv.keepNames hin hz hn
 refine ⟨ρ,⟨⟨fun l b B hb hρ => ?_,fun l b hb hρ => h.hp.nil l b (hout l b hb).2 hρ,fun l l' B hl hl' => h.hp.inj l l' B (hsome l hl).2 (hsome l' hl').2⟩,fun t => ?_,h.size,h.defers,h.fr,fun l B hl => h.own l B (hsome l hl).2,h.z0,h.pin,h.shp⟩⟩
 ·obtain ⟨hl,hb'⟩ := hout l b hb
  obtain ⟨c,t,g1,g2,g3,g4,g5⟩ := h.hp.blk l b B hb' hρ
  refine ⟨c,t,g1,g2,g3,fun i x j d v q1 q2 q3 => ?_,fun hp i x j d v q1 q2 q3 => (g5 hp i x j d v q1 q2 q3).widen hz⟩
  have hk := hok.2 l hl
  rw [hb'] at hk
  simp only [optIn,blkIn,Bool.or_eq_true,List.all_eq_true] at hk
  rcases hk with hk | hk
  ·exact .pure ((g5 hk i x j d v q1 q2 q3).widen hz)
  ·exact hV (g4 i x j d v q1 q2 q3) (hk x (List.mem_of_getElem? q1) d (List.mem_of_getElem? q2))
 ·by_cases ht : t ∈ ks
  ·have e : (normS ks ls st).get t = st.get t := lk_map_mem AV.any st.get ks t ht
   rw [e]
   exact hV (h.tmp t) (hok.1 t ht)
  ·have e : (normS ks ls st).get t = .any := lk_map_not AV.any st.get ks t ht
   rw [e]; exact .pure (.any _)

def nilV (i : Option Nat) (l : Nat) : AV → AV
 | .snil => match i with
  | none => .lsl l 0 0
  | some _ => .snil
 | .agg cs => match i with
  | some i => match cs[i]? with
   | some .snil => .agg (cs.set i (.lsl l 0 0))
   | _ => .agg cs
  | none => .agg cs
 | x => x
def nilS (t : Nat) (i : Option Nat) (l es : Nat) (st : St) : St := (st.setH l (some ⟨es,true,[]⟩)).set t (nilV i l (st.get t))

theorem V.nilV {ρ ρ' : Nat → Option Nat} {h h' : Nat → Option Blk} {w : World} {Z Z' : Nat → Prop} {l : Nat} {b : Blk} (hm : ∀ {v : Value} {a : AV},V ρ h w Z v a → V ρ' h' w Z' v a) (hl : ρ' l = none) (hb : h' l = some b) {v : Value} {a : AV} (i : Option Nat) (hv : V ρ h w Z v a) :
  V ρ' h' w Z' v (nilV i l a) := by
 have nil : ∀ {v : Value},V ρ h w Z v .snil → V ρ' h' w Z' v (.lsl l 0 0) := by
  intro v hv
  cases hv with
  | pure h0 => cases h0; exact .lnil l b (.inl rfl) hl hb
 unfold Go.Ab.nilV
 split
 ·split
  ·exact nil hv
  ·exact hm hv
 ·rename_i cs
  split
  ·rename_i i
   split
   ·rename_i hi
    obtain ⟨vs,rfl,hlen,hd⟩ := agg_inv hv
    refine .agg vs _ (by simpa using hlen) fun j c d hc hd' => ?_
    by_cases e : j = i
    ·subst e
     have hlt : j < cs.length := (List.getElem?_eq_some_iff.1 hi).1
     rw [List.getElem?_set_self hlt] at hd'
     cases hd'
     exact nil (hd j c _ hc hi)
    ·rw [List.getElem?_set_ne (Ne.symm e)] at hd'
     exact hm (hd j c d hc hd')
   ·exact hm hv
  ·exact hm hv
 ·exact hm hv

theorem wk_nil {t l es : Nat} {i : Option Nat} {st : St} (hn : ((st.hp l).isNone && decide (l < 1000000)) = true) : Wk st (nilS t i l es st) := by
 rintro cf a w ⟨ρ,h⟩
 simp only [Bool.and_eq_true,decide_eq_true_eq] at hn
 have hlow := hn.2
 have hn' : st.hp l = none := by simpa using hn.1
 let ρ' : Nat → Option Nat := fun m => if m = l then none else ρ m
 have hhp : (nilS t i l es st).hp l = some ⟨es,true,[]⟩ := by simp [nilS,St.hp_set,St.hp_setH]
 have hhp' : ∀ m,m ≠ l → (nilS t i l es st).hp m = st.hp m := fun m hm => by
  simp only [nilS,St.hp_set,St.hp_setH]; rw [if_neg (Ne.symm hm)]
 have hρ' : ∀ m,m ≠ l → ρ' m = ρ m := fun m hm => if_neg hm
 have hρl : ρ' l = none := if_pos rfl
 have hz : ∀ b,Zf cf.Z0 cf.base ρ st.hp w b → Zf cf.Z0 cf.base ρ' (nilS t i l es st).hp w b := fun b hb => ⟨hb.1,hb.2.1,fun m hm => by
  by_cases e : m = l
  ·subst e; rw [hρl]; simp
  ·rw [hρ' m e]; exact hb.2.2 m (by rw [← hhp' m e]; exact hm)⟩
 have hV : ∀ {v : Value} {a : AV},V ρ st.hp w (Zf cf.Z0 cf.base ρ st.hp w) v a → V ρ' (nilS t i l es st).hp w (Zf cf.Z0 cf.base ρ' (nilS t i l es st).hp w) v a := fun hv => by
  refine hv.mono (fun b hb => ⟨hz b hb,rfl⟩) fun m b hb => ?_
  have hm : m ≠ l := fun e => by subst e; rw [hn'] at hb; cases hb
  exact ⟨hρ' m hm,⟨b,by rw [hhp' m hm]; exact hb,rfl,rfl⟩,fun _ _ => rfl⟩
 refine ⟨ρ',⟨⟨fun m b B hb hB => ?_,fun m b hb hB => ?_,fun m m' B hm hm' hB hB' => ?_⟩,fun u => ?_,h.size,h.defers,h.fr,fun m B hm hB => ?_,h.z0,fun m hm => by rw [← h.pin m hm]; exact hρ' m (by have := hm.1; omega),h.shp⟩⟩
 ·by_cases e : m = l
  ·subst e; rw [hρl] at hB; cases hB
  ·rw [hhp' m e] at hb; rw [hρ' m e] at hB
   obtain ⟨c,ct,g1,g2,g3,g4,g5⟩ := h.hp.blk m b B hb hB
   exact ⟨c,ct,g1,g2,g3,fun i x j d v q1 q2 q3 => hV (g4 i x j d v q1 q2 q3),fun hp i x j d v q1 q2 q3 => (g5 hp i x j d v q1 q2 q3).widen hz⟩
 ·by_cases e : m = l
  ·subst e; rw [hhp] at hb; cases hb; rfl
  ·rw [hhp' m e] at hb; rw [hρ' m e] at hB
   exact h.hp.nil m b hb hB
 ·have e : m ≠ l := fun e => by subst e; rw [hρl] at hB; cases hB
  have e' : m' ≠ l := fun e => by subst e; rw [hρl] at hB'; cases hB'
  rw [hρ' m e] at hB; rw [hρ' m' e'] at hB'
  rw [hhp' m e] at hm; rw [hhp' m' e'] at hm'
  exact h.hp.inj m m' B hm hm' hB hB'
 ·have hget : (nilS t i l es st).get u = if t = u then nilV i l (st.get t) else st.get u := rfl
  rw [hget]
  split
  ·rename_i e; subst e
   exact V.nilV hV hρl hhp i (h.tmp t)
  ·exact hV (h.tmp u)
 ·have e : m ≠ l := fun e => by subst e; rw [hρl] at hB; cases hB
  rw [hρ' m e] at hB; rw [hhp' m e] at hm
  exact h.own m B hm hB
theorem Wk.trans {a b c : St} (h : Wk a b) (h' : Wk b c) : Wk a c := fun cf x w hs => h' cf x w (h cf x w hs)
end Go.Ab

namespace Go.Ab
open Go.RowKit Ieee

theorem V0.drewN {w : World} {Z : Nat → Prop} {v : Value} {a : AV} (h : V0 w Z v a) (n : Nat) : V0 (w.drewN n) Z v a := h.mono (w := w) (w' := w.drewN n) fun b hb => ⟨hb,rfl⟩
theorem says_ext {P : Program} {f : FuncId} {fn : Func} {e : Array Value → Sem Value} (hf : P.funcs[f]? = some fn) (hname : (fn.name == "runtime.NumGoroutine") = false) (hb : fn.body.isNone = true) (hn : Extern.findNext fn = none) (he : Extern.find fn = some e) {vs : List AV} {r : AV}
  (H : ∀ (w : World) (Z : Nat → Prop) (args : Array Value),args.size = vs.length → (∀ (i : Nat) c d,args[i]? = some c → vs[i]? = some d → V0 w Z c d) → ∃ v n,(e args).run P w = .ok v (w.drewN n) ∧ V0 w Z v r) : Says P f vs r := by
 intro w Z args hZ hsz hV
 obtain ⟨v,n,h1,h2⟩ := H w Z args hsz hV
 refine .inl ⟨v,w.drewN n,?_,⟨rfl,rfl,rfl,Nat.le_refl _,fun _ _ => rfl⟩,(h2.drewN n).widen fun b hb => .inl hb⟩
 rw [run_callFunc_extern hf hname hb hn he,h1]; rfl
theorem args1 {w : World} {Z : Nat → Prop} {args : Array Value} {a : AV} (hs : args.size = [a].length) (h : ∀ (i : Nat) c d,args[i]? = some c → [a][i]? = some d → V0 w Z c d) : ∃ v,args = #[v] ∧ V0 w Z v a := by
 obtain ⟨l⟩ := args
 match l,hs with
 | [v],_ => exact ⟨v,rfl,h 0 v a rfl rfl⟩
theorem V0.flt_inv {w : World} {Z : Nat → Prop} {v : Value} {k : FloatKind} {c : Nat} (h : V0 w Z v (.flt k c)) : ∃ b,v = .float k b ∧ FV k b c := by
 cases h; exact ⟨_,rfl,by assumption⟩
theorem V0.int_inv {w : World} {Z : Nat → Prop} {v : Value} {k : IntKind} {n : Int} (h : V0 w Z v (.int k n)) : v = .int k n ∧ (Lit.int k n).wf = true := by
 cases h; exact ⟨rfl,by assumption⟩

section
variable {P : Program} {f : FuncId} {fn : Func}
theorem sqrt_def (b : Nat) : Extern.MathSqrt.sqrt #[.float .f64 b] = (match FloatKind.f64.format.sqrt b with
  | some r => pure (.float .f64 r)
  | none => do pure (.float .f64 (← choose (.nanBits .f64 b b)))) := rfl
theorem integral_def (name : String) (way : Toward) (x : Nat) : Extern.MathFloor.toIntegral name way #[.float .f64 x] = (match FloatKind.f64.decode x with
  | .nan s t =>
   if FloatKind.f64.format.quiet t = t then pure (.float .f64 x) else do
   let kept ← choose (.extern "math.Floor,Ceil,Trunc,RoundToEven.signallingNaN kept" 2)
   pure (.float .f64 (if kept == 1 then x else FloatKind.f64.encode (.nan s (FloatKind.f64.format.quiet t))))
  | d => pure (.float .f64 (FloatKind.f64.encode (d.integral way)))) := rfl
theorem says_sqrt (hf : P.funcs[f]? = some fn) (hname : (fn.name == "runtime.NumGoroutine") = false) (hb : fn.body.isNone = true) (hn : Extern.findNext fn = none) (he : Extern.find fn = some Extern.MathSqrt.sqrt) (c : Nat) : Says P f [.flt .f64 c] (.flt .f64 (fsqrt c)) := by
 refine says_ext hf hname hb hn he fun w Z args hs hV => ?_
 obtain ⟨v,rfl,hv⟩ := args1 hs hV
 obtain ⟨b,rfl,hfv⟩ := hv.flt_inv
 cases hq : FloatKind.f64.format.sqrt b with
 | some r => exact ⟨.float .f64 r,0,by rw [sqrt_def,hq]; rfl,.flt _ _ _ (hfv.sqrt hq)⟩
 | none =>
  obtain ⟨r,h1,h2⟩ := choose_nan (P := P) .f64 b b w
  exact ⟨.float .f64 r,1,by rw [sqrt_def,hq]; simp only [Sem.run_bind,h1,Result.andThen,Sem.run_pure],.flt _ _ _ (by rw [hfv.sqrt_none hq]; exact h2)⟩
theorem quiet_nan (s : Bool) (t : Nat) : FV .f64 (FloatKind.f64.encode (.nan s (FloatKind.f64.format.quiet t))) (nan .f64) := by
 refine ⟨FloatKind.f64.format.write_lt _,cn_of_nan ?_⟩
 have e1 : FloatKind.f64.format.infRung = 9218868437227405312 := by decide
 have e2 : FloatKind.f64.format.binade = 4503599627370496 := by decide
 have e3 : FloatKind.f64.format.signWeight = 9223372036854775808 := by decide
 have e4 : FloatKind.f64.format.fractionBits = 52 := by decide
 rw [isNaN_rung,decide_eq_true_eq]
 show FloatKind.f64.format.infRung < FloatKind.f64.format.word s (FloatKind.f64.format.infRung + FloatKind.f64.format.quiet t % FloatKind.f64.format.binade) % FloatKind.f64.format.signWeight
 have h1 : 0 < FloatKind.f64.format.quiet t % FloatKind.f64.format.binade := by
  rw [e2]
  unfold Format.quiet
  rw [e4,show (4503599627370496 : Nat) = 2 ^ 52 by decide,Nat.or_mod_two_pow]
  have : (2 ^ (52 - 1)) % 2 ^ 52 = 2 ^ 51 := by decide
  rw [this]
  exact Nat.lt_of_lt_of_le (by decide) Nat.right_le_or
 have h2 : FloatKind.f64.format.quiet t % FloatKind.f64.format.binade < FloatKind.f64.format.binade := Nat.mod_lt _ (by rw [e2]; decide)
 generalize FloatKind.f64.format.quiet t % FloatKind.f64.format.binade = q at *
 unfold Format.word
 rw [e1,e3]; rw [e2] at h2
 split <;> omega
theorem says_integral {name : String} {way : Toward} (hf : P.funcs[f]? = some fn) (hname : (fn.name == "runtime.NumGoroutine") = false) (hb : fn.body.isNone = true) (hn : Extern.findNext fn = none) (he : Extern.find fn = some (Extern.MathFloor.toIntegral name way)) (c : Nat) : Says P f [.flt .f64 c] (.flt .f64 (integral way c)) := by
 refine says_ext hf hname hb hn he fun w Z args hs hV => ?_
 obtain ⟨v,rfl,hv⟩ := args1 hs hV
 obtain ⟨b,rfl,hfv⟩ := hv.flt_inv
 by_cases hN : isNaN .f64 b = true
 ·obtain ⟨s,t,hd⟩ := decode_of_nan hN
  have hc : isNaN .f64 c = true := by rw [← hfv.nan]; exact hN
  have hi : integral way c = nan .f64 := by unfold integral; rw [if_pos hc]
  have hb' : FV .f64 b (nan .f64) := ⟨hfv.lt,cn_of_nan hN⟩
  rw [hi]
  by_cases hq : FloatKind.f64.format.quiet t = t
  ·exact ⟨.float .f64 b,0,by rw [integral_def,hd]; simp only [if_pos hq]; rfl,.flt _ _ _ hb'⟩
  ·have hch : ∃ u,(choose (.extern "math.Floor,Ceil,Trunc,RoundToEven.signallingNaN kept" 2)).run P w = .ok u (w.drewN 1) := ⟨_,rfl⟩
   obtain ⟨u,hu⟩ := hch
   refine ⟨.float .f64 (if u == 1 then b else FloatKind.f64.encode (.nan s (FloatKind.f64.format.quiet t))),1,?_,.flt _ _ _ ?_⟩
   ·rw [integral_def,hd]
    simp only [if_neg hq,Sem.run_bind,hu,Result.andThen,Sem.run_pure]
   ·split
    ·exact hb'
    ·exact quiet_nan s t
 ·have hN' : isNaN .f64 b = false := by simpa using hN
  have hbc := hfv.not (by rw [← hfv.nan]; exact hN')
  subst hbc
  have hi : integral way b = FloatKind.f64.encode ((FloatKind.f64.decode b).integral way) := by unfold integral; rw [if_neg hN]
  rw [hi]
  refine ⟨.float .f64 (FloatKind.f64.encode ((FloatKind.f64.decode b).integral way)),0,?_,.flt _ _ _ ⟨FloatKind.f64.format.write_lt _,cn_of_not (write_not_nan _ _ ?_)⟩⟩
  ·cases hd : FloatKind.f64.decode b with
   | nan s t =>
    exfalso
    have : isNaN .f64 b = true := by unfold isNaN; show (FloatKind.f64.decode b).isNaN = true; rw [hd]; rfl
    rw [this] at hN'; cases hN'
   | number s m e => rw [integral_def,hd]; rfl
   | infinity s => rw [integral_def,hd]; rfl
  ·cases hd : FloatKind.f64.decode b with
   | nan s t =>
    exfalso
    have : isNaN .f64 b = true := by unfold isNaN; show (FloatKind.f64.decode b).isNaN = true; rw [hd]; rfl
    rw [this] at hN'; cases hN'
   | number s m e => rfl
   | infinity s => rfl

theorem feq_self {k : FloatKind} {c : Nat} (h : feq k c c = true) : isNaN k c = false := by
 unfold feq at h
 cases ho : ford k c c with
 | none => rw [ho] at h; cases h
 | some o => exact (ford_some ho).1
def g_f64bits : List AV → Option AV
 | [.flt .f64 c] => if feq .f64 c c = true then some (.int .u64 c) else none
 | [.raw (.float .f64 b)] => if b < 2 ^ 64 then some (.int .u64 b) else none
 | _ => none
def g_f32bits : List AV → Option AV
 | [.flt .f32 c] => if feq .f32 c c = true then some (.int .u32 c) else none
 | _ => none
def g_f64from : List AV → Option AV
 | [.int .u64 n] => some (.flt .f64 (cn .f64 n.toNat))
 | _ => none
def g_f32from : List AV → Option AV
 | [.int .u32 n] => some (.flt .f32 (cn .f32 n.toNat))
 | _ => none
def g_sqrt : List AV → Option AV
 | [.flt .f64 c] => some (.flt .f64 (fsqrt c))
 | _ => none
def g_integral (way : Toward) : List AV → Option AV
 | [.flt .f64 c] => some (.flt .f64 (integral way c))
 | _ => none
theorem wf_bits {k : IntKind} {n : Nat} (h : (n : Int) ≤ k.max) (h0 : k.min = 0) : (Lit.int k n).wf = true := bounds_wf (by rw [h0]; omega) h
theorem t_f64bits (hf : P.funcs[f]? = some fn) (hname : (fn.name == "runtime.NumGoroutine") = false) (hb : fn.body.isNone = true) (hn : Extern.findNext fn = none) (he : Extern.find fn = some Extern.MathFloatBits.float64bits) : ∀ vs r,g_f64bits vs = some r → Says P f vs r := by
 intro vs r h
 unfold g_f64bits at h
 split at h
 ·rename_i c
  split at h
  ·rename_i hq
   cases h
   refine says_ext hf hname hb hn he fun w Z args hs hV => ?_
   obtain ⟨v,rfl,hv⟩ := args1 hs hV
   obtain ⟨b,rfl,hfv⟩ := hv.flt_inv
   have hbc := hfv.not (feq_self hq)
   subst hbc
   have hlt : b < 2 ^ 64 := hfv.lt
   exact ⟨.int .u64 b,0,rfl,.int _ _ (wf_bits (by show (b : Int) ≤ 18446744073709551615; omega) rfl)⟩
  ·cases h
 ·rename_i b
  split at h
  ·rename_i hlt
   cases h
   refine says_ext hf hname hb hn he fun w Z args hs hV => ?_
   obtain ⟨v,rfl,hv⟩ := args1 hs hV
   cases hv
   exact ⟨.int .u64 b,0,rfl,.int _ _ (wf_bits (by show (b : Int) ≤ 18446744073709551615; omega) rfl)⟩
  ·cases h
 ·cases h
theorem t_f32bits (hf : P.funcs[f]? = some fn) (hname : (fn.name == "runtime.NumGoroutine") = false) (hb : fn.body.isNone = true) (hn : Extern.findNext fn = none) (he : Extern.find fn = some Extern.MathFloatBits.float32bits) : ∀ vs r,g_f32bits vs = some r → Says P f vs r := by
 intro vs r h
 unfold g_f32bits at h
 split at h
 ·rename_i c
  split at h
  ·rename_i hq
   cases h
   refine says_ext hf hname hb hn he fun w Z args hs hV => ?_
   obtain ⟨v,rfl,hv⟩ := args1 hs hV
   obtain ⟨b,rfl,hfv⟩ := hv.flt_inv
   have hbc := hfv.not (feq_self hq)
   subst hbc
   have hlt : b < 2 ^ 32 := hfv.lt
   exact ⟨.int .u32 b,0,rfl,.int _ _ (wf_bits (by show (b : Int) ≤ 4294967295; omega) rfl)⟩
  ·cases h
 ·cases h
theorem t_f64from (hf : P.funcs[f]? = some fn) (hname : (fn.name == "runtime.NumGoroutine") = false) (hb : fn.body.isNone = true) (hn : Extern.findNext fn = none) (he : Extern.find fn = some Extern.MathFloatBits.float64frombits) : ∀ vs r,g_f64from vs = some r → Says P f vs r := by
 intro vs r h
 unfold g_f64from at h
 split at h
 ·rename_i n
  cases h
  refine says_ext hf hname hb hn he fun w Z args hs hV => ?_
  obtain ⟨v,rfl,hv⟩ := args1 hs hV
  obtain ⟨rfl,hw⟩ := hv.int_inv
  have h2 := (wf_bounds hw)
  have h3 : (0 : Int) ≤ n ∧ n ≤ 18446744073709551615 := h2
  exact ⟨.float .f64 n.toNat,0,rfl,.flt _ _ _ ⟨by show n.toNat < 18446744073709551616; omega,rfl⟩⟩
 ·cases h
theorem t_f32from (hf : P.funcs[f]? = some fn) (hname : (fn.name == "runtime.NumGoroutine") = false) (hb : fn.body.isNone = true) (hn : Extern.findNext fn = none) (he : Extern.find fn = some Extern.MathFloatBits.float32frombits) : ∀ vs r,g_f32from vs = some r → Says P f vs r := by
 intro vs r h
 unfold g_f32from at h
 split at h
 ·rename_i n
  cases h
  refine says_ext hf hname hb hn he fun w Z args hs hV => ?_
  obtain ⟨v,rfl,hv⟩ := args1 hs hV
  obtain ⟨rfl,hw⟩ := hv.int_inv
  have h2 := (wf_bounds hw)
  have h3 : (0 : Int) ≤ n ∧ n ≤ 4294967295 := h2
  exact ⟨.float .f32 n.toNat,0,rfl,.flt _ _ _ ⟨by show n.toNat < 4294967296; omega,rfl⟩⟩
 ·cases h
theorem t_sqrt (hf : P.funcs[f]? = some fn) (hname : (fn.name == "runtime.NumGoroutine") = false) (hb : fn.body.isNone = true) (hn : Extern.findNext fn = none) (he : Extern.find fn = some Extern.MathSqrt.sqrt) : ∀ vs r,g_sqrt vs = some r → Says P f vs r := by
 intro vs r h
 unfold g_sqrt at h
 split at h
 ·cases h; exact says_sqrt hf hname hb hn he _
 ·cases h
theorem t_integral {name : String} {way : Toward} (hf : P.funcs[f]? = some fn) (hname : (fn.name == "runtime.NumGoroutine") = false) (hb : fn.body.isNone = true) (hn : Extern.findNext fn = none) (he : Extern.find fn = some (Extern.MathFloor.toIntegral name way)) : ∀ vs r,g_integral way vs = some r → Says P f vs r := by
 intro vs r h
 unfold g_integral at h
 split at h
 ·cases h; exact says_integral hf hname hb hn he _
 ·cases h
theorem says_raw1 {k : FloatKind} {c : Nat} {r : AV} (H : ∀ b,FV k b c → Says P f [.raw (.float k b)] r) : Says P f [.flt k c] r := by
 intro w Z args hZ hsz hV
 obtain ⟨v,rfl,hv⟩ := args1 hsz hV
 obtain ⟨b,rfl,hfv⟩ := hv.flt_inv
 refine H b hfv w Z _ hZ rfl fun i c d hc hd => ?_
 match i with
 | 0 => cases hc; cases hd; exact .raw _
 | i + 1 => cases hc
end
end Go.Ab

namespace Go.Ab
open Ieee

theorem cut_le (neg : Bool) (n drop R : Nat) (h : n ≤ R * 2 ^ drop) : Toward.even.cut neg n drop ≤ R := by
 unfold Toward.cut
 dsimp only
 by_cases hd : drop ≤ n.log2 + 2
 ·rw [Nat.min_eq_left hd,Nat.one_shiftLeft]
  have hg : 0 < 2 ^ drop := Nat.two_pow_pos _
  generalize 2 ^ drop = g at *
  have h1 : n / g ≤ R := (Nat.div_le_iff_le_mul_add_pred hg).2 (by rw [Nat.mul_comm]; omega)
  have h2 := Nat.div_add_mod n g
  by_cases hm : (decide (g < 2 * (n % g)) || g == 2 * (n % g) && n / g % 2 == 1) = true
  ·rw [hm]
   have h3 : 0 < n % g := by
    simp only [Bool.or_eq_true,decide_eq_true_eq,Bool.and_eq_true,beq_iff_eq] at hm
    omega
   have h4 : n / g < R := by
    apply Nat.lt_of_not_le
    intro h5
    have h6 : R * g ≤ g * (n / g) := by rw [Nat.mul_comm]; exact Nat.mul_le_mul_left _ h5
    omega
   show n / g + 1 ≤ R
   omega
  ·have : (decide (g < 2 * (n % g)) || g == 2 * (n % g) && n / g % 2 == 1) = false := by simpa using hm
   rw [this]
   exact h1
 ·rw [Nat.min_eq_right (by omega),Nat.one_shiftLeft]
  have hlt : n < 2 ^ (n.log2 + 1) := Nat.lt_log2_self
  have h2 : 2 ^ (n.log2 + 2) = 2 * 2 ^ (n.log2 + 1) := by rw [Nat.pow_succ]; omega
  generalize 2 ^ (n.log2 + 2) = g at *
  have h0 : n / g = 0 := Nat.div_eq_of_lt (by omega)
  have h1 : n % g = n := Nat.mod_eq_of_lt (by omega)
  rw [h0,h1]
  have : (decide (g < 2 * n) || g == 2 * n && 0 % 2 == 1) = false := by
   simp; omega
  rw [this]
  exact Nat.zero_le _

def rv (f : Format) (R : Nat) : Nat := if R < f.binade then R else (f.binade + R % f.binade) * 2 ^ (R / f.binade - 1)

theorem rv_small (f : Format) {R : Nat} (h : R < 2 * f.binade) : rv f R = R := by
 unfold rv
 split
 ·rfl
 ·have hb : 0 < f.binade := Nat.two_pow_pos _
  have h1 : R / f.binade = 1 := by
   apply Nat.div_eq_of_lt_le <;> omega
  have h2 := Nat.div_add_mod R f.binade
  rw [h1] at h2 ⊢
  simp; omega
theorem nearest_le (f : Format) (neg : Bool) (mag : Nat) (place : Int) (R : Nat)
  (h : mag * 2 ^ (place - f.leastPlace).toNat ≤ rv f R * 2 ^ (f.leastPlace - place).toNat) :
  ∃ r,f.nearest neg mag place = f.word neg r ∧ r ≤ R := by
 unfold Format.nearest
 by_cases h0 : mag = 0
 ·rw [if_pos h0]; exact ⟨0,rfl,Nat.zero_le _⟩
 rw [if_neg h0]
 refine ⟨_,rfl,Nat.le_trans (Nat.min_le_left _ _) ?_⟩
 have hb : 0 < f.binade := Nat.two_pow_pos _
 have hbd : f.binade = 2 ^ f.fractionBits := rfl
 have hlog : mag < 2 ^ (mag.log2 + 1) := Nat.lt_log2_self
 have hlog' : 2 ^ mag.log2 ≤ mag := Nat.log2_self_le h0
 generalize mag.log2 = lg at *
 generalize f.leastPlace = lp at *
 generalize f.fractionBits = fb at *
 have le2 : ∀ (i j : Nat),lg + 1 + i ≤ fb + 1 + j → mag * 2 ^ i ≤ 2 * f.binade * 2 ^ j := by
  intro i j hij
  have e1 : mag * 2 ^ i ≤ 2 ^ (lg + 1) * 2 ^ i := Nat.mul_le_mul_right _ (Nat.le_of_lt hlog)
  have e2 : 2 ^ (lg + 1) * 2 ^ i = 2 ^ (lg + 1 + i) := (Nat.pow_add 2 _ _).symm
  have e3 : 2 * f.binade * 2 ^ j = 2 ^ (fb + 1 + j) := by rw [hbd,Nat.pow_add 2 (fb + 1),Nat.pow_succ,Nat.mul_comm 2]
  rw [e3]
  exact Nat.le_trans e1 (by rw [e2]; exact Nat.pow_le_pow_right (by omega) hij)
 by_cases hA : place + lg - fb ≤ lp
 ·have hl : max (place + (lg : Int) - fb) lp = lp := by omega
  rw [hl,Int.sub_self]
  simp only [Int.toNat_zero,Nat.zero_mul,Nat.zero_add,Nat.shiftLeft_eq]
  have k1 := cut_le neg _ _ _ h
  have k2 := cut_le neg _ _ _ (le2 (place - lp).toNat (lp - place).toNat (by omega))
  by_cases hR : R < 2 * f.binade
  ·rw [rv_small f hR] at k1; exact k1
  ·omega
 ·have hl : max (place + (lg : Int) - fb) lp = place + lg - fb := by omega
  rw [hl]
  generalize hL : (place + (lg : Int) - fb - lp).toNat = L
  have hL1 : 1 ≤ L := by omega
  rw [show place - (place + (lg : Int) - fb) = (fb : Int) - lg by omega,show place + (lg : Int) - fb - place = (lg : Int) - fb by omega]
  simp only [Nat.shiftLeft_eq]
  have k2 := cut_le neg (mag * 2 ^ ((fb : Int) - lg).toNat) ((lg : Int) - fb).toNat (2 * f.binade) (le2 _ _ (by omega))
  -- the value is at least 'binade * 2 ^ L'
  have hge : f.binade * 2 ^ L * 2 ^ (lp - place).toNat ≤ mag * 2 ^ (place - lp).toNat := by
   have e1 : 2 ^ lg * 2 ^ (place - lp).toNat ≤ mag * 2 ^ (place - lp).toNat := Nat.mul_le_mul_right _ hlog'
   refine Nat.le_trans (Nat.le_of_eq ?_) e1
   rw [hbd,← Nat.pow_add,← Nat.pow_add,← Nat.pow_add]
   congr 1; omega
  have hrv : f.binade * 2 ^ L ≤ rv f R := Nat.le_of_mul_le_mul_right (Nat.le_trans hge h) (Nat.two_pow_pos _)
  have hpow : 2 ≤ 2 ^ L := by
   have := Nat.pow_le_pow_right (n := 2) (by omega) hL1
   simpa using this
  by_cases hR : R < 2 * f.binade
  ·rw [rv_small f hR] at hrv
   have : f.binade * 2 ≤ f.binade * 2 ^ L := Nat.mul_le_mul_left _ hpow
   omega
  ·have hRv : rv f R = (f.binade + R % f.binade) * 2 ^ (R / f.binade - 1) := by unfold rv; rw [if_neg (by omega)]
   have hdm := Nat.div_add_mod R f.binade
   have hlt := Nat.mod_lt R hb
   have hq2 : 2 ≤ R / f.binade := (Nat.le_div_iff_mul_le hb).2 (by omega)
   generalize R / f.binade = D at *
   generalize R % f.binade = t at *
   have hRD : R = D * f.binade + t := by rw [Nat.mul_comm]; exact hdm.symm
   by_cases hc : L + 2 ≤ D
   ·have : (L + 2) * f.binade ≤ D * f.binade := Nat.mul_le_mul_right _ hc
    rw [Nat.add_mul] at this
    omega
   ·by_cases hc2 : L + 1 = D
    ·subst hc2
     rw [hRv,show L + 1 - 1 = L by omega] at h
     have k3 : mag * 2 ^ ((fb : Int) - lg).toNat ≤ (f.binade + t) * 2 ^ ((lg : Int) - fb).toNat := by
      apply Nat.le_of_mul_le_mul_right (c := 2 ^ (L + (lp - place).toNat)) _ (Nat.two_pow_pos _)
      have e1 : mag * 2 ^ ((fb : Int) - lg).toNat * 2 ^ (L + (lp - place).toNat) = mag * 2 ^ (place - lp).toNat * 2 ^ ((lg : Int) - fb).toNat := by
       rw [Nat.mul_assoc,Nat.mul_assoc,← Nat.pow_add,← Nat.pow_add]
       congr 2; omega
      have e2 : (f.binade + t) * 2 ^ ((lg : Int) - fb).toNat * 2 ^ (L + (lp - place).toNat) = (f.binade + t) * 2 ^ L * 2 ^ (lp - place).toNat * 2 ^ ((lg : Int) - fb).toNat := by
       simp only [Nat.mul_assoc,← Nat.pow_add]
       congr 2; omega
      rw [e1,e2]
      exact Nat.mul_le_mul_right _ h
     have k4 := cut_le neg _ _ _ k3
     rw [Nat.add_mul] at hRD
     omega
    ·exfalso
     have h1 : D - 1 + 1 ≤ L := by omega
     have h2 : 2 ^ (D - 1) * 2 ≤ 2 ^ L := by
      rw [← Nat.pow_succ]; exact Nat.pow_le_pow_right (by omega) h1
     have h3 : (f.binade + t) * 2 ^ (D - 1) < 2 * f.binade * 2 ^ (D - 1) := Nat.mul_lt_mul_of_pos_right (by omega) (Nat.two_pow_pos _)
     have h4 : 2 * f.binade * 2 ^ (D - 1) = f.binade * (2 ^ (D - 1) * 2) := by
      rw [Nat.mul_comm 2 f.binade,Nat.mul_assoc,Nat.mul_comm 2]
     have h5 : f.binade * (2 ^ (D - 1) * 2) ≤ f.binade * 2 ^ L := Nat.mul_le_mul_left _ h2
     omega
end Go.Ab

namespace Go.Ab
open Ieee

theorem rv_big (f : Format) {R : Nat} (h : f.binade ≤ R) : rv f R = (f.binade + R % f.binade) * 2 ^ (R / f.binade - 1) := by unfold rv; rw [if_neg (by omega)]
theorem rv_succ (f : Format) (R : Nat) : rv f R ≤ rv f (R + 1) := by
 have hb : 0 < f.binade := Nat.two_pow_pos _
 by_cases h : R < f.binade
 ·by_cases h2 : R + 1 < f.binade
  ·unfold rv; rw [if_pos h,if_pos h2]; omega
  ·rw [rv_small f (by omega),rv_small f (by omega)]; omega
 ·rw [rv_big f (by omega),rv_big f (by omega)]
  have hdm := Nat.div_add_mod R f.binade
  have hlt := Nat.mod_lt R hb
  have hq : 1 ≤ R / f.binade := (Nat.le_div_iff_mul_le hb).2 (by omega)
  generalize hD : R / f.binade = D at *
  generalize ht : R % f.binade = t at *
  by_cases hc : t + 1 < f.binade
  ·have e1 : (R + 1) / f.binade = D := by
    apply Nat.div_eq_of_lt_le
    ·rw [Nat.mul_comm]; omega
    ·rw [Nat.add_mul,Nat.mul_comm D]; omega
   have e2 : (R + 1) % f.binade = t + 1 := by
    have := Nat.div_add_mod (R + 1) f.binade
    rw [e1] at this; omega
   rw [e1,e2]
   exact Nat.mul_le_mul_right _ (by omega)
  ·have e1 : (R + 1) / f.binade = D + 1 := by
    apply Nat.div_eq_of_lt_le
    ·rw [Nat.add_mul,Nat.mul_comm D]; omega
    ·rw [Nat.add_mul,Nat.add_mul,Nat.mul_comm D]; omega
   have e2 : (R + 1) % f.binade = 0 := by
    have := Nat.div_add_mod (R + 1) f.binade
    rw [e1,Nat.mul_add] at this; omega
   rw [e1,e2,show D + 1 - 1 = D - 1 + 1 by omega,Nat.pow_succ]
   have : (f.binade + t) * 2 ^ (D - 1) ≤ (2 * f.binade) * 2 ^ (D - 1) := Nat.mul_le_mul_right _ (by omega)
   refine Nat.le_trans this (Nat.le_of_eq ?_)
   rw [Nat.add_zero,Nat.mul_comm 2,Nat.mul_assoc,Nat.mul_comm 2]
theorem rv_mono (f : Format) {R S : Nat} (h : R ≤ S) : rv f R ≤ rv f S := by
 induction h with
 | refl => exact Nat.le_refl _
 | step _ ih => exact Nat.le_trans ih (rv_succ f _)

def Mg (f : Format) (c B : Nat) : Prop := ∃ s m e,f.read c = .number s m e ∧ f.leastPlace ≤ e ∧ m * 2 ^ (e - f.leastPlace).toNat ≤ B
theorem Mg.mono {f : Format} {c B B' : Nat} (h : Mg f c B) (hb : B ≤ B') : Mg f c B' := by
 obtain ⟨s,m,e,h1,h2,h3⟩ := h
 exact ⟨s,m,e,h1,h2,Nat.le_trans h3 hb⟩

theorem read_word (f : Format) (neg : Bool) {r : Nat} (h : r < f.infRung) : ∃ m e,f.read (f.word neg r) = .number neg m e ∧ f.leastPlace ≤ e ∧ m * 2 ^ (e - f.leastPlace).toNat = rv f r := by
 have h1 := f.infRung_lt
 have h2 : (f.word neg r) % f.signWeight = r := by
  unfold Format.word
  split
  ·rw [Nat.add_mod_left]; exact Nat.mod_eq_of_lt (by omega)
  ·exact Nat.mod_eq_of_lt (by omega)
 have h3 : ((f.word neg r) / f.signWeight % 2 == 1) = neg := by
  have hs : 0 < f.signWeight := Nat.two_pow_pos _
  unfold Format.word
  cases neg
  ·rw [if_neg (by decide),Nat.div_eq_of_lt (by omega)]; rfl
  ·rw [if_pos rfl,Nat.add_div_left _ hs,Nat.div_eq_of_lt (by omega)]; rfl
 unfold Format.read
 simp only [h2,h3]
 by_cases hb : r < f.binade
 ·rw [if_pos hb]
  refine ⟨_,_,rfl,Int.le_refl _,?_⟩
  unfold rv; rw [if_pos hb,Int.sub_self]; simp
 ·rw [if_neg hb,if_pos h]
  refine ⟨_,_,rfl,by omega,?_⟩
  rw [rv_big f (by omega)]
  congr 2
  omega

theorem mg_nearest (f : Format) (neg : Bool) (mag : Nat) (place : Int) {R : Nat} (hR : R < f.infRung)
  (h : mag * 2 ^ (place - f.leastPlace).toNat ≤ rv f R * 2 ^ (f.leastPlace - place).toNat) : Mg f (f.nearest neg mag place) (rv f R) := by
 obtain ⟨r,e1,e2⟩ := nearest_le f neg mag place R h
 obtain ⟨m,e,g1,g2,g3⟩ := read_word f neg (Nat.lt_of_le_of_lt e2 hR)
 exact ⟨neg,m,e,by rw [e1]; exact g1,g2,by rw [g3]; exact rv_mono f e2⟩

theorem natAbs_signed (neg : Bool) (m up : Nat) : (signed neg m up).natAbs = m * 2 ^ up := by
 unfold signed
 rw [Nat.shiftLeft_eq]
 split <;> omega
theorem units (m : Nat) {i lp base : Int} (h1 : base ≤ i) (h2 : lp ≤ base) : m * 2 ^ (i - base).toNat * 2 ^ (base - lp).toNat = m * 2 ^ (i - lp).toNat := by
 rw [Nat.mul_assoc,← Nat.pow_add]
 congr 2
 omega

theorem mg_sum {f : Format} {a b A B R : Nat} (ha : Mg f a A) (hb : Mg f b B) (h : A + B ≤ rv f R) (hR : R < f.infRung) : ∃ d,(f.read a).sum (f.read b) = some d ∧ Mg f (f.write d) (rv f R) := by
 obtain ⟨s,m,i,h1,h2,h3⟩ := ha
 obtain ⟨t,n,j,g1,g2,g3⟩ := hb
 rw [h1,g1]
 refine ⟨_,rfl,mg_nearest f _ _ _ hR ?_⟩
 have e0 : (f.leastPlace - min i j).toNat = 0 := by omega
 rw [e0,Nat.pow_zero,Nat.mul_one]
 have e1 : (signed s m (i - min i j).toNat + signed t n (j - min i j).toNat).natAbs ≤ m * 2 ^ (i - min i j).toNat + n * 2 ^ (j - min i j).toNat := by
  refine Nat.le_trans (Int.natAbs_add_le _ _) ?_
  rw [natAbs_signed,natAbs_signed]
  exact Nat.le_refl _
 refine Nat.le_trans (Nat.mul_le_mul_right _ e1) ?_
 rw [Nat.add_mul,units m (by omega) (by omega),units n (by omega) (by omega)]
 omega
theorem mg_op {k : FloatKind} {g : Datum → Datum → Option Datum} {a b R : Nat} (h : ∃ d,g (k.format.read a) (k.format.read b) = some d ∧ Mg k.format (k.format.write d) R) : Mg k.format (op2 k g a b) R := by
 obtain ⟨d,h1,h2⟩ := h
 unfold op2; rw [h1]; exact h2
theorem mg_add {k : FloatKind} {a b A B R : Nat} (ha : Mg k.format a A) (hb : Mg k.format b B) (h : A + B ≤ rv k.format R) (hR : R < k.format.infRung) : Mg k.format (fadd k a b) (rv k.format R) := mg_op (mg_sum ha hb h hR)
theorem mg_sub {k : FloatKind} {a b A B R : Nat} (ha : Mg k.format a A) (hb : Mg k.format b B) (h : A + B ≤ rv k.format R) (hR : R < k.format.infRung) : Mg k.format (fsub k a b) (rv k.format R) := by
 obtain ⟨s,m,i,h1,h2,h3⟩ := ha
 obtain ⟨t,n,j,g1,g2,g3⟩ := hb
 refine mg_op (g := subD) ?_
 unfold subD
 rw [h1,g1]
 refine ⟨_,rfl,mg_nearest _ _ _ _ hR ?_⟩
 have e0 : (k.format.leastPlace - min i j).toNat = 0 := by omega
 rw [e0,Nat.pow_zero,Nat.mul_one]
 have e1 : (signed s m (i - min i j).toNat + signed (!t) n (j - min i j).toNat).natAbs ≤ m * 2 ^ (i - min i j).toNat + n * 2 ^ (j - min i j).toNat := by
  refine Nat.le_trans (Int.natAbs_add_le _ _) ?_
  rw [natAbs_signed,natAbs_signed]
  exact Nat.le_refl _
 refine Nat.le_trans (Nat.mul_le_mul_right _ e1) ?_
 rw [Nat.add_mul,units m (by omega) (by omega),units n (by omega) (by omega)]
 omega
def Ms (f : Format) (s : Bool) (c B : Nat) : Prop := ∃ m e,f.read c = .number s m e ∧ f.leastPlace ≤ e ∧ m * 2 ^ (e - f.leastPlace).toNat ≤ B
theorem Ms.mg {f : Format} {s : Bool} {c B : Nat} (h : Ms f s c B) : Mg f c B := by
 obtain ⟨m,e,h⟩ := h
 exact ⟨s,m,e,h⟩
theorem ms_nearest (f : Format) (neg : Bool) (mag : Nat) (place : Int) {R : Nat} (hR : R < f.infRung)
  (h : mag * 2 ^ (place - f.leastPlace).toNat ≤ rv f R * 2 ^ (f.leastPlace - place).toNat) : Ms f neg (f.nearest neg mag place) (rv f R) := by
 obtain ⟨r,e1,e2⟩ := nearest_le f neg mag place R h
 obtain ⟨m,e,g1,g2,g3⟩ := read_word f neg (Nat.lt_of_le_of_lt e2 hR)
 exact ⟨m,e,by rw [e1]; exact g1,g2,by rw [g3]; exact rv_mono f e2⟩
theorem ms_op {k : FloatKind} {g : Datum → Datum → Option Datum} {a b R : Nat} {s : Bool} (h : ∃ d,g (k.format.read a) (k.format.read b) = some d ∧ Ms k.format s (k.format.write d) R) : Ms k.format s (op2 k g a b) R := by
 obtain ⟨d,h1,h2⟩ := h
 unfold op2; rw [h1]; exact h2
theorem ms_mul {k : FloatKind} {a b A B R : Nat} {s t : Bool} (ha : Ms k.format s a A) (hb : Ms k.format t b B) (h : A * B ≤ rv k.format R * 2 ^ (-k.format.leastPlace).toNat) (hR : R < k.format.infRung) (hlp : k.format.leastPlace ≤ 0) : Ms k.format (s ^^ t) (fmul k a b) (rv k.format R) := by
 obtain ⟨m,i,h1,h2,h3⟩ := ha
 obtain ⟨n,j,g1,g2,g3⟩ := hb
 refine ms_op ?_
 rw [h1,g1]
 refine ⟨_,rfl,ms_nearest _ _ _ _ hR ?_⟩
 generalize k.format.leastPlace = lp at *
 have e1 : m * n * 2 ^ ((i - lp).toNat + (j - lp).toNat) ≤ rv k.format R * 2 ^ (-lp).toNat := by
  refine Nat.le_trans (Nat.le_of_eq ?_) (Nat.le_trans (Nat.mul_le_mul h3 g3) h)
  rw [Nat.pow_add,Nat.mul_mul_mul_comm]
 by_cases hc : lp ≤ i + j
 ·have e2 : (lp - (i + j)).toNat = 0 := by omega
  rw [e2,Nat.pow_zero,Nat.mul_one]
  apply Nat.le_of_mul_le_mul_right (c := 2 ^ (-lp).toNat) _ (Nat.two_pow_pos _)
  rw [Nat.mul_assoc,← Nat.pow_add,show (i + j - lp).toNat + (-lp).toNat = (i - lp).toNat + (j - lp).toNat by omega]
  exact e1
 ·have e2 : (i + j - lp).toNat = 0 := by omega
  rw [e2,Nat.pow_zero,Nat.mul_one]
  apply Nat.le_of_mul_le_mul_right (c := 2 ^ ((i - lp).toNat + (j - lp).toNat)) _ (Nat.two_pow_pos _)
  rw [Nat.mul_assoc (rv k.format R),← Nat.pow_add,show (lp - (i + j)).toNat + ((i - lp).toNat + (j - lp).toNat) = (-lp).toNat by omega]
  exact e1

theorem mg_mul {k : FloatKind} {a b A B R : Nat} (ha : Mg k.format a A) (hb : Mg k.format b B) (h : A * B ≤ rv k.format R * 2 ^ (-k.format.leastPlace).toNat) (hR : R < k.format.infRung) (hlp : k.format.leastPlace ≤ 0) : Mg k.format (fmul k a b) (rv k.format R) := by
 obtain ⟨s,m,i,h1⟩ := ha
 obtain ⟨t,n,j,g1⟩ := hb
 exact (ms_mul ⟨m,i,h1⟩ ⟨n,j,g1⟩ h hR hlp).mg

def Ml (f : Format) (c B : Nat) : Prop := ∃ s m e,f.read c = .number s m e ∧ f.leastPlace ≤ e ∧ B ≤ m * 2 ^ (e - f.leastPlace).toNat
def Mls (f : Format) (s : Bool) (c B : Nat) : Prop := ∃ m e,f.read c = .number s m e ∧ f.leastPlace ≤ e ∧ B ≤ m * 2 ^ (e - f.leastPlace).toNat

theorem ms_div {k : FloatKind} {a b A B N R : Nat} {s t : Bool} (ha : Ms k.format s a A) (hb : Mls k.format t b B) (hB : 0 < B) (h : A * 2 ^ (-k.format.leastPlace).toNat ≤ 2 ^ N * B) (hT : 2 ^ N ≤ rv k.format R) (hR : R < k.format.infRung) (hlp : k.format.leastPlace ≤ 0) : Ms k.format (s ^^ t) (fdiv k a b) (rv k.format R) := by
 obtain ⟨m,i,h1,h2,h3⟩ := ha
 obtain ⟨n,j,g1,g2,g3⟩ := hb
 refine ms_op ?_
 rw [h1,g1]
 have hn : n ≠ 0 := by rintro rfl; omega
 generalize hdig : k.format.fractionBits + 2 = digits
 have hd : 2 ≤ digits := by omega
 unfold Datum.quotient
 dsimp only
 rw [if_neg hn]
 refine ⟨_,rfl,ms_nearest _ _ _ _ hR (Nat.le_trans ?_ (Nat.mul_le_mul_right _ hT))⟩
 generalize k.format.leastPlace = lp at *
 generalize hmore : digits + n.log2 - m.log2 = more
 rw [Nat.shiftLeft_eq]
 -- the exact quotient
 have hq : m * 2 ^ (i - lp).toNat * 2 ^ (-lp).toNat ≤ 2 ^ N * (n * 2 ^ (j - lp).toNat) :=
  Nat.le_trans (Nat.mul_le_mul_right _ h3) (Nat.le_trans h (Nat.mul_le_mul_left _ g3))
 have hn0 : 0 < n := by omega
 generalize hQ : m * 2 ^ more / n = Q
 generalize hr : m * 2 ^ more % n = r
 have hdm := Nat.div_add_mod (m * 2 ^ more) n
 rw [hQ,hr] at hdm
 have hrl : r < n := by rw [← hr]; exact Nat.mod_lt _ hn0
 by_cases hm0 : m = 0
 ·subst hm0
  rw [Nat.zero_mul] at hQ hr
  rw [Nat.zero_div] at hQ; rw [Nat.zero_mod] at hr
  subst hQ; subst hr
  simp
 have hm1 : 2 ^ m.log2 ≤ m := Nat.log2_self_le hm0
 have hn1 : n < 2 ^ (n.log2 + 1) := Nat.lt_log2_self
 have hQ1 : 1 ≤ Q := by
  rw [← hQ]
  refine (Nat.le_div_iff_mul_le hn0).2 ?_
  rw [Nat.one_mul]
  refine Nat.le_of_lt (Nat.lt_of_lt_of_le hn1 ?_)
  refine Nat.le_trans ?_ (Nat.mul_le_mul_right _ hm1)
  rw [← Nat.pow_add]
  exact Nat.pow_le_pow_right (by omega) (by omega)
 -- places: 'p' is the place of the quotient's last whole digit
 generalize hp : i - j - (more : Int) = p
 have hp' : i - j - (more : Int) - 1 = p - 1 := by omega
 -- m 2^more 2^p <= 2^(N+lp) n,as naturals
 have key : ∀ (u v : Nat),(u : Int) - v = p - lp - N → m * 2 ^ more * 2 ^ u ≤ n * 2 ^ v := by
  intro u v huv
  apply Nat.le_of_mul_le_mul_right (c := 2 ^ ((i - lp).toNat + (-lp).toNat + N + (j - lp).toNat)) _ (Nat.two_pow_pos _)
  have e1 : m * 2 ^ more * 2 ^ u * 2 ^ ((i - lp).toNat + (-lp).toNat + N + (j - lp).toNat) = (m * 2 ^ (i - lp).toNat * 2 ^ (-lp).toNat) * 2 ^ (more + u + N + (j - lp).toNat) := by
   simp only [Nat.mul_assoc,← Nat.pow_add]
   congr 2; omega
  have e2 : n * 2 ^ v * 2 ^ ((i - lp).toNat + (-lp).toNat + N + (j - lp).toNat) = (2 ^ N * (n * 2 ^ (j - lp).toNat)) * 2 ^ (v + (i - lp).toNat + (-lp).toNat) := by
   have : 2 ^ N * (n * 2 ^ (j - lp).toNat) = n * (2 ^ N * 2 ^ (j - lp).toNat) := by rw [Nat.mul_left_comm]
   rw [this]
   simp only [Nat.mul_assoc,← Nat.pow_add]
   congr 2; omega
  rw [e1,e2]
  have e3 : more + u + N + (j - lp).toNat = v + (i - lp).toNat + (-lp).toNat := by omega
  rw [e3]
  exact Nat.mul_le_mul_right _ hq
 have hple : p - lp - N ≤ 0 := by
  apply Int.not_lt.1
  intro hc
  have := key (p - lp - N).toNat 0 (by omega)
  rw [Nat.pow_zero,Nat.mul_one] at this
  have h2 : 2 ≤ 2 ^ (p - lp - N).toNat := by
   have := Nat.pow_le_pow_right (n := 2) (by omega) (show 1 ≤ (p - lp - (N : Int)).toNat by omega)
   simpa using this
  have h3 : n * 1 ≤ m * 2 ^ more := by
   rw [← hdm]
   exact Nat.le_trans (Nat.mul_le_mul_left _ hQ1) (Nat.le_add_right _ _)
  have h4 : m * 2 ^ more * 2 ≤ m * 2 ^ more * 2 ^ (p - lp - N).toNat := Nat.mul_le_mul_left _ h2
  omega
 have hle := key 0 (lp + N - p).toNat (by omega)
 rw [Nat.pow_zero,Nat.mul_one] at hle
 generalize hT' : 2 ^ (lp + (N : Int) - p).toNat = T at hle
 -- 2 Q + sticky <= 2 T
 have hst : 2 * Q + (r != 0).toNat ≤ 2 * T := by
  have hQT : Q ≤ T := by
   have h5 : n * Q ≤ n * T := by omega
   exact Nat.le_of_mul_le_mul_left h5 hn0
  by_cases hr0 : r = 0
  ·subst hr0; simp; omega
  ·have : Q < T := by
    apply Nat.lt_of_not_le
    intro hc
    have : n * T ≤ n * Q := Nat.mul_le_mul_left _ hc
    omega
   have e : (r != 0).toNat ≤ 1 := by cases (r != 0) <;> decide
   omega
 refine Nat.le_trans (Nat.mul_le_mul_right _ hst) (Nat.le_of_eq ?_)
 rw [← hT',Nat.mul_comm 2,← Nat.pow_succ,← Nat.pow_add,← Nat.pow_add]
 congr 1
 omega
theorem mg_div {k : FloatKind} {a b A B N R : Nat} (ha : Mg k.format a A) (hb : Ml k.format b B) (hB : 0 < B) (h : A * 2 ^ (-k.format.leastPlace).toNat ≤ 2 ^ N * B) (hT : 2 ^ N ≤ rv k.format R) (hR : R < k.format.infRung) (hlp : k.format.leastPlace ≤ 0) : Mg k.format (fdiv k a b) (rv k.format R) := by
 obtain ⟨s,m,i,h1⟩ := ha
 obtain ⟨t,n,j,g1⟩ := hb
 exact (ms_div ⟨m,i,h1⟩ ⟨n,j,g1⟩ hB h hT hR hlp).mg
end Go.Ab

namespace Go.Ab
open Ieee

theorem cut_lt (neg : Bool) (n drop R : Nat) (h : 2 * n < (2 * R + 1) * 2 ^ drop) : Toward.even.cut neg n drop ≤ R := by
 unfold Toward.cut
 dsimp only
 by_cases hd : drop ≤ n.log2 + 2
 ·rw [Nat.min_eq_left hd,Nat.one_shiftLeft]
  have hg : 0 < 2 ^ drop := Nat.two_pow_pos _
  generalize 2 ^ drop = g at *
  have h2 := Nat.div_add_mod n g
  have hm := Nat.mod_lt n hg
  have h1 : n / g ≤ R := by
   apply Nat.le_of_not_lt
   intro hc
   have : g * (R + 1) ≤ g * (n / g) := Nat.mul_le_mul_left _ hc
   rw [Nat.mul_add,Nat.mul_one] at this
   rw [Nat.add_mul,Nat.one_mul,Nat.mul_assoc,Nat.mul_comm R] at h
   omega
  by_cases he : n / g = R
  ·have h3 : 2 * (n % g) < g := by
    rw [he] at h2
    rw [Nat.add_mul,Nat.one_mul,Nat.mul_assoc,Nat.mul_comm R] at h
    omega
   have : (decide (g < 2 * (n % g)) || g == 2 * (n % g) && n / g % 2 == 1) = false := by
    simp; omega
   rw [this]; exact h1
  ·have : (decide (g < 2 * (n % g)) || g == 2 * (n % g) && n / g % 2 == 1).toNat ≤ 1 := by
    cases (decide (g < 2 * (n % g)) || g == 2 * (n % g) && n / g % 2 == 1) <;> decide
   omega
 ·rw [Nat.min_eq_right (by omega),Nat.one_shiftLeft]
  have hlt : n < 2 ^ (n.log2 + 1) := Nat.lt_log2_self
  have h2 : 2 ^ (n.log2 + 2) = 2 * 2 ^ (n.log2 + 1) := by rw [Nat.pow_succ]; omega
  generalize 2 ^ (n.log2 + 2) = g at *
  have h0 : n / g = 0 := Nat.div_eq_of_lt (by omega)
  have h1 : n % g = n := Nat.mod_eq_of_lt (by omega)
  rw [h0,h1]
  have : (decide (g < 2 * n) || g == 2 * n && 0 % 2 == 1) = false := by
   simp; omega
  rw [this]
  exact Nat.zero_le _

theorem cut_up (neg : Bool) (n drop : Nat) : Toward.even.cut neg n drop * 2 ^ drop ≤ n + 2 ^ drop := by
 have h := cut_le neg n drop (n / 2 ^ drop + 1) (by
  have := Nat.div_add_mod n (2 ^ drop)
  have hm := Nat.mod_lt n (Nat.two_pow_pos drop)
  rw [Nat.add_mul,Nat.one_mul,Nat.mul_comm]; omega)
 refine Nat.le_trans (Nat.mul_le_mul_right _ h) ?_
 have := Nat.div_add_mod n (2 ^ drop)
 rw [Nat.add_mul,Nat.one_mul,Nat.mul_comm]; omega

theorem rv_at (f : Format) (L kept : Nat) (h1 : kept ≤ 2 * f.binade) (h2 : L = 0 ∨ f.binade ≤ kept) : rv f (L * f.binade + kept) = kept * 2 ^ L := by
 have hb : 0 < f.binade := Nat.two_pow_pos _
 by_cases hk : kept = 2 * f.binade
 ·subst hk
  have e : L * f.binade + 2 * f.binade = (L + 2) * f.binade := by rw [Nat.add_mul]
  rw [e]
  have h3 : f.binade ≤ (L + 2) * f.binade := Nat.le_mul_of_pos_left _ (by omega)
  rw [rv_big f h3,Nat.mul_mod_left,Nat.mul_div_cancel _ hb,show L + 2 - 1 = L + 1 by omega,Nat.pow_succ,Nat.add_zero]
  rw [Nat.mul_comm 2,Nat.mul_assoc,Nat.mul_comm 2]
 ·by_cases hs : kept < f.binade
  ·have hL : L = 0 := by omega
   subst hL
   rw [Nat.zero_mul,Nat.zero_add,rv_small f (by omega),Nat.pow_zero,Nat.mul_one]
  ·have e1 : (L * f.binade + kept) / f.binade = L + 1 := by
    apply Nat.div_eq_of_lt_le
    ·rw [Nat.add_mul]; omega
    ·rw [Nat.add_mul,Nat.add_mul]; omega
   have e2 := Nat.div_add_mod (L * f.binade + kept) f.binade
   rw [e1,Nat.mul_add,Nat.mul_one,Nat.mul_comm] at e2
   have h3 : f.binade ≤ L * f.binade + kept := by omega
   rw [rv_big f h3,e1,Nat.add_sub_cancel]
   congr 1
   omega

theorem nearest_up (f : Format) (neg : Bool) (mag : Nat) (place : Int) (hp : f.leastPlace ≤ place) (N : Nat) (h : mag * 2 ^ (place - f.leastPlace).toNat < 2 ^ N) (hN : f.fractionBits < N) :
  ∃ r,f.nearest neg mag place = f.word neg (min r f.infRung) ∧ rv f r ≤ mag * 2 ^ (place - f.leastPlace).toNat + 2 ^ (N - 1 - f.fractionBits) := by
 unfold Format.nearest
 by_cases h0 : mag = 0
 ·rw [if_pos h0]
  refine ⟨0,by rw [Nat.zero_min],?_⟩
  have hb : 0 < f.binade := Nat.two_pow_pos _
  rw [rv_small f (by omega)]; exact Nat.zero_le _
 rw [if_neg h0]
 refine ⟨_,rfl,?_⟩
 have hbd : f.binade = 2 ^ f.fractionBits := rfl
 have hlog : mag < 2 ^ (mag.log2 + 1) := Nat.lt_log2_self
 have hlog' : 2 ^ mag.log2 ≤ mag := Nat.log2_self_le h0
 generalize mag.log2 = lg at *
 generalize f.leastPlace = lp at *
 have hlg : lg + (place - lp).toNat < N := by
  apply (Nat.pow_lt_pow_iff_right (a := 2) (by omega)).1
  rw [Nat.pow_add]
  exact Nat.lt_of_le_of_lt (Nat.mul_le_mul_right _ hlog') h
 generalize hfb : f.fractionBits = fb at *
 generalize hlast : max (place + (lg : Int) - fb) lp = last
 have hl1 : lp ≤ last := by omega
 have hl2 : (last - lp).toNat ≤ N - 1 - fb := by omega
 generalize hk : Toward.even.cut neg (mag <<< (place - last).toNat) (last - place).toNat = kept
 have hup := cut_up neg (mag <<< (place - last).toNat) (last - place).toNat
 rw [hk,Nat.shiftLeft_eq] at hup
 have hk2 : kept ≤ 2 * f.binade := by
  rw [← hk]
  refine cut_le _ _ _ _ ?_
  rw [Nat.shiftLeft_eq,hbd]
  refine Nat.le_of_lt (Nat.lt_of_lt_of_le (Nat.mul_lt_mul_of_pos_right hlog (Nat.two_pow_pos _)) ?_)
  rw [Nat.mul_comm 2,← Nat.pow_succ,← Nat.pow_add,← Nat.pow_add]
  exact Nat.pow_le_pow_right (by omega) (by omega)
 have hk3 : (last - lp).toNat = 0 ∨ f.binade ≤ kept := by
  by_cases hc : last = lp
  ·left; omega
  ·right
   rw [← hk]
   unfold Toward.cut
   dsimp only
   refine Nat.le_trans ?_ (Nat.le_add_right _ _)
   rw [Nat.shiftLeft_eq]
   have e1 : f.binade * 2 ^ (last - place).toNat ≤ mag * 2 ^ (place - last).toNat := by
    refine Nat.le_trans (Nat.le_of_eq ?_) (Nat.mul_le_mul_right _ hlog')
    rw [hbd,← Nat.pow_add,← Nat.pow_add]
    congr 1; omega
   have hpos : 0 < mag * 2 ^ (place - last).toNat := Nat.mul_pos (by omega) (Nat.two_pow_pos _)
   generalize mag * 2 ^ (place - last).toNat = n at *
   rw [Nat.one_shiftLeft]
   have hmin : min (last - place).toNat (n.log2 + 2) = (last - place).toNat := by
    apply Nat.min_eq_left
    have : 2 ^ (last - place).toNat ≤ n := Nat.le_trans (Nat.le_mul_of_pos_left _ (Nat.two_pow_pos _)) (by rw [hbd] at e1; exact e1)
    have := (Nat.le_log2 (by omega)).2 this
    omega
   rw [hmin]
   exact (Nat.le_div_iff_mul_le (Nat.two_pow_pos _)).2 e1
 rw [rv_at f _ _ hk2 hk3]
 -- scale
 have e1 : kept * 2 ^ (last - place).toNat * 2 ^ (place - lp).toNat ≤ (mag * 2 ^ (place - last).toNat + 2 ^ (last - place).toNat) * 2 ^ (place - lp).toNat := Nat.mul_le_mul_right _ hup
 by_cases hc : last ≤ place
 ·have e0 : (last - place).toNat = 0 := by omega
  rw [e0,Nat.pow_zero,Nat.mul_one] at hup
  have hex : kept ≤ mag * 2 ^ (place - last).toNat := by
   rw [← hk]
   refine cut_le _ _ _ _ ?_
   rw [Nat.shiftLeft_eq,e0,Nat.pow_zero,Nat.mul_one]
   exact Nat.le_refl _
  refine Nat.le_trans (Nat.mul_le_mul_right _ hex) (Nat.le_trans (Nat.le_of_eq ?_) (Nat.le_add_right _ _))
  rw [Nat.mul_assoc,← Nat.pow_add]
  congr 2; omega
 ·have e0 : (place - last).toNat = 0 := by omega
  rw [e0,Nat.pow_zero,Nat.mul_one,Nat.mul_assoc,← Nat.pow_add,show (last - place).toNat + (place - lp).toNat = (last - lp).toNat by omega,Nat.add_mul,← Nat.pow_add,show (last - place).toNat + (place - lp).toNat = (last - lp).toNat by omega] at e1
  exact Nat.le_trans e1 (Nat.add_le_add_left (Nat.pow_le_pow_right (by omega) hl2) _)

theorem narrow_small {s : Bool} {m : Nat} {e : Int} (he : -1074 ≤ e) (h : m * 2 ^ (e + 1074).toNat ≤ (2 ^ 128 - 2 ^ 104 + 2 ^ 76) * 2 ^ 1074) : (FloatKind.f32.decode (FloatKind.f32.encode (.number s m e))).isInfinity = false := by
 show (FloatKind.f32.format.read (FloatKind.f32.format.nearest s m e)).isInfinity = false
 have e1 : FloatKind.f32.format.infRung = 2139095040 := by decide
 have e2 : FloatKind.f32.format.binade = 8388608 := by decide
 have e3 : FloatKind.f32.format.leastPlace = -149 := by decide
 have e4 : FloatKind.f32.format.fractionBits = 23 := by decide
 unfold Format.nearest
 rw [e2,e3,e4]
 split
 ·exact read_word_number _ _ (by rw [e1]; decide)
 ·rename_i h0
  have hlog : m < 2 ^ (m.log2 + 1) := Nat.lt_log2_self
  have hlog' : 2 ^ m.log2 ≤ m := Nat.log2_self_le h0
  dsimp only
  generalize m.log2 = lg at *
  obtain ⟨K,hK⟩ : ∃ K : Nat,K = 1074 := ⟨_,rfl⟩
  have h' : m * 2 ^ (e + 1074).toNat ≤ (2 ^ 128 - 2 ^ 104 + 2 ^ 76) * 2 ^ K := by subst hK; exact h
  have hlg : lg + (e + 1074).toNat < 128 + K := by
   apply (Nat.pow_lt_pow_iff_right (a := 2) (by omega)).1
   rw [Nat.pow_add,Nat.pow_add 2 128 K]
   refine Nat.lt_of_le_of_lt (Nat.mul_le_mul_right _ hlog') (Nat.lt_of_le_of_lt h' ?_)
   exact Nat.mul_lt_mul_of_pos_right (by decide) (Nat.two_pow_pos _)
  generalize hlast : max (e + (lg : Int) - ((23 : Nat) : Int)) (-149) = last
  have hl : last ≤ 104 := by omega
  have hk2 : Toward.even.cut s (m <<< (e - last).toNat) (last - e).toNat ≤ 2 ^ 24 := by
   refine cut_le _ _ _ _ ?_
   rw [Nat.shiftLeft_eq]
   refine Nat.le_of_lt (Nat.lt_of_lt_of_le (Nat.mul_lt_mul_of_pos_right hlog (Nat.two_pow_pos _)) ?_)
   rw [← Nat.pow_add,← Nat.pow_add]
   exact Nat.pow_le_pow_right (by omega) (by omega)
  refine read_word_number _ _ ?_
  rw [e1]
  refine Nat.lt_of_le_of_lt (Nat.min_le_left _ _) ?_
  by_cases hc : last = 104
  ·subst hc
   have : Toward.even.cut s (m <<< (e - 104).toNat) (104 - e).toNat ≤ 2 ^ 24 - 1 := by
    refine cut_lt _ _ _ _ ?_
    rw [Nat.shiftLeft_eq]
    by_cases h5 : e ≤ 104
    ·apply Nat.lt_of_mul_lt_mul_right (a := 2 ^ (e + 1074).toNat)
     rw [show (e - 104).toNat = 0 by omega,Nat.pow_zero,Nat.mul_one,Nat.mul_assoc,Nat.mul_assoc,← Nat.pow_add,show (104 - e).toNat + (e + 1074).toNat = 104 + K by omega,Nat.pow_add 2 104 K]
     refine Nat.lt_of_le_of_lt (Nat.mul_le_mul_left 2 h') ?_
     rw [← Nat.mul_assoc,← Nat.mul_assoc]
     exact Nat.mul_lt_mul_of_pos_right (by decide) (Nat.two_pow_pos _)
    ·apply Nat.lt_of_mul_lt_mul_right (a := 2 ^ (104 + K))
     rw [show (104 - e).toNat = 0 by omega,Nat.pow_zero,Nat.mul_one,Nat.mul_assoc,Nat.mul_assoc,← Nat.pow_add,show (e - 104).toNat + (104 + K) = (e + 1074).toNat by omega,Nat.pow_add 2 104 K]
     refine Nat.lt_of_le_of_lt (Nat.mul_le_mul_left 2 h') ?_
     rw [← Nat.mul_assoc,← Nat.mul_assoc]
     exact Nat.mul_lt_mul_of_pos_right (by decide) (Nat.two_pow_pos _)
   have h6 : (104 - -149 : Int).toNat = 253 := by decide
   rw [h6]
   omega
  ·have h6 : (last - -149).toNat ≤ 252 := by omega
   have h7 : (last - -149).toNat * 8388608 ≤ 252 * 8388608 := Nat.mul_le_mul_right _ h6
   have h8 : (2 : Nat) ^ 24 = 16777216 := by decide
   omega
end Go.Ab

namespace Go.Ab
open Ieee

def Ex (f : Format) (s : Bool) (c v : Nat) : Prop := ∃ m e,f.read c = .number s m e ∧ f.leastPlace ≤ e ∧ m * 2 ^ (e - f.leastPlace).toNat = v
theorem Ex.ms {f : Format} {s : Bool} {c v : Nat} (h : Ex f s c v) : Ms f s c v := by
 obtain ⟨m,e,h1,h2,h3⟩ := h
 exact ⟨m,e,h1,h2,Nat.le_of_eq h3⟩
theorem Ex.mls {f : Format} {s : Bool} {c v : Nat} (h : Ex f s c v) : Mls f s c v := by
 obtain ⟨m,e,h1,h2,h3⟩ := h
 exact ⟨m,e,h1,h2,Nat.le_of_eq h3.symm⟩
theorem Ms.ex {f : Format} {s : Bool} {c B : Nat} (h : Ms f s c B) : ∃ v,Ex f s c v ∧ v ≤ B := by
 obtain ⟨m,e,h1,h2,h3⟩ := h
 exact ⟨_,⟨m,e,h1,h2,rfl⟩,h3⟩
def sg (s : Bool) (v : Nat) : Int := if s then -(v : Int) else v
theorem sg_true (v : Nat) : sg true v = -(v : Int) := rfl
theorem mix_bound {sl sh S2 : Bool} {L H q D X W v R : Nat} (bl : L ≤ X) (bh : H ≤ X) (dv : (D : Int) = sg sh H - sg sl L) (r2 : R ≤ D + W) (q1 : q ≤ R) (t3 : sg S2 v = sg sl L + q) : v ≤ X + W := by
 unfold sg at *
 cases S2 <;> cases sl <;> cases sh <;> simp at dv t3 <;> omega
theorem signed_sg (s : Bool) (m up : Nat) : signed s m up = sg s (m * 2 ^ up) := by
 unfold signed sg
 rw [Nat.shiftLeft_eq]
theorem sg_mul (s : Bool) (v w : Nat) : sg s (v * w) = sg s v * w := by
 unfold sg; split <;> simp [Int.neg_mul]

theorem nearest_exact (f : Format) (neg : Bool) (mag : Nat) (place : Int) (hp : f.leastPlace ≤ place) (hm : mag < 2 ^ (f.fractionBits + 1)) (hfit : mag * 2 ^ (place - f.leastPlace).toNat < rv f f.infRung) :
  Ex f neg (f.nearest neg mag place) (mag * 2 ^ (place - f.leastPlace).toNat) := by
 have hb : 0 < f.binade := Nat.two_pow_pos _
 have key : ∃ r,f.nearest neg mag place = f.word neg (min r f.infRung) ∧ rv f r = mag * 2 ^ (place - f.leastPlace).toNat := by
  unfold Format.nearest
  by_cases h0 : mag = 0
  ·rw [if_pos h0]
   exact ⟨0,by rw [Nat.zero_min],by rw [rv_small f (by omega),h0]; simp⟩
  rw [if_neg h0]
  refine ⟨_,rfl,?_⟩
  have hbd : f.binade = 2 ^ f.fractionBits := rfl
  have hlog : mag < 2 ^ (mag.log2 + 1) := Nat.lt_log2_self
  have hlog' : 2 ^ mag.log2 ≤ mag := Nat.log2_self_le h0
  have hlg : mag.log2 ≤ f.fractionBits := by
   have := (Nat.pow_lt_pow_iff_right (a := 2) (by omega)).1 (Nat.lt_of_le_of_lt hlog' hm)
   omega
  generalize mag.log2 = lg at *
  generalize f.leastPlace = lp at *
  generalize hfb : f.fractionBits = fb at *
  generalize hlast : max (place + (lg : Int) - fb) lp = last
  have e0 : (last - place).toNat = 0 := by omega
  rw [e0,cut_zero _ _ _ rfl,Nat.shiftLeft_eq,rv_at f]
  ·rw [Nat.mul_assoc,← Nat.pow_add]
   congr 2; omega
  ·rw [hbd]
   refine Nat.le_of_lt (Nat.lt_of_lt_of_le (Nat.mul_lt_mul_of_pos_right hlog (Nat.two_pow_pos _)) ?_)
   rw [Nat.mul_comm 2,← Nat.pow_succ,← Nat.pow_add]
   exact Nat.pow_le_pow_right (by omega) (by omega)
  ·by_cases hc : last = lp
   ·left; omega
   ·right
    refine Nat.le_trans (Nat.le_of_eq ?_) (Nat.mul_le_mul_right _ hlog')
    rw [hbd,← Nat.pow_add]
    congr 1; omega
 obtain ⟨r,e1,e2⟩ := key
 have hr : r < f.infRung := by
  apply Nat.lt_of_not_le
  intro hc
  have := rv_mono f hc
  omega
 rw [Nat.min_eq_left (by omega)] at e1
 obtain ⟨m,e,g1,g2,g3⟩ := read_word f neg hr
 exact ⟨m,e,by rw [e1]; exact g1,g2,by rw [g3,e2]⟩

theorem sum_ex {f : Format} {a b v w : Nat} {s t : Bool} (ha : Ex f s a v) (hb : Ex f t b w) : ∃ S M base,(f.read a).sum (f.read b) = some (.number S M base) ∧ f.leastPlace ≤ base ∧ sg S (M * 2 ^ (base - f.leastPlace).toNat) = sg s v + sg t w := by
 obtain ⟨m,i,h1,h2,rfl⟩ := ha
 obtain ⟨n,j,g1,g2,rfl⟩ := hb
 rw [h1,g1]
 refine ⟨_,_,_,rfl,by omega,?_⟩
 generalize f.leastPlace = lp at *
 rw [sg_mul]
 have e1 : sg s (m * 2 ^ (i - lp).toNat) + sg t (n * 2 ^ (j - lp).toNat) = (signed s m (i - min i j).toNat + signed t n (j - min i j).toNat) * (2 ^ (min i j - lp).toNat : Nat) := by
  rw [Int.add_mul,signed_sg,signed_sg,← sg_mul,← sg_mul,units m (by omega) (by omega),units n (by omega) (by omega)]
 rw [e1]
 congr 1
 generalize signed s m (i - min i j).toNat + signed t n (j - min i j).toNat = T
 by_cases h0 : T = 0
 ·subst h0; unfold sg; simp
 ·rw [if_neg h0]
  unfold sg
  by_cases hneg : T < 0
  ·rw [if_pos (by simpa using hneg)]; omega
  ·rw [if_neg (by simpa using hneg)]; omega
theorem Ex.opposite {f : Format} {s : Bool} {c v : Nat} (h : Ex f s c v) : ∃ m e,(f.read c).opposite = .number (!s) m e ∧ f.leastPlace ≤ e ∧ m * 2 ^ (e - f.leastPlace).toNat = v := by
 obtain ⟨m,e,h1,h2,h3⟩ := h
 exact ⟨m,e,by rw [h1]; rfl,h2,h3⟩
theorem sub_ex {f : Format} {a b v w : Nat} {s t : Bool} (ha : Ex f s a v) (hb : Ex f t b w) : ∃ S M base,subD (f.read a) (f.read b) = some (.number S M base) ∧ f.leastPlace ≤ base ∧ sg S (M * 2 ^ (base - f.leastPlace).toNat) = sg s v - sg t w := by
 obtain ⟨m,i,h1,h2,rfl⟩ := ha
 obtain ⟨n,j,g1,g2,rfl⟩ := hb.opposite
 unfold subD
 rw [h1,g1]
 refine ⟨_,_,_,rfl,by omega,?_⟩
 generalize f.leastPlace = lp at *
 rw [sg_mul]
 have e0 : - sg t (n * 2 ^ (j - lp).toNat) = sg (!t) (n * 2 ^ (j - lp).toNat) := by unfold sg; cases t <;> simp
 have e1 : sg s (m * 2 ^ (i - lp).toNat) - sg t (n * 2 ^ (j - lp).toNat) = (signed s m (i - min i j).toNat + signed (!t) n (j - min i j).toNat) * (2 ^ (min i j - lp).toNat : Nat) := by
  rw [Int.sub_eq_add_neg,e0,Int.add_mul,signed_sg,signed_sg,← sg_mul,← sg_mul,units m (by omega) (by omega),units n (by omega) (by omega)]
 rw [e1]
 congr 1
 generalize signed s m (i - min i j).toNat + signed (!t) n (j - min i j).toNat = T
 by_cases h0 : T = 0
 ·subst h0; unfold sg; simp
 ·rw [if_neg h0]
  unfold sg
  by_cases hneg : T < 0
  ·rw [if_pos (by simpa using hneg)]; omega
  ·rw [if_neg (by simpa using hneg)]; omega
theorem order_ex {f : Format} {a b v w : Nat} {s t : Bool} (ha : Ex f s a v) (hb : Ex f t b w) : (f.read a).order (f.read b) = some (compare (sg s v) (sg t w)) := by
 obtain ⟨m,i,h1,h2,rfl⟩ := ha
 obtain ⟨n,j,g1,g2,rfl⟩ := hb
 rw [h1,g1]
 generalize f.leastPlace = lp at *
 show some (compare (signed s m (i - min i j).toNat) (signed t n (j - min i j).toNat)) = _
 rw [signed_sg,signed_sg,← units m (show min i j ≤ i by omega) (show lp ≤ min i j by omega),← units n (show min i j ≤ j by omega) (show lp ≤ min i j by omega),sg_mul s (m * 2 ^ (i - min i j).toNat),sg_mul t (n * 2 ^ (j - min i j).toNat)]
 generalize sg s (m * 2 ^ (i - min i j).toNat) = A
 generalize sg t (n * 2 ^ (j - min i j).toNat) = B
 have hpos : (0 : Int) < ((2 ^ (min i j - lp).toNat : Nat) : Int) := by exact_mod_cast Nat.two_pow_pos _
 generalize ((2 ^ (min i j - lp).toNat : Nat) : Int) = q at *
 congr 1
 rcases Int.lt_trichotomy A B with h | h | h
 ·rw [Int.compare_eq_lt.2 h,Int.compare_eq_lt.2 (Int.mul_lt_mul_of_pos_right h hpos)]
 ·subst h; rw [Int.compare_eq_eq.2 rfl,Int.compare_eq_eq.2 rfl]
 ·rw [Int.compare_eq_gt.2 h,Int.compare_eq_gt.2 (Int.mul_lt_mul_of_pos_right h hpos)]

theorem fin32 {x : Nat} (h : feq .f32 (fsub .f32 x x) 0 = true) : ∃ s m e,FloatKind.f32.decode x = .number s m e := by
 cases hd : FloatKind.f32.decode x with
 | number s m e => exact ⟨s,m,e,rfl⟩
 | infinity s =>
  exfalso
  have : fsub .f32 x x = nan .f32 := by
   have hd' : FloatKind.f32.format.read x = .infinity s := hd
   unfold fsub op2
   rw [hd']
   cases s <;> rfl
  rw [this] at h
  revert h; decide
 | nan s t =>
  exfalso
  have : fsub .f32 x x = nan .f32 := by
   have hd' : FloatKind.f32.format.read x = .nan s t := hd
   unfold fsub op2
   rw [hd']
   rfl
  rw [this] at h
  revert h; decide
theorem ex32 {x : Nat} {s : Bool} {m : Nat} {e : Int} (h : FloatKind.f32.decode x = .number s m e) : Ex FloatKind.f32.format s x (m * 2 ^ (e + 149).toNat) := by
 obtain ⟨h1,h2,h3⟩ := read_f32_number h
 have e1 : FloatKind.f32.format.leastPlace = -149 := by decide
 exact ⟨m,e,h,by rw [e1]; exact h2,by rw [e1,show e - -149 = e + 149 by omega]⟩
theorem rv64_inf {K : Nat} (hK : K = 2098) : rv FloatKind.f64.format FloatKind.f64.format.infRung = 2 ^ K := by
 have e1 : FloatKind.f64.format.infRung = 9218868437227405312 := by decide
 have e2 : FloatKind.f64.format.binade = 4503599627370496 := by decide
 obtain ⟨J,hJ⟩ : ∃ J : Nat,J = 2046 := ⟨_,rfl⟩
 rw [rv_big _ (by rw [e1,e2]; decide),e1,e2]
 rw [show (4503599627370496 + 9218868437227405312 % 4503599627370496 : Nat) = 2 ^ 52 by decide,show (9218868437227405312 / 4503599627370496 - 1 : Nat) = J by rw [hJ],← Nat.pow_add]
 exact congrArg (2 ^ ·) (by omega)
theorem widen_ex {x : Nat} {s : Bool} {m : Nat} {e : Int} (h : FloatKind.f32.decode x = .number s m e) : Ex FloatKind.f64.format s (widen x) (m * 2 ^ (e + 1074).toNat) := by
 obtain ⟨h1,h2,h3⟩ := read_f32_number h
 have hn : isNaN .f32 x = false := by unfold isNaN; show (FloatKind.f32.decode x).isNaN = false; rw [h]; rfl
 have hw : widen x = FloatKind.f64.format.nearest s m e := by
  show (if isNaN .f32 x = true then nan .f64 else FloatKind.f64.encode (FloatKind.f32.decode x)) = _
  rw [hn,h]
  exact if_neg (by decide)
 have e3 : FloatKind.f64.format.leastPlace = -1074 := by decide
 have e4 : FloatKind.f64.format.fractionBits = 52 := by decide
 rw [hw]
 have := nearest_exact FloatKind.f64.format s m e (by rw [e3]; omega) (by rw [e4]; exact Nat.lt_trans h1 (by decide)) (by
  obtain ⟨K,hK⟩ : ∃ K : Nat,K = 2098 := ⟨_,rfl⟩
  rw [rv64_inf hK,e3,show e - -1074 = e + 1074 by omega]
  refine Nat.lt_of_lt_of_le (Nat.mul_lt_mul_of_pos_right h1 (Nat.two_pow_pos _)) ?_
  rw [← Nat.pow_add]
  exact Nat.pow_le_pow_right (by omega) (by omega))
 rw [e3,show e - -1074 = e + 1074 by omega] at this
 exact this
theorem ofInt_ex {n W : Nat} (hW : W = 1074) (h : n < 2 ^ 53) : Ex FloatKind.f64.format false (ofInt .f64 n) (n * 2 ^ W) := by
 have hw : ofInt .f64 n = FloatKind.f64.format.nearest false n 0 := by
  unfold ofInt FloatKind.nearest FloatKind.encode
  have e1 : decide ((n : Int) < 0) = false := by simp
  rw [e1]; simp [Format.write]
 have e3 : FloatKind.f64.format.leastPlace = -1074 := by decide
 have e4 : FloatKind.f64.format.fractionBits = 52 := by decide
 rw [hw]
 have := nearest_exact FloatKind.f64.format false n 0 (by rw [e3]; omega) (by rw [e4]; exact h) (by
  obtain ⟨K,hK⟩ : ∃ K : Nat,K = 2098 := ⟨_,rfl⟩
  rw [rv64_inf hK,e3]
  refine Nat.lt_of_lt_of_le (Nat.mul_lt_mul_of_pos_right h (Nat.two_pow_pos _)) ?_
  rw [← Nat.pow_add]
  exact Nat.pow_le_pow_right (by omega) (by omega))
 rw [e3,show (0 - -1074 : Int).toNat = W by omega] at this
 exact this
theorem ms64_lt {r B K : Nat} (hK : K = 2098) (h : rv FloatKind.f64.format r ≤ B) (hB : B < 2 ^ K) : r < FloatKind.f64.format.infRung := by
 apply Nat.lt_of_not_le
 intro hc
 have := rv_mono FloatKind.f64.format hc
 rw [rv64_inf hK] at this
 omega

theorem number_narrow {low high code most : Nat} (hl : feq .f32 (fsub .f32 low low) 0 = true) (hh : feq .f32 (fsub .f32 high high) 0 = true) (hlt : flt .f32 low high = true) (hc : code ≤ most) (hm : most < 2 ^ 53) (hm0 : 0 < most) :
  narrowOk (fadd .f64 (widen low) (fmul .f64 (fsub .f64 (widen high) (widen low)) (fdiv .f64 (ofInt .f64 code) (ofInt .f64 most)))) = true := by
 obtain ⟨sl,ml,el,dl⟩ := fin32 hl
 obtain ⟨sh,mh,eh,dh⟩ := fin32 hh
 obtain ⟨l1,l2,l3⟩ := read_f32_number dl
 obtain ⟨h1,h2,h3⟩ := read_f32_number dh
 have xl := widen_ex dl
 have xh := widen_ex dh
 have e3 : FloatKind.f64.format.leastPlace = -1074 := by decide
 have e4 : FloatKind.f64.format.fractionBits = 52 := by decide
 obtain ⟨W,hW⟩ : ∃ W : Nat,W = 1074 := ⟨_,rfl⟩
 -- bounds of the two
 have bnd : ∀ {m : Nat} {e : Int},m < 2 ^ 24 → -149 ≤ e → e ≤ 104 → m * 2 ^ (e + 1074).toNat ≤ (2 ^ 128 - 2 ^ 104) * 2 ^ W := by
  intro m e q1 q2 q3
  have : m * 2 ^ (e + 1074).toNat ≤ (2 ^ 24 - 1) * 2 ^ (104 + W) := Nat.mul_le_mul (by omega) (Nat.pow_le_pow_right (by omega) (by omega))
  refine Nat.le_trans this (Nat.le_of_eq ?_)
  have e9 : (2 ^ 24 - 1) * 2 ^ 104 = 2 ^ 128 - 2 ^ 104 := by decide
  rw [Nat.pow_add 2 104,← Nat.mul_assoc,e9]
 have bl := bnd l1 l2 l3
 have bh := bnd h1 h2 h3
 -- the order
 have hord : sg sl (ml * 2 ^ (el + 1074).toNat) < sg sh (mh * 2 ^ (eh + 1074).toNat) := by
  have ho := order_ex (ex32 dl) (ex32 dh)
  have hlt' : FloatKind.f32.format.order low high == some .lt := hlt
  unfold Format.order at hlt'
  rw [ho] at hlt'
  have h5 : compare (sg sl (ml * 2 ^ (el + 149).toNat)) (sg sh (mh * 2 ^ (eh + 149).toNat)) = .lt := by simpa using hlt'
  have h6 := Int.compare_eq_lt.1 h5
  obtain ⟨K,hK⟩ : ∃ K : Nat,K = 925 := ⟨_,rfl⟩
  have sc : ∀ (s : Bool) (m : Nat) (e : Int),-149 ≤ e → sg s (m * 2 ^ (e + 1074).toNat) = sg s (m * 2 ^ (e + 149).toNat) * (2 ^ K : Nat) := by
   intro s m e he
   rw [← sg_mul,Nat.mul_assoc,← Nat.pow_add]
   congr 3; omega
  rw [sc _ _ _ l2,sc _ _ _ h2]
  exact Int.mul_lt_mul_of_pos_right h6 (by exact_mod_cast Nat.two_pow_pos K)
 generalize hL : ml * 2 ^ (el + 1074).toNat = L at *
 generalize hH : mh * 2 ^ (eh + 1074).toNat = H at *
 generalize hU : (2 : Nat) ^ W = U at *
 have hUp : 0 < U := Nat.lt_of_lt_of_eq (Nat.two_pow_pos W) hU
 -- the difference
 obtain ⟨S,M,base,d1,d2,d3⟩ := sub_ex xh xl
 rw [e3] at d2 d3
 have hT : 0 < sg sh H - sg sl L := by omega
 have hS : S = false := by
  cases S with
  | false => rfl
  | true => rw [← d3,sg_true] at hT; omega
 subst hS
 have dv : ((M * 2 ^ (base - -1074).toNat : Nat) : Int) = sg sh H - sg sl L := by rw [← d3]; rfl
 have sgle : ∀ (s : Bool) (v : Nat),sg s v ≤ v ∧ -(v : Int) ≤ sg s v := by intro s v; unfold sg; cases s <;> simp <;> omega
 have s1 := sgle sh H
 have s2 := sgle sl L
 have hMX : (2 ^ 128 - 2 ^ 104) * U < 2 ^ 128 * U := Nat.mul_lt_mul_of_pos_right (by decide) hUp
 obtain ⟨N,hN⟩ : ∃ N : Nat,N = 1203 := ⟨_,rfl⟩
 have hDN : M * 2 ^ (base - FloatKind.f64.format.leastPlace).toNat < 2 ^ N := by
  rw [e3]
  have e9 : (2 : Nat) ^ N = 2 * (2 ^ 128 * U) := by
   rw [← hU,← Nat.pow_add,Nat.mul_comm,← Nat.pow_succ]
   exact congrArg (2 ^ ·) (by omega)
  rw [e9]
  generalize 2 ^ 128 * U = X at *
  omega
 obtain ⟨r,r1,r2⟩ := nearest_up FloatKind.f64.format false M base (by rw [e3]; exact d2) N hDN (by rw [e4]; omega)
 rw [e3,e4,show N - 1 - 52 = 76 + W by omega,Nat.pow_add 2 76 W,hU] at r2
 obtain ⟨K,hK⟩ : ∃ K : Nat,K = 2098 := ⟨_,rfl⟩
 have hrB : rv FloatKind.f64.format r < 2 ^ K := by
  have q1 : 2 ^ 76 * U ≤ 2 ^ 128 * U := Nat.mul_le_mul_right _ (by decide)
  have q2 : 4 * (2 ^ 128 * U) < 2 ^ K := by
   rw [← hU,← Nat.pow_add,show (4 : Nat) = 2 ^ 2 by rfl,← Nat.pow_add]
   exact Nat.pow_lt_pow_right (by omega) (by omega)
  generalize (2 : Nat) ^ K = Y at *
  generalize 2 ^ 128 * U = X at *
  generalize 2 ^ 76 * U = W at *
  omega
 have hr : r < FloatKind.f64.format.infRung := by
  apply Nat.lt_of_not_le
  intro hc
  have := rv_mono FloatKind.f64.format hc
  rw [rv64_inf hK] at this
  omega
 rw [Nat.min_eq_left (by omega)] at r1
 have hD : Ms FloatKind.f64.format false (fsub .f64 (widen high) (widen low)) (rv FloatKind.f64.format r) := by
  refine ms_op (g := subD) ⟨_,d1,?_⟩
  show Ms FloatKind.f64.format false (FloatKind.f64.format.nearest false M base) _
  rw [r1]
  obtain ⟨m,e,g1,g2,g3⟩ := read_word FloatKind.f64.format false hr
  exact ⟨m,e,g1,g2,Nat.le_of_eq g3⟩
 -- the part
 have rv1 : rv FloatKind.f64.format 4607182418800017408 = 2 ^ W := by
  have e1 : FloatKind.f64.format.infRung = 9218868437227405312 := by decide
  have e2 : FloatKind.f64.format.binade = 4503599627370496 := by decide
  obtain ⟨J,hJ⟩ : ∃ J : Nat,J = 1022 := ⟨_,rfl⟩
  rw [rv_big _ (by rw [e2]; decide),e2]
  rw [show (4503599627370496 + 4607182418800017408 % 4503599627370496 : Nat) = 2 ^ 52 by decide,show (4607182418800017408 / 4503599627370496 - 1 : Nat) = J by rw [hJ],← Nat.pow_add]
  exact congrArg (2 ^ ·) (by omega)
 have hP : Ms FloatKind.f64.format false (fdiv .f64 (ofInt .f64 code) (ofInt .f64 most)) (rv FloatKind.f64.format 4607182418800017408) := by
  refine ms_div (N := W) (ofInt_ex hW (by omega)).ms (ofInt_ex hW hm).mls (Nat.mul_pos hm0 (Nat.two_pow_pos _)) ?_ (by rw [rv1]; exact Nat.le_refl _) (by decide) (by decide)
  rw [e3,show (- -1074 : Int).toNat = W by omega,hU,Nat.mul_comm U]
  exact Nat.mul_le_mul_right _ (Nat.mul_le_mul_right _ hc)
 rw [rv1,hU] at hP
 have hQ : Ms FloatKind.f64.format false (fmul .f64 (fsub .f64 (widen high) (widen low)) (fdiv .f64 (ofInt .f64 code) (ofInt .f64 most))) (rv FloatKind.f64.format r) := by
  refine ms_mul hD hP ?_ hr (by decide)
  rw [e3,show (- -1074 : Int).toNat = W by omega,hU]
  exact Nat.le_refl _
 obtain ⟨q,xq,q1⟩ := hQ.ex
 -- the sum
 obtain ⟨S2,M2,b2,t1,t2,t3⟩ := sum_ex xl xq
 rw [e3] at t2 t3
 have hq0 : sg false q = q := rfl
 rw [hq0] at t3
 have hle : M2 * 2 ^ (b2 - -1074).toNat ≤ (2 ^ 128 - 2 ^ 104 + 2 ^ 76) * U := by
  rw [Nat.add_mul]
  exact mix_bound bl bh dv r2 q1 t3
 have hRv : rv FloatKind.f64.format (1150 * 4503599627370496 + (2 ^ 52 - 2 ^ 29 + 2)) = (2 ^ 128 - 2 ^ 104 + 2 ^ 76) * 2 ^ W := by
  have e2 : FloatKind.f64.format.binade = 4503599627370496 := by decide
  rw [rv_big _ (by rw [e2]; decide),e2]
  rw [show (4503599627370496 + (1150 * 4503599627370496 + (2 ^ 52 - 2 ^ 29 + 2)) % 4503599627370496 : Nat) = 2 ^ 53 - 2 ^ 29 + 2 by decide,show ((1150 * 4503599627370496 + (2 ^ 52 - 2 ^ 29 + 2)) / 4503599627370496 - 1 : Nat) = 75 + W by rw [hW],Nat.pow_add 2 75 W,← Nat.mul_assoc]
 have hV : Mg FloatKind.f64.format (fadd .f64 (widen low) (fmul .f64 (fsub .f64 (widen high) (widen low)) (fdiv .f64 (ofInt .f64 code) (ofInt .f64 most)))) (rv FloatKind.f64.format (1150 * 4503599627370496 + (2 ^ 52 - 2 ^ 29 + 2))) := by
  refine mg_op ⟨_,t1,mg_nearest _ _ _ _ (by decide) ?_⟩
  rw [e3,hRv,hU,show (-1074 - b2).toNat = 0 by omega,Nat.pow_zero,Nat.mul_one]
  exact hle
 obtain ⟨s,m,e,v1,v2,v3⟩ := hV
 rw [e3] at v2
 rw [e3,hRv,show e - -1074 = e + 1074 by omega] at v3
 unfold narrowOk
 have v1' : FloatKind.f64.decode (fadd .f64 (widen low) (fmul .f64 (fsub .f64 (widen high) (widen low)) (fdiv .f64 (ofInt .f64 code) (ofInt .f64 most)))) = .number s m e := v1
 rw [v1']
 dsimp only
 rw [narrow_small v2 (by subst hW; exact v3)]
 rfl
end Go.Ab

namespace Go.Ab
open Ieee

theorem narrowOk_of_nan {c : Nat} (h : isNaN .f64 c = true) : narrowOk c = true := by
 obtain ⟨s,t,e⟩ := decode_of_nan h
 unfold narrowOk; rw [e]
theorem narrowOk_of_inf {c : Nat} {s : Bool} (h : FloatKind.f64.decode c = .infinity s) : narrowOk c = true := by
 unfold narrowOk; rw [h]
theorem narrowOk_of_mg {c B W : Nat} (hW : W = 1074) (h : Mg FloatKind.f64.format c B) (hB : B ≤ (2 ^ 128 - 2 ^ 104 + 2 ^ 76) * 2 ^ W) : narrowOk c = true := by
 obtain ⟨s,m,e,v1,v2,v3⟩ := h
 have e3 : FloatKind.f64.format.leastPlace = -1074 := by decide
 rw [e3] at v2 v3
 rw [show e - -1074 = e + 1074 by omega] at v3
 unfold narrowOk
 have v1' : FloatKind.f64.decode c = .number s m e := v1
 rw [v1']
 dsimp only
 rw [narrow_small v2 (by subst hW; exact Nat.le_trans v3 hB)]
 rfl
theorem read_write_inf (s : Bool) : FloatKind.f64.format.read (FloatKind.f64.format.write (.infinity s)) = .infinity s := by cases s <;> decide
theorem read_inf32 {c : Nat} {s : Bool} (h : FloatKind.f32.decode c = .infinity s) : FloatKind.f64.format.read (widen c) = .infinity s := by
 have hn : isNaN .f32 c = false := by unfold isNaN; show (FloatKind.f32.decode c).isNaN = false; rw [h]; rfl
 have hw : widen c = FloatKind.f64.format.write (.infinity s) := by
  show (if isNaN .f32 c = true then nan .f64 else FloatKind.f64.encode (FloatKind.f32.decode c)) = _
  rw [hn,h]
  exact if_neg (by decide)
 rw [hw,read_write_inf]

theorem rootFrom_le (n : Nat) : ∀ (todo root : Nat),root * root ≤ n → Datum.rootFrom n todo root * Datum.rootFrom n todo root ≤ n
 | 0,root,h => h
 | todo + 1,root,h => by
  unfold Datum.rootFrom
  dsimp only
  split
  ·exact rootFrom_le n todo _ (by assumption)
  ·exact rootFrom_le n todo _ h

theorem sqrt_narrow (c : Nat) : narrowOk (fsqrt (widen c)) = true := by
 unfold fsqrt
 unfold Format.sqrt
 cases hd : FloatKind.f32.decode c with
 | nan s t =>
  have hn : isNaN .f32 c = true := by unfold isNaN; show (FloatKind.f32.decode c).isNaN = true; rw [hd]; rfl
  have hw : widen c = nan .f64 := by unfold widen; rw [if_pos hn]
  rw [hw]
  decide
 | infinity s =>
  rw [read_inf32 hd]
  cases s <;> decide
 | number s m e =>
  obtain ⟨q1,q2,q3⟩ := read_f32_number hd
  obtain ⟨m',i,h1,h2,h3⟩ := widen_ex hd
  have e3 : FloatKind.f64.format.leastPlace = -1074 := by decide
  rw [e3] at h2 h3
  rw [h1]
  generalize FloatKind.f64.format.fractionBits + 2 = dg
  unfold Datum.root
  by_cases hm0 : m' = 0
  ·subst hm0
   dsimp only
   rw [if_pos rfl]
   show narrowOk (FloatKind.f64.format.nearest s 0 i) = true
   cases s <;> (unfold Format.nearest; rw [if_pos rfl]; decide)
  dsimp only
  rw [if_neg hm0]
  cases s with
  | true => show narrowOk (nan .f64) = true; decide
  | false =>
   rw [if_neg (by decide)]
   show narrowOk (FloatKind.f64.format.nearest false _ _) = true
   generalize hmore : 2 * dg - m'.log2 + ((i - ((2 * dg - m'.log2 : Nat) : Int)) % 2).toNat = more
   have hpar : ∃ h : Int,i - (more : Int) = 2 * h := ⟨(i - (more : Int)) / 2,by omega⟩
   obtain ⟨h,hh⟩ := hpar
   rw [Nat.shiftLeft_eq]
   generalize hn : m' * 2 ^ more = n
   have hw := rootFrom_le n (n.log2 / 2 + 1) 0 (by omega)
   generalize Datum.rootFrom n (n.log2 / 2 + 1) 0 = w at *
   have hdiv : (i - (more : Int)) / 2 = h := by omega
   rw [hdiv]
   obtain ⟨W,hW⟩ : ∃ W : Nat,W = 1074 := ⟨_,rfl⟩
   -- the value of the argument
   have hval : m' * 2 ^ (i + 1074).toNat < 2 ^ (128 + W) := by
    rw [show i - -1074 = i + 1074 by omega] at h3
    rw [h3]
    refine Nat.lt_of_lt_of_le (Nat.mul_lt_mul_of_pos_right q1 (Nat.two_pow_pos _)) ?_
    rw [← Nat.pow_add]
    exact Nat.pow_le_pow_right (by omega) (by omega)
   -- w < 2 ^ b with n < 2 ^ (2 b)
   have hnpos : 0 < n := by rw [← hn]; exact Nat.mul_pos (by omega) (Nat.two_pow_pos _)
   -- n * 2 ^ (2 h + 1074) < 2 ^ 1202
   have hn2 : ∀ (u v : Nat),(u : Int) - v = 2 * h + 1074 → n * 2 ^ u < 2 ^ (128 + W + v) := by
    intro u v huv
    rw [← hn,Nat.mul_assoc,← Nat.pow_add,show more + u = (i + 1074).toNat + v by omega,Nat.pow_add,← Nat.mul_assoc,Nat.pow_add 2 (128 + W) v]
    exact Nat.mul_lt_mul_of_pos_right hval (Nat.two_pow_pos _)
   have hRv : rv FloatKind.f64.format (1091 * 4503599627370496) = 2 ^ (68 + W) := by
    have e2 : FloatKind.f64.format.binade = 4503599627370496 := by decide
    rw [rv_big _ (by rw [e2]; decide),e2]
    rw [show (4503599627370496 + 1091 * 4503599627370496 % 4503599627370496 : Nat) = 2 ^ 52 by decide,show (1091 * 4503599627370496 / 4503599627370496 - 1 : Nat) = 16 + W by rw [hW],← Nat.pow_add]
    exact congrArg (2 ^ ·) (by omega)
   refine narrowOk_of_mg hW (mg_nearest FloatKind.f64.format false (2 * w + (w * w != n).toNat) (h - 1) (R := 1091 * 4503599627370496) (by decide) ?_) ?_
   ·rw [hRv,e3]
    generalize hmag : 2 * w + (w * w != n).toNat = mag
    have hmag2 : mag * mag ≤ 16 * n := by
     have hb : (w * w != n).toNat ≤ 1 := by cases (w * w != n) <;> decide
     have h6 : mag ≤ 2 * w + 1 := by omega
     have h7 : mag * mag ≤ (2 * w + 1) * (2 * w + 1) := Nat.mul_le_mul h6 h6
     have h8 : (2 * w + 1) * (2 * w + 1) = 4 * (w * w) + 4 * w + 1 := by
      rw [Nat.add_mul,Nat.mul_add,Nat.mul_mul_mul_comm]; omega
     have h9 : w ≤ w * w := by
      cases w with
      | zero => exact Nat.le_refl _
      | succ w => exact Nat.le_mul_of_pos_left _ (by omega)
     omega
    generalize ha : (h - 1 - -1074).toNat = a
    generalize hb : (-1074 - (h - 1)).toNat = b
    rw [← Nat.pow_add]
    apply Nat.le_of_lt
    apply Nat.mul_self_lt_mul_self_iff.1
    have h10 := hn2 (2 * a) (2 * b + 1072) (by omega)
    calc mag * 2 ^ a * (mag * 2 ^ a) = mag * mag * 2 ^ (2 * a) := by rw [Nat.mul_mul_mul_comm,← Nat.pow_add,show a + a = 2 * a by omega]
     _ ≤ 16 * n * 2 ^ (2 * a) := Nat.mul_le_mul_right _ hmag2
     _ = 16 * (n * 2 ^ (2 * a)) := Nat.mul_assoc _ _ _
     _ < 16 * 2 ^ (128 + W + (2 * b + 1072)) := Nat.mul_lt_mul_of_pos_left h10 (by decide)
     _ = 2 ^ (4 + (128 + W + (2 * b + 1072))) := by rw [Nat.pow_add 2 4]
     _ ≤ 2 ^ (68 + W + b) * 2 ^ (68 + W + b) := by rw [← Nat.pow_add]; exact Nat.pow_le_pow_right (by omega) (by omega)
   ·rw [hRv,Nat.pow_add]
    exact Nat.mul_le_mul_right _ (by decide)
theorem read_inf_word (k : FloatKind) (neg : Bool) : k.format.read (k.format.word neg k.format.infRung) = .infinity neg := by cases k <;> cases neg <;> decide
theorem infRung_pos (k : FloatKind) : 0 < k.format.infRung := by cases k <;> decide
theorem read_nearest (k : FloatKind) (neg : Bool) (mag : Nat) (place : Int) : (∃ m e,k.format.read (k.format.nearest neg mag place) = .number neg m e ∧ (mag = 0 → m = 0)) ∨ k.format.read (k.format.nearest neg mag place) = .infinity neg := by
 by_cases h0 : mag = 0
 ·subst h0
  unfold Format.nearest
  rw [if_pos rfl]
  obtain ⟨m,e,h1,h2,h3⟩ := read_word k.format neg (infRung_pos k)
  left
  refine ⟨m,e,h1,fun _ => ?_⟩
  have hb : 0 < k.format.binade := Nat.two_pow_pos _
  rw [rv_small k.format (by omega)] at h3
  rcases Nat.mul_eq_zero.1 h3 with h | h
  ·exact h
  ·have := Nat.two_pow_pos (e - k.format.leastPlace).toNat; omega
 ·unfold Format.nearest
  rw [if_neg h0]
  dsimp only
  generalize (max (place + (mag.log2 : Int) - (k.format.fractionBits : Int)) k.format.leastPlace - k.format.leastPlace).toNat * k.format.binade + _ = r
  by_cases hr : r < k.format.infRung
  ·rw [Nat.min_eq_left (by omega)]
   obtain ⟨m,e,h1,h2,h3⟩ := read_word k.format neg hr
   exact .inl ⟨m,e,h1,fun h => absurd h h0⟩
  ·rw [Nat.min_eq_right (by omega)]
   right
   exact read_inf_word k neg
theorem narrow_number {c : Nat} {s : Bool} {m : Nat} {e : Int} (h : FloatKind.f64.decode c = .number s m e) : narrow c = FloatKind.f32.format.nearest s m e := by
 have hn : isNaN .f64 c = false := by unfold isNaN; show (FloatKind.f64.decode c).isNaN = false; rw [h]; rfl
 show (if isNaN .f64 c = true then nan .f32 else FloatKind.f32.encode (FloatKind.f64.decode c)) = _
 rw [hn,h]
 exact if_neg (by decide)
theorem root_sign (x : Nat) {s : Bool} {m : Nat} {e : Int} (h : FloatKind.f32.decode (narrow (fsqrt x)) = .number s m e) : s = false ∨ m = 0 := by
 have nn : ∀ {s' : Bool} {m' : Nat} {e' : Int},FloatKind.f64.decode (fsqrt x) = .number s' m' e' → (s' = false ∨ m' = 0) → s = false ∨ m = 0 := by
  intro s' m' e' hq hs
  rw [narrow_number hq] at h
  rcases read_nearest .f32 s' m' e' with ⟨m2,e2,g1,g2⟩ | g1
  ·have h' : FloatKind.f32.format.read (FloatKind.f32.format.nearest s' m' e') = .number s m e := h
   rw [g1] at h'
   cases h'
   rcases hs with hs | hs
   ·exact .inl hs
   ·exact .inr (g2 hs)
  ·have h' : FloatKind.f32.format.read (FloatKind.f32.format.nearest s' m' e') = .number s m e := h
   rw [g1] at h'
   cases h'
 cases hq : FloatKind.f64.decode (fsqrt x) with
 | nan s' t =>
  exfalso
  have hn : isNaN .f64 (fsqrt x) = true := by unfold isNaN; show (FloatKind.f64.decode (fsqrt x)).isNaN = true; rw [hq]; rfl
  have : narrow (fsqrt x) = nan .f32 := by unfold narrow; rw [if_pos hn]
  rw [this] at h
  revert h
  have : FloatKind.f32.decode (nan .f32) = .nan false 4194304 := by decide
  rw [this]; exact fun h => by cases h
 | infinity s' =>
  exfalso
  have hn : isNaN .f64 (fsqrt x) = false := by unfold isNaN; show (FloatKind.f64.decode (fsqrt x)).isNaN = false; rw [hq]; rfl
  have hw : narrow (fsqrt x) = FloatKind.f32.format.word s' FloatKind.f32.format.infRung := by
   show (if isNaN .f64 (fsqrt x) = true then nan .f32 else FloatKind.f32.encode (FloatKind.f64.decode (fsqrt x))) = _
   rw [hn,hq]
   exact if_neg (by decide)
  rw [hw] at h
  have h' : FloatKind.f32.format.read (FloatKind.f32.format.word s' FloatKind.f32.format.infRung) = .number s m e := h
  rw [read_inf_word .f32 s'] at h'
  cases h'
 | number s' m' e' =>
  refine nn hq ?_
  -- the root's own sign
  have hq' : FloatKind.f64.format.read (fsqrt x) = .number s' m' e' := hq
  unfold fsqrt Format.sqrt at hq'
  generalize FloatKind.f64.format.fractionBits + 2 = dg at hq'
  cases hx : FloatKind.f64.format.read x with
  | nan a b =>
   exfalso
   rw [hx] at hq'
   revert hq'
   have : FloatKind.f64.format.read (nan .f64) = .nan false 2251799813685248 := by decide
   show FloatKind.f64.format.read (nan .f64) = _ → _
   rw [this]; exact fun h => by cases h
  | infinity a =>
   exfalso
   rw [hx] at hq'
   cases a
   ·have h5 : FloatKind.f64.format.read (FloatKind.f64.format.word false FloatKind.f64.format.infRung) = .number s' m' e' := hq'
    rw [read_inf_word .f64 false] at h5; cases h5
   ·have h5 : FloatKind.f64.format.read (nan .f64) = .number s' m' e' := hq'
    have : FloatKind.f64.format.read (nan .f64) = .nan false 2251799813685248 := by decide
    rw [this] at h5; cases h5
  | number a mm i =>
   rw [hx] at hq'
   unfold Datum.root at hq'
   dsimp only at hq'
   by_cases hm0 : mm = 0
   ·rw [if_pos hm0] at hq'
    have h5 : FloatKind.f64.format.read (FloatKind.f64.format.nearest a mm i) = .number s' m' e' := hq'
    rcases read_nearest .f64 a mm i with ⟨m2,e2,g1,g2⟩ | g1
    ·rw [g1] at h5; cases h5; exact .inr (g2 hm0)
    ·rw [g1] at h5; cases h5
   ·rw [if_neg hm0] at hq'
    cases a
    ·rw [if_neg (by decide)] at hq'
     simp only [Option.map_some,Option.getD_some] at hq'
     change FloatKind.f64.format.read (FloatKind.f64.format.nearest false _ _) = _ at hq'
     rcases read_nearest .f64 false _ _ with ⟨m2,e2,g1,g2⟩ | g1
     ·rw [g1] at hq'; cases hq'; exact .inl rfl
     ·rw [g1] at hq'; cases hq'
    ·rw [if_pos rfl] at hq'
     exfalso
     have h5 : FloatKind.f64.format.read (nan .f64) = .number s' m' e' := hq'
     have : FloatKind.f64.format.read (nan .f64) = .nan false 2251799813685248 := by decide
     rw [this] at h5; cases h5
theorem decode_zero32 : FloatKind.f32.format.read 0 = .number false 0 (-149) := by decide
theorem root_pos {x : Nat} (hf : feq .f32 (fsub .f32 (narrow (fsqrt x)) (narrow (fsqrt x))) 0 = true) : flt .f32 0 (narrow (fsqrt x)) = !(feq .f32 (narrow (fsqrt x)) 0) := by
 obtain ⟨s,m,e,h⟩ := fin32 hf
 have hs := root_sign x h
 generalize narrow (fsqrt x) = n at *
 have h0 : Ex FloatKind.f32.format false 0 0 := ⟨0,-149,decode_zero32,by decide,by decide⟩
 have o1 := order_ex h0 (ex32 h)
 have o2 := order_ex (ex32 h) h0
 unfold flt feq ford Format.order
 rw [o1,o2]
 have hz : sg false 0 = 0 := rfl
 rw [hz]
 have hv : sg s (m * 2 ^ (e + 149).toNat) = ((m * 2 ^ (e + 149).toNat : Nat) : Int) := by
  rcases hs with hs | hs
  ·subst hs; rfl
  ·subst hs; rw [Nat.zero_mul]; cases s <;> rfl
 rw [hv]
 generalize m * 2 ^ (e + 149).toNat = v
 rcases Nat.eq_zero_or_pos v with h5 | h5
 ·subst h5; decide
 ·have g1 : compare (0 : Int) (v : Int) = .lt := Int.compare_eq_lt.2 (by omega)
  have g2 : compare (v : Int) (0 : Int) = .gt := Int.compare_eq_gt.2 (by omega)
  rw [g1,g2]; rfl
end Go.Ab

namespace Go.Ab
open Ieee

theorem read_neg (k : FloatKind) (b : Nat) : k.format.read (Op.negFloat k b) = (k.format.read b).opposite := by
 have h1 := neg_rung k b
 have h2 : (Op.negFloat k b / k.format.signWeight % 2 == 1) = !(b / k.format.signWeight % 2 == 1) := by
  have e : ∀ x : Nat,(x / k.format.signWeight % 2 == 1) = x.testBit (k.format.exponentBits + k.format.fractionBits) := by
   intro x
   rw [Nat.testBit_eq_decide_div_mod_eq]
   unfold Format.signWeight
   by_cases h : x / 2 ^ (k.format.exponentBits + k.format.fractionBits) % 2 = 1 <;> simp [h]
  rw [e,e]
  unfold Op.negFloat
  rw [Nat.testBit_xor,Nat.testBit_two_pow_self]
  cases b.testBit (k.format.exponentBits + k.format.fractionBits) <;> rfl
 unfold Format.read
 simp only [h1,h2]
 split
 ·rfl
 ·split
  ·rfl
  ·split <;> rfl
theorem fneg_number {k : FloatKind} {x : Nat} {s : Bool} {m : Nat} {e : Int} (h : k.format.read x = .number s m e) : k.format.read (fneg k x) = .number (!s) m e := by
 have h1 : k.format.read (Op.negFloat k x) = .number (!s) m e := by rw [read_neg,h]; rfl
 unfold fneg
 rw [cn_of_not (by unfold isNaN; rw [h1]; rfl)]
 exact h1
theorem fin_of_number {x : Nat} {s : Bool} {m : Nat} {e : Int} (h : FloatKind.f32.decode x = .number s m e) : feq .f32 (fsub .f32 x x) 0 = true := by
 obtain ⟨S,M,base,h1,h2,h3⟩ := sub_ex (ex32 h) (ex32 h)
 have hM : M = 0 := by
  rw [Int.sub_self] at h3
  have : M * 2 ^ (base - FloatKind.f32.format.leastPlace).toNat = 0 := by
   unfold sg at h3; split at h3 <;> omega
  rcases Nat.mul_eq_zero.1 this with h | h
  ·exact h
  ·have := Nat.two_pow_pos (base - FloatKind.f32.format.leastPlace).toNat; omega
 subst hM
 have hw : fsub .f32 x x = FloatKind.f32.format.nearest S 0 base := by
  unfold fsub op2; rw [h1]; rfl
 rw [hw]
 unfold Format.nearest
 rw [if_pos rfl]
 cases S <;> decide
theorem neg_range {r : Nat} (hf : feq .f32 (fsub .f32 r r) 0 = true) (hp : flt .f32 0 r = true) : feq .f32 (fsub .f32 (fneg .f32 r) (fneg .f32 r)) 0 = true ∧ flt .f32 (fneg .f32 r) r = true := by
 obtain ⟨s,m,e,h⟩ := fin32 hf
 have hn : FloatKind.f32.decode (fneg .f32 r) = .number (!s) m e := fneg_number h
 refine ⟨fin_of_number hn,?_⟩
 have h0 : Ex FloatKind.f32.format false 0 0 := ⟨0,-149,decode_zero32,by decide,by decide⟩
 have o1 := order_ex h0 (ex32 h)
 have o2 := order_ex (ex32 hn) (ex32 h)
 have hp' : FloatKind.f32.format.order 0 r == some .lt := hp
 unfold Format.order at hp'
 rw [o1] at hp'
 have h5 : compare (sg false 0) (sg s (m * 2 ^ (e + 149).toNat)) = .lt := by simpa using hp'
 have h6 := Int.compare_eq_lt.1 h5
 have h7 : sg (!s) (m * 2 ^ (e + 149).toNat) < sg s (m * 2 ^ (e + 149).toNat) := by
  revert h6
  generalize m * 2 ^ (e + 149).toNat = v
  unfold sg
  cases s <;> simp <;> omega
 show (FloatKind.f32.format.order (fneg .f32 r) r == some .lt) = true
 unfold Format.order
 rw [o2,Int.compare_eq_lt.2 h7]; rfl

theorem wrapN {n : Nat} (h : n < 2 ^ 63) : IntKind.wrap .i64 (n : Int) = n := by
 unfold IntKind.wrap
 simp only [IntKind.bits,IntKind.signed]
 simp
 omega
theorem bit_and_mask {n k : Nat} (hn : n < 2 ^ 63) (hk : k < 63) : bitop .and .i64 (n : Int) ((2 ^ k - 1 : Nat) : Int) = ((n % 2 ^ k : Nat) : Int) := by
 have hpk : 2 ^ k < 2 ^ 63 := Nat.pow_lt_pow_right (by omega) hk
 have hp0 := Nat.two_pow_pos k
 have e2 : ∀ v : Nat,v < 2 ^ 63 → (BitVec.ofInt (IntKind.bits .i64) (v : Int)) = BitVec.ofNat 64 v := by
  intro v hv
  apply BitVec.eq_of_toNat_eq
  show (BitVec.ofInt 64 (v : Int)).toNat = (BitVec.ofNat 64 v).toNat
  rw [BitVec.toNat_ofInt,BitVec.toNat_ofNat]
  omega
 unfold bitop
 show IntKind.wrap .i64 ((BitVec.ofInt (IntKind.bits .i64) (n : Int) &&& BitVec.ofInt (IntKind.bits .i64) ((2 ^ k - 1 : Nat) : Int)).toNat : Int) = _
 rw [e2 n hn,e2 (2 ^ k - 1) (by omega)]
 have e3 : ((BitVec.ofNat 64 n &&& BitVec.ofNat 64 (2 ^ k - 1)).toNat) = n % 2 ^ k := by
  rw [BitVec.toNat_and,BitVec.toNat_ofNat,BitVec.toNat_ofNat,Nat.mod_eq_of_lt (by omega),Nat.mod_eq_of_lt (by omega),Nat.and_two_pow_sub_one_eq_mod]
 show IntKind.wrap .i64 (((BitVec.ofNat 64 n &&& BitVec.ofNat 64 (2 ^ k - 1)).toNat : Nat) : Int) = _
 rw [e3]
 have h5 : n % 2 ^ k < 2 ^ 63 := Nat.lt_of_lt_of_le (Nat.mod_lt _ hp0) (Nat.le_of_lt hpk)
 exact wrapN h5
end Go.Ab

