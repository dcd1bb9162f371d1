/- Calls, regions in any order, code, functions, and what a row hands over: all as the abstract reading says. No conditions. -/
import Derived.Test.YtadbhabmahpkiacFwC
import Derived.Tactics
set_option linter.all false
namespace Go.Ab
open Go.RowKit

section
variable {P : Program} {cf : Cfg} {ρ : Nat → Option Nat} {st : St} {a : Act} {w : World}

def CallOk (P : Program) (f : FuncId) (args : Array Value) (w : World) (R : Value → World → Prop) : Prop :=
 (∃ v w',(callFunc f args).run P w = .ok (.value v) w' ∧ R v w') ∨
 ((callFunc f args).run P w = .ok (.enter f args) w ∧ Calls P f args w fun e w' => ∃ v,e = .returned v ∧ R v w')

def Res (Z : Nat → Prop) (w : World) (r : AV) (v : Value) (w' : World) : Prop :=
 Below w.heap.size w w' ∧ V0 w' (fun b => Z b ∨ w.heap.size ≤ b ∧ b < w'.heap.size) v r

def Says (P : Program) (f : FuncId) (vs : List AV) (r : AV) : Prop :=
 ∀ (w : World) (Z : Nat → Prop) (args : Array Value),(∀ b,Z b → b < w.heap.size) → args.size = vs.length →
  (∀ (i : Nat) c d,args[i]? = some c → vs[i]? = some d → V0 w Z c d) → CallOk P f args w (Res Z w r)
inductive OwnL (w : World) (lo : Nat) : List Nat → List Value → List AV → List Nat → Prop
 | nil : OwnL w lo [] [] [] []
 | flat {v : Value} {x : AV} {es : List Nat} {vs : List Value} {xs : List AV} {Bs : List Nat} (hf : flatC x = true) (hv : V0 w (fun _ => False) v x) (h : OwnL w lo es vs xs Bs) : OwnL w lo es (v :: vs) (x :: xs) Bs
 | none {v : Value} {e : Nat} {es : List Nat} {vs : List Value} {xs : List AV} {Bs : List Nat} (hv : Nil0 v) (h : OwnL w lo es vs xs Bs) : OwnL w lo (e :: es) (v :: vs) (.sl [] :: xs) Bs
 | sl {B cap e : Nat} {ys : List AV} {c : Array Value} {t : TypeId} {es : List Nat} {vs : List Value} {xs : List AV} {Bs : List Nat} (hlo : lo ≤ B) (hb : w.heap[B]? = some (.cells c t (0,0))) (hl : ys.length ≤ cap) (hm : ys.length ≤ maxLen) (hc : cap * e ≤ c.size)
   (hes : ∀ y ∈ ys,y.cells.length = e) (hv : ∀ (i : Nat) x (j : Nat) d v,ys[i]? = some x → x.cells[j]? = some d → c[i * e + j]? = some v → V0 w (fun _ => False) v d) (hn : B ∉ Bs) (h : OwnL w lo es vs xs Bs) :
   OwnL w lo (e :: es) (.slice (some ⟨B,0,Option.none⟩) ys.length cap :: vs) (.sl ys :: xs) (B :: Bs)

theorem OwnL.v0 {lo : Nat} {es : List Nat} {vs : List Value} {xs : List AV} {Bs : List Nat} (h : OwnL w lo es vs xs Bs) : ∀ (i : Nat) c d,vs[i]? = some c → xs[i]? = some d → V0 w (fun b => lo ≤ b ∧ b < w.heap.size) c d := by
 induction h with
 | nil => intro i c d h1; simp at h1
 | flat hf hv _ ih =>
  intro i c d h1 h2
  cases i with
  | zero => simp at h1 h2; subst h1; subst h2; exact hv.mono fun b hb => hb.elim
  | succ i => simp at h1 h2; exact ih i c d h1 h2
 | none hv _ ih =>
  intro i c d h1 h2
  cases i with
  | zero => simp at h1 h2; subst h1; subst h2; exact hv.v0
  | succ i => simp at h1 h2; exact ih i c d h1 h2
 | @sl B cap e ys cs t es vs xs Bs hlo hb hl hm hc hes hv hn _ ih =>
  intro i c d h1 h2
  cases i with
  | zero =>
   simp at h1 h2; subst h1; subst h2
   have hlt : ∀ (i : Nat) x (j : Nat) d,ys[i]? = some x → x.cells[j]? = some d → i * e + j < cs.size := fun i x j d q1 q2 => by
    have hi := (List.getElem?_eq_some_iff.1 q1).1
    have hj : j < e := by rw [← hes x (List.mem_of_getElem? q1)]; exact (List.getElem?_eq_some_iff.1 q2).1
    have := idx_lt hi hj
    have := Nat.mul_le_mul_right e hl
    omega
   refine .sl B 0 ys.length cap e ys rfl hl hm (fun _ => ⟨hlo,(Array.getElem?_eq_some_iff.1 hb).1⟩) hes (fun i x j d q1 q2 => ?_) (fun i x j d c q1 q2 q3 => ?_)
   ·rw [Nat.zero_add,cell_of w B _ cs t _ hb]
    exact ⟨_,Array.getElem?_eq_getElem (hlt i x j d q1 q2)⟩
   ·rw [Nat.zero_add,cell_of w B _ cs t _ hb] at q3
    exact (hv i x j d c q1 q2 q3).mono fun b hb => hb.elim
  | succ i => simp at h1 h2; exact ih i c d h1 h2

inductive OwnT (w : World) (lo : Nat) : List Nat → List Value → List AV → List Nat → Prop
 | nil : OwnT w lo [] [] [] []
 | cons {v : Value} {x : AV} {es es' : List Nat} {vs : List Value} {xs : List AV} {Bs Bs' : List Nat} (h : OwnL w lo es v.cells.toList x.cells Bs) {Z : Nat → Prop} (hv : V0 w Z v x) (hn : es.length = nSl x.cells) (hd : ∀ B ∈ Bs,B ∉ Bs') (ht : OwnT w lo es' vs xs Bs') : OwnT w lo (es ++ es') (v :: vs) (x :: xs) (Bs ++ Bs')
def OwnR (w : World) (lo : Nat) (es : List Nat) (v : Value) (r : AV) : Prop := match r with
 | .tup ds => ∃ (vs : Array Value) (Bs : List Nat),v = .tuple vs ∧ OwnT w lo es vs.toList ds Bs
 | r => ∃ Bs,OwnL w lo es v.cells.toList r.cells Bs

def HW (H : List (Nat × Blk)) : Nat → Option Blk := lk none (H.map fun p => (p.1,some p.2))
def OwnH (w : World) (lo : Nat) (v : Value) (r' : AV) (H : List (Nat × Blk)) : Prop :=
 ∃ ρ' : Nat → Option Nat,Hp ρ' (HW H) w (fun _ => False) ∧ V ρ' (HW H) w (fun _ => False) v r' ∧ ∀ l B,(HW H l).isSome = true → ρ' l = some B → lo ≤ B
def ClsH (H : List (Nat × Blk)) : Prop := ∀ p ∈ H,1000000 ≤ p.1 ∧ p.1 % 4 = 3
def ResM (m : Md) (Z : Nat → Prop) (w : World) (r : AV) (v : Value) (w' : World) : Prop := match m with
 | .any => Res Z w r v w'
 | .new => Below w.heap.size w w' ∧ V0 w' (fun b => w.heap.size ≤ b ∧ b < w'.heap.size) v r
 | .own es => Below w.heap.size w w' ∧ V0 w' (fun b => w.heap.size ≤ b ∧ b < w'.heap.size) v r ∧ OwnR w' w.heap.size es v r
 | .ownH r' H => Below w.heap.size w w' ∧ V0 w' (fun b => w.heap.size ≤ b ∧ b < w'.heap.size) v r ∧ OwnH w' w.heap.size v r' H ∧ ClsH H
 | .wr .. => False
 | .wrH _ => False
 | .tk .. => False
def SaysM (P : Program) (m : Md) (f : FuncId) (vs : List AV) (r : AV) : Prop :=
 ∀ (w : World) (Z : Nat → Prop) (args : Array Value),(∀ b,Z b → b < w.heap.size) → args.size = vs.length →
  (∀ (i : Nat) c d,args[i]? = some c → vs[i]? = some d → V0 w Z c d) → CallOk P f args w (ResM m Z w r)
theorem CallOk.mono {f : FuncId} {args : Array Value} {R R' : Value → World → Prop} (h : CallOk P f args w R) (hR : ∀ v w',R v w' → R' v w') : CallOk P f args w R' := by
 rcases h with ⟨v,w',g1,g2⟩ | ⟨g1,g2⟩
 ·exact .inl ⟨v,w',g1,hR v w' g2⟩
 ·exact .inr ⟨g1,Calls.mono g2 fun e w' he => let ⟨v,e1,e2⟩ := he; ⟨v,e1,hR v w' e2⟩⟩
structure WrW (ρ : Nat → Option Nat) (H H' : List (Nat × Blk)) (w w' : World) : Prop where
 os : w'.os = w.os
 tape : w'.tape = w.tape
 output : w'.output = w.output
 size : w.heap.size ≤ w'.heap.size
 block : ∀ k,k < w.heap.size → (∀ l,(HW H l).isSome = true → ρ l ≠ some k) → w'.heap[k]? = w.heap[k]?
 shape : ∀ k,k < w.heap.size → w'.shape? k = w.shape? k
 hp : Hp ρ (HW H') w' (fun _ => False)
def SaysW (P : Program) (f : FuncId) (vs : List AV) (H : List (Nat × Blk)) (r : AV) (H' : List (Nat × Blk)) : Prop :=
 ∀ (w : World) (ρ : Nat → Option Nat) (args : Array Value),Hp ρ (HW H) w (fun _ => False) → args.size = vs.length →
  (∀ (i : Nat) c d,args[i]? = some c → vs[i]? = some d → V ρ (HW H) w (fun _ => False) c d) → CallOk P f args w fun v w' => V0 w' (fun _ => False) v r ∧ WrW ρ H H' w w'
def SaysT (P : Program) (f : FuncId) (es : Nat) (xs ys : List AV) : Prop :=
 ∀ (w : World) (B cap : Nat) (c : Array Value) (t : TypeId),w.heap[B]? = some (.cells c t (0,0)) → xs.length ≤ cap → cap * es ≤ c.size → xs.length ≤ maxLen → (∀ x ∈ xs,x.cells.length = es) →
  (∀ (i : Nat) x (j : Nat) d v,xs[i]? = some x → x.cells[j]? = some d → c[i * es + j]? = some v → V0 w (fun _ => False) v d) →
  CallOk P f #[.slice (some ⟨B,0,none⟩) xs.length cap] w fun v w' => v = .slice (some ⟨B,0,none⟩) ys.length cap ∧ ys.length ≤ xs.length ∧ (∀ y ∈ ys,y.cells.length = es) ∧ w'.os = w.os ∧ w'.tape = w.tape ∧ w'.output = w.output ∧ w.heap.size ≤ w'.heap.size ∧
   (∀ k,k < w.heap.size → k ≠ B → w'.heap[k]? = w.heap[k]?) ∧ ∃ c',w'.heap[B]? = some (.cells c' t (0,0)) ∧ c'.size = c.size ∧ ∀ (i : Nat) y (j : Nat) d v,ys[i]? = some y → y.cells[j]? = some d → c'[i * es + j]? = some v → ∀ (u : World) (Z : Nat → Prop),V0 u Z v d
def ClosC (H : List (Nat × Blk)) (d : AV) : Prop := flatC d = true ∨ ∃ l off len,d = .lsl l off len ∧ (HW H l).isSome = true
structure NestH (vs : List AV) (H H' : List (Nat × Blk)) : Prop where
 args : ∀ v ∈ vs,∀ d ∈ v.cells,ClosC H d
 blks : ∀ l b,HW H l = some b → ∀ x ∈ b.elems,∀ d ∈ x.cells,ClosC H d
 same : ∀ l b,HW H l = some b → ∃ b',HW H' l = some b' ∧ b'.es = b.es ∧ b'.elems.length = b.elems.length
 back : ∀ l,(HW H' l).isSome = true → (HW H l).isSome = true
def SaysX (P : Program) (m : Md) (f : FuncId) (vs : List AV) (r : AV) : Prop := match m with
 | .wr ess yss => ∀ vs' H,nmAs 1000000 ess vs = some (vs',H,[]) → ∃ H',zipW H yss = some H' ∧ SaysW P f vs' H r H'
 | .tk es ys => ∀ xs,vs = [.sl xs] → xs ≠ [] ∧ SaysT P f es xs ys
 | .wrH H' => ∀ vs' H,vs = vs' ++ [hEnc H] → flatT r = true ∧ NestH vs' H H' ∧ SaysW P f vs' H r H'
 | m => SaysM P m f vs r
def TabOk (P : Program) (tab : Tab) : Prop := ∀ f vs r m,tab f vs = some (r,m) → SaysX P m f vs r
def TabOkC (P : Program) (cf : Cfg) (tab : Tab) : Prop := TabOk P tab ∧ (cf.k3 = true → ∀ f vs r m,tab f vs = some (r,m) → m.isOwnH = false)
theorem SaysX.saysM {m : Md} {f : FuncId} {vs : List AV} {r : AV} (h : SaysX P m f vs r) (hm : m.isWr = false) : SaysM P m f vs r := by
 cases m <;> first | exact h | cases hm
theorem ResM.res {m : Md} {Z : Nat → Prop} {r : AV} {v : Value} {w' : World} (h : ResM m Z w r v w') : Res Z w r v w' := by
 cases m with
 | any => exact h
 | new => exact ⟨h.1,h.2.mono fun b hb => ⟨.inr hb,rfl⟩⟩
 | own es => exact ⟨h.1,h.2.1.mono fun b hb => ⟨.inr hb,rfl⟩⟩
 | ownH r' H => exact ⟨h.1,h.2.1.mono fun b hb => ⟨.inr hb,rfl⟩⟩
 | wr => exact h.elim
 | wrH => exact h.elim
 | tk => exact h.elim
theorem ResM.new {m : Md} (hm : m.isNew = true) {Z : Nat → Prop} {r : AV} {v : Value} {w' : World} (h : ResM m Z w r v w') : Below w.heap.size w w' ∧ V0 w' (fun b => w.heap.size ≤ b ∧ b < w'.heap.size) v r := by
 cases m with
 | any => cases hm
 | new => exact h
 | own es => exact ⟨h.1,h.2.1⟩
 | ownH r' H => exact ⟨h.1,h.2.1⟩
 | wr => cases hm
 | wrH => cases hm
 | tk => cases hm
theorem SaysM.says {m : Md} {f : FuncId} {vs : List AV} {r : AV} (h : SaysM P m f vs r) : Says P f vs r := fun w Z args h1 h2 h3 => (h w Z args h1 h2 h3).mono fun _ _ hr => hr.res

def Zo (Z : Nat → Prop) (ρ : Nat → Option Nat) (h : Nat → Option Blk) (b : Nat) : Prop := Z b ∨ ∃ l,(h l).isSome = true ∧ ρ l = some b

section
variable {h : Nat → Option Blk} {Z : Nat → Prop}

theorem V.flatC {v : Value} {x : AV} (hv : V ρ h w Z v x) (hx : flatC x = true) {w' : World} {Z' : Nat → Prop} : V0 w' Z' v x := by
 cases x <;> first | cases hx | skip
 all_goals
  cases hv with
  | pure h0 =>
   cases h0 <;> constructor <;> assumption
theorem V.flatE {v : Value} {x : AV} (hv : V ρ h w Z v x) (hx : flatE x = true) {w' : World} {Z' : Nat → Prop} : V0 w' Z' v x := by
 cases x with
 | agg cs =>
  obtain ⟨vs,rfl,hl,hd⟩ := agg_inv hv
  simp only [Go.Ab.flatE,List.all_eq_true] at hx
  exact .agg vs cs hl fun i c d hc hd' => (hd i c d hc hd').flatC (hx d (List.mem_of_getElem? hd'))
 | _ => exact hv.flatC hx
theorem V.flatT {v : Value} {x : AV} (hv : V ρ h w Z v x) (hx : flatT x = true) {w' : World} {Z' : Nat → Prop} : V0 w' Z' v x := by
 cases x with
 | tup cs =>
  obtain ⟨vs,rfl,hl,hd⟩ := tup_inv hv
  simp only [Go.Ab.flatT,List.all_eq_true] at hx
  exact .tup vs cs hl fun i c d hc hd' => (hd i c d hc hd').flatE (hx d (List.mem_of_getElem? hd'))
 | _ => exact hv.flatE hx

theorem V0.widen {Z' : Nat → Prop} {v : Value} {x : AV} (hv : V0 w Z v x) (hz : ∀ b,Z b → Z' b) : V0 w Z' v x := hv.mono (w := w) (w' := w) fun b hb => ⟨hz b hb,rfl⟩

theorem pure0_ok (hp : Hp ρ h w Z) {v : Value} {x p : AV} (hv : V ρ h w Z v x) (hx : pure0 h x = some p) : V0 w (Zo Z ρ h) v p := by
 have hz : ∀ b,Z b → Zo Z ρ h b := fun b hb => .inl hb
 cases x with
 | lsl l off len =>
  simp only [pure0,partL_eq] at hx
  rcases lsl_inv hv with ⟨B,b,t,n,cap,h1,h2,h3,rfl,h4,h5,h6,h7⟩ | ⟨b,h1,h2,hnil,rfl,rfl⟩
  ·rw [h2] at hx
   dsimp only at hx
   split at hx
   ·rename_i hpur
    cases hx
    obtain ⟨c,ct,g1,g2,g3,_,g5⟩ := hp.blk l b B h2 h1
    have hlen : ((b.elems.drop off).take len).length = len := by simp; omega
    have get : ∀ (i : Nat) x,((b.elems.drop off).take len)[i]? = some x → b.elems[off + i]? = some x := by
     intro i x hx
     have hi : i < len := by
      have := (List.getElem?_eq_some_iff.1 hx).1
      omega
     rw [List.getElem?_take_of_lt hi,List.getElem?_drop] at hx
     exact hx
    refine .sl B (off * b.es) len cap b.es _ hlen h4 h7 (fun _ => .inr ⟨l,by rw [h2]; rfl,h1⟩) (fun x hx => g3 x (List.mem_of_mem_drop (List.mem_of_mem_take hx))) (fun i x j d q1 q2 => ?_) (fun i x j d u q1 q2 q3 => ?_)
    ·have q1' := get i x q1
     have hi := (List.getElem?_eq_some_iff.1 q1').1
     have hj : j < b.es := by rw [← g3 x (List.mem_of_getElem? q1')]; exact (List.getElem?_eq_some_iff.1 q2).1
     have hk := idx_lt hi hj
     rw [cell_of w B _ c ct _ g1,← Nat.add_mul]
     exact ⟨_,Array.getElem?_eq_getElem (show (off + i) * b.es + j < c.size by omega)⟩
    ·have q1' := get i x q1
     rw [cell_of w B _ c ct _ g1,← Nat.add_mul] at q3
     exact (g5 hpur.1 (off + i) x j d u q1' q2 q3).widen hz
   ·cases hx
  ·rw [h2] at hx
   dsimp only at hx
   split at hx
   ·cases hx; exact hnil.v0
   ·cases hx
 | agg cs => cases hx
 | tup cs => cases hx
 | lptr l i off => cases hx
 | fn f c1 c2 =>
  cases c1 with
  | nil =>
   cases c2 with
   | nil =>
    cases hx
    cases hv with
    | pure h0 => exact h0.widen hz
    | fn _ a1 a2 _ _ l1 l2 _ _ => exact .fn f a1 a2 [] [] l1 l2 (fun i c d _ hd => by simp at hd) (fun i c d _ hd => by simp at hd)
   | cons => cases hx
  | cons => cases hx
 | _ =>
  cases hx
  cases hv with
  | pure h0 => exact h0.widen hz

theorem pure0X_cells (hp : Hp ρ h w Z) {x p : AV} (hx : pure0X h x = some p) : x.cells.length = p.cells.length ∧ ∀ (j : Nat) d e v,x.cells[j]? = some d → p.cells[j]? = some e → V ρ h w Z v d → V0 w (Zo Z ρ h) v e := by
 have single : ∀ {x p : AV},x.cells = [x] → p.cells = [p] → pure0 h x = some p → x.cells.length = p.cells.length ∧ ∀ (j : Nat) d e v,x.cells[j]? = some d → p.cells[j]? = some e → V ρ h w Z v d → V0 w (Zo Z ρ h) v e := by
  intro x p e1 e2 hx
  rw [e1,e2]
  refine ⟨rfl,fun j d e v q1 q2 hv => ?_⟩
  obtain ⟨rfl,rfl⟩ := single_get q1
  obtain ⟨_,rfl⟩ := single_get q2
  exact pure0_ok hp hv hx
 cases x with
 | agg cs =>
  simp only [pure0X,Option.map_eq_some_iff] at hx
  obtain ⟨ps,hm,rfl⟩ := hx
  obtain ⟨h1,h2⟩ := mapM_some hm
  exact ⟨h1,fun j d e v q1 q2 hv => pure0_ok hp hv (h2 j d e q1 q2)⟩
 | tup cs => cases hx
 | lptr l i off => cases hx
 | fn f c1 c2 =>
  cases c1 with
  | nil =>
   cases c2 with
   | nil =>
    have hx' := hx
    cases hx; exact single rfl rfl hx'
   | cons => cases hx
  | cons => cases hx
 | lsl l off len =>
  have hx' := hx
  simp only [pure0X,pure0] at hx
  split at hx
  ·split at hx
   ·cases hx; exact single rfl rfl hx'
   ·cases hx
  ·cases hx
 | _ => cases hx; exact single rfl rfl rfl

theorem pure1_ok (hp : Hp ρ h w Z) {v : Value} {x p : AV} (hv : V ρ h w Z v x) (hx : pure1 h x = some p) : V0 w (Zo Z ρ h) v p := by
 cases x with
 | lsl l off len =>
  have old : pure0 h (.lsl l off len) = some p → V0 w (Zo Z ρ h) v p := pure0_ok hp hv
  simp only [pure1] at hx
  simp only [pure0] at old
  cases hb : h l with
  | none => rw [hb] at hx; cases hx
  | some b =>
   rw [hb] at hx old
   dsimp only at hx old
   by_cases hc : b.pur = true ∧ off + len ≤ b.elems.length
   ·rw [if_pos hc] at hx old
    exact old hx
   ·rw [if_neg hc] at hx
    split at hx
    ·rename_i hol
     obtain ⟨rfl,rfl⟩ := hol
     simp only [Option.map_eq_some_iff] at hx
     obtain ⟨ys,hys,rfl⟩ := hx
     obtain ⟨m1,m2⟩ := mapM_some hys
     rcases lsl_inv hv with ⟨B,b',t,n,cap,h1,h2,h3,rfl,h4,h5,h6,h7⟩ | ⟨b',h1,h2,hnil,_,h0⟩
     ·rw [hb] at h2; cases h2
      obtain ⟨c,ct,g1,g2,g3,g4,_⟩ := hp.blk l b B hb h1
      have el : ∀ (i : Nat) y,ys[i]? = some y → ∃ x,b.elems[i]? = some x ∧ pure0X h x = some y := by
       intro i y hy
       have hi : i < b.elems.length := by rw [m1]; exact (List.getElem?_eq_some_iff.1 hy).1
       exact ⟨b.elems[i],by simp [hi],m2 i _ y (by simp [hi]) hy⟩
      refine .sl B (0 * b.es) b.elems.length cap b.es ys m1.symm h4 h7 (fun _ => .inr ⟨l,by rw [hb]; rfl,h1⟩) (fun y hy => ?_) (fun i y j d q1 q2 => ?_) (fun i y j d u q1 q2 q3 => ?_)
      ·obtain ⟨i,hi⟩ := List.mem_iff_getElem?.1 hy
       obtain ⟨x,hx1,hx2⟩ := el i y hi
       rw [← (pure0X_cells hp hx2).1]; exact g3 x (List.mem_of_getElem? hx1)
      ·obtain ⟨x,hx1,hx2⟩ := el i y q1
       have hi := (List.getElem?_eq_some_iff.1 hx1).1
       have hj : j < b.es := by
        rw [← g3 x (List.mem_of_getElem? hx1),(pure0X_cells hp hx2).1]; exact (List.getElem?_eq_some_iff.1 q2).1
       have hk := idx_lt hi hj
       rw [cell_of w B _ c ct _ g1,Nat.zero_mul,Nat.zero_add]
       exact ⟨_,Array.getElem?_eq_getElem (show i * b.es + j < c.size by omega)⟩
      ·obtain ⟨x,hx1,hx2⟩ := el i y q1
       obtain ⟨k1,k2⟩ := pure0X_cells hp hx2
       rw [cell_of w B _ c ct _ g1,Nat.zero_mul,Nat.zero_add] at q3
       have hj : j < x.cells.length := by rw [k1]; exact (List.getElem?_eq_some_iff.1 q2).1
       have hj' : x.cells[j]? = some x.cells[j] := by simp [hj]
       exact k2 j _ d u hj' q2 (g4 i x j _ u hx1 hj' q3)
     ·rw [hb] at h2; cases h2
      have he := hp.nil l b hb h1
      rw [he] at m1
      have : ys = [] := List.eq_nil_of_length_eq_zero (by simpa using m1.symm)
      subst this
      exact hnil.v0
    ·cases hx
 | agg cs => cases hx
 | tup cs => cases hx
 | lptr l i off => cases hx
 | fn f c1 c2 =>
  have hx' : pure0 h (.fn f c1 c2) = some p := by
   cases c1 <;> cases c2 <;> exact hx
  exact pure0_ok hp hv hx'
 | _ => exact pure0_ok hp hv hx

theorem pureX_ok (hp : Hp ρ h w Z) {v : Value} {x p : AV} (hv : V ρ h w Z v x) (hx : pureX h x = some p) : V0 w (Zo Z ρ h) v p := by
 cases x with
 | agg cs =>
  obtain ⟨vs,rfl,hl,hd⟩ := agg_inv hv
  simp only [pureX,Option.map_eq_some_iff] at hx
  obtain ⟨ps,hm,rfl⟩ := hx
  obtain ⟨h1,h2⟩ := mapM_some hm
  refine .agg vs ps (by rw [hl,h1]) fun i c d hc hd' => ?_
  have hi : i < cs.length := by rw [h1]; exact (List.getElem?_eq_some_iff.1 hd').1
  have hx' : cs[i]? = some cs[i] := by simp [hi]
  exact pure1_ok hp (hd i c _ hc hx') (h2 i _ d hx' hd')
 | _ => exact pure1_ok hp hv hx

theorem pureX_cells (hp : Hp ρ h w Z) {x p : AV} (hx : pureX h x = some p) : x.cells.length = p.cells.length ∧ ∀ (j : Nat) d e v,x.cells[j]? = some d → p.cells[j]? = some e → V ρ h w Z v d → V0 w (Zo Z ρ h) v e := by
 have single : ∀ {x p : AV},x.cells = [x] → p.cells = [p] → pure1 h x = some p → x.cells.length = p.cells.length ∧ ∀ (j : Nat) d e v,x.cells[j]? = some d → p.cells[j]? = some e → V ρ h w Z v d → V0 w (Zo Z ρ h) v e := by
  intro x p e1 e2 hx
  rw [e1,e2]
  refine ⟨rfl,fun j d e v q1 q2 hv => ?_⟩
  obtain ⟨rfl,rfl⟩ := single_get q1
  obtain ⟨_,rfl⟩ := single_get q2
  exact pure1_ok hp hv hx
 cases x with
 | agg cs =>
  simp only [pureX,Option.map_eq_some_iff] at hx
  obtain ⟨ps,hm,rfl⟩ := hx
  obtain ⟨h1,h2⟩ := mapM_some hm
  exact ⟨h1,fun j d e v q1 q2 hv => pure1_ok hp hv (h2 j d e q1 q2)⟩
 | tup cs => cases hx
 | lptr l i off => cases hx
 | fn f c1 c2 =>
  cases c1 with
  | nil =>
   cases c2 with
   | nil =>
    have hx' := hx
    cases hx; exact single rfl rfl hx'
   | cons => cases hx
  | cons => cases hx
 | lsl l off len =>
  have hx' := hx
  simp only [pureX,pure1] at hx
  split at hx
  ·split at hx
   ·cases hx; exact single rfl rfl hx'
   ·split at hx
    ·simp only [Option.map_eq_some_iff] at hx
     obtain ⟨ys,_,rfl⟩ := hx
     exact single rfl rfl hx'
    ·cases hx
  ·cases hx
 | _ => cases hx; exact single rfl rfl rfl

theorem pureP_ok (hp : Hp ρ h w Z) {v : Value} {x p : AV} (hv : V ρ h w Z v x) (hx : pureV.pureP h x = some p) : V0 w (Zo Z ρ h) v p := by
 cases x with
 | lptr l i off =>
  simp only [pureV.pureP] at hx
  split at hx
  ·rename_i b hb
   split at hx
   ·rename_i x hxi
    simp only [Option.map_eq_some_iff] at hx
    obtain ⟨q,hq,rfl⟩ := hx
    cases hv with
    | pure h0 => cases h0
    | lptr _ _ _ B b' hρ hh =>
     rw [hb] at hh; cases hh
     obtain ⟨hl,hc⟩ := pureX_cells hp hq
     obtain ⟨c,ct,g1,g2,g3,g4,_⟩ := hp.blk l b B hb hρ
     have hi := (List.getElem?_eq_some_iff.1 hxi).1
     have hes := g3 x (List.mem_of_getElem? hxi)
     refine .ptr B (i * b.es) off q (fun _ => .inr ⟨l,by rw [hb]; rfl,hρ⟩) (fun j d q2 => ?_) (fun j d u q2 q3 => ?_)
     ·have hj : j < b.es := by rw [← hes,hl]; exact (List.getElem?_eq_some_iff.1 q2).1
      have hk := idx_lt hi hj
      rw [cell_of w B _ c ct _ g1]
      exact ⟨_,Array.getElem?_eq_getElem (show i * b.es + j < c.size by omega)⟩
     ·have hj : j < x.cells.length := by rw [hl]; exact (List.getElem?_eq_some_iff.1 q2).1
      have hj' : x.cells[j]? = some x.cells[j] := by simp [hj]
      rw [cell_of w B _ c ct _ g1] at q3
      exact hc j _ d u hj' q2 (g4 i x j _ u hxi hj' q3)
   ·cases hx
  ·cases hx
 | _ => exact pureX_ok hp hv hx

theorem pureV_ok (hp : Hp ρ h w Z) {v : Value} {x p : AV} (hv : V ρ h w Z v x) (hx : pureV h x = some p) : V0 w (Zo Z ρ h) v p := by
 cases x with
 | lptr l i off => exact pureP_ok hp hv hx
 | fn f c1 c2 =>
  simp only [pureV] at hx
  split at hx
  ·rename_i p1 p2 h1 h2
   cases hx
   obtain ⟨m1,n1⟩ := mapM_some h1
   obtain ⟨m2,n2⟩ := mapM_some h2
   have get : ∀ {cs ps : List AV} {vs : Array Value},vs.size = cs.length → cs.length = ps.length → (∀ (i : Nat) c d,vs[i]? = some c → cs[i]? = some d → V ρ h w Z c d) → (∀ (i : Nat) x y,cs[i]? = some x → ps[i]? = some y → pureV.pureP h x = some y) →
     ∀ (i : Nat) c d,vs[i]? = some c → ps[i]? = some d → V0 w (Zo Z ρ h) c d := by
    intro cs ps vs e1 e2 hd hq i c d hc hd'
    have hi : i < cs.length := by rw [e2]; exact (List.getElem?_eq_some_iff.1 hd').1
    have hx' : cs[i]? = some cs[i] := by simp [hi]
    exact pureP_ok hp (hd i c _ hc hx') (hq i _ d hx' hd')
   cases hv with
   | pure h0 =>
    cases h0 with
    | fn _ d1 d2 _ _ l1 l2 r1 r2 => exact .fn _ _ _ _ _ (by rw [l1,m1]) (by rw [l2,m2]) (get l1 m1 (fun i c d hc hd => .pure (r1 i c d hc hd)) n1) (get l2 m2 (fun i c d hc hd => .pure (r2 i c d hc hd)) n2)
   | fn _ d1 d2 _ _ l1 l2 r1 r2 => exact .fn _ _ _ _ _ (by rw [l1,m1]) (by rw [l2,m2]) (get l1 m1 r1 n1) (get l2 m2 r2 n2)
  ·cases hx
 | _ => exact pureX_ok hp hv hx

theorem pure1_refless {x p : AV} (hx : pure1 h x = some p) (hr : refless1 x = true) : p = x := by
 cases x with
 | fn f a b =>
  cases a with
  | nil =>
   cases b with
   | nil => cases hx; rfl
   | cons => cases hx
  | cons => cases hx
 | _ => first | (simp [pure1] at hx; done) | (simp [pure1] at hx; exact hx.symm) | cases hr
theorem pureV_refless {x p : AV} (hx : pureV h x = some p) (hr : refless x = true) : p = x := by
 cases x with
 | agg cs =>
  simp only [pureV,pureX,Option.map_eq_some_iff] at hx
  obtain ⟨ps,hm,rfl⟩ := hx
  obtain ⟨h1,h2⟩ := mapM_some hm
  simp only [refless,List.all_eq_true] at hr
  congr 1
  refine (List.ext_getElem? fun i => ?_).symm
  by_cases hi : i < cs.length
  ·have hx' : cs[i]? = some cs[i] := by simp [hi]
   have hy' : ps[i]? = some (ps[i]'(by omega)) := by simp [h1 ▸ hi]
   have := pure1_refless (h2 i _ _ hx' hy') (hr _ (List.mem_of_getElem? hx'))
   rw [hx',hy',this]
  ·rw [List.getElem?_eq_none (by omega),List.getElem?_eq_none (by omega)]
 | fn f c1 c2 =>
  simp only [refless,refless1,Bool.and_eq_true,List.isEmpty_iff] at hr
  obtain ⟨rfl,rfl⟩ := hr
  simp [pureV] at hx
  exact hx.symm
 | lptr l i off => cases hr
 | lsl l i off => cases hr
 | tup l => cases hr
 | _ => simp [pureV,pureX,pure1] at hx; exact hx.symm
end

theorem StRρ.below (h : StRρ cf ρ st a w) {w' : World} (hb : Below w.heap.size w w') : StRρ cf ρ st a w' := by
 have hz : ∀ b,Zf cf.Z0 cf.base ρ st.hp w b → Zf cf.Z0 cf.base ρ st.hp w' b ∧ w'.heap[b]? = w.heap[b]? := fun b hz => ⟨⟨hz.1,Nat.lt_of_lt_of_le hz.2.1 hb.size,hz.2.2⟩,hb.block b hz.2.1⟩
 have own : ∀ l b B,st.hp l = some b → ρ l = some B → w'.heap[B]? = w.heap[B]? := by
  intro l b B h1 h2
  obtain ⟨c,t,g,_⟩ := h.hp.blk l b B h1 h2
  exact hb.block B (Array.getElem?_eq_some_iff.1 g).1
 have mono : ∀ {v x},V ρ st.hp w (Zf cf.Z0 cf.base ρ st.hp w) v x → V ρ st.hp w' (Zf cf.Z0 cf.base ρ st.hp w') v x :=
  fun hv => hv.mono hz fun l b hb' => ⟨rfl,⟨b,hb',rfl,rfl⟩,fun B hB => shape_heap (own l b B hb' hB)⟩
 refine ⟨⟨fun l b B h1 h2 => ?_,h.hp.nil,h.hp.inj⟩,fun t => mono (h.tmp t),h.size,h.defers,⟨hb.os.trans h.fr.os,hb.tape.trans h.fr.tape,hb.output.trans h.fr.output,Nat.le_trans h.fr.size hb.size,h.fr.base_le,fun b h1 h2 => ?_⟩,h.own,h.z0,h.pin,fun b hbb => (shape_heap (hb.block b (by have := h.fr.size; have := h.fr.base_le; omega))).trans (h.shp b hbb)⟩
 ·obtain ⟨c,t,g1,g2,g3,g4,g5⟩ := h.hp.blk l b B h1 h2
  exact ⟨c,t,by rw [own l b B h1 h2]; exact g1,g2,g3,fun i x j d v q1 q2 q3 => mono (g4 i x j d v q1 q2 q3),fun hp i x j d v q1 q2 q3 => (g5 hp i x j d v q1 q2 q3).mono hz⟩
 ·rw [hb.block b (Nat.lt_of_lt_of_le h1 (Nat.le_trans h.fr.base_le h.fr.size))]
  exact h.fr.block b h1 h2

theorem call_inv {own mu : List Nat} {op : Op} {c : Call} (ho : op = .call c) {f : CT} {os : List Opd} {ow : List Nat} (hc : cOp P own mu op = some (.call f os ow)) :
  ∃ x,c.callee = .value x ∧ cOpds c.args.toList = some os ∧ ((∃ id,x = .func id ∧ f = .fn id) ∨ ∃ t,x = .tmp t ∧ f = .dyn (.t t)) := by
 subst ho
 obtain ⟨callee,args,argTypes⟩ := c
 simp only [cOp] at hc
 split at hc
 ·rename_i id
  split at hc
  ·split at hc
   ·cases hc
   ·split at hc
    ·simp only [bind,Option.bind_eq_some_iff,pure] at hc
     obtain ⟨_,_,h2⟩ := hc
     cases h2
    ·simp only [bind,Option.bind_eq_some_iff,pure] at hc
     obtain ⟨_,h1,h2⟩ := hc
     cases h2
     exact ⟨_,rfl,h1,.inl ⟨id,rfl,rfl⟩⟩
  ·cases hc
 ·rename_i t
  simp only [bind,Option.bind_eq_some_iff,pure] at hc
  obtain ⟨_,h1,h2⟩ := hc
  cases h2
  exact ⟨_,rfl,h1,.inr ⟨t,rfl,rfl⟩⟩
 all_goals
  first
   | cases hc
   | (repeat' split at hc) <;> first | cases hc | (simp only [bind,Option.bind_eq_some_iff,Option.map_eq_some_iff,pure] at hc; obtain ⟨_,_,h2⟩ := hc; first | (cases h2; done) | (obtain ⟨_,_,h3⟩ := h2; first | (cases h3; done) | (obtain ⟨_,_,h4⟩ := h3; split at h4 <;> first | cases h4 | (simp only [Option.bind_eq_some_iff] at h4; obtain ⟨_,_,_,_,_,_,h5⟩ := h4; cases h5))))

abbrev Took := List (Nat × Blk × Option Nat)
def tookH (L : Took) : List (Nat × Option Blk) := L.map fun p => (p.1,some p.2.1)
def tookR : Took → (Nat → Option Nat) → Nat → Option Nat
 | [],ρ,l => ρ l
 | p :: L,ρ,l => if p.1 = l then p.2.2 else tookR L ρ l
theorem took_cases : ∀ (L : Took) (h : List (Nat × Option Blk)) (ρ : Nat → Option Nat) (l : Nat),(∃ p ∈ L,p.1 = l ∧ lk none (tookH L ++ h) l = some p.2.1 ∧ tookR L ρ l = p.2.2) ∨ ((∀ p ∈ L,p.1 ≠ l) ∧ lk none (tookH L ++ h) l = lk none h l ∧ tookR L ρ l = ρ l)
 | [],h,ρ,l => .inr ⟨fun p hp => (by cases hp),rfl,rfl⟩
 | p :: L,h,ρ,l => by
  by_cases e : p.1 = l
  ·refine .inl ⟨p,List.mem_cons_self,e,?_,?_⟩
   ·show (if p.1 = l then some p.2.1 else lk none (tookH L ++ h) l) = _
    rw [if_pos e]
   ·show (if p.1 = l then p.2.2 else tookR L ρ l) = _
    rw [if_pos e]
  ·have e1 : lk none (tookH (p :: L) ++ h) l = lk none (tookH L ++ h) l := by
    show (if p.1 = l then some p.2.1 else lk none (tookH L ++ h) l) = _
    rw [if_neg e]
   have e2 : tookR (p :: L) ρ l = tookR L ρ l := by
    show (if p.1 = l then p.2.2 else tookR L ρ l) = _
    rw [if_neg e]
   rw [e1,e2]
   rcases took_cases L h ρ l with ⟨q,hq,h1,h2,h3⟩ | ⟨h1,h2,h3⟩
   ·exact .inl ⟨q,List.mem_cons_of_mem _ hq,h1,h2,h3⟩
   ·refine .inr ⟨fun q hq => ?_,h2,h3⟩
    rcases List.mem_cons.1 hq with rfl | hq
    ·exact e
    ·exact h1 q hq

theorem StRρ.adopt (h : StRρ cf ρ st a w) {w' : World} (hb : Below w.heap.size w w') {L : Took} (hfree : ∀ p ∈ L,st.hp p.1 = none) (hlow : ∀ p ∈ L,p.1 < 1000000)
  (hblk : ∀ p ∈ L,∀ B,p.2.2 = some B → w.heap.size ≤ B ∧ ∃ c t,w'.heap[B]? = some (.cells c t (0,0)) ∧ p.2.1.elems.length * p.2.1.es ≤ c.size ∧ (∀ x ∈ p.2.1.elems,x.cells.length = p.2.1.es) ∧
   ∀ (i : Nat) x (j : Nat) d v,p.2.1.elems[i]? = some x → x.cells[j]? = some d → c[i * p.2.1.es + j]? = some v → V0 w' (fun _ => False) v d)
  (hnil : ∀ p ∈ L,p.2.2 = none → p.2.1.elems = []) (hdiff : ∀ p ∈ L,∀ q ∈ L,∀ B,p.2.2 = some B → q.2.2 = some B → p.1 = q.1) :
  StRρ cf (tookR L ρ) ⟨st.env,tookH L ++ st.heap⟩ a w' ∧
  ∀ {v x},V ρ st.hp w (Zf cf.Z0 cf.base ρ st.hp w) v x → V (tookR L ρ) (St.hp ⟨st.env,tookH L ++ st.heap⟩) w' (Zf cf.Z0 cf.base (tookR L ρ) (St.hp ⟨st.env,tookH L ++ st.heap⟩) w') v x := by
 generalize hst : (⟨st.env,tookH L ++ st.heap⟩ : St) = st'
 have hcase : ∀ l,(∃ p ∈ L,p.1 = l ∧ st'.hp l = some p.2.1 ∧ tookR L ρ l = p.2.2) ∨ ((∀ p ∈ L,p.1 ≠ l) ∧ st'.hp l = st.hp l ∧ tookR L ρ l = ρ l) := by
  intro l; subst hst; exact took_cases L st.heap ρ l
 have hget : ∀ t,st'.get t = st.get t := by intro t; subst hst; rfl
 have hold : ∀ l b,st.hp l = some b → st'.hp l = some b ∧ tookR L ρ l = ρ l := by
  intro l b hlb
  rcases hcase l with ⟨p,hp,h1,h2,h3⟩ | ⟨h1,h2,h3⟩
  ·have := hfree p hp; rw [h1,hlb] at this; cases this
  ·exact ⟨by rw [h2]; exact hlb,h3⟩
 have own : ∀ l b B,st.hp l = some b → ρ l = some B → w'.heap[B]? = w.heap[B]? ∧ B < w.heap.size := by
  intro l b B h1 h2
  obtain ⟨c,t,g,_⟩ := h.hp.blk l b B h1 h2
  have := (Array.getElem?_eq_some_iff.1 g).1
  exact ⟨hb.block B this,this⟩
 have hz : ∀ k,Zf cf.Z0 cf.base ρ st.hp w k → Zf cf.Z0 cf.base (tookR L ρ) st'.hp w' k ∧ w'.heap[k]? = w.heap[k]? := by
  intro k hk
  refine ⟨⟨hk.1,Nat.lt_of_lt_of_le hk.2.1 hb.size,fun l hl he => ?_⟩,hb.block k hk.2.1⟩
  rcases hcase l with ⟨p,hp,h1,h2,h3⟩ | ⟨h1,h2,h3⟩
  ·rw [h3] at he
   have := (hblk p hp k he).1
   have := hk.2.1; omega
  ·rw [h2] at hl; rw [h3] at he
   exact hk.2.2 l hl he
 have mono : ∀ {v x},V ρ st.hp w (Zf cf.Z0 cf.base ρ st.hp w) v x → V (tookR L ρ) st'.hp w' (Zf cf.Z0 cf.base (tookR L ρ) st'.hp w') v x :=
  fun hv => hv.mono hz fun l b hlb => ⟨(hold l b hlb).2,⟨b,(hold l b hlb).1,rfl,rfl⟩,fun B hB => shape_heap (own l b B hlb hB).1⟩
 refine ⟨⟨⟨fun l b B hlb hB => ?_,fun l b hlb hB => ?_,fun l l' B h1 h2 h3 h4 => ?_⟩,fun t => by rw [hget]; exact mono (h.tmp t),h.size,h.defers,⟨hb.os.trans h.fr.os,hb.tape.trans h.fr.tape,hb.output.trans h.fr.output,Nat.le_trans h.fr.size hb.size,h.fr.base_le,fun b h1 h2 => ?_⟩,fun l B hl hB => ?_,h.z0,fun l hl => ?_,fun b hbb => (shape_heap (hb.block b (by have := h.fr.size; have := h.fr.base_le; omega))).trans (h.shp b hbb)⟩,mono⟩
 ·rcases hcase l with ⟨p,hp,h1,h2,h3⟩ | ⟨h1,h2,h3⟩
  ·rw [h2] at hlb; cases hlb
   rw [h3] at hB
   obtain ⟨_,c,t,g1,g2,g3,g4⟩ := hblk p hp B hB
   exact ⟨c,t,g1,g2,g3,fun i x j d v q1 q2 q3 => .pure ((g4 i x j d v q1 q2 q3).mono fun b hb => hb.elim),fun _ i x j d v q1 q2 q3 => (g4 i x j d v q1 q2 q3).mono fun b hb => hb.elim⟩
  ·rw [h2] at hlb; rw [h3] at hB
   obtain ⟨c,t,g1,g2,g3,g4,g5⟩ := h.hp.blk l b B hlb hB
   exact ⟨c,t,by rw [(own l b B hlb hB).1]; exact g1,g2,g3,fun i x j d v q1 q2 q3 => mono (g4 i x j d v q1 q2 q3),fun hp i x j d v q1 q2 q3 => (g5 hp i x j d v q1 q2 q3).mono hz⟩
 ·rcases hcase l with ⟨p,hp,h1,h2,h3⟩ | ⟨h1,h2,h3⟩
  ·rw [h2] at hlb; cases hlb
   rw [h3] at hB
   exact hnil p hp hB
  ·rw [h2] at hlb; rw [h3] at hB
   exact h.hp.nil l b hlb hB
 ·have lo : ∀ l,(st'.hp l).isSome = true → tookR L ρ l = some B → (∃ p ∈ L,p.1 = l ∧ p.2.2 = some B) ∨ ((st.hp l).isSome = true ∧ ρ l = some B) := by
   intro l hl he
   rcases hcase l with ⟨p,hp,h1,h2,h3⟩ | ⟨h1,h2,h3⟩
   ·exact .inl ⟨p,hp,h1,by rw [← h3]; exact he⟩
   ·exact .inr ⟨by rw [← h2]; exact hl,by rw [← h3]; exact he⟩
  have no : ∀ {p l},p ∈ L → p.2.2 = some B → (st.hp l).isSome = true → ρ l = some B → False := by
   intro p l hp hpB hl he
   obtain ⟨b,hlb⟩ := Option.isSome_iff_exists.1 hl
   have h5 := (own l b B hlb he).2
   have h6 := (hblk p hp B hpB).1
   omega
  rcases lo l h1 h3 with ⟨p,hp,e1,e2⟩ | ⟨g1,g2⟩
  ·rcases lo l' h2 h4 with ⟨q,hq,e3,e4⟩ | ⟨g3,g4⟩
   ·rw [← e1,← e3]; exact hdiff p hp q hq B e2 e4
   ·exact (no hp e2 g3 g4).elim
  ·rcases lo l' h2 h4 with ⟨q,hq,e3,e4⟩ | ⟨g3,g4⟩
   ·exact (no hq e4 g1 g2).elim
   ·exact h.hp.inj l l' B g1 g3 g2 g4
 ·rw [hb.block b (Nat.lt_of_lt_of_le h1 (Nat.le_trans h.fr.base_le h.fr.size))]
  exact h.fr.block b h1 h2
 ·rcases hcase l with ⟨p,hp,h1,h2,h3⟩ | ⟨h1,h2,h3⟩
  ·rw [h3] at hB
   have := (hblk p hp B hB).1
   have := h.fr.size; have := h.fr.base_le
   exact .inl (by omega)
  ·rw [h2] at hl; rw [h3] at hB
   exact h.own l B hl hB
 ·rcases hcase l with ⟨p,hp,h1,h2,h3⟩ | ⟨h1,h2,h3⟩
  ·have := hlow p hp; have := hl.1; omega
  ·rw [h3]; exact h.pin l hl

theorem lk_HW (H : List (Nat × Blk)) (h : List (Nat × Option Blk)) (l : Nat) : (∃ b,HW H l = some b ∧ lk none (H.map (fun p => (p.1,some p.2)) ++ h) l = some b) ∨ (HW H l = none ∧ lk none (H.map (fun p => (p.1,some p.2)) ++ h) l = lk none h l) := by
 induction H with
 | nil => exact .inr ⟨rfl,rfl⟩
 | cons p H ih =>
  by_cases e : p.1 = l
  ·exact .inl ⟨p.2,if_pos e,if_pos e⟩
  ·have e1 : HW (p :: H) l = HW H l := if_neg e
   have e2 : lk none ((p :: H).map (fun p => (p.1,some p.2)) ++ h) l = lk none (H.map (fun p => (p.1,some p.2)) ++ h) l := if_neg e
   rw [e1,e2]; exact ih
theorem HW_mem {H : List (Nat × Blk)} {l : Nat} {b : Blk} (h : HW H l = some b) : (l,b) ∈ H := by
 induction H with
 | nil => cases h
 | cons p H ih =>
  obtain ⟨n,c⟩ := p
  simp only [HW,List.map_cons,lk] at h
  split at h
  ·rename_i e; subst e; cases h; exact List.mem_cons_self
  ·exact List.mem_cons_of_mem _ (ih h)

theorem StRρ.adoptH (h : StRρ cf ρ st a w) {w' : World} (hb : Below w.heap.size w w') {ρ' : Nat → Option Nat} {H : List (Nat × Blk)} (hH : Hp ρ' (HW H) w' (fun _ => False)) (hlo : ∀ l B,(HW H l).isSome = true → ρ' l = some B → w.heap.size ≤ B)
  (hfree : ∀ l,(HW H l).isSome = true → st.hp l = none) (hup : ∀ l,(HW H l).isSome = true → ¬ cf.pn l) :
  ∃ ρ'' : Nat → Option Nat,StRρ cf ρ'' ⟨st.env,H.map (fun p => (p.1,some p.2)) ++ st.heap⟩ a w' ∧
  ∀ {v x},V ρ' (HW H) w' (fun _ => False) v x → V ρ'' (St.hp ⟨st.env,H.map (fun p => (p.1,some p.2)) ++ st.heap⟩) w' (Zf cf.Z0 cf.base ρ'' (St.hp ⟨st.env,H.map (fun p => (p.1,some p.2)) ++ st.heap⟩) w') v x := by
 let R : Nat → Option Nat := fun l => if (HW H l).isSome = true then ρ' l else ρ l
 refine ⟨R,?_⟩
 generalize hst : (⟨st.env,H.map (fun p => (p.1,some p.2)) ++ st.heap⟩ : St) = st'
 have hcase : ∀ l,(∃ b,HW H l = some b ∧ st'.hp l = some b ∧ R l = ρ' l) ∨ (HW H l = none ∧ st'.hp l = st.hp l ∧ R l = ρ l) := by
  intro l
  subst hst
  rcases lk_HW H st.heap l with ⟨b,h1,h2⟩ | ⟨h1,h2⟩
  ·exact .inl ⟨b,h1,h2,if_pos (by rw [h1]; rfl)⟩
  ·exact .inr ⟨h1,h2,if_neg (by rw [h1]; simp)⟩
 have hget : ∀ t,st'.get t = st.get t := by intro t; subst hst; rfl
 have hold : ∀ l b,st.hp l = some b → st'.hp l = some b ∧ R l = ρ l := by
  intro l b hlb
  rcases hcase l with ⟨c,h1,h2,h3⟩ | ⟨h1,h2,h3⟩
  ·have := hfree l (by rw [h1]; rfl); rw [hlb] at this; cases this
  ·exact ⟨by rw [h2]; exact hlb,h3⟩
 have own : ∀ l b B,st.hp l = some b → ρ l = some B → w'.heap[B]? = w.heap[B]? ∧ B < w.heap.size := by
  intro l b B h1 h2
  obtain ⟨c,t,g,_⟩ := h.hp.blk l b B h1 h2
  have := (Array.getElem?_eq_some_iff.1 g).1
  exact ⟨hb.block B this,this⟩
 have hz : ∀ k,Zf cf.Z0 cf.base ρ st.hp w k → Zf cf.Z0 cf.base R st'.hp w' k ∧ w'.heap[k]? = w.heap[k]? := by
  intro k hk
  refine ⟨⟨hk.1,Nat.lt_of_lt_of_le hk.2.1 hb.size,fun l hl he => ?_⟩,hb.block k hk.2.1⟩
  rcases hcase l with ⟨c,h1,h2,h3⟩ | ⟨h1,h2,h3⟩
  ·rw [h3] at he
   have := hlo l k (by rw [h1]; rfl) he
   have := hk.2.1; omega
  ·rw [h2] at hl; rw [h3] at he
   exact hk.2.2 l hl he
 have mono : ∀ {v x},V ρ st.hp w (Zf cf.Z0 cf.base ρ st.hp w) v x → V R st'.hp w' (Zf cf.Z0 cf.base R st'.hp w') v x :=
  fun hv => hv.mono hz fun l b hlb => ⟨(hold l b hlb).2,⟨b,(hold l b hlb).1,rfl,rfl⟩,fun B hB => shape_heap (own l b B hlb hB).1⟩
 have up : ∀ {v x},V ρ' (HW H) w' (fun _ => False) v x → V R st'.hp w' (Zf cf.Z0 cf.base R st'.hp w') v x := fun hv => by
  refine hv.mono (fun b hb => hb.elim) fun l b hlb => ?_
  rcases hcase l with ⟨c,h1,h2,h3⟩ | ⟨h1,h2,h3⟩
  ·rw [h1] at hlb; cases hlb
   exact ⟨h3,⟨_,h2,rfl,rfl⟩,fun _ _ => rfl⟩
  ·rw [h1] at hlb; cases hlb
 refine ⟨⟨⟨fun l b B hlb hB => ?_,fun l b hlb hB => ?_,fun l l' B h1 h2 h3 h4 => ?_⟩,fun t => by rw [hget]; exact mono (h.tmp t),h.size,h.defers,⟨hb.os.trans h.fr.os,hb.tape.trans h.fr.tape,hb.output.trans h.fr.output,Nat.le_trans h.fr.size hb.size,h.fr.base_le,fun b h1 h2 => ?_⟩,fun l B hl hB => ?_,h.z0,fun l hl => ?_,fun b hbb => (shape_heap (hb.block b (by have := h.fr.size; have := h.fr.base_le; omega))).trans (h.shp b hbb)⟩,up⟩
 ·rcases hcase l with ⟨c,h1,h2,h3⟩ | ⟨h1,h2,h3⟩
  ·rw [h2] at hlb; cases hlb
   rw [h3] at hB
   obtain ⟨cs,t,g1,g2,g3,g4,g5⟩ := hH.blk l b B h1 hB
   exact ⟨cs,t,g1,g2,g3,fun i x j d v q1 q2 q3 => up (g4 i x j d v q1 q2 q3),fun hp i x j d v q1 q2 q3 => (g5 hp i x j d v q1 q2 q3).mono fun b hb => hb.elim⟩
  ·rw [h2] at hlb; rw [h3] at hB
   obtain ⟨c,t,g1,g2,g3,g4,g5⟩ := h.hp.blk l b B hlb hB
   exact ⟨c,t,by rw [(own l b B hlb hB).1]; exact g1,g2,g3,fun i x j d v q1 q2 q3 => mono (g4 i x j d v q1 q2 q3),fun hp i x j d v q1 q2 q3 => (g5 hp i x j d v q1 q2 q3).mono hz⟩
 ·rcases hcase l with ⟨c,h1,h2,h3⟩ | ⟨h1,h2,h3⟩
  ·rw [h2] at hlb; cases hlb
   rw [h3] at hB
   exact hH.nil l b h1 hB
  ·rw [h2] at hlb; rw [h3] at hB
   exact h.hp.nil l b hlb hB
 ·have lo : ∀ l,(st'.hp l).isSome = true → R l = some B → ((HW H l).isSome = true ∧ ρ' l = some B) ∨ ((st.hp l).isSome = true ∧ ρ l = some B) := by
   intro l hl he
   rcases hcase l with ⟨c,h1,h2,h3⟩ | ⟨h1,h2,h3⟩
   ·exact .inl ⟨by rw [h1]; rfl,by rw [← h3]; exact he⟩
   ·exact .inr ⟨by rw [← h2]; exact hl,by rw [← h3]; exact he⟩
  have no : ∀ {m l},(HW H m).isSome = true → ρ' m = some B → (st.hp l).isSome = true → ρ l = some B → False := by
   intro m l hm hmB hl he
   obtain ⟨b,hlb⟩ := Option.isSome_iff_exists.1 hl
   have h5 := (own l b B hlb he).2
   have h6 := hlo m B hm hmB
   omega
  rcases lo l h1 h3 with ⟨e1,e2⟩ | ⟨g1,g2⟩
  ·rcases lo l' h2 h4 with ⟨e3,e4⟩ | ⟨g3,g4⟩
   ·exact hH.inj l l' B e1 e3 e2 e4
   ·exact (no e1 e2 g3 g4).elim
  ·rcases lo l' h2 h4 with ⟨e3,e4⟩ | ⟨g3,g4⟩
   ·exact (no e3 e4 g1 g2).elim
   ·exact h.hp.inj l l' B g1 g3 g2 g4
 ·rw [hb.block b (Nat.lt_of_lt_of_le h1 (Nat.le_trans h.fr.base_le h.fr.size))]
  exact h.fr.block b h1 h2
 ·rcases hcase l with ⟨c,h1,h2,h3⟩ | ⟨h1,h2,h3⟩
  ·rw [h3] at hB
   have := hlo l B (by rw [h1]; rfl) hB
   have := h.fr.size; have := h.fr.base_le
   exact .inl (by omega)
  ·rw [h2] at hl; rw [h3] at hB
   exact h.own l B hl hB
 ·rcases hcase l with ⟨c,h1,h2,h3⟩ | ⟨h1,h2,h3⟩
  ·exact absurd hl (hup l (by rw [h1]; rfl))
  ·rw [h3]; exact h.pin l hl
theorem ownH_ok (h : StRρ cf ρ st a w) {w' : World} {d : Nat} {v : Value} {r' : AV} {H : List (Nat × Blk)} (hb : Below w.heap.size w w') (ho : OwnH w' w.heap.size v r' H) (hc : ClsH H) (hn : ∀ p ∈ H,st.hp p.1 = none) (hk : cf.k3 = false)
  (hd : ∀ k,(some d : Option Nat) = some k → k < cf.n) : StR cf ⟨(d,r') :: st.env,H.map (fun p => (p.1,some p.2)) ++ st.heap⟩ (a.put (some d) v) w' := by
 obtain ⟨ρ',h1,h2,h3⟩ := ho
 have hcl : ∀ l,(HW H l).isSome = true → 1000000 ≤ l ∧ l % 4 = 3 ∧ st.hp l = none := by
  intro l hl
  obtain ⟨b,hb⟩ := Option.isSome_iff_exists.1 hl
  exact ⟨(hc _ (HW_mem hb)).1,(hc _ (HW_mem hb)).2,hn _ (HW_mem hb)⟩
 obtain ⟨ρ'',k1,k2⟩ := h.adoptH hb h1 h3 (fun l hl => (hcl l hl).2.2) (fun l hl hp => by
   have := hp.2.2 (hcl l hl).2.1
   rw [hk] at this; cases this)
 have := k1.put (x := r') (v := v) (dst := some d) (k2 h2) hd
 exact ⟨_,this⟩

theorem noDup_cons {p : Nat × Option Blk} {r : List (Nat × Option Blk)} (h : noDup (p :: r) = true) : (∀ q ∈ r,q.1 ≠ p.1) ∧ noDup r = true := by
 simp only [noDup,Bool.and_eq_true,List.all_eq_true] at h
 exact ⟨fun q hq => by simpa using h.1 q hq,h.2⟩

theorem took_of {lo : Nat} : ∀ {es : List Nat} {vs : List Value} {xs : List AV} {Bs : List Nat},OwnL w lo es vs xs Bs → ∀ {d : Nat} {ys : List AV} {bs : List (Nat × Option Blk)},ownC d es xs = some (ys,bs) → noDup bs = true →
  ∃ L : Took,tookH L = bs ∧ (∀ p ∈ L,∀ B,p.2.2 = some B → B ∈ Bs ∧ lo ≤ B ∧ ∃ c t,w.heap[B]? = some (.cells c t (0,0)) ∧ p.2.1.elems.length * p.2.1.es ≤ c.size ∧ (∀ x ∈ p.2.1.elems,x.cells.length = p.2.1.es) ∧
   ∀ (i : Nat) x (j : Nat) d v,p.2.1.elems[i]? = some x → x.cells[j]? = some d → c[i * p.2.1.es + j]? = some v → V0 w (fun _ => False) v d) ∧
  (∀ p ∈ L,p.2.2 = none → p.2.1.elems = []) ∧ (∀ p ∈ L,∀ q ∈ L,∀ B,p.2.2 = some B → q.2.2 = some B → p.1 = q.1) ∧
  vs.length = ys.length ∧ ∀ (ρ : Nat → Option Nat) (h : Nat → Option Blk) (Z : Nat → Prop),(∀ p ∈ L,h p.1 = some p.2.1 ∧ ρ p.1 = p.2.2) → ∀ (i : Nat) v y,vs[i]? = some v → ys[i]? = some y → V ρ h w Z v y := by
 intro es vs xs Bs ho
 induction ho with
 | nil =>
  intro d ys bs hc _
  simp only [ownC,Option.some.injEq,Prod.mk.injEq] at hc
  obtain ⟨rfl,rfl⟩ := hc
  exact ⟨[],rfl,fun p hp => (by cases hp),fun p hp => (by cases hp),fun p hp => (by cases hp),rfl,fun ρ h Z _ i v y hv => by simp at hv⟩
 | @flat v x es vs xs Bs hf hv _ ih =>
  intro d ys bs hc hnd
  have key : ∃ ys0 bs0,ownC (d + 1000) es xs = some (ys0,bs0) ∧ ys = x :: ys0 ∧ bs = bs0 := by
   cases es with
   | nil =>
    simp only [ownC] at hc
    split at hc
    ·rename_i ys0 bs0 h0; cases hc; exact ⟨_,_,h0,rfl,rfl⟩
    ·cases hc
   | cons e es =>
    cases x <;> first | (cases hf; done) | skip
    all_goals
     simp only [ownC] at hc
     split at hc
     ·rename_i ys0 bs0 h0; cases hc; exact ⟨_,_,h0,rfl,rfl⟩
     ·cases hc
  obtain ⟨ys0,bs0,h0,rfl,rfl⟩ := key
  obtain ⟨L,g1,g2,g3,g4,g5,g6⟩ := ih h0 hnd
  refine ⟨L,g1,g2,g3,g4,by simp [g5],fun ρ h Z hL i u y hu hy => ?_⟩
  cases i with
  | zero =>
   simp at hu hy
   subst hu; subst hy
   exact .pure (hv.mono fun b hb => hb.elim)
  | succ i => simp at hu hy; exact g6 ρ h Z hL i u y hu hy
 | @none v e es vs xs Bs hv _ ih =>
  intro d ys bs hc hnd
  simp only [ownC] at hc
  split at hc
  ·rename_i ys0 bs0 h0
   cases hc
   obtain ⟨hn1,hn2⟩ := noDup_cons hnd
   obtain ⟨L,g1,g2,g3,g4,g5,g6⟩ := ih h0 hn2
   refine ⟨(d,⟨e,true,[]⟩,none) :: L,?_,?_,?_,?_,by simp [g5],fun ρ h Z hL i u y hu hy => ?_⟩
   ·show (d,some _) :: tookH L = _
    rw [g1]
   ·intro p hp B hB
    rcases List.mem_cons.1 hp with rfl | hp
    ·cases hB
    ·exact g2 p hp B hB
   ·intro p hp hB
    rcases List.mem_cons.1 hp with rfl | hp
    ·rfl
    ·exact g3 p hp hB
   ·intro p hp q hq B hpB hqB
    rcases List.mem_cons.1 hp with rfl | hp
    ·cases hpB
    ·rcases List.mem_cons.1 hq with rfl | hq
     ·cases hqB
     ·exact g4 p hp q hq B hpB hqB
   ·cases i with
    | zero =>
     simp at hu hy
     subst hu; subst hy
     have := hL _ List.mem_cons_self
     exact .lnil d _ hv this.2 this.1
    | succ i => simp at hu hy; exact g6 ρ h Z (fun p hp => hL p (List.mem_cons_of_mem _ hp)) i u y hu hy
  ·cases hc
 | @sl B cap e ys0' c t es vs xs Bs hlo hb hl hm hcap hes hv hn _ ih =>
  intro d ys bs hc hnd
  simp only [ownC] at hc
  split at hc
  ·rename_i ys0 bs0 h0
   cases hc
   obtain ⟨hn1,hn2⟩ := noDup_cons hnd
   obtain ⟨L,g1,g2,g3,g4,g5,g6⟩ := ih h0 hn2
   refine ⟨(d,⟨e,true,ys0'⟩,some B) :: L,?_,?_,?_,?_,by simp [g5],fun ρ h Z hL i u y hu hy => ?_⟩
   ·show (d,some _) :: tookH L = _
    rw [g1]
   ·intro p hp B' hB'
    rcases List.mem_cons.1 hp with rfl | hp
    ·cases hB'
     exact ⟨List.mem_cons_self,hlo,c,t,hb,Nat.le_trans (Nat.mul_le_mul_right _ hl) hcap,hes,hv⟩
    ·obtain ⟨k1,k2⟩ := g2 p hp B' hB'
     exact ⟨List.mem_cons_of_mem _ k1,k2⟩
   ·intro p hp hB'
    rcases List.mem_cons.1 hp with rfl | hp
    ·cases hB'
    ·exact g3 p hp hB'
   ·intro p hp q hq B' hpB hqB
    rcases List.mem_cons.1 hp with rfl | hp
    ·rcases List.mem_cons.1 hq with rfl | hq
     ·rfl
     ·cases hpB
      exact absurd (g2 q hq B hqB).1 hn
    ·rcases List.mem_cons.1 hq with rfl | hq
     ·cases hqB
      exact absurd (g2 p hp B hpB).1 hn
     ·exact g4 p hp q hq B' hpB hqB
   ·cases i with
    | zero =>
     simp at hu hy
     subst hu; subst hy
     have := hL _ List.mem_cons_self
     have hsh : w.shape? B = some (t,c.size) := by simp [World.shape?,hb]
     have := V.lsl (ρ := ρ) (h := h) (w := w) (Z := Z) d 0 ys0'.length cap B ⟨e,true,ys0'⟩ t c.size this.2 this.1 hsh hl (by simpa using hcap) (by simp) hm
     simpa using this
    | succ i => simp at hu hy; exact g6 ρ h Z (fun p hp => hL p (List.mem_cons_of_mem _ hp)) i u y hu hy
  ·cases hc

theorem tookR_of {L : Took} {ρ : Nat → Option Nat} {h : List (Nat × Option Blk)} (hn : noDup (tookH L) = true) : ∀ p ∈ L,lk none (tookH L ++ h) p.1 = some p.2.1 ∧ tookR L ρ p.1 = p.2.2 := by
 induction L with
 | nil => intro p hp; cases hp
 | cons q L ih =>
  obtain ⟨h1,h2⟩ := noDup_cons (p := (q.1,some q.2.1)) (r := tookH L) hn
  intro p hp
  rcases List.mem_cons.1 hp with rfl | hp
  ·exact ⟨if_pos rfl,if_pos rfl⟩
  ·have hne : ¬ q.1 = p.1 := fun e => h1 (p.1,some p.2.1) (List.mem_map.2 ⟨p,hp,rfl⟩) e.symm
   obtain ⟨h3,h4⟩ := ih h2 p hp
   exact ⟨(if_neg hne).trans h3,(if_neg hne).trans h4⟩

theorem OwnL.single {lo : Nat} {es : List Nat} {vs : List Value} {xs : List AV} {Bs : List Nat} {x : AV} (h : OwnL w lo es vs xs Bs) (e : xs = [x]) : flatC x = true ∨ ∃ ys,x = .sl ys := by
 cases h with
 | nil => cases e
 | flat hf => cases e; exact .inl hf
 | none => cases e; exact .inr ⟨_,rfl⟩
 | sl => cases e; exact .inr ⟨_,rfl⟩

def TookOk (w : World) (lo : Nat) (Bs : List Nat) (L : Took) : Prop :=
 (∀ p ∈ L,∀ B,p.2.2 = some B → B ∈ Bs ∧ lo ≤ B ∧ ∃ c t,w.heap[B]? = some (.cells c t (0,0)) ∧ p.2.1.elems.length * p.2.1.es ≤ c.size ∧ (∀ x ∈ p.2.1.elems,x.cells.length = p.2.1.es) ∧
  ∀ (i : Nat) x (j : Nat) d v,p.2.1.elems[i]? = some x → x.cells[j]? = some d → c[i * p.2.1.es + j]? = some v → V0 w (fun _ => False) v d) ∧
 (∀ p ∈ L,p.2.2 = none → p.2.1.elems = []) ∧ ∀ p ∈ L,∀ q ∈ L,∀ B,p.2.2 = some B → q.2.2 = some B → p.1 = q.1
def Named (L : Took) (ρ : Nat → Option Nat) (h : Nat → Option Blk) : Prop := ∀ p ∈ L,h p.1 = some p.2.1 ∧ ρ p.1 = p.2.2

theorem own1_ok {lo d : Nat} {es : List Nat} {v : Value} {r y : AV} {bs : List (Nat × Option Blk)} {Z : Nat → Prop} (hv : V0 w Z v r) {Bs : List Nat} (ho : OwnL w lo es v.cells.toList r.cells Bs)
  (hy : own1 d es r = some (y,bs)) (hn : noDup bs = true) : ∃ L : Took,tookH L = bs ∧ TookOk w lo Bs L ∧ ∀ (ρ : Nat → Option Nat) (h : Nat → Option Blk) (Z : Nat → Prop),Named L ρ h → V ρ h w Z v y := by
 have key : ∀ {ys : List AV},ownC d es r.cells = some (ys,bs) → (∀ (ρ : Nat → Option Nat) (h : Nat → Option Blk) (Z : Nat → Prop),(∀ (i : Nat) u z,v.cells.toList[i]? = some u → ys[i]? = some z → V ρ h w Z u z) → v.cells.toList.length = ys.length → V ρ h w Z v y) →
   ∃ L : Took,tookH L = bs ∧ TookOk w lo Bs L ∧ ∀ (ρ : Nat → Option Nat) (h : Nat → Option Blk) (Z : Nat → Prop),Named L ρ h → V ρ h w Z v y := by
  intro ys hc hfin
  obtain ⟨L,g1,g2,g3,g4,g5,g6⟩ := took_of ho hc hn
  exact ⟨L,g1,⟨g2,g3,g4⟩,fun ρ h Z hL => hfin ρ h Z (g6 ρ h Z hL) g5⟩
 cases r with
 | agg cs =>
  simp only [own1] at hy
  split at hy
  ·rename_i ys bs' hc
   cases hy
   cases hv with
   | agg vs _ hl _ => exact key hc fun ρ h Z hz hlen => .agg vs ys (by simpa [Value.cells] using hlen) fun i c x hc hx => hz i c x (by simpa [Value.cells] using hc) hx
  ·cases hy
 | _ =>
  simp only [own1] at hy
  split at hy
  ·rename_i z bs' hc
   cases hy
   refine key hc fun ρ h Z hz hlen => ?_
   have hcell : v.cells = #[v] := by
    cases v with
    | agg cs =>
     exfalso
     rcases ho.single rfl with hf' | ⟨zs,hz'⟩
     ·cases hv <;> first | (cases hf'; done) | (rename_i hn; rcases hn with h | ⟨_,h⟩ <;> cases h)
     ·cases hv <;> first | (cases hz'; done) | (rename_i hn; rcases hn with h | ⟨_,h⟩ <;> cases h)
    | _ => rfl
   rw [hcell] at hz
   exact hz 0 v y rfl rfl
  ·cases hy

theorem noDup_append {a b : List (Nat × Option Blk)} (h : noDup (a ++ b) = true) : noDup a = true ∧ noDup b = true ∧ ∀ p ∈ a,∀ q ∈ b,q.1 ≠ p.1 := by
 induction a with
 | nil => exact ⟨rfl,h,fun p hp => by cases hp⟩
 | cons x a ih =>
  obtain ⟨h1,h2⟩ := noDup_cons (p := x) (r := a ++ b) h
  obtain ⟨k1,k2,k3⟩ := ih h2
  refine ⟨?_,k2,fun p hp q hq => ?_⟩
  ·simp only [noDup,Bool.and_eq_true,List.all_eq_true]
   exact ⟨fun q hq => by simpa using h1 q (List.mem_append_left _ hq),k1⟩
  ·rcases List.mem_cons.1 hp with rfl | hp
   ·exact h1 q (List.mem_append_right _ hq)
   ·exact k3 p hp q hq
theorem tookH_append (L L' : Took) : tookH (L ++ L') = tookH L ++ tookH L' := by simp [tookH]

theorem ownT_ok {lo : Nat} : ∀ {es : List Nat} {vs : List Value} {xs : List AV} {Bs : List Nat},OwnT w lo es vs xs Bs → ∀ {d : Nat} {ys : List AV} {bs : List (Nat × Option Blk)},ownT d es xs = some (ys,bs) → noDup bs = true →
  ∃ L : Took,tookH L = bs ∧ TookOk w lo Bs L ∧ vs.length = ys.length ∧ ∀ (ρ : Nat → Option Nat) (h : Nat → Option Blk) (Z : Nat → Prop),Named L ρ h → ∀ (i : Nat) v y,vs[i]? = some v → ys[i]? = some y → V ρ h w Z v y := by
 intro es vs xs Bs ho
 induction ho with
 | nil =>
  intro d ys bs hc _
  simp only [ownT,Option.some.injEq,Prod.mk.injEq] at hc
  obtain ⟨rfl,rfl⟩ := hc
  exact ⟨[],rfl,⟨fun p hp => (by cases hp),fun p hp => (by cases hp),fun p hp => (by cases hp)⟩,rfl,fun ρ h Z _ i v y hv => by simp at hv⟩
 | @cons v x es es' vs xs Bs Bs' hl Z hv hn hd _ ih =>
  intro d ys bs hc hnd
  simp only [ownT] at hc
  rw [List.take_left' hn,List.drop_left' hn] at hc
  split at hc
  ·rename_i y b1 ys' b2 h1 h2
   cases hc
   obtain ⟨n1,n2,n3⟩ := noDup_append hnd
   obtain ⟨L1,p1,⟨p2,p3,p4⟩,p5⟩ := own1_ok hv hl h1 n1
   obtain ⟨L2,q1,⟨q2,q3,q4⟩,q5,q6⟩ := ih h2 n2
   refine ⟨L1 ++ L2,by rw [tookH_append,p1,q1],⟨fun p hp B hB => ?_,fun p hp hB => ?_,fun p hp q hq B hpB hqB => ?_⟩,by simp [q5],fun ρ h Z hL i u z hu hz => ?_⟩
   ·rcases List.mem_append.1 hp with hp | hp
    ·obtain ⟨g1,g2⟩ := p2 p hp B hB; exact ⟨List.mem_append_left _ g1,g2⟩
    ·obtain ⟨g1,g2⟩ := q2 p hp B hB; exact ⟨List.mem_append_right _ g1,g2⟩
   ·rcases List.mem_append.1 hp with hp | hp
    ·exact p3 p hp hB
    ·exact q3 p hp hB
   ·rcases List.mem_append.1 hp with hp | hp
    ·rcases List.mem_append.1 hq with hq | hq
     ·exact p4 p hp q hq B hpB hqB
     ·exact absurd (q2 q hq B hqB).1 (hd B (p2 p hp B hpB).1)
    ·rcases List.mem_append.1 hq with hq | hq
     ·exact absurd (q2 p hp B hpB).1 (hd B (p2 q hq B hqB).1)
     ·exact q4 p hp q hq B hpB hqB
   ·cases i with
    | zero => simp at hu hz; subst hu; subst hz; exact p5 ρ h Z fun p hp => hL p (List.mem_append_left _ hp)
    | succ i => simp at hu hz; exact q6 ρ h Z (fun p hp => hL p (List.mem_append_right _ hp)) i u z hu hz
  ·cases hc

theorem own_ok (h : StRρ cf ρ st a w) {w' : World} {d : Nat} {es : List Nat} {v : Value} {r y : AV} {bs : List (Nat × Option Blk)} (hb : Below w.heap.size w w') {Z : Nat → Prop} (hv : V0 w' Z v r) (ho : OwnR w' w.heap.size es v r)
  (hy : ownV d es r = some (y,bs)) (hf : freeNames st bs = true) (hd : ∀ k,(some d : Option Nat) = some k → k < cf.n) : StR cf ⟨(d,y) :: st.env,bs ++ st.heap⟩ (a.put (some d) v) w' := by
 simp only [freeNames,Bool.and_eq_true,List.all_eq_true] at hf
 have fin : ∀ {Bs : List Nat} {L : Took},tookH L = bs → TookOk w' w.heap.size Bs L → (∀ (ρ : Nat → Option Nat) (h : Nat → Option Blk) (Z : Nat → Prop),Named L ρ h → V ρ h w' Z v y) → StR cf ⟨(d,y) :: st.env,bs ++ st.heap⟩ (a.put (some d) v) w' := by
  intro Bs L g1 ⟨g2,g3,g4⟩ g6
  have hfl : ∀ p ∈ L,st.hp p.1 = none ∧ p.1 < 1000000 := fun p hp => by
   have := hf.1 (p.1,some p.2.1) (by rw [← g1]; exact List.mem_map.2 ⟨p,hp,rfl⟩)
   simpa using this
  obtain ⟨k1,_⟩ := h.adopt hb (fun p hp => (hfl p hp).1) (fun p hp => (hfl p hp).2) (fun p hp B hB => (g2 p hp B hB).2) g3 g4
  have hL := tookR_of (ρ := ρ) (h := st.heap) (by rw [g1]; exact hf.2)
  rw [g1] at k1 hL
  have := k1.put (x := y) (v := v) (dst := some d) (g6 _ _ _ hL) hd
  exact ⟨_,this⟩
 cases r with
 | tup ds =>
  obtain ⟨vs,Bs,rfl,ho⟩ := ho
  simp only [ownV] at hy
  split at hy
  ·rename_i ys bs' hc
   cases hy
   obtain ⟨L,g1,g2,g3,g4⟩ := ownT_ok ho hc hf.2
   exact fin g1 g2 fun ρ h Z hL => .tup vs ys (by simpa using g3) fun i c x hc hx => g4 ρ h Z hL i c x (by simpa using hc) hx
  ·cases hy
 | _ =>
  obtain ⟨Bs,ho⟩ := ho
  obtain ⟨L,g1,g2,g3⟩ := own1_ok (d := d) hv ho hy hf.2
  exact fin g1 g2 g3

theorem snd_call (h : StRρ cf ρ st a w) {tab : Tab} (ht : TabOkC P cf tab) {own mu : List Nat} {o : Oper} {c : Call} (ho : o.op = .call c) {f : CT} {os : List Opd} {ow : List Nat} (hc : cOp P own mu o.op = some (.call f os ow)) {st' : St}
  (he : eop tab st o.dst (.call f os ow) = some st') (hdn : ∀ d,o.dst = some d → d < cf.n) : Steps1 P cf o st' a w := by
 obtain ⟨x,hcal,hos,hf⟩ := call_inv ho hc
 have hop := opds_ok h hos
 have hrun : ∀ {fv : Fn} {c1 c2 : Array Value} {id : Nat},a.eval x = .func fv c1 c2 → fv = .func id → (execOp a.eval o).run P w = (callFunc id (c1 ++ c.args.map a.eval ++ c2)).run P w := by
  intro fv c1 c2 id e1 e2
  subst e2
  simp [execOp,ho,resolve,hcal,e1,Deferred.ofValue,invoke]
 simp only [eop] at he
 split at he
 ·rename_i d id vs hd hto
  split at he
  ·rename_i ps hps
   split at he
   ·rename_i r m hr
    have main : ∀ {st' : St},(∀ {args : Array Value},args.size = vs.length → ((execOp a.eval o).run P w = (callFunc id args).run P w) → (∀ (i : Nat) c d,args[i]? = some c → vs[i]? = some d → V ρ st.hp w (Zf cf.Z0 cf.base ρ st.hp w) c d) → Steps1 P cf o st' a w) → Steps1 P cf o st' a w := by
      intro st' hmain
      obtain ⟨k1,k2⟩ := mapM_some hps
      -- the arguments
      have hargs : ∃ args : Array Value,((execOp a.eval o).run P w = (callFunc id args).run P w) ∧ args.size = vs.length ∧ ∀ (i : Nat) c d,args[i]? = some c → vs[i]? = some d → V ρ st.hp w (Zf cf.Z0 cf.base ρ st.hp w) c d := by
       have hop1 : (c.args.map a.eval).size = (os.map (ev st)).length := by simpa using hop.1
       have hop2 : ∀ (i : Nat) y d,(c.args.map a.eval)[i]? = some y → (os.map (ev st))[i]? = some d → V ρ st.hp w (Zf cf.Z0 cf.base ρ st.hp w) y d := by
        intro i y d q1 q2
        exact hop.2 i y d (by simpa using q1) q2
       rcases hf with ⟨id',rfl,rfl⟩ | ⟨t,rfl,rfl⟩
       ·simp only [callTo,Option.some.injEq,Prod.mk.injEq] at hto
        obtain ⟨rfl,rfl⟩ := hto
        exact ⟨_,hrun (c1 := #[]) (c2 := #[]) rfl rfl,by simpa using hop1,fun i y d q1 q2 => hop2 i y d (by simpa using q1) q2⟩
       ·simp only [callTo] at hto
        have hx := h.ev (.tmp t) (.t t) rfl
        generalize ev st (.t t) = fx at hto hx
        split at hto
        ·rename_i id' d1 d2
         cases hto
         have hfv : ∃ c1 c2 : Array Value,a.eval (.tmp t) = .func (.func id) c1 c2 ∧ c1.size = d1.length ∧ c2.size = d2.length ∧ (∀ (i : Nat) c d,c1[i]? = some c → d1[i]? = some d → V ρ st.hp w (Zf cf.Z0 cf.base ρ st.hp w) c d) ∧
           ∀ (i : Nat) c d,c2[i]? = some c → d2[i]? = some d → V ρ st.hp w (Zf cf.Z0 cf.base ρ st.hp w) c d := by
          generalize a.eval (.tmp t) = u at hx
          cases hx with
          | pure h0 => cases h0 with | fn _ c1 c2 _ _ l1 l2 r1 r2 => exact ⟨c1,c2,rfl,l1,l2,fun i c d q1 q2 => .pure (r1 i c d q1 q2),fun i c d q1 q2 => .pure (r2 i c d q1 q2)⟩
          | fn _ c1 c2 _ _ l1 l2 r1 r2 => exact ⟨c1,c2,rfl,l1,l2,r1,r2⟩
         obtain ⟨c1,c2,e1,l1,l2,r1,r2⟩ := hfv
         have app : ∀ {A B : Array Value} {D E : List AV},A.size = D.length → (∀ (i : Nat) c d,A[i]? = some c → D[i]? = some d → V ρ st.hp w (Zf cf.Z0 cf.base ρ st.hp w) c d) → (∀ (i : Nat) c d,B[i]? = some c → E[i]? = some d → V ρ st.hp w (Zf cf.Z0 cf.base ρ st.hp w) c d) →
           ∀ (i : Nat) c d,(A ++ B)[i]? = some c → (D ++ E)[i]? = some d → V ρ st.hp w (Zf cf.Z0 cf.base ρ st.hp w) c d := by
          intro A B D E hl hA hB i c d q1 q2
          by_cases hi : i < A.size
          ·rw [Array.getElem?_append_left hi] at q1
           rw [List.getElem?_append_left (by omega)] at q2
           exact hA i c d q1 q2
          ·rw [Array.getElem?_append_right (by omega)] at q1
           rw [List.getElem?_append_right (by omega),← hl] at q2
           exact hB _ c d q1 q2
         exact ⟨_,hrun e1 rfl,by simp only [Array.size_append,List.length_append,l1,l2,hop1],app (by simp only [Array.size_append,List.length_append,l1,hop1]) (app l1 r1 hop2) r2⟩
        ·cases hto
      obtain ⟨args,hex,hsz,hV⟩ := hargs
      exact hmain hsz hex hV
    obtain ⟨k1,k2⟩ := mapM_some hps
    have new_le : ∀ {w' : World} (b : Nat),w.heap.size ≤ b ∧ b < w'.heap.size → Zf cf.Z0 cf.base ρ st.hp w' b := by
     intro w' b hz
     refine ⟨.inr (Nat.le_trans (Nat.le_trans h.fr.base_le h.fr.size) hz.1),hz.2,fun l hl he => ?_⟩
     cases hb' : st.hp l with
     | none => rw [hb'] at hl; cases hl
     | some b' =>
      obtain ⟨c,t,g,_⟩ := h.hp.blk l b' b hb' he
      have := (Array.getElem?_eq_some_iff.1 g).1
      have := hz.1; omega
    split at he
    ·split at he
     ·rename_i hflat0
      obtain ⟨hflat,hnw⟩ := hflat0
      cases he
      refine main fun {args} hsz hex hV => ?_
      have hdlt := hdn d hd
      have hown : ∀ l b B,st.hp l = some b → ρ l = some B → B < w.heap.size := by
       intro l b B h1 h2
       obtain ⟨c,t,g,_⟩ := h.hp.blk l b B h1 h2
       exact (Array.getElem?_eq_some_iff.1 g).1
      -- the result goes into the temporary
      have fin : ∀ {v : Value} {w' : World},Below w.heap.size w w' → V0 w' (Zf cf.Z0 cf.base ρ st.hp w') v r → StR cf (st.set d r) (a.put o.dst v) w' := by
       intro v w' hb hv
       have := (h.below hb).put (.pure hv) (dst := o.dst) (fun k hk => by rw [hd] at hk; cases hk; exact hdlt)
       rw [hd] at this ⊢
       exact ⟨ρ,this⟩
      have up : ∀ {R R' : Value → World → Prop},(∀ v w',R v w' → R' v w') → CallOk P id args w R → (∀ v w',R' v w' → StR cf (st.set d r) (a.put o.dst v) w') → Steps1 P cf o (st.set d r) a w := by
       intro R R' hR hk hR'
       rcases hk with ⟨v,w',g1,g2⟩ | ⟨g1,g2⟩
       ·exact .inl ⟨v,w',by rw [hex]; exact g1,hR' v w' (hR v w' g2)⟩
       ·exact .inr (.inr ⟨id,args,w,by rw [hex]; exact g1,Calls.mono g2 fun e w' he => let ⟨v,e1,e2⟩ := he; ⟨v,e1,hR' v w' (hR v w' e2)⟩⟩)
      by_cases href : vs.all refless = true
      ·have hps' : ps = vs := by
        refine List.ext_getElem? fun i => ?_
        by_cases hi : i < vs.length
        ·have hx' : vs[i]? = some vs[i] := by simp [hi]
         have hy' : ps[i]? = some (ps[i]'(by omega)) := by simp [k1 ▸ hi]
         rw [hx',hy',pureV_refless (k2 i _ _ hx' hy') (List.all_eq_true.1 href _ (List.mem_of_getElem? hx'))]
        ·rw [List.getElem?_eq_none (by omega),List.getElem?_eq_none (by omega)]
       subst hps'
       have hspec := ((ht.1 id _ r m hr).saysM hnw).says w (Zf cf.Z0 cf.base ρ st.hp w) args (fun b hb => hb.2.1) (by simpa using hsz) (nz_args fun i c d q1 q2 => (hV i c d q1 q2).refless (List.all_eq_true.1 href _ (List.mem_of_getElem? q2)))
       refine up (fun v w' hv => hv) hspec fun v w' ⟨hb,hv⟩ => fin hb (hv.widen fun b hz => ?_)
       rcases hz with hz | ⟨hz1,hz2⟩
       ·exact ⟨hz.1,Nat.lt_of_lt_of_le hz.2.1 hb.size,hz.2.2⟩
       ·refine ⟨.inr (Nat.le_trans (Nat.le_trans h.fr.base_le h.fr.size) hz1),hz2,fun l hl he => ?_⟩
        cases hb' : st.hp l with
        | none => rw [hb'] at hl; cases hl
        | some b' => have := hown l b' b hb' he; omega
      ·have hfl : flatT r = true ∨ m.isNew = true := by simpa [href] using hflat
       have hspec := (ht.1 id _ r m hr).saysM hnw w (Zo (Zf cf.Z0 cf.base ρ st.hp w) ρ st.hp) args (fun b hb => by
         rcases hb with hb | ⟨l,hl,he⟩
         ·exact hb.2.1
         ·cases hb' : st.hp l with
          | none => rw [hb'] at hl; cases hl
          | some b' => exact hown l b' b hb' he) (by simp [hsz,k1]) <| nz_args fun i c d q1 q2 => by
        have hi : i < vs.length := by rw [k1]; exact (List.getElem?_eq_some_iff.1 q2).1
        have hx' : vs[i]? = some vs[i] := by simp [hi]
        exact pureV_ok h.hp (hV i c _ q1 hx') (k2 i _ d hx' q2)
       refine up (fun v w' hv => hv) hspec fun v w' hm => ?_
       rcases hfl with hfl | hnew
       ·obtain ⟨hb,hv⟩ := hm.res
        exact fin hb ((V.pure (ρ := ρ) (h := st.hp) hv).flatT hfl)
       ·obtain ⟨hb,hv⟩ := hm.new hnew
        exact fin hb (hv.widen fun b hz => new_le b hz)
     ·cases he
    ·rename_i e es
     split at he
     ·rename_i hm
      split at he
      ·rename_i y bs hy
       split at he
       ·rename_i hf
        cases he
        refine main fun {args} hsz hex hV => ?_
        have hspec := (ht.1 id _ r m hr).saysM (by cases m <;> first | rfl | cases hm) w (Zo (Zf cf.Z0 cf.base ρ st.hp w) ρ st.hp) args (fun b hb => by
          rcases hb with hb | ⟨l,hl,he⟩
          ·exact hb.2.1
          ·cases hb' : st.hp l with
           | none => rw [hb'] at hl; cases hl
           | some b' =>
            obtain ⟨c,t,g,_⟩ := h.hp.blk l b' b hb' he
            exact (Array.getElem?_eq_some_iff.1 g).1) (by simp [hsz,k1]) <| nz_args fun i c d q1 q2 => by
         have hi : i < vs.length := by rw [k1]; exact (List.getElem?_eq_some_iff.1 q2).1
         have hx' : vs[i]? = some vs[i] := by simp [hi]
         exact pureV_ok h.hp (hV i c _ q1 hx') (k2 i _ d hx' q2)
        have hm' : m = .own (e :: es) := by
         cases m with
         | own l => simp only [Md.isOwn,beq_iff_eq] at hm; rw [hm]
         | _ => cases hm
        subst hm'
        have hfin : ∀ v w',ResM (.own (e :: es)) (Zo (Zf cf.Z0 cf.base ρ st.hp w) ρ st.hp) w r v w' → StR cf ⟨(d,y) :: st.env,bs ++ st.heap⟩ (a.put o.dst v) w' := by
         intro v w' ⟨hb,hv,ho⟩
         rw [hd]
         exact own_ok h hb hv ho hy hf fun k hk => by cases hk; exact hdn d hd
        rcases hspec with ⟨v,w',g1,g2⟩ | ⟨g1,g2⟩
        ·exact .inl ⟨v,w',by rw [hex]; exact g1,hfin v w' g2⟩
        ·exact .inr (.inr ⟨id,args,w,by rw [hex]; exact g1,Calls.mono g2 fun e w' he => let ⟨v,e1,e2⟩ := he; ⟨v,e1,hfin v w' e2⟩⟩)
       ·cases he
      ·cases he
     ·split at he
      ·rename_i r' H _
       split at he
       ·rename_i hno
        cases he
        have hk3 : cf.k3 = false := by
         cases hq : cf.k3 with
         | false => rfl
         | true => exact absurd (ht.2 hq id _ r _ hr) (by simp [Md.isOwnH])
        refine main fun {args} hsz hex hV => ?_
        have hspec := (ht.1 id _ r _ hr).saysM rfl w (Zo (Zf cf.Z0 cf.base ρ st.hp w) ρ st.hp) args (fun b hb => by
          rcases hb with hb | ⟨l,hl,he⟩
          ·exact hb.2.1
          ·cases hb' : st.hp l with
           | none => rw [hb'] at hl; cases hl
           | some b' =>
            obtain ⟨c,t,g,_⟩ := h.hp.blk l b' b hb' he
            exact (Array.getElem?_eq_some_iff.1 g).1) (by simp [hsz,k1]) <| nz_args fun i c d q1 q2 => by
         have hi : i < vs.length := by rw [k1]; exact (List.getElem?_eq_some_iff.1 q2).1
         have hx' : vs[i]? = some vs[i] := by simp [hi]
         exact pureV_ok h.hp (hV i c _ q1 hx') (k2 i _ d hx' q2)
        have hfin : ∀ v w',ResM (.ownH r' H) (Zo (Zf cf.Z0 cf.base ρ st.hp w) ρ st.hp) w r v w' → StR cf ⟨(d,r') :: st.env,H.map (fun p => (p.1,some p.2)) ++ st.heap⟩ (a.put o.dst v) w' := by
         intro v w' ⟨hb,hv,ho,hcl⟩
         rw [hd]
         exact ownH_ok h hb ho hcl hno hk3 fun k hk => by cases hk; exact hdn d hd
        rcases hspec with ⟨v,w',g1,g2⟩ | ⟨g1,g2⟩
        ·exact .inl ⟨v,w',by rw [hex]; exact g1,hfin v w' g2⟩
        ·exact .inr (.inr ⟨id,args,w,by rw [hex]; exact g1,Calls.mono g2 fun e w' he => let ⟨v,e1,e2⟩ := he; ⟨v,e1,hfin v w' e2⟩⟩)
       ·cases he
      ·cases he
   ·cases he
  ·cases he
 ·cases he
end
end Go.Ab

namespace Go.Ab
open Go.RowKit

section
variable {P : Program} {cf : Cfg} {ρ : Nat → Option Nat} {st : St} {a : Act} {w : World}

theorem noDupN_cons {p : Nat} {r : List Nat} (h : noDupN (p :: r) = true) : (∀ q ∈ r,q ≠ p) ∧ noDupN r = true := by
 simp only [noDupN,Bool.and_eq_true,List.all_eq_true] at h
 exact ⟨fun q hq => by simpa using h.1 q hq,h.2⟩
theorem lk_of_mem {α : Type} {d : α} : ∀ {L : List (Nat × α)},noDupN (L.map (·.1)) = true → ∀ {p : Nat × α},p ∈ L → lk d L p.1 = p.2
 | q :: L,hn,p,hp => by
  obtain ⟨h1,h2⟩ := noDupN_cons hn
  simp only [lk]
  rcases List.mem_cons.1 hp with rfl | hp
  ·rw [if_pos rfl]
  ·rw [if_neg fun e => h1 p.1 (List.mem_map.2 ⟨p,hp,rfl⟩) e.symm]
   exact lk_of_mem h2 hp
theorem noDupN_inj {α : Type} {f : α → Nat} : ∀ {L : List α},noDupN (L.map f) = true → ∀ {p q : α},p ∈ L → q ∈ L → f p = f q → p = q
 | x :: L,hn,p,q,hp,hq,e => by
  obtain ⟨h1,h2⟩ := noDupN_cons hn
  rcases List.mem_cons.1 hp with rfl | hp'
  ·rcases List.mem_cons.1 hq with rfl | hq
   ·rfl
   ·exact absurd e.symm (h1 _ (List.mem_map.2 ⟨q,hq,rfl⟩))
  ·rcases List.mem_cons.1 hq with rfl | hq
   ·exact absurd e (h1 _ (List.mem_map.2 ⟨p,hp',rfl⟩))
   ·exact noDupN_inj h2 hp' hq e

def Qs (h : Nat → Option Blk) (qs : List (Nat × Nat × Blk)) : Prop := ∀ q ∈ qs,h q.2.1 = some q.2.2 ∧ q.2.2.pur = true ∧ q.2.2.elems.all flatE = true

theorem wC_ok {h : Nat → Option Blk} {Z : Nat → Prop} : ∀ {xs : List AV} {d : Nat} {ps : List AV} {qs : List (Nat × Nat × Blk)},wC h d xs = some (ps,qs) → Qs h qs ∧ ∀ rest,∃ ys,nmC d (qs.map (fun q => q.2.2.es) ++ rest) ps = some (ys,qs.map (fun q => (q.1,q.2.2)),rest) ∧ ys.length = xs.length ∧ ps.length = xs.length ∧
  ∀ (ρ' : Nat → Option Nat) (h' : Nat → Option Blk),(∀ q ∈ qs,ρ' q.1 = ρ q.2.1 ∧ h' q.1 = some q.2.2) → ∀ (i : Nat) v x y,xs[i]? = some x → ys[i]? = some y → V ρ h w Z v x → V ρ' h' w (fun _ => False) v y
 | [],d,ps,qs,hw => by
  simp only [wC,Option.some.injEq,Prod.mk.injEq] at hw
  obtain ⟨rfl,rfl⟩ := hw
  exact ⟨fun q hq => (by cases hq),fun rest => ⟨[],rfl,rfl,rfl,fun ρ' h' _ i v x y hx => by simp at hx⟩⟩
 | x :: xs,d,ps,qs,hw => by
  simp only [wC] at hw
  split at hw
  ·rename_i ps0 qs0 h0
   obtain ⟨k1,k2⟩ := wC_ok (Z := Z) h0
   have flat : ∀ {x : AV},flatC x = true → ps = x :: ps0 → qs = qs0 → Qs h qs ∧ ∀ rest,∃ ys,nmC d (qs.map (fun q => q.2.2.es) ++ rest) ps = some (ys,qs.map (fun q => (q.1,q.2.2)),rest) ∧ ys.length = (x :: xs).length ∧ ps.length = (x :: xs).length ∧
     ∀ (ρ' : Nat → Option Nat) (h' : Nat → Option Blk),(∀ q ∈ qs,ρ' q.1 = ρ q.2.1 ∧ h' q.1 = some q.2.2) → ∀ (i : Nat) v z y,(x :: xs)[i]? = some z → ys[i]? = some y → V ρ h w Z v z → V ρ' h' w (fun _ => False) v y := by
    rintro x hf rfl rfl
    refine ⟨k1,fun rest => ?_⟩
    obtain ⟨ys,g1,g2,g2',g3⟩ := k2 rest
    refine ⟨x :: ys,?_,by simp [g2],by simp [g2'],fun ρ' h' hq i v z y hz hy hv => ?_⟩
    ·simp only [nmC]
     cases x <;> first | (cases hf; done) | (simp only [g1])
    ·cases i with
     | zero => simp at hz hy; subst hz; subst hy; exact .pure (hv.flatC hf)
     | succ i => simp at hz hy; exact g3 ρ' h' hq i v z y hz hy hv
   cases x with
   | lsl l off len =>
    dsimp only at hw
    split at hw
    ·rename_i b hb
     split at hw
     ·rename_i hc
      cases hw
      obtain ⟨rfl,hpur,rfl,hfl⟩ := hc
      refine ⟨fun q hq => ?_,fun rest => ?_⟩
      ·rcases List.mem_cons.1 hq with rfl | hq
       ·exact ⟨hb,hpur,hfl⟩
       ·exact k1 q hq
      ·obtain ⟨ys,g1,g2,g2',g3⟩ := k2 rest
       refine ⟨.lsl d 0 b.elems.length :: ys,?_,by simp [g2],by simp [g2'],fun ρ' h' hq i v z y hz hy hv => ?_⟩
       ·simp only [nmC,List.map_cons,List.cons_append,g1]
        obtain ⟨bes,bp,be⟩ := b
        simp only at hpur
        subst hpur; rfl
       ·cases i with
        | zero =>
         simp at hz hy; subst hz; subst hy
         obtain ⟨q1,q2⟩ := hq _ List.mem_cons_self
         rcases lsl_inv hv with ⟨B,b',t,n,cap,h1,h2,h3,rfl,h4,h5,h6,h7⟩ | ⟨b',h1,h2,hnil,_,h0⟩
         ·rw [hb] at h2; cases h2
          exact .lsl d 0 _ cap B b t n (by rw [q1]; exact h1) q2 h3 h4 h5 h6 h7
         ·rw [h0]
          exact .lnil d b hnil (by rw [q1]; exact h1) q2
        | succ i => simp at hz hy; exact g3 ρ' h' (fun q hq' => hq q (List.mem_cons_of_mem _ hq')) i v z y hz hy hv
     ·cases hw
    ·cases hw
   | _ =>
    dsimp only at hw
    split at hw
    ·rename_i hf
     cases hw
     exact flat hf rfl rfl
    ·cases hw
  ·cases hw

theorem nmC_single {d : Nat} {es : List Nat} {p : AV} {ys : List AV} {bs : List (Nat × Blk)} {rest : List Nat} (h : nmC d es [p] = some (ys,bs,rest)) : ∃ y,ys = [y] := by
 simp only [nmC] at h
 split at h
 ·cases h; exact ⟨_,rfl⟩
 ·cases h
 ·cases h; exact ⟨_,rfl⟩

theorem wA_ok {h : Nat → Option Blk} {Z : Nat → Prop} {x : AV} {d : Nat} {p : AV} {qs : List (Nat × Nat × Blk)} (hw : wA h d x = some (p,qs)) : Qs h qs ∧ ∀ rest,∃ y,nmA d (qs.map (fun q => q.2.2.es) ++ rest) p = some (y,qs.map (fun q => (q.1,q.2.2)),rest) ∧
  ∀ (ρ' : Nat → Option Nat) (h' : Nat → Option Blk),(∀ q ∈ qs,ρ' q.1 = ρ q.2.1 ∧ h' q.1 = some q.2.2) → ∀ v,V ρ h w Z v x → V ρ' h' w (fun _ => False) v y := by
 have single : ∀ {p : AV},wC h d [x] = some ([p],qs) → (∀ cs,p ≠ .agg cs) → Qs h qs ∧ ∀ rest,∃ y,nmA d (qs.map (fun q => q.2.2.es) ++ rest) p = some (y,qs.map (fun q => (q.1,q.2.2)),rest) ∧
   ∀ (ρ' : Nat → Option Nat) (h' : Nat → Option Blk),(∀ q ∈ qs,ρ' q.1 = ρ q.2.1 ∧ h' q.1 = some q.2.2) → ∀ v,V ρ h w Z v x → V ρ' h' w (fun _ => False) v y := by
  intro p hc hne
  obtain ⟨k1,k2⟩ := wC_ok (ρ := ρ) (w := w) (Z := Z) hc
  refine ⟨k1,fun rest => ?_⟩
  obtain ⟨ys,g1,g2,_,g3⟩ := k2 rest
  obtain ⟨y,rfl⟩ := nmC_single g1
  refine ⟨y,?_,fun ρ' h' hq v hv => g3 ρ' h' hq 0 v x y rfl rfl hv⟩
  cases p <;> first | exact absurd rfl (hne _) | (simp only [nmA,g1])
 cases x with
 | agg cs =>
  simp only [wA] at hw
  split at hw
  ·rename_i ps qs' hc
   cases hw
   obtain ⟨k1,k2⟩ := wC_ok (ρ := ρ) (w := w) (Z := Z) hc
   refine ⟨k1,fun rest => ?_⟩
   obtain ⟨ys,g1,g2,_,g3⟩ := k2 rest
   refine ⟨.agg ys,by simp only [nmA,g1],fun ρ' h' hq v hv => ?_⟩
   obtain ⟨vs,rfl,hl,hd⟩ := agg_inv hv
   refine .agg vs ys (by rw [hl,g2]) fun i c d' q1 q2 => ?_
   have hi : i < cs.length := by rw [← g2]; exact (List.getElem?_eq_some_iff.1 q2).1
   have hx' : cs[i]? = some cs[i] := by simp [hi]
   exact g3 ρ' h' hq i c _ d' hx' q2 (hd i c _ q1 hx')
  ·cases hw
 | _ =>
  simp only [wA] at hw
  split at hw
  ·rename_i p' qs' hc
   cases hw
   refine single hc fun cs e => ?_
   subst e
   simp only [wC] at hc
   first
    | (split at hc <;> first | (cases hc; done) | (split at hc <;> cases hc))
    | (simp [flatC] at hc; done)
    | (cases hc; done)
  ·cases hw

theorem wAs_ok {h : Nat → Option Blk} {Z : Nat → Prop} : ∀ {xs : List AV} {d : Nat} {ps : List AV} {qs : List (Nat × Nat × Blk)},wAs h d xs = some (ps,qs) → Qs h qs ∧ ∀ rest,∃ ys,nmAs d (qs.map (fun q => q.2.2.es) ++ rest) ps = some (ys,qs.map (fun q => (q.1,q.2.2)),rest) ∧ ys.length = xs.length ∧
  ∀ (ρ' : Nat → Option Nat) (h' : Nat → Option Blk),(∀ q ∈ qs,ρ' q.1 = ρ q.2.1 ∧ h' q.1 = some q.2.2) → ∀ (i : Nat) v x y,xs[i]? = some x → ys[i]? = some y → V ρ h w Z v x → V ρ' h' w (fun _ => False) v y
 | [],d,ps,qs,hw => by
  simp only [wAs,Option.some.injEq,Prod.mk.injEq] at hw
  obtain ⟨rfl,rfl⟩ := hw
  exact ⟨fun q hq => (by cases hq),fun rest => ⟨[],rfl,rfl,fun ρ' h' _ i v x y hx => by simp at hx⟩⟩
 | x :: xs,d,ps,qs,hw => by
  simp only [wAs] at hw
  split at hw
  ·rename_i p q1 ps0 q2 h1 h2
   cases hw
   obtain ⟨k1,k2⟩ := wA_ok (ρ := ρ) (w := w) (Z := Z) h1
   obtain ⟨k3,k4⟩ := wAs_ok (Z := Z) h2
   refine ⟨fun q hq => ?_,fun rest => ?_⟩
   ·rcases List.mem_append.1 hq with hq | hq
    ·exact k1 q hq
    ·exact k3 q hq
   ·obtain ⟨y,g1,g2⟩ := k2 (q2.map (fun q => q.2.2.es) ++ rest)
    obtain ⟨ys,g3,g4,g5⟩ := k4 rest
    refine ⟨y :: ys,?_,by simp [g4],fun ρ' h' hq i v z u hz hu hv => ?_⟩
    ·simp only [nmAs,List.map_append,List.append_assoc,g1,g3]
    ·cases i with
     | zero => simp at hz hu; subst hz; subst hu; exact g2 ρ' h' (fun q hq' => hq q (List.mem_append_left _ hq')) v hv
     | succ i => simp at hz hu; exact g5 ρ' h' (fun q hq' => hq q (List.mem_append_right _ hq')) i v z u hz hu hv
  ·cases hw

theorem zipW_ok : ∀ {qs : List (Nat × Nat × Blk)} {yss : List (List AV)} {H' bs : List (Nat × Blk)},zipW (qs.map fun q => (q.1,q.2.2)) yss = some H' → zipW (qs.map fun q => (q.2.1,q.2.2)) yss = some bs →
  ∃ L : List (Nat × Nat × Blk × Blk),qs = L.map (fun x => (x.1,x.2.1,x.2.2.1)) ∧ H' = L.map (fun x => (x.1,x.2.2.2)) ∧ bs = L.map (fun x => (x.2.1,x.2.2.2)) ∧ ∀ x ∈ L,x.2.2.2.es = x.2.2.1.es ∧ x.2.2.2.pur = x.2.2.1.pur ∧ x.2.2.2.elems.length = x.2.2.1.elems.length
 | [],[],H',bs,h1,h2 => by
  simp only [List.map_nil,zipW,Option.some.injEq] at h1 h2
  subst h1; subst h2
  exact ⟨[],rfl,rfl,rfl,fun x hx => by cases hx⟩
 | [],ys :: yss,H',bs,h1,h2 => by cases h1
 | q :: qs,[],H',bs,h1,h2 => by cases h1
 | q :: qs,ys :: yss,H',bs,h1,h2 => by
  simp only [List.map_cons,zipW] at h1 h2
  split at h1
  ·rename_i r1 k1
   split at h1
   ·rename_i hl
    cases h1
    split at h2
    ·rename_i r2 k2
     split at h2
     ·cases h2
      obtain ⟨L,g1,g2,g3,g4⟩ := zipW_ok k1 k2
      refine ⟨(q.1,q.2.1,q.2.2,{ q.2.2 with elems := ys }) :: L,by rw [List.map_cons,← g1],by rw [List.map_cons,← g2],by rw [List.map_cons,← g3],fun x hx => ?_⟩
      rcases List.mem_cons.1 hx with rfl | hx
      ·exact ⟨rfl,rfl,hl⟩
      ·exact g4 x hx
     ·rename_i hne; exact absurd hl hne
    ·cases h2
   ·cases h1
  ·cases h1

theorem StRρ.written (h : StRρ cf ρ st a w) {w' : World} {ρ' : Nat → Option Nat} {L : List (Nat × Nat × Blk × Blk)} (hq : ∀ x ∈ L,st.hp x.2.1 = some x.2.2.1 ∧ ρ' x.1 = ρ x.2.1 ∧ HW (L.map fun x => (x.1,x.2.2.1)) x.1 = some x.2.2.1 ∧ HW (L.map fun x => (x.1,x.2.2.2)) x.1 = some x.2.2.2)
  (hs : ∀ x ∈ L,x.2.2.2.es = x.2.2.1.es ∧ x.2.2.2.pur = x.2.2.1.pur ∧ x.2.2.2.elems.length = x.2.2.1.elems.length) (hpur : ∀ x ∈ L,x.2.2.1.pur = true)
  (hw : WrW ρ' (L.map fun x => (x.1,x.2.2.1)) (L.map fun x => (x.1,x.2.2.2)) w w') : StRρ cf ρ ⟨st.env,(L.map fun x => (x.2.1,some x.2.2.2)) ++ st.heap⟩ a w' := by
 generalize hst : (⟨st.env,(L.map fun x => (x.2.1,some x.2.2.2)) ++ st.heap⟩ : St) = st'
 have hcase : ∀ l,(∃ x ∈ L,x.2.1 = l ∧ st'.hp l = some x.2.2.2) ∨ ((∀ x ∈ L,x.2.1 ≠ l) ∧ st'.hp l = st.hp l) := by
  intro l
  have key : ∀ L : List (Nat × Nat × Blk × Blk),(∃ x ∈ L,x.2.1 = l ∧ lk none ((L.map fun x => (x.2.1,some x.2.2.2)) ++ st.heap) l = some x.2.2.2) ∨ ((∀ x ∈ L,x.2.1 ≠ l) ∧ lk none ((L.map fun x => (x.2.1,some x.2.2.2)) ++ st.heap) l = lk none st.heap l) := by
   intro L
   induction L with
   | nil => exact .inr ⟨fun x hx => (by cases hx),rfl⟩
   | cons x L ih =>
    by_cases e : x.2.1 = l
    ·refine .inl ⟨x,List.mem_cons_self,e,?_⟩
     show (if x.2.1 = l then some x.2.2.2 else _) = _
     rw [if_pos e]
    ·have e1 : lk none (((x :: L).map fun x => (x.2.1,some x.2.2.2)) ++ st.heap) l = lk none ((L.map fun x => (x.2.1,some x.2.2.2)) ++ st.heap) l := by
      show (if x.2.1 = l then some x.2.2.2 else _) = _
      rw [if_neg e]; rfl
     rw [e1]
     rcases ih with ⟨y,hy,h1,h2⟩ | ⟨h1,h2⟩
     ·exact .inl ⟨y,List.mem_cons_of_mem _ hy,h1,h2⟩
     ·refine .inr ⟨fun y hy => ?_,h2⟩
      rcases List.mem_cons.1 hy with rfl | hy
      ·exact e
      ·exact h1 y hy
  subst hst; exact key L
 have hget : ∀ t,st'.get t = st.get t := by intro t; subst hst; rfl
 have hnamed : ∀ l B,(st.hp l).isSome = true → ρ l = some B → (∀ x ∈ L,x.2.1 ≠ l) → ∀ n,(HW (L.map fun x => (x.1,x.2.2.1)) n).isSome = true → ρ' n ≠ some B := by
  intro l B hl hB hne n hn e
  obtain ⟨b,hb⟩ := Option.isSome_iff_exists.1 hn
  obtain ⟨x,hx,hxe⟩ := List.mem_map.1 (HW_mem hb)
  cases hxe
  obtain ⟨k1,k2,_,_⟩ := hq x hx
  rw [k2] at e
  exact hne x hx (h.hp.inj _ _ B (by simp [k1]) hl e hB)
 have hown : ∀ l b B,st.hp l = some b → ρ l = some B → B < w.heap.size := by
  intro l b B h1 h2
  obtain ⟨c,t,g,_⟩ := h.hp.blk l b B h1 h2
  exact (Array.getElem?_eq_some_iff.1 g).1
 have halive : ∀ l,(st'.hp l).isSome = true → (st.hp l).isSome = true := by
  intro l hl
  rcases hcase l with ⟨x,hx,h1,h2⟩ | ⟨h1,h2⟩
  ·rw [← h1,(hq x hx).1]; rfl
  ·rw [← h2]; exact hl
 have hz : ∀ k,Zf cf.Z0 cf.base ρ st.hp w k → Zf cf.Z0 cf.base ρ st'.hp w' k ∧ w'.heap[k]? = w.heap[k]? := by
  intro k hk
  refine ⟨⟨hk.1,Nat.lt_of_lt_of_le hk.2.1 hw.size,fun l hl he => hk.2.2 l (halive l hl) he⟩,hw.block k hk.2.1 fun n hn e => ?_⟩
  obtain ⟨b,hb⟩ := Option.isSome_iff_exists.1 hn
  obtain ⟨x,hx,hxe⟩ := List.mem_map.1 (HW_mem hb)
  cases hxe
  obtain ⟨k1,k2,_,_⟩ := hq x hx
  rw [k2] at e
  exact hk.2.2 _ (by simp [k1]) e
 have hnm : ∀ l b,st.hp l = some b → ρ l = ρ l ∧ (∃ b',st'.hp l = some b' ∧ b'.es = b.es ∧ b'.elems.length = b.elems.length) ∧ ∀ B,ρ l = some B → w'.shape? B = w.shape? B := by
  intro l b hb
  refine ⟨rfl,?_,fun B hB => hw.shape B (hown l b B hb hB)⟩
  rcases hcase l with ⟨x,hx,h1,h2⟩ | ⟨h1,h2⟩
  ·have h3 := (hq x hx).1
   rw [h1,hb] at h3; cases h3
   exact ⟨_,h2,(hs x hx).1,(hs x hx).2.2⟩
  ·exact ⟨b,by rw [h2]; exact hb,rfl,rfl⟩
 have mono : ∀ {v x},V ρ st.hp w (Zf cf.Z0 cf.base ρ st.hp w) v x → V ρ st'.hp w' (Zf cf.Z0 cf.base ρ st'.hp w') v x := fun hv => hv.mono hz hnm
 refine ⟨⟨fun l b B hb hB => ?_,fun l b hb hB => ?_,fun l l' B h1 h2 => h.hp.inj l l' B (halive l h1) (halive l' h2)⟩,fun t => by rw [hget]; exact mono (h.tmp t),h.size,h.defers,
  ⟨hw.os.trans h.fr.os,hw.tape.trans h.fr.tape,hw.output.trans h.fr.output,Nat.le_trans h.fr.size hw.size,h.fr.base_le,fun b h1 h2 => ?_⟩,fun l B hl hB => h.own l B (halive l hl) hB,h.z0,h.pin,fun b hbb => ?_⟩
 ·rcases hcase l with ⟨x,hx,h1,h2⟩ | ⟨h1,h2⟩
  ·rw [h2] at hb; cases hb
   obtain ⟨k1,k2,k3,k4⟩ := hq x hx
   have := hw.hp.blk x.1 x.2.2.2 B k4 (by rw [k2,h1]; exact hB)
   obtain ⟨c,t,g1,g2,g3,g4,g5⟩ := this
   refine ⟨c,t,g1,g2,g3,fun i y j d v q1 q2 q3 => ?_,fun hp i y j d v q1 q2 q3 => ?_⟩
   ·exact .pure ((g5 (by rw [(hs x hx).2.1]; exact hpur x hx) i y j d v q1 q2 q3).mono fun b hb => hb.elim)
   ·exact (g5 hp i y j d v q1 q2 q3).mono fun b hb => hb.elim
  ·rw [h2] at hb
   obtain ⟨c,t,g1,g2,g3,g4,g5⟩ := h.hp.blk l b B hb hB
   have hh : w'.heap[B]? = w.heap[B]? := hw.block B (hown l b B hb hB) (hnamed l B (by simp [hb]) hB h1)
   exact ⟨c,t,by rw [hh]; exact g1,g2,g3,fun i x j d v q1 q2 q3 => mono (g4 i x j d v q1 q2 q3),fun hp i x j d v q1 q2 q3 => (g5 hp i x j d v q1 q2 q3).mono hz⟩
 ·rcases hcase l with ⟨x,hx,h1,h2⟩ | ⟨h1,h2⟩
  ·rw [h2] at hb; cases hb
   obtain ⟨k1,k2,k3,k4⟩ := hq x hx
   exact hw.hp.nil x.1 x.2.2.2 k4 (by rw [k2,h1]; exact hB)
  ·rw [h2] at hb
   exact h.hp.nil l b hb hB
 ·rw [hw.block b (Nat.lt_of_lt_of_le h1 (Nat.le_trans h.fr.base_le h.fr.size)) fun n hn e => ?_]
  ·exact h.fr.block b h1 h2
  ·obtain ⟨b',hb'⟩ := Option.isSome_iff_exists.1 hn
   obtain ⟨x,hx,hxe⟩ := List.mem_map.1 (HW_mem hb')
   cases hxe
   obtain ⟨k1,k2,_,_⟩ := hq x hx
   rw [k2] at e
   rcases h.own _ b (by simp [k1]) e with g | g
   ·omega
   ·exact h2 g
 ·rw [hw.shape b (Nat.lt_of_lt_of_le hbb (Nat.le_trans h.fr.base_le h.fr.size))]
  exact h.shp b hbb

/-! ### Lists of lists that are handed over to be written -/
theorem V.close {h : Nat → Option Blk} {Z : Nat → Prop} {H : List (Nat × Blk)} (hH : ∀ l b,HW H l = some b → h l = some b) {v : Value} {d : AV} (hv : V ρ h w Z v d) (hc : ClosC H d) : V ρ (HW H) w (fun _ => False) v d := by
 rcases hc with hc | ⟨l,off,len,rfl,hl⟩
 ·exact .pure (hv.flatC hc)
 ·obtain ⟨b,hb⟩ := Option.isSome_iff_exists.1 hl
  rcases lsl_inv hv with ⟨B,b',t,n,cap,h1,h2,h3,rfl,h4,h5,h6,h7⟩ | ⟨b',h1,h2,hnil,h00,h0⟩
  ·rw [hH l b hb] at h2; cases h2
   exact .lsl l off len cap B b t n h1 hb h3 h4 h5 h6 h7
  ·rw [h00,h0]
   exact .lnil l b hnil h1 hb
theorem V.closeV {h : Nat → Option Blk} {Z : Nat → Prop} {H : List (Nat × Blk)} (hH : ∀ l b,HW H l = some b → h l = some b) {v : Value} {x : AV} (hv : V ρ h w Z v x) (hc : ∀ d ∈ x.cells,ClosC H d) : V ρ (HW H) w (fun _ => False) v x := by
 cases x with
 | agg cs =>
  obtain ⟨vs,rfl,hl,hd⟩ := agg_inv hv
  exact .agg vs cs hl fun i c d h1 h2 => (hd i c d h1 h2).close hH (hc d (List.mem_of_getElem? h2))
 | _ => exact hv.close hH (hc _ (by simp [AV.cells]))

theorem StRρ.writtenH (h : StRρ cf ρ st a w) {w' : World} {vs : List AV} {H H' : List (Nat × Blk)} (hH : ∀ l b,HW H l = some b → st.hp l = some b) (hn : NestH vs H H') (hw : WrW ρ H H' w w') : StRρ cf ρ ⟨st.env,H'.map (fun p => (p.1,some p.2)) ++ st.heap⟩ a w' := by
 generalize hst : (⟨st.env,H'.map (fun p => (p.1,some p.2)) ++ st.heap⟩ : St) = st'
 have hcase : ∀ l,(∃ b b',HW H l = some b ∧ HW H' l = some b' ∧ st'.hp l = some b' ∧ b'.es = b.es ∧ b'.elems.length = b.elems.length) ∨ (HW H l = none ∧ HW H' l = none ∧ st'.hp l = st.hp l) := by
  intro l
  subst hst
  rcases lk_HW H' st.heap l with ⟨b',h1,h2⟩ | ⟨h1,h2⟩
  ·obtain ⟨b,hb⟩ := Option.isSome_iff_exists.1 (hn.back l (by rw [h1]; rfl))
   obtain ⟨c,c1,c2,c3⟩ := hn.same l b hb
   rw [h1] at c1; cases c1
   exact .inl ⟨b,b',hb,h1,h2,c2,c3⟩
  ·refine .inr ⟨?_,h1,h2⟩
   cases hb : HW H l with
   | none => rfl
   | some b => obtain ⟨c,c1,_⟩ := hn.same l b hb; rw [h1] at c1; cases c1
 have hget : ∀ t,st'.get t = st.get t := by intro t; subst hst; rfl
 have hown : ∀ l b B,st.hp l = some b → ρ l = some B → B < w.heap.size := by
  intro l b B h1 h2
  obtain ⟨c,t,g,_⟩ := h.hp.blk l b B h1 h2
  exact (Array.getElem?_eq_some_iff.1 g).1
 have halive : ∀ l,(st'.hp l).isSome = true → (st.hp l).isSome = true := by
  intro l hl
  rcases hcase l with ⟨b,b',h1,h2,h3,_⟩ | ⟨h1,h2,h3⟩
  ·rw [hH l b h1]; rfl
  ·rw [← h3]; exact hl
 have hnot : ∀ l B,(st.hp l).isSome = true → ρ l = some B → HW H l = none → ∀ n,(HW H n).isSome = true → ρ n ≠ some B := by
  intro l B hl hB hnone n hn' e
  obtain ⟨b,hb⟩ := Option.isSome_iff_exists.1 hn'
  have := h.hp.inj n l B (by rw [hH n b hb]; rfl) hl e hB
  subst this
  rw [hnone] at hb; cases hb
 have hz : ∀ k,Zf cf.Z0 cf.base ρ st.hp w k → Zf cf.Z0 cf.base ρ st'.hp w' k ∧ w'.heap[k]? = w.heap[k]? := by
  intro k hk
  refine ⟨⟨hk.1,Nat.lt_of_lt_of_le hk.2.1 hw.size,fun l hl he => hk.2.2 l (halive l hl) he⟩,hw.block k hk.2.1 fun n hn' e => ?_⟩
  obtain ⟨b,hb⟩ := Option.isSome_iff_exists.1 hn'
  exact hk.2.2 n (by rw [hH n b hb]; rfl) e
 have hnm : ∀ l b,st.hp l = some b → ρ l = ρ l ∧ (∃ b',st'.hp l = some b' ∧ b'.es = b.es ∧ b'.elems.length = b.elems.length) ∧ ∀ B,ρ l = some B → w'.shape? B = w.shape? B := by
  intro l b hb
  refine ⟨rfl,?_,fun B hB => hw.shape B (hown l b B hb hB)⟩
  rcases hcase l with ⟨c,b',h1,h2,h3,h4,h5⟩ | ⟨h1,h2,h3⟩
  ·have := hH l c h1
   rw [hb] at this; cases this
   exact ⟨b',h3,h4,h5⟩
  ·exact ⟨b,by rw [h3]; exact hb,rfl,rfl⟩
 have mono : ∀ {v x},V ρ st.hp w (Zf cf.Z0 cf.base ρ st.hp w) v x → V ρ st'.hp w' (Zf cf.Z0 cf.base ρ st'.hp w') v x := fun hv => hv.mono hz hnm
 have up : ∀ {v x},V ρ (HW H') w' (fun _ => False) v x → V ρ st'.hp w' (Zf cf.Z0 cf.base ρ st'.hp w') v x := fun hv => by
  refine hv.mono (fun b hb => hb.elim) fun l b hlb => ?_
  rcases hcase l with ⟨c,b',h1,h2,h3,h4,h5⟩ | ⟨h1,h2,h3⟩
  ·rw [h2] at hlb; cases hlb
   exact ⟨rfl,⟨_,h3,rfl,rfl⟩,fun _ _ => rfl⟩
  ·rw [h2] at hlb; cases hlb
 refine ⟨⟨fun l b B hb hB => ?_,fun l b hb hB => ?_,fun l l' B h1 h2 => h.hp.inj l l' B (halive l h1) (halive l' h2)⟩,fun t => by rw [hget]; exact mono (h.tmp t),h.size,h.defers,
  ⟨hw.os.trans h.fr.os,hw.tape.trans h.fr.tape,hw.output.trans h.fr.output,Nat.le_trans h.fr.size hw.size,h.fr.base_le,fun b h1 h2 => ?_⟩,fun l B hl hB => h.own l B (halive l hl) hB,h.z0,h.pin,fun b hbb => ?_⟩
 ·rcases hcase l with ⟨c,b',h1,h2,h3,h4,h5⟩ | ⟨h1,h2,h3⟩
  ·rw [h3] at hb; cases hb
   obtain ⟨cs,t,g1,g2,g3,g4,g5⟩ := hw.hp.blk l _ B h2 hB
   exact ⟨cs,t,g1,g2,g3,fun i y j d v q1 q2 q3 => up (g4 i y j d v q1 q2 q3),fun hp i y j d v q1 q2 q3 => (g5 hp i y j d v q1 q2 q3).mono fun b hb => hb.elim⟩
  ·rw [h3] at hb
   obtain ⟨c,t,g1,g2,g3,g4,g5⟩ := h.hp.blk l b B hb hB
   have hh : w'.heap[B]? = w.heap[B]? := hw.block B (hown l b B hb hB) (hnot l B (by rw [hb]; rfl) hB h1)
   exact ⟨c,t,by rw [hh]; exact g1,g2,g3,fun i x j d v q1 q2 q3 => mono (g4 i x j d v q1 q2 q3),fun hp i x j d v q1 q2 q3 => (g5 hp i x j d v q1 q2 q3).mono hz⟩
 ·rcases hcase l with ⟨c,b',h1,h2,h3,h4,h5⟩ | ⟨h1,h2,h3⟩
  ·rw [h3] at hb; cases hb
   exact hw.hp.nil l _ h2 hB
  ·rw [h3] at hb
   exact h.hp.nil l b hb hB
 ·rw [hw.block b (Nat.lt_of_lt_of_le h1 (Nat.le_trans h.fr.base_le h.fr.size)) fun n hn' e => ?_]
  ·exact h.fr.block b h1 h2
  ·obtain ⟨b',hb'⟩ := Option.isSome_iff_exists.1 hn'
   rcases h.own n b (by rw [hH n b' hb']; rfl) e with g | g
   ·omega
   ·exact h2 g
 ·rw [hw.shape b (Nat.lt_of_lt_of_le hbb (Nat.le_trans h.fr.base_le h.fr.size))]
  exact h.shp b hbb

theorem grab_mem {h : Nat → Option Blk} {vs : List AV} {p : Nat × Blk} (hp : p ∈ grab h vs) : h p.1 = some p.2 := by
 have k0 : ∀ {x : AV} {p : Nat × Blk},p ∈ grab0 h x → h p.1 = some p.2 := by
  intro x p hp
  unfold grab0 at hp
  split at hp
  ·split at hp
   ·rename_i b hb
    rcases List.mem_cons.1 hp with rfl | hp
    ·exact hb
    ·cases hp
   ·cases hp
  ·cases hp
 have k1 : ∀ {x : AV} {p : Nat × Blk},p ∈ grabC h x → h p.1 = some p.2 := by
  intro x p hp
  unfold grabC at hp
  split at hp
  ·split at hp
   ·rename_i b hb
    rcases List.mem_cons.1 hp with rfl | hp
    ·exact hb
    ·unfold grabE at hp
     split at hp
     ·cases hp
     ·obtain ⟨y,_,hy⟩ := List.mem_flatMap.1 hp
      obtain ⟨z,_,hz⟩ := List.mem_flatMap.1 hy
      exact k0 hz
   ·cases hp
  ·cases hp
 obtain ⟨y,_,hy⟩ := List.mem_flatMap.1 hp
 obtain ⟨z,_,hz⟩ := List.mem_flatMap.1 hy
 exact k1 hz
theorem grab_hw {h : Nat → Option Blk} {vs : List AV} (l : Nat) (b : Blk) (hl : HW (grab h vs) l = some b) : h l = some b := grab_mem (HW_mem hl)

theorem callM_inv {own mu : List Nat} {op : Op} {c : Call} (ho : op = .call c) {f : Nat} {os : List Opd} (hc : cOp P own mu op = some (.callM f os)) : c.callee = .value (.func f) ∧ cOpds c.args.toList = some os := by
 subst ho
 obtain ⟨callee,args,argTypes⟩ := c
 simp only [cOp] at hc
 split at hc
 ·rename_i id
  split at hc
  ·split at hc
   ·cases hc
   ·split at hc
    ·simp only [bind,Option.bind_eq_some_iff,pure] at hc
     obtain ⟨_,h1,h2⟩ := hc
     cases h2
     exact ⟨rfl,h1⟩
    ·simp only [bind,Option.bind_eq_some_iff,pure] at hc
     obtain ⟨_,h1,h2⟩ := hc
     cases h2
  ·cases hc
 ·simp only [bind,Option.bind_eq_some_iff,pure] at hc
  obtain ⟨_,h1,h2⟩ := hc
  cases h2
 all_goals
  exfalso
  first
   | (cases hc; done)
   | ((repeat' split at hc) <;> first | (cases hc; done) | (simp only [bind,Option.bind_eq_some_iff,Option.map_eq_some_iff,pure] at hc; obtain ⟨_,_,h2⟩ := hc; first | (cases h2; done) | (obtain ⟨_,_,h3⟩ := h2; first | (cases h3; done) | (obtain ⟨_,_,h4⟩ := h3; split at h4 <;> first | (cases h4; done) | (simp only [Option.bind_eq_some_iff] at h4; obtain ⟨_,_,_,_,_,_,h5⟩ := h4; cases h5)))))

theorem snd_callM (h : StRρ cf ρ st a w) {tab : Tab} (ht : TabOkC P cf tab) {own mu : List Nat} {o : Oper} {c : Call} (ho : o.op = .call c) {f : Nat} {os : List Opd} (hc : cOp P own mu o.op = some (.callM f os)) {st' : St}
  (he : eop tab st o.dst (.callM f os) = some st') (hdn : ∀ d,o.dst = some d → d < cf.n) : Steps1 P cf o st' a w := by
 obtain ⟨hcal,hos⟩ := callM_inv ho hc
 have hop := opds_ok h hos
 have hex : (execOp a.eval o).run P w = (callFunc f (c.args.map a.eval)).run P w := by
  have : a.eval (.func f) = .func (.func f) #[] #[] := rfl
  simp [execOp,ho,resolve,hcal,this,Deferred.ofValue,invoke]
 simp only [eop] at he
 split at he
 ·rename_i ps qs hwA
  split at he
  ·rename_i r ess yss htab
   split at he
   ·rename_i hcond
    split at he
    ·rename_i bs hz
     cases he
     obtain ⟨hflat,hes,hn1,hn2⟩ := hcond
     obtain ⟨k1,k2⟩ := wAs_ok (ρ := ρ) (w := w) (Z := Zf cf.Z0 cf.base ρ st.hp w) hwA
     obtain ⟨vs',g1,g2,g3⟩ := k2 []
     rw [List.append_nil,hes] at g1
     obtain ⟨H',hzH,hsays⟩ := ht.1 f ps r _ htab vs' _ g1
     obtain ⟨L,e1,e2,e3,e4⟩ := zipW_ok hzH hz
     subst e1; subst e2; subst e3
     have hmm : ∀ {β : Type} (f : Nat × Nat × Blk → β),(L.map (fun x => (x.1,x.2.1,x.2.2.1))).map f = L.map (fun x => f (x.1,x.2.1,x.2.2.1)) := fun f => by rw [List.map_map]; rfl
     rw [hmm] at hn1 hn2 hsays g1 hzH hes
     -- the callee's places
     let ρ' : Nat → Option Nat := lk none (L.map fun x => (x.1,ρ x.2.1))
     have hlist : ∀ {β : Type} (d : β) (f : Nat × Nat × Blk × Blk → β),∀ x ∈ L,lk d (L.map fun x => (x.1,f x)) x.1 = f x := by
      intro β d f x hx
      have := lk_of_mem (d := d) (L := L.map fun x => (x.1,f x)) (by rw [List.map_map]; exact hn1) (p := (x.1,f x)) (List.mem_map.2 ⟨x,hx,rfl⟩)
      exact this
     have hHW : ∀ (g : Nat × Nat × Blk × Blk → Blk),∀ x ∈ L,HW (L.map fun x => (x.1,g x)) x.1 = some (g x) := by
      intro g x hx
      have := hlist (none : Option Blk) (fun x => some (g x)) x hx
      unfold HW
      rw [List.map_map]
      exact this
     have hρ' : ∀ x ∈ L,ρ' x.1 = ρ x.2.1 := fun x hx => hlist none (fun x => ρ x.2.1) x hx
     have hQ : ∀ x ∈ L,st.hp x.2.1 = some x.2.2.1 ∧ x.2.2.1.pur = true ∧ x.2.2.1.elems.all flatE = true := fun x hx => k1 (x.1,x.2.1,x.2.2.1) (List.mem_map.2 ⟨x,hx,rfl⟩)
     have hHp : Hp ρ' (HW (L.map fun x => (x.1,x.2.2.1))) w (fun _ => False) := by
      have hin : ∀ n b,HW (L.map fun x => (x.1,x.2.2.1)) n = some b → ∃ x ∈ L,x.1 = n ∧ x.2.2.1 = b := by
       intro n b hb
       obtain ⟨x,hx,hxe⟩ := List.mem_map.1 (HW_mem hb)
       cases hxe
       exact ⟨x,hx,rfl,rfl⟩
      refine ⟨fun n b B hb hB => ?_,fun n b hb hB => ?_,fun n n' B h1 h2 h3 h4 => ?_⟩
      ·obtain ⟨x,hx,rfl,rfl⟩ := hin n b hb
       obtain ⟨q1,q2,q3⟩ := hQ x hx
       rw [hρ' x hx] at hB
       obtain ⟨c,t,g1,g2,g3,_,g5⟩ := h.hp.blk _ _ B q1 hB
       have hv : ∀ (i : Nat) y (j : Nat) d v,x.2.2.1.elems[i]? = some y → y.cells[j]? = some d → c[i * x.2.2.1.es + j]? = some v → V0 w (fun _ => False) v d := by
        intro i y j d v p1 p2 p3
        have hf := List.all_eq_true.1 q3 y (List.mem_of_getElem? p1)
        refine (V.pure (ρ := ρ) (h := st.hp) (g5 q2 i y j d v p1 p2 p3)).flatC ?_
        cases y with
        | agg cs => simp only [flatE,List.all_eq_true] at hf; exact hf d (List.mem_of_getElem? p2)
        | _ =>
         cases j with
         | zero => simp [AV.cells] at p2; subst p2; exact hf
         | succ j => simp [AV.cells] at p2
       exact ⟨c,t,g1,g2,g3,fun i y j d v p1 p2 p3 => .pure (hv i y j d v p1 p2 p3),fun _ => hv⟩
      ·obtain ⟨x,hx,rfl,rfl⟩ := hin n b hb
       rw [hρ' x hx] at hB
       exact h.hp.nil _ _ (hQ x hx).1 hB
      ·obtain ⟨b,hb⟩ := Option.isSome_iff_exists.1 h1
       obtain ⟨b',hb'⟩ := Option.isSome_iff_exists.1 h2
       obtain ⟨x,hx,rfl,_⟩ := hin n b hb
       obtain ⟨y,hy,rfl,_⟩ := hin n' b' hb'
       rw [hρ' x hx] at h3
       rw [hρ' y hy] at h4
       have hl := h.hp.inj _ _ B (by simp [(hQ x hx).1]) (by simp [(hQ y hy).1]) h3 h4
       rw [noDupN_inj (f := fun x : Nat × Nat × Blk × Blk => x.2.1) hn2 hx hy hl]
     have hargs : ∀ (i : Nat) c' d,(c.args.map a.eval)[i]? = some c' → vs'[i]? = some d → V ρ' (HW (L.map fun x => (x.1,x.2.2.1))) w (fun _ => False) c' d := by
      intro i c' d q1 q2
      have hi : i < (os.map (ev st)).length := by rw [← g2]; exact (List.getElem?_eq_some_iff.1 q2).1
      have hx' : (os.map (ev st))[i]? = some (os.map (ev st))[i] := List.getElem?_eq_getElem hi
      refine g3 ρ' (HW (L.map fun x => (x.1,x.2.2.1))) (fun q hq => ?_) i c' _ d hx' q2 (hop.2 i c' _ (by simpa using q1) hx')
      obtain ⟨x,hx,rfl⟩ := List.mem_map.1 hq
      exact ⟨hρ' x hx,hHW (fun x => x.2.2.1) x hx⟩
     have hsz : (c.args.map a.eval).size = vs'.length := by
      rw [g2]; simpa using hop.1
     have hcall := hsays w ρ' _ hHp hsz hargs
     have fin : ∀ {v : Value} {w' : World},V0 w' (fun _ => False) v r ∧ WrW ρ' (L.map fun x => (x.1,x.2.2.1)) (L.map fun x => (x.1,x.2.2.2)) w w' → StR cf (St.put ⟨st.env,(L.map fun x => (x.2.1,x.2.2.2)).map (fun p => (p.1,some p.2)) ++ st.heap⟩ o.dst r) (a.put o.dst v) w' := by
      intro v w' ⟨hv,hw⟩
      have hst := h.written (L := L) (ρ' := ρ') (fun x hx => ⟨(hQ x hx).1,hρ' x hx,hHW (fun x => x.2.2.1) x hx,hHW (fun x => x.2.2.2) x hx⟩) e4 (fun x hx => (hQ x hx).2.1) hw
      rw [List.map_map]
      exact ⟨ρ,hst.put (.pure (hv.mono fun b hb => hb.elim)) hdn⟩
     rcases hcall with ⟨v,w',p1,p2⟩ | ⟨p1,p2⟩
     ·exact .inl ⟨v,w',by rw [hex]; exact p1,fin p2⟩
     ·exact .inr (.inr ⟨f,_,w,by rw [hex]; exact p1,Calls.mono p2 fun e w' he => let ⟨v,e1,e2⟩ := he; ⟨v,e1,fin e2⟩⟩)
    ·cases he
   ·cases he
  ·rename_i r0 es ys htab
   split at he
   ·rename_i d l len hdst hargs
    split at he
    ·rename_i b hb
     split at he
     ·rename_i hcond
      cases he
      obtain ⟨hpur,rfl,rfl,hlp⟩ := hcond
      have hps : ps = [.sl b.elems] := by
       rw [hargs] at hwA
       simp only [wAs,wA,wC,hb,hpur] at hwA
       by_cases hfl : b.elems.all flatE = true
       ·simp only [hfl,and_self,if_true] at hwA
        simp only [Option.some.injEq,Prod.mk.injEq] at hwA
        exact hwA.1.symm
       ·simp only [hfl,and_false,if_false] at hwA
        simp at hwA
      obtain ⟨hne,hT⟩ := ht.1 f ps _ _ htab b.elems hps
      have hsz : c.args.size = 1 := by
       have := hop.1; rw [hargs] at this; simpa using this
      have ha0 : (c.args.map a.eval)[0]? = some (a.eval (c.args[0]'(by omega))) := by simp [hsz]
      have hv := hop.2 0 (a.eval (c.args[0]'(by omega))) (.lsl l 0 b.elems.length) (by simpa using ha0) (by rw [hargs]; rfl)
      rcases lsl_inv hv with ⟨B,b',t,n,cap,h1,h2,h3,h0,h4,h5,h6,h7⟩ | ⟨b',h1,h2,hnil,h00,h0⟩
      ·rw [hb] at h2; cases h2
       obtain ⟨cs,t',g1,g2,g3,g4,g5⟩ := h.hp.blk l b B hb h1
       have hn : n = cs.size := by
        unfold World.shape? at h3; rw [g1] at h3
        simp only [Option.some.injEq,Prod.mk.injEq] at h3
        exact h3.2.symm
       have hargs' : c.args.map a.eval = #[.slice (some ⟨B,0,none⟩) b.elems.length cap] := by
        rw [Nat.zero_mul] at h0
        rw [← h0]
        apply Array.ext_getElem?
        intro i
        cases i with
        | zero => rw [ha0]; rfl
        | succ i => rw [Array.getElem?_eq_none (by simp [hsz])]; rfl
       have hcall := hT w B cap cs t' g1 h4 (by rw [← hn]; simpa using h5) h7 g3 fun i x j d' v q1 q2 q3 => by
        have hfl : b.elems.all flatE = true := by
         rw [hargs] at hwA
         simp only [wAs,wA,wC,hb,hpur] at hwA
         by_cases hfl : b.elems.all flatE = true
         ·exact hfl
         ·simp only [hfl,and_false,if_false] at hwA
          simp at hwA
        have hf := List.all_eq_true.1 hfl x (List.mem_of_getElem? q1)
        refine (V.pure (ρ := ρ) (h := st.hp) (g5 hpur i x j d' v q1 q2 q3)).flatC ?_
        cases x with
        | agg ds => simp only [flatE,List.all_eq_true] at hf; exact hf d' (List.mem_of_getElem? q2)
        | _ =>
         cases j with
         | zero => simp [AV.cells] at q2; subst q2; exact hf
         | succ j => simp [AV.cells] at q2
       rw [← hargs'] at hcall
       have hBlt : B < w.heap.size := (Array.getElem?_eq_some_iff.1 g1).1
       have fin : ∀ {v : Value} {w' : World},(v = .slice (some ⟨B,0,none⟩) ys.length cap ∧ ys.length ≤ b.elems.length ∧ (∀ y ∈ ys,y.cells.length = b.es) ∧ w'.os = w.os ∧ w'.tape = w.tape ∧ w'.output = w.output ∧ w.heap.size ≤ w'.heap.size ∧
         (∀ k,k < w.heap.size → k ≠ B → w'.heap[k]? = w.heap[k]?) ∧ ∃ c',w'.heap[B]? = some (.cells c' t' (0,0)) ∧ c'.size = cs.size ∧ ∀ (i : Nat) y (j : Nat) d v,ys[i]? = some y → y.cells[j]? = some d → c'[i * b.es + j]? = some v → ∀ (u : World) (Z : Nat → Prop),V0 u Z v d) →
         StR cf ⟨(d,.lsl l 0 ys.length) :: purge l st.env,(l,some { b with elems := ys }) :: purgeH l st.heap⟩ (a.put o.dst v) w' := by
        rintro v w' ⟨rfl,k1,k2,k3,k4,k5,k6,k7,c',k8,k9,k10⟩
        have hshB : w'.shape? B = w.shape? B := by
         unfold World.shape?; rw [k8,g1]; simp [k9]
        have hshp : ∀ k,k < w.heap.size → w'.shape? k = w.shape? k := by
         intro k hk
         by_cases e : k = B
         ·subst e; exact hshB
         ·exact shape_heap (k7 k hk e)
        have hst := h.change (r := some B) (b' := { b with elems := ys }) (w' := w') hb k6 k3 k4 k5 hlp hshp (fun k hk hne' => k7 k hk fun e => hne' (by rw [h1,e])) (fun B' e => by cases e; exact ⟨.inl h1,Nat.lt_of_lt_of_le hBlt k6⟩)
         (fun B' e => by cases e; exact ⟨c',t',k8,Nat.le_trans (Nat.mul_le_mul_right _ k1) (by rw [k9]; exact g2),k2,fun i x j d' v q1 q2 q3 => k10 i x j d' v q1 q2 q3 _ _⟩) (fun e => by cases e)
        have hval : V (upd ρ l (some B)) (St.hp ⟨purge l st.env,(l,some { b with elems := ys }) :: purgeH l st.heap⟩) w' (Zf cf.Z0 cf.base (upd ρ l (some B)) (St.hp ⟨purge l st.env,(l,some { b with elems := ys }) :: purgeH l st.heap⟩) w') (.slice (some ⟨B,0,none⟩) ys.length cap) (.lsl l 0 ys.length) := by
         have := V.lsl (ρ := upd ρ l (some B)) (h := St.hp ⟨purge l st.env,(l,some { b with elems := ys }) :: purgeH l st.heap⟩) (w := w') (Z := Zf cf.Z0 cf.base (upd ρ l (some B)) (St.hp ⟨purge l st.env,(l,some { b with elems := ys }) :: purgeH l st.heap⟩) w')
          l 0 ys.length cap B { b with elems := ys } t n (by simp [upd]) (by show lk none ((l,some { b with elems := ys }) :: purgeH l st.heap) l = _; simp [lk]) (by rw [hshB]; exact h3) (by omega) h5 (by simp) (by omega)
         rw [show (0 : Nat) * b.es = 0 from Nat.zero_mul _] at this
         exact this
        have hst2 := hst.put (v := .slice (some ⟨B,0,none⟩) ys.length cap) (x := .lsl l 0 ys.length) (dst := o.dst) hval hdn
        refine ⟨upd ρ l (some B),?_⟩
        rw [hdst] at hst2 ⊢
        exact hst2
       rcases hcall with ⟨v,w',p1,p2⟩ | ⟨p1,p2⟩
       ·exact .inl ⟨v,w',by rw [hex]; exact p1,fin p2⟩
       ·exact .inr (.inr ⟨f,_,w,by rw [hex]; exact p1,Calls.mono p2 fun e w' he => let ⟨v,e1,e2⟩ := he; ⟨v,e1,fin e2⟩⟩)
      ·rw [hb] at h2; cases h2
       exact absurd (h.hp.nil l b hb h1) hne
     ·cases he
    ·cases he
   ·cases he
  ·cases he
 ·split at he
  ·rename_i r H' htab
   cases he
   obtain ⟨hflat,hnest,hsays⟩ := ht.1 f _ r _ htab (os.map (ev st)) (grab st.hp (os.map (ev st))) rfl
   have hH : ∀ l b,HW (grab st.hp (os.map (ev st))) l = some b → st.hp l = some b := grab_hw
   generalize grab st.hp (os.map (ev st)) = G at *
   have hHp : Hp ρ (HW G) w (fun _ => False) := by
    refine ⟨fun l b B hb hB => ?_,fun l b hb hB => h.hp.nil l b (hH l b hb) hB,fun l l' B h1 h2 h3 h4 => ?_⟩
    ·obtain ⟨cs,t,g1,g2,g3,g4,g5⟩ := h.hp.blk l b B (hH l b hb) hB
     have hcl : ∀ (i : Nat) x (j : Nat) d,b.elems[i]? = some x → x.cells[j]? = some d → ClosC G d := fun i x j d q1 q2 => hnest.blks l b hb x (List.mem_of_getElem? q1) d (List.mem_of_getElem? q2)
     refine ⟨cs,t,g1,g2,g3,fun i x j d v q1 q2 q3 => (g4 i x j d v q1 q2 q3).close hH (hcl i x j d q1 q2),fun hp i x j d v q1 q2 q3 => ?_⟩
     have g := g5 hp i x j d v q1 q2 q3
     rcases hcl i x j d q1 q2 with hf | ⟨m,off,len,rfl,_⟩
     ·exact (V.pure (ρ := ρ) (h := st.hp) g).flatC hf
     ·cases g
    ·obtain ⟨b,hb⟩ := Option.isSome_iff_exists.1 h1
     obtain ⟨b',hb'⟩ := Option.isSome_iff_exists.1 h2
     exact h.hp.inj l l' B (by rw [hH l b hb]; rfl) (by rw [hH l' b' hb']; rfl) h3 h4
   have hargs : ∀ (i : Nat) c' d,(c.args.map a.eval)[i]? = some c' → (os.map (ev st))[i]? = some d → V ρ (HW G) w (fun _ => False) c' d := by
    intro i c' d q1 q2
    exact (hop.2 i c' d (by simpa using q1) q2).closeV hH (hnest.args d (List.mem_of_getElem? q2))
   have hsz : (c.args.map a.eval).size = (os.map (ev st)).length := by simpa using hop.1
   have hcall := hsays w ρ _ hHp hsz hargs
   have fin : ∀ {v : Value} {w' : World},V0 w' (fun _ => False) v r ∧ WrW ρ G H' w w' → StR cf (St.put ⟨st.env,H'.map (fun p => (p.1,some p.2)) ++ st.heap⟩ o.dst r) (a.put o.dst v) w' := by
    intro v w' ⟨hv,hw⟩
    exact ⟨ρ,(h.writtenH hH hnest hw).put (.pure (hv.mono fun b hb => hb.elim)) hdn⟩
   rcases hcall with ⟨v,w',p1,p2⟩ | ⟨p1,p2⟩
   ·exact .inl ⟨v,w',by rw [hex]; exact p1,fin p2⟩
   ·exact .inr (.inr ⟨f,_,w,by rw [hex]; exact p1,Calls.mono p2 fun e w' he => let ⟨v,e1,e2⟩ := he; ⟨v,e1,fin e2⟩⟩)
  ·cases he
end
end Go.Ab

namespace Go.Ab

structure CP where
 own : List (Nat × List Nat) := []
 mu : List Nat := []
 kp : List (List Nat) := []
 n : Nat := 0
 od : List (Nat × Nat) := []
 pd : List Nat := []

def cOper (P : Program) (cp : CP) (ops : Array Oper) (o : Oper) : Option IOper := do
 let op := (cOp P (match o.dst with | some d => lk [] cp.own d | none => []) cp.mu o.op).getD .dead
 let g ← cGuard ops o.guard
 if o.dst.all (fun d => decide (d < cp.n)) = true then pure ⟨o.dst,g,op⟩ else none
def ownise (od : List (Nat × Nat)) (pd : List Nat) (o : IOper) : IOper :=
 match o.op with
 | .load n (.t a) => match lk none (od.map fun p => (p.1,some p.2)) a with
  | some l => ⟨o.dst,o.g,.load n (.o a l)⟩
  | none => if pd.contains a then ⟨o.dst,o.g,.load n (.p a)⟩ else o
 | .store n (.t a) x => match lk none (od.map fun p => (p.1,some p.2)) a with
  | some l => ⟨o.dst,o.g,.store n (.o a l) x⟩
  | none => o
 | .iaddrS es (.t a) i => if pd.contains a then ⟨o.dst,o.g,.iaddrS es (.p a) i⟩ else o
 | _ => o
end Go.Ab

namespace Go.Ab
open Go.RowKit

section
variable {P : Program} {cf : Cfg} {ρ : Nat → Option Nat} {st : St} {a : Act} {w : World}

def kindOk (op : Op) : IOp → Prop
  | .alloc _ => ∃ e,op = .alloc e
  | .box .. => ∃ e x,op = .box e x
  | .bslice .. => ∃ t l p,op = .buildSlice t l p
  | .mkslice .. => ∃ t l c,op = .makeSlice t l c
  | .store .. => ∃ t a x,op = .store t a x
  | .append .. => ∃ c,op = .call c ∧ c.callee = .builtin .append
  | .call .. => ∃ c,op = .call c
  | .callM .. => ∃ c,op = .call c
  | .zero3 .. => ∃ t x lo hi mx,op = .slice t x lo hi mx
  | .copy .. => ∃ c,op = .call c ∧ c.callee = .builtin .copy
  | _ => True

theorem cOp_kind {own mu : List Nat} {op : Op} {iop : IOp} (hc : cOp P own mu op = some iop) : kindOk op iop := by
  cases iop <;> first | exact trivial | skip
  all_goals
    cases op
    all_goals first
      | exact ⟨_,rfl⟩
      | exact ⟨_,_,rfl⟩
      | exact ⟨_,_,_,rfl⟩
      | exact ⟨_,_,_,_,_,rfl⟩
      | (exfalso; simp only [cOp,Option.map_eq_some_iff,reduceCtorEq,and_false,exists_false] at hc; done)
      | skip
  all_goals
    simp only [cOp] at hc
    repeat' split at hc
    all_goals (try clear heq heq_1)
    all_goals first
      | (exfalso; simp only [bind,Option.bind_eq_some_iff,Option.map_eq_some_iff,pure,reduceCtorEq,Option.some.injEq,Option.ite_none_right_eq_some,and_false,exists_false,exists_const] at hc; done)
      | exact ⟨_,rfl,by assumption⟩
      | (exfalso; simp only [bind,Option.bind_eq_some_iff,pure] at hc; obtain ⟨_,_,hc⟩ := hc
         split at hc <;> first | (cases hc; done) | (simp only [Option.bind_eq_some_iff,Option.some.injEq,reduceCtorEq,and_false,exists_false,exists_const] at hc; done))

def isV : IOp → Bool
  | .alloc _ | .box .. | .bslice .. | .mkslice .. | .store .. | .append .. | .call .. | .callM .. | .zero3 .. | .copy .. => false
  | _ => true
theorem eop_isV {tab : Tab} {dst : Option Nat} {iop : IOp} (h : isV iop = true) : eop tab st dst iop = (vop st iop).map (st.put dst) := by
  cases iop <;> first | rfl | cases h

theorem eop_sound (h : StRρ cf ρ st a w) {tab : Tab} (ht : TabOkC P cf tab) {own mu : List Nat} {o : Oper} {iop : IOp} (hc : cOp P own mu o.op = some iop) {st' : St} (he : eop tab st o.dst iop = some st') (hdn : ∀ d,o.dst = some d → d < cf.n) :
    Steps1 P cf o st' a w := by
  have hk := cOp_kind hc
  by_cases hv : isV iop = true
  · rw [eop_isV hv] at he
    simp only [Option.map_eq_some_iff] at he
    obtain ⟨av,he,rfl⟩ := he
    obtain ⟨v,n,h1,h2⟩ := vop_sound h hc he
    exact .inl ⟨v,w.drewN n,h1,ρ,(h.drewN n).put (h2.mono (w := w) (w' := w.drewN n) (fun b hb => ⟨hb,rfl⟩) fun l b hb => ⟨rfl,⟨b,hb,rfl,rfl⟩,fun B _ => rfl⟩) hdn⟩
  · cases iop <;> first | exact absurd rfl hv | skip
    · obtain ⟨e,ho⟩ := hk; exact snd_alloc h ho hc he hdn
    · obtain ⟨e,x,ho⟩ := hk; exact snd_box h ho hc he hdn
    · obtain ⟨t,l,p,ho⟩ := hk; exact snd_bslice h ho hc he hdn
    · obtain ⟨t,x,y,ho⟩ := hk; exact snd_store h ho hc he
    · obtain ⟨t,x,y,ho⟩ := hk; exact snd_mkslice h ho hc he hdn
    · obtain ⟨c,ho⟩ := hk; exact snd_call h ht ho hc he hdn
    · obtain ⟨c,ho⟩ := hk; exact snd_callM h ht ho hc he hdn
    · obtain ⟨c,ho,hcb⟩ := hk; exact snd_append h ho hcb hc he hdn
    · obtain ⟨t,x,lo,hi,mx,ho⟩ := hk; exact snd_zero3 h ho hc he hdn
    · obtain ⟨c,ho,hcb⟩ := hk; exact snd_copy h ho hcb hc he hdn
theorem eop_soundD (h : StRρ cf ρ st a w) {tab : Tab} (ht : TabOkC P cf tab) {own mu : List Nat} {o : Oper} {iop : IOp} (hc : cOp P own mu o.op = some iop ∨ iop = .dead) {st' : St} (he : eop tab st o.dst iop = some st') (hdn : ∀ d,o.dst = some d → d < cf.n) :
    Steps1 P cf o st' a w := by
  rcases hc with hc | rfl
  · exact eop_sound h ht hc he hdn
  · cases he
end
end Go.Ab

namespace Go.Ab
open Go.RowKit

section
variable {P : Program} {cf : Cfg} {ρ : Nat → Option Nat} {st : St} {a : Act} {w : World}

theorem eqnil_inv {own mu : List Nat} {op : Op} {neg : Bool} {x : Opd} (hc : cOp P own mu op = some (.eqnil neg x)) :
    ∃ t x0 yt e,op = .binOp (if neg = true then .neq else .eql) t x0 (.const (.slice none 0 0)) yt ∧ cOpd x0 = some x ∧ P.underlying t = some (.slice e) := by
  have hs : ∀ {t : TypeId},isSliceT P t = true → ∃ e,P.underlying t = some (.slice e) := by
    intro t ht
    unfold isSliceT at ht
    split at ht
    · rename_i e he; exact ⟨e,he⟩
    · cases ht
  cases op
  case binOp op t x0 y yt =>
    simp only [cOp] at hc
    split at hc
    · split at hc
      · rename_i ht
        simp only [Option.map_eq_some_iff] at hc
        obtain ⟨ox,h1,h2⟩ := hc
        cases h2
        obtain ⟨e,he⟩ := hs ht
        exact ⟨t,x0,yt,e,rfl,h1,he⟩
      · cases hc
    · split at hc
      · rename_i ht
        simp only [Option.map_eq_some_iff] at hc
        obtain ⟨ox,h1,h2⟩ := hc
        cases h2
        obtain ⟨e,he⟩ := hs ht
        exact ⟨t,x0,yt,e,rfl,h1,he⟩
      · cases hc
    · split at hc
      · simp only [bind,Option.bind_eq_some_iff,pure,Option.some.injEq,reduceCtorEq,and_false,exists_false,exists_const] at hc
      · cases hc
  all_goals
    exfalso
    first
      | (simp only [cOp,Option.map_eq_some_iff,reduceCtorEq,and_false,exists_false] at hc; done)
      | skip
  all_goals
    simp only [cOp] at hc
    repeat' split at hc
    all_goals first
      | (simp only [bind,Option.bind_eq_some_iff,Option.map_eq_some_iff,pure,reduceCtorEq,Option.some.injEq,Option.ite_none_right_eq_some,and_false,exists_false,exists_const] at hc; done)
      | (simp only [bind,Option.bind_eq_some_iff,pure] at hc; obtain ⟨_,_,hc⟩ := hc
         split at hc <;> first | (cases hc; done) | (simp only [Option.bind_eq_some_iff,Option.some.injEq,reduceCtorEq,and_false,exists_false,exists_const] at hc; done))

theorem equalIn_nil (d : Nat) (t e : TypeId) (b : Option Addr) (n c : Nat) (h : P.underlying t = some (.slice e)) : (Op.equalIn (d + 1) t (.slice b n c) (.slice none 0 0)).run P w = .ok b.isNone w := by
  cases b <;> simp [Op.equalIn,run_underlying h]
theorem equal_nil (t e : TypeId) (b : Option Addr) (n c : Nat) (h : P.underlying t = some (.slice e)) : (Op.equal t (.slice b n c) (.slice none 0 0)).run P w = .ok b.isNone w := equalIn_nil 9999 t e b n c h

theorem run_eqnil {o : Oper} {neg : Bool} {t : TypeId} {x0 : Operand} {yt : TypeId} {e : TypeId} (ho : o.op = .binOp (if neg = true then .neq else .eql) t x0 (.const (.slice none 0 0)) yt) (ht : P.underlying t = some (.slice e))
    {base : Option Addr} {len cap : Nat} (hx : a.eval x0 = .slice base len cap) : (execOp a.eval o).run P w = .ok (.value (.bool (base.isNone != neg))) w := by
  have he := equal_nil (w := w) t e base len cap ht
  have h1 : ∀ v u : Value,v = .slice base len cap → u = .slice none 0 0 → (binOp (if neg = true then .neq else .eql) t v u).run P w = .ok (.bool (base.isNone != neg)) w := by
    rintro _ _ rfl rfl
    cases neg
    · simp only [Bool.false_eq_true,if_false,binOp]; simp [he]
    · simp only [if_true,binOp]; simp [he]
  have h2 : ∀ v u : Value,v = .slice base len cap → u = .slice none 0 0 → (eqGuard (if neg = true then .neq else .eql) t x0 (.const (.slice none 0 0)) v u).run P w = .ok () w := by
    rintro _ _ rfl rfl
    cases neg <;> rfl
  have hconst : a.eval (.const (.slice none 0 0)) = .slice none 0 0 := rfl
  unfold execOp
  rw [ho]
  dsimp only
  rw [hx,hconst]
  have g1 := h1 _ _ rfl rfl
  have g2 := h2 _ _ rfl rfl
  generalize (if neg = true then BinOp.neq else BinOp.eql) = bo at *
  simp [g1,g2]

inductive Ops (P : Program) (cp : CP) (ops : Array Oper) : List Nat → List IOper → Prop
  | nil : Ops P cp ops [] []
  | cons {i : Nat} {o : Oper} {io : IOper} {is : List Nat} {ios : List IOper} (ho : ops[i]? = some o) (hc : cOper P cp ops o = some io) (h : Ops P cp ops is ios) : Ops P cp ops (i :: is) (io :: ios)

theorem cOper_inv {cp : CP} {ops : Array Oper} {o : Oper} {io : IOper} (hc : cOper P cp ops o = some io) :
    io.dst = o.dst ∧ (∀ d,o.dst = some d → d < cp.n) ∧ cGuard ops o.guard = some io.g ∧ ∃ own,cOp P own cp.mu o.op = some io.op ∨ io.op = .dead := by
  simp only [cOper,bind,Option.bind_eq_some_iff,pure] at hc
  obtain ⟨g,h2,hc⟩ := hc
  split at hc
  · rename_i hd
    cases hc
    refine ⟨rfl,fun d hdd => ?_,h2,(match o.dst with | some d => lk [] cp.own d | none => []),?_⟩
    · rw [hdd] at hd; simpa using hd
    · dsimp only
      cases hq : cOp P (match o.dst with | some d => lk [] cp.own d | none => []) cp.mu o.op with
      | none => exact .inr rfl
      | some op => exact .inl rfl
  · cases hc

theorem StRρ.yielded (h : StRρ cf ρ st a w) {ops : Array Oper} {j t : Nat} {b : Bool} (hj : (ops[j]?).bind (·.dst) = some t) (hb : st.get t = .bool b) : yielded ops a.tmps j = some b := by
  have h1 := h.tmp t
  rw [hb] at h1
  have h2 := h1.bool_inv
  have h3 : a.tmps[t]? = some (.bool b) := by
    cases hq : a.tmps[t]? with
    | none => simp [Array.getD_eq_getD_getElem?,hq,undef] at h2
    | some v => simpa [Array.getD_eq_getD_getElem?,hq] using h2
  simp [Go.yielded,hj,h3]

theorem StRρ.yielded_not {ops : Array Oper} {j t : Nat} {v : Value} (h : StRρ cf ρ st a w) (hj : (ops[j]?).bind (·.dst) = some t) (hv : st.get t = .raw v) (hb : nb v = true) : Go.yielded ops a.tmps j = none := by
  have h1 := h.tmp t
  rw [hv] at h1
  have h2 : a.tmps.getD t undef = v := by
    generalize a.tmps.getD t undef = u at h1
    cases h1 with
    | pure h0 => cases h0; rfl
  unfold Go.yielded
  rw [hj]
  simp only [Option.bind_some]
  cases hq : a.tmps[t]? with
  | none => rfl
  | some u =>
    have : u = v := by rw [← h2]; simp [Array.getD_eq_getD_getElem?,hq]
    subst this
    cases u <;> first | rfl | (cases hb; done)
theorem wpOp_steps {ops : Array Oper} {Q : Exit → Act → World → Prop} {i : Nat} {K : Act → World → Prop} {o : Oper} {st' : St} (ho : ops[i]? = some o) (hw : Region.wanted o (yielded ops a.tmps) = true) (hs : Steps1 P cf o st' a w)
    (hK : ∀ a' w',StR cf st' a' w' → K a' w') : wpOp P ops Q i K a w := by
  unfold wpOp
  simp only [ho,hw,if_true]
  left
  unfold Oper.wp
  rcases hs with ⟨v,w',h1,h2⟩ | ⟨w',h1,h2⟩ | ⟨f,args,w',h1,h2⟩
  · rw [h1]; exact hK _ _ h2
  · rw [h1]; exact hK _ _ h2
  · rw [h1,Oper.upon_enter]
    exact Calls.mono h2 fun e w'' he => by
      obtain ⟨v,rfl,e2⟩ := he
      exact hK _ _ e2

theorem wpOp_skip {ops : Array Oper} {Q : Exit → Act → World → Prop} {i : Nat} {K : Act → World → Prop} {o : Oper} (h : StRρ cf ρ st a w) (ho : ops[i]? = some o) (hw : Region.wanted o (yielded ops a.tmps) = false) (hd : ∀ d,o.dst = some d → d < cf.n)
    (hK : ∀ a' w',StR cf (st.put o.dst (.raw undef)) a' w' → K a' w') : wpOp P ops Q i K a w := by
  unfold wpOp
  simp only [ho,hw,Bool.false_eq_true,if_false]
  exact hK _ _ ⟨ρ,h.put (.pure (.raw _)) hd⟩

theorem evalOp_sound {tab : Tab} (ht : TabOkC P cf tab) {cp : CP} (hn : cp.n = cf.n) {ops : Array Oper} {Q : Exit → Act → World → Prop} {i : Nat} {K : Act → World → Prop} {o : Oper} {io : IOper} {st' : St} (h : StR cf st a w) (ho : ops[i]? = some o) (hc : cOper P cp ops o = some io)
    (he : evalOp tab io st = some st') (hK : ∀ a' w',StR cf st' a' w' → K a' w') : wpOp P ops Q i K a w := by
  obtain ⟨ρ,h⟩ := h
  obtain ⟨h1,h2,h3,own,h4⟩ := cOper_inv hc
  rw [hn] at h2
  unfold evalOp at he
  rw [h1] at he
  cases hg : o.guard with
  | none =>
    rw [hg] at h3
    simp only [cGuard,Option.some.injEq] at h3
    rw [← h3] at he
    exact wpOp_steps ho (by simp [Region.wanted,hg]) (eop_soundD h ht h4 he h2) hK
  | some jw =>
    obtain ⟨j,want⟩ := jw
    rw [hg] at h3
    simp only [cGuard] at h3
    split at h3
    · rename_i t hj
      cases hgi : io.g with
      | none => rw [hgi] at h3; cases h3
      | some tw =>
        rw [hgi] at h3
        cases h3
        rw [hgi] at he
        simp only at he
        split at he
        · rename_i b hb
          have hy := h.yielded hj hb
          split at he
          · rename_i hbw
            exact wpOp_steps ho (by simp [Region.wanted,hg,hy,hbw]) (eop_soundD h ht h4 he h2) hK
          · rename_i hbw
            cases he
            exact wpOp_skip h ho (by simp [Region.wanted,hg,hy,hbw]) h2 hK
        · rename_i v hb
          split at he
          · rename_i hnb
            cases he
            exact wpOp_skip h ho (by simp [Region.wanted,hg,h.yielded_not hj hb hnb]) h2 hK
          · cases he
        · cases he
    · cases h3

theorem regs_sound {tab : Tab} (ht : TabOkC P cf tab) {cp : CP} (hn : cp.n = cf.n) {ops : Array Oper} {Q : Exit → Act → World → Prop} {K : St → Prop} (hK : ∀ st a w,StR cf st a w → K st → Q .normal a w) :
    ∀ {is : List Nat} {ios : List IOper} {st : St} {a : Act} {w : World},Ops P cp ops is ios → StR cf st a w → wpOps tab ios st K → Go.wpOps P ops Q is a w := by
  intro is ios st a w hops
  induction hops generalizing st a w with
  | nil =>
    intro h hw
    exact hK st a w h hw
  | @cons i o io is ios ho hc _ ih =>
    intro h hw
    rw [wpOps_cons]
    unfold wpOps at hw
    split at hw
    · rename_i neg x hop
      obtain ⟨h1,h2,h3,own,h4⟩ := cOper_inv hc
      rw [hn] at h2
      rw [hop] at h4
      replace h4 := h4.resolve_right (by intro e; cases e)
      obtain ⟨t,x0,yt,e,e1,e2,e3⟩ := eqnil_inv h4
      obtain ⟨ρ,h⟩ := h
      have hx := h.ev x0 x e2
      have done : ∀ {base : Option Addr} {len cap : Nat},io.g = none → a.eval x0 = .slice base len cap → wpOps tab ios (st.put io.dst (.bool (base.isNone != neg))) K → wpOp P ops Q i (Go.wpOps P ops Q is) a w := by
        intro base len cap hg hv hw
        have hgo : o.guard = none := by
          cases hq : o.guard with
          | none => rfl
          | some jw =>
            rw [hq,hg] at h3
            simp only [cGuard] at h3
            split at h3 <;> cases h3
        refine wpOp_steps (st' := st.put io.dst (.bool (base.isNone != neg))) ho (by simp [Region.wanted,hgo]) (.inl ⟨_,w,run_eqnil e1 e3 hv,ρ,?_⟩) fun a' w' h' => ih h' hw
        rw [h1]
        exact h.put (.pure (.bool _)) h2
      split at hw
      · rename_i xs hg hxs
        rw [hxs] at hx
        rcases sl_inv hx with ⟨B,off,cap,es,hv,_⟩ | ⟨hv,hnil⟩
        · exact done hg hv (hw false fun _ => rfl)
        · rcases hv with hv | ⟨an,hv⟩
          · exact done hg hv (hw true fun hne => absurd hnil hne)
          · exact done hg hv (hw false fun _ => rfl)
      · rename_i hg hxs
        rw [hxs] at hx
        exact done hg (snil_inv hx) hw
      · rename_i l off n hg hxs
        rw [hxs] at hx
        rcases lsl_inv hx with ⟨B,b,t,n',cap,_,_,_,hv,_⟩ | ⟨b,_,_,_,_,hl⟩
        · exact done hg hv hw
        · cases hl
      · exact hw.elim
    · split at hw
      · rename_i hg
        obtain ⟨st',h1,h2⟩ := hw
        exact evalOp_sound ht hn h ho hc (by unfold evalOp; rw [hg]; exact h1) fun a' w' h' => ih h' h2
      · rename_i g want hg
        split at hw
        · rename_i b hb
          by_cases hbw : b = want
          · obtain ⟨st',h1,h2⟩ := hw.1 hbw
            exact evalOp_sound ht hn h ho hc (by unfold evalOp; rw [hg]; simp only [hb]; rw [if_pos hbw]; exact h1) fun a' w' h' => ih h' h2
          · have h2 := hw.2 (by cases b <;> cases want <;> simp_all)
            exact evalOp_sound (st' := st.put io.dst (.raw undef)) ht hn h ho hc (by unfold evalOp; rw [hg]; simp only [hb]; rw [if_neg hbw]) fun a' w' h' => ih h' h2
        · rename_i v hb
          exact evalOp_sound (st' := st.put io.dst (.raw undef)) ht hn h ho hc (by unfold evalOp; rw [hg]; simp only [hb]; rw [if_pos hw.1]) fun a' w' h' => ih h' hw.2
        · exact hw.elim
end
end Go.Ab

namespace Go.Ab
open Go.RowKit

def lookO : Opd → List Nat
 | .t n | .o n _ | .p n => [n]
 | _ => []
def lookX : Option Opd → List Nat
 | some x => lookO x
 | none => []
def looksOp : IOp → List Nat
 | .mov x | .zero3 _ x | .box _ x | .load _ x | .nilchk x | .eqnil _ x | .un _ x | .conv _ x | .faddr _ x | .field _ _ x | .extract x _ | .len _ x => lookO x
 | .pick c a b => lookO c ++ lookO a ++ lookO b
 | .alloc _ | .dead => []
 | .build _ ps => ps.flatMap fun p => lookO p.2.2
 | .bslice _ _ _ ps => ps.flatMap fun p => lookO p.2
 | .store _ a x | .bin _ _ a x | .mkslice _ _ _ a x | .iaddrA _ _ a x | .iaddrS _ a x | .idxA _ _ a x | .idxS a x | .append _ _ a x | .copy _ _ a x | .mm _ a x => lookO a ++ lookO x
 | .sliceS x lo hi | .sliceX _ x lo hi => lookO x ++ lookX lo ++ lookX hi
 | .call f xs _ => (match f with | .fn _ => [] | .dyn x => lookO x) ++ xs.flatMap lookO
 | .callM _ xs => xs.flatMap lookO
 | .mkfn _ a b => a.flatMap lookO ++ b.flatMap lookO
def looks (o : IOper) : List Nat := looksOp o.op ++ (match o.g with | some (g,_) => [g] | none => [])

inductive Cls where
 | R | H | C | W | O | K | X
 deriving DecidableEq
def cls : IOp → Cls
 | .mov _ | .pick .. | .build .. | .nilchk _ | .bin .. | .un .. | .faddr .. | .iaddrA .. | .idxA .. | .idxS .. | .field .. | .extract .. | .len .. | .mm .. | .mkfn .. | .sliceS .. => .R
 | .load _ (.p _) | .iaddrS _ (.p _) _ => .R
 | .load .. | .conv .. | .sliceX .. | .iaddrS .. | .call _ _ [] => .H
 | .alloc _ | .box .. | .bslice .. | .mkslice .. | .zero3 .. => .C
 | .store .. => .W
 | .call _ _ (_ :: _) => .O
 | .copy .. => .K
 | .append .. | .callM .. | .eqnil .. | .dead => .X

section
variable {s t : St}
theorem ev_congr {x : Opd} (h : ∀ y ∈ lookO x,t.get y = s.get y) : ev t x = ev s x := by
 cases x with
 | t n => exact h n (by simp [lookO])
 | o n l => simp only [ev]; rw [h n (by simp [lookO])]
 | p n => simp only [ev]; rw [h n (by simp [lookO])]
 | _ => rfl
theorem evs_congr {xs : List Opd} (h : ∀ y ∈ xs.flatMap lookO,t.get y = s.get y) : xs.map (ev t) = xs.map (ev s) :=
 List.map_congr_left fun x hx => ev_congr fun y hy => h y (List.mem_flatMap.2 ⟨x,hx,hy⟩)
theorem evX_congr {x : Option Opd} (h : ∀ y ∈ lookX x,t.get y = s.get y) : x.map (ev t) = x.map (ev s) := by
 cases x with
 | none => rfl
 | some x => simp only [Option.map_some]; rw [ev_congr h]
theorem fillC_congr : ∀ {ps : List (Nat × Nat × Opd)} {cs : List AV},(∀ y ∈ ps.flatMap (fun p => lookO p.2.2),t.get y = s.get y) → fillC t cs ps = fillC s cs ps
 | [],cs,_ => rfl
 | (off,n,x) :: r,cs,h => by
  have hx : ev t x = ev s x := ev_congr fun y hy => h y (List.mem_flatMap.2 ⟨_,List.mem_cons_self,hy⟩)
  have ih : ∀ cs,fillC t cs r = fillC s cs r := fun cs => fillC_congr fun y hy => h y (by
   obtain ⟨p,hp,hy⟩ := List.mem_flatMap.1 hy
   exact List.mem_flatMap.2 ⟨p,List.mem_cons_of_mem _ hp,hy⟩)
  simp only [fillC,hx,ih]
theorem fillE_congr {es : Nat} : ∀ {ps : List (Nat × Opd)} {xs : List AV},(∀ y ∈ ps.flatMap (fun p => lookO p.2),t.get y = s.get y) → fillE t es xs ps = fillE s es xs ps
 | [],cs,_ => rfl
 | (i,x) :: r,cs,h => by
  have hx : ev t x = ev s x := ev_congr fun y hy => h y (List.mem_flatMap.2 ⟨_,List.mem_cons_self,hy⟩)
  have ih : ∀ cs,fillE t es cs r = fillE s es cs r := fun cs => fillE_congr fun y hy => h y (by
   obtain ⟨p,hp,hy⟩ := List.mem_flatMap.1 hy
   exact List.mem_flatMap.2 ⟨p,List.mem_cons_of_mem _ hp,hy⟩)
  simp only [fillE,hx,ih]

theorem fillH_congr {es : Nat} : ∀ {ps : List (Nat × Opd)} {xs : List AV},(∀ y ∈ ps.flatMap (fun p => lookO p.2),t.get y = s.get y) → fillH t es xs ps = fillH s es xs ps
 | [],cs,_ => rfl
 | (i,x) :: r,cs,h => by
  have hx : ev t x = ev s x := ev_congr fun y hy => h y (List.mem_flatMap.2 ⟨_,List.mem_cons_self,hy⟩)
  have ih : ∀ cs,fillH t es cs r = fillH s es cs r := fun cs => fillH_congr fun y hy => h y (by
   obtain ⟨p,hp,hy⟩ := List.mem_flatMap.1 hy
   exact List.mem_flatMap.2 ⟨p,List.mem_cons_of_mem _ hp,hy⟩)
  simp only [fillH,hx,ih]
def Le (h h' : Nat → Option Blk) : Prop := ∀ l b,h l = some b → h' l = some b

theorem vload_le {h h' : Nat → Option Blk} (hh : Le h h') {n : Option Nat} {x v : AV} (he : vload h n x = some v) : vload h' n x = some v := by
 cases x with
 | lptr l i off =>
  simp only [vload] at he ⊢
  cases hb : h l with
  | none => rw [hb] at he; cases he
  | some b => rw [hb] at he; rw [hh l b hb]; exact he
 | _ => exact he
theorem elemsOf_le {h h' : Nat → Option Blk} (hh : Le h h') {x : AV} {v : List AV} (he : elemsOf h x = some v) : elemsOf h' x = some v := by
 cases x with
 | lsl l i off =>
  simp only [elemsOf] at he ⊢
  cases hb : h l with
  | none => rw [hb] at he; cases he
  | some b => rw [hb] at he; rw [hh l b hb]; exact he
 | _ => exact he
theorem viaddrS_le {h h' : Nat → Option Blk} (hh : Le h h') {es : Nat} {x i v : AV} (he : viaddrS h es x i = some v) : viaddrS h' es x i = some v := by
 cases x with
 | lsl l off len =>
  cases i with
  | int k n =>
   simp only [viaddrS] at he ⊢
   split at he
   ·rename_i hn
    rw [if_pos hn]
    cases hb : h l with
    | none => rw [hb] at he; cases he
    | some b => rw [hb] at he; rw [hh l b hb]; exact he
   ·cases he
  | _ => exact he
 | _ => cases i <;> exact he
theorem vconv_le {h h' : Nat → Option Blk} (hh : Le h h') {d : CD} {x v : AV} (he : vconv h d x = some v) : vconv h' d x = some v := by
 cases x with
 | lsl l off len =>
  simp only [vconv] at he ⊢
  split at he
  ·rename_i xs hx
   rw [elemsOf_le hh hx]
   exact he
  ·cases he
 | _ => exact he
theorem esOk_le {h h' : Nat → Option Blk} (hh : Le h h') {es : Nat} {x : AV} (he : esOk h es x = true) : esOk h' es x = true := by
 cases x with
 | lsl l i off =>
  simp only [esOk] at he ⊢
  cases hb : h l with
  | none => rw [hb] at he; cases he
  | some b => rw [hb] at he; rw [hh l b hb]; exact he
 | _ => exact he
theorem mapM_le {α β : Type} {f g : α → Option β} (h : ∀ x y,f x = some y → g x = some y) : ∀ {l : List α} {r : List β},l.mapM f = some r → l.mapM g = some r
 | [],r,hh => by simpa using hh
 | x :: l,r,hh => by
  rw [List.mapM_cons] at hh ⊢
  simp only [bind,Option.bind_eq_some_iff,pure,Option.some.injEq] at hh ⊢
  obtain ⟨y,h1,ys,h2,h3⟩ := hh
  exact ⟨y,h x y h1,ys,mapM_le h h2,h3⟩
theorem pure0_le {h h' : Nat → Option Blk} (hh : Le h h') {x v : AV} (he : pure0 h x = some v) : pure0 h' x = some v := by
 cases x with
 | lsl l i off =>
  simp only [pure0] at he ⊢
  cases hb : h l with
  | none => rw [hb] at he; cases he
  | some b => rw [hb] at he; rw [hh l b hb]; exact he
 | fn f c1 c2 =>
  cases c1 with
  | nil => cases c2 with
   | nil => exact he
   | cons => cases he
  | cons => cases he
 | _ => exact he
theorem pure0X_le {h h' : Nat → Option Blk} (hh : Le h h') {x v : AV} (he : pure0X h x = some v) : pure0X h' x = some v := by
 cases x with
 | agg cs =>
  simp only [pure0X,Option.map_eq_some_iff] at he ⊢
  obtain ⟨r,h1,h2⟩ := he
  exact ⟨r,mapM_le (fun x y hx => pure0_le hh hx) h1,h2⟩
 | _ => simp only [pure0X] at he ⊢; exact pure0_le hh he
theorem pure1_le {h h' : Nat → Option Blk} (hh : Le h h') {x v : AV} (he : pure1 h x = some v) : pure1 h' x = some v := by
 cases x with
 | lsl l i off =>
  simp only [pure1] at he ⊢
  cases hb : h l with
  | none => rw [hb] at he; cases he
  | some b =>
   rw [hb] at he; rw [hh l b hb]
   dsimp only at he ⊢
   split at he
   ·rename_i hc; rw [if_pos hc]; exact he
   ·rename_i hc; rw [if_neg hc]
    split at he
    ·rename_i hc2; rw [if_pos hc2]
     simp only [Option.map_eq_some_iff] at he ⊢
     obtain ⟨r,h1,h2⟩ := he
     exact ⟨r,mapM_le (fun x y hx => pure0X_le hh hx) h1,h2⟩
    ·cases he
 | fn f c1 c2 =>
  cases c1 with
  | nil => cases c2 with
   | nil => exact he
   | cons => cases he
  | cons => cases he
 | _ => exact he
theorem pureX_le {h h' : Nat → Option Blk} (hh : Le h h') {x v : AV} (he : pureX h x = some v) : pureX h' x = some v := by
 cases x with
 | agg cs =>
  simp only [pureX,Option.map_eq_some_iff] at he ⊢
  obtain ⟨r,h1,h2⟩ := he
  exact ⟨r,mapM_le (fun x y hx => pure1_le hh hx) h1,h2⟩
 | _ => simp only [pureX] at he ⊢; exact pure1_le hh he
theorem pureP_le {h h' : Nat → Option Blk} (hh : Le h h') {x v : AV} (he : pureV.pureP h x = some v) : pureV.pureP h' x = some v := by
 cases x with
 | lptr l i off =>
  simp only [pureV.pureP] at he ⊢
  cases hb : h l with
  | none => rw [hb] at he; cases he
  | some b =>
   rw [hb] at he; rw [hh l b hb]
   dsimp only at he ⊢
   split at he
   ·simp only [Option.map_eq_some_iff] at he ⊢
    obtain ⟨r,h1,h2⟩ := he
    exact ⟨r,pureX_le hh h1,h2⟩
   ·cases he
 | _ => simp only [pureV.pureP] at he ⊢; exact pureX_le hh he
theorem pureV_le {h h' : Nat → Option Blk} (hh : Le h h') {x v : AV} (he : pureV h x = some v) : pureV h' x = some v := by
 cases x with
 | lptr l i off =>
  have h1 : pureV.pureP h (.lptr l i off) = some v := he
  have h2 := pureP_le hh h1
  exact h2
 | fn f a b =>
  simp only [pureV] at he ⊢
  split at he
  ·rename_i p q h1 h2
   rw [mapM_le (fun x y hx => pureP_le hh hx) h1,mapM_le (fun x y hx => pureP_le hh hx) h2]
   exact he
  ·cases he
 | _ => simp only [pureV] at he ⊢; exact pureX_le hh he

theorem vop_frame {iop : IOp} {v : AV} (he : vop s iop = some v) (hl : ∀ y ∈ looksOp iop,t.get y = s.get y) (hh : cls iop = .H → Le s.hp t.hp) : vop t iop = some v := by
 cases iop <;> simp only [looksOp,List.mem_append] at hl <;> simp only [vop] at he ⊢ <;> first | (cases he; done) | skip
 all_goals first
  | (rw [ev_congr hl]; exact he)
  | (rw [ev_congr (fun y hy => hl y (.inl hy)),ev_congr (fun y hy => hl y (.inr hy))]; exact he)
  | skip
 case pick c x y => rw [ev_congr (fun z hz => hl z (.inl (.inl hz))),ev_congr (x := x) (fun z hz => hl z (.inl (.inr hz))),ev_congr (x := y) (fun z hz => hl z (.inr hz))]; exact he
 case build z ps => rw [fillC_congr hl]; exact he
 case load n x =>
  rw [ev_congr hl]
  cases x with
  | p a =>
   have : ∀ h h' v,vload h n (ev s (.p a)) = some v → vload h' n (ev s (.p a)) = some v := by
    intro h h' v
    simp only [ev]
    split <;> intro he <;> exact he
   exact this _ _ _ he
  | _ => exact vload_le (hh rfl) he
 case conv d x => rw [ev_congr hl]; exact vconv_le (hh rfl) he
 case iaddrS es x i =>
  rw [ev_congr (fun y hy => hl y (.inl hy)),ev_congr (x := i) (fun y hy => hl y (.inr hy))]
  cases x with
  | p a =>
   have : ∀ h h' v,viaddrS h es (ev s (.p a)) (ev s i) = some v → viaddrS h' es (ev s (.p a)) (ev s i) = some v := by
    intro h h' v
    generalize ev s i = j
    simp only [ev]
    split <;> intro he <;> cases j <;> exact he
   exact this _ _ _ he
  | _ => exact viaddrS_le (hh rfl) he
 case sliceS x lo hi => rw [ev_congr (fun z hz => hl z (.inl (.inl hz))),evX_congr (x := lo) (fun z hz => hl z (.inl (.inr hz))),evX_congr (x := hi) (fun z hz => hl z (.inr hz))]; exact he
 case sliceX es x lo hi =>
  rw [ev_congr (fun z hz => hl z (.inl (.inl hz))),evX_congr (x := lo) (fun z hz => hl z (.inl (.inr hz))),evX_congr (x := hi) (fun z hz => hl z (.inr hz))]
  split at he
  ·rename_i ho
   rw [if_pos (esOk_le (hh rfl) ho)]; exact he
  ·cases he
 case mkfn f a b => rw [evs_congr (fun z hz => hl z (.inl hz)),evs_congr (xs := b) (fun z hz => hl z (.inr hz))]; exact he
end
end Go.Ab

namespace Go.Ab
open Go.RowKit

section
variable {tab : Tab} {s t : St}

theorem get_put (st : St) (dst : Option Nat) (v : AV) (x : Nat) : (st.put dst v).get x = if dst = some x then v else st.get x := by
 cases dst with
 | none => simp [St.put]
 | some d => simp only [St.put,St.get_set,Option.some.injEq]
theorem hp_put' (st : St) (dst : Option Nat) (v : AV) : (st.put dst v).hp = st.hp := by funext l; exact St.hp_put st dst l v

structure Delta (dst : Option Nat) (c : Cls) (s' t t' : St) : Prop where
 get : ∀ x,t'.get x = if dst = some x then s'.get x else t.get x
 hp : c = .C → ∀ l,t'.hp l = if dst = some l then s'.hp l else t.hp l
 le : Le t.hp t'.hp
 same : c ≠ .C → t'.hp = t.hp

theorem Delta.put {dst : Option Nat} {c : Cls} (v : AV) (hd : c = .C → ∀ d,dst = some d → t.hp d = s.hp d) : Delta dst c (s.put dst v) t (t.put dst v) := by
 refine ⟨fun x => ?_,fun hc l => ?_,fun l b hb => by rw [hp_put']; exact hb,fun _ => hp_put' t dst v⟩
 ·rw [get_put,get_put]; split <;> rfl
 ·rw [hp_put',hp_put']
  split
  ·rename_i e; exact hd hc l e
  ·rfl

theorem Delta.new {d : Nat} {b : Blk} {v : AV} (hf : t.hp d = none) : Delta (some d) .C ((s.setH d (some b)).set d v) t ((t.setH d (some b)).set d v) := by
 refine ⟨fun x => ?_,fun _ l => ?_,fun l b' hb' => ?_,fun h => absurd rfl h⟩
 ·simp only [St.get_set,Option.some.injEq,St.get_setH]; split <;> rfl
 ·simp only [St.hp_set,St.hp_setH,Option.some.injEq]; split <;> rfl
 ·simp only [St.hp_set,St.hp_setH]
  split
  ·rename_i e; subst e; rw [hf] at hb'; cases hb'
  ·exact hb'

theorem callTo_congr {f : CT} {xs : List Opd} (h : ∀ y ∈ (match f with | .fn _ => [] | .dyn x => lookO x) ++ xs.flatMap lookO,t.get y = s.get y) : callTo t f xs = callTo s f xs := by
 have h2 := evs_congr (s := s) (t := t) (xs := xs) fun y hy => h y (List.mem_append_right _ hy)
 cases f with
 | fn id => simp only [callTo,h2]
 | dyn x =>
  have h1 : ev t x = ev s x := ev_congr fun y hy => h y (List.mem_append_left _ hy)
  simp only [callTo,h1,h2]

theorem eop_frame {dst : Option Nat} {iop : IOp} {s' : St} (he : eop tab s dst iop = some s') (hcl : cls iop = .R ∨ cls iop = .H ∨ cls iop = .C) (hl : ∀ y ∈ looksOp iop,t.get y = s.get y) (hd : cls iop = .C → ∀ d,dst = some d → t.hp d = s.hp d) (hh : cls iop = .H → Le s.hp t.hp) :
  ∃ t',eop tab t dst iop = some t' ∧ Delta dst (cls iop) s' t t' := by
 by_cases hv : isV iop = true
 ·rw [eop_isV hv] at he ⊢
  simp only [Option.map_eq_some_iff] at he
  obtain ⟨v,h1,rfl⟩ := he
  exact ⟨_,by rw [vop_frame h1 hl hh]; rfl,.put v hd⟩
 ·cases iop <;> first | exact absurd rfl hv | skip
  case alloc z =>
   simp only [eop] at he ⊢
   split at he
   ·rename_i d
    split at he
    ·rename_i hf
     cases he
     have hf' : t.hp d = none := by rw [hd rfl d rfl]; simpa using hf
     exact ⟨_,by rw [if_pos (by simp [hf'])],.new hf'⟩
    ·cases he
   ·cases he
  case box es x =>
   simp only [eop] at he ⊢
   rw [ev_congr hl]
   split at he
   ·rename_i d
    split at he
    ·rename_i hf
     cases he
     have hf' : t.hp d = none := by rw [hd rfl d rfl]; simpa using hf.1
     exact ⟨_,by rw [if_pos ⟨by simp [hf'],hf.2⟩],.new hf'⟩
    ·cases he
   ·cases he
  case bslice es len z ps =>
   simp only [eop] at he ⊢
   rw [fillE_congr hl,fillH_congr hl]
   split at he
   ·rename_i d
    split at he
    ·rename_i hf
     have hf' : t.hp d = none := by rw [hd rfl d rfl]; simpa using hf.1
     split at he
     ·rename_i xs hx
      cases he
      exact ⟨_,by rw [if_pos ⟨by simp [hf'],hf.2⟩],.new hf'⟩
     ·split at he
      ·cases he
       exact ⟨_,by rw [if_pos ⟨by simp [hf'],hf.2⟩],.new hf'⟩
      ·cases he
    ·cases he
   ·cases he
  case mkslice es bytes z l c =>
   simp only [eop] at he ⊢
   simp only [looksOp,List.mem_append] at hl
   rw [ev_congr (fun y hy => hl y (.inl hy)),ev_congr (x := c) (fun y hy => hl y (.inr hy))]
   split at he
   ·rename_i d kl nl kc nc h1 h2
    split at he
    ·rename_i hf
     cases he
     have hf' : t.hp d = none := by rw [hd rfl d rfl]; simpa using hf.1
     exact ⟨_,by rw [if_pos ⟨by simp [hf'],hf.2⟩],.new hf'⟩
    ·cases he
   ·cases he
  case store => rcases hcl with h | h | h <;> cases h
  case append => rcases hcl with h | h | h <;> cases h
  case copy => rcases hcl with h | h | h <;> cases h
  case callM => rcases hcl with h | h | h <;> cases h
  case zero3 es x =>
   have hx : ev t x = ev s x := ev_congr hl
   simp only [eop] at he ⊢
   rw [hx]
   generalize ev s x = xv at *
   have fin : ∀ {d : Nat},dst = some d → (if (s.hp d).isNone = true then some ((s.setH d (some ⟨es,true,[]⟩)).set d (.lsl d 0 0)) else none) = some s' →
     ∃ t',(if (t.hp d).isNone = true then some ((t.setH d (some ⟨es,true,[]⟩)).set d (.lsl d 0 0)) else none) = some t' ∧ Delta dst .C s' t t' := by
    intro d hdd he2
    split at he2
    ·rename_i hf
     cases he2
     have hf' : t.hp d = none := by rw [hd rfl d hdd]; simpa using hf
     rw [hdd]
     exact ⟨_,by rw [if_pos (by simp [hf'])],.new hf'⟩
    ·cases he2
   cases dst with
   | none => cases he
   | some d => cases xv <;> first | (cases he; done) | exact fin rfl he
  case call f xs ow =>
   cases ow with
   | cons e es => rcases hcl with h | h | h <;> cases h
   | nil =>
   simp only [eop] at he ⊢
   rw [callTo_congr hl]
   split at he
   ·rename_i d id vs h2
    split at he
    ·rename_i ps h3
     rw [mapM_le (fun x y hx => pureV_le (hh rfl) hx) h3]
     dsimp only
     split at he
     ·rename_i r m h4
      split at he
      ·rename_i hf
       cases he
       exact ⟨_,by rw [if_pos hf]; rfl,.put (dst := some d) r hd⟩
      ·cases he
     ·cases he
    ·cases he
   ·cases he

theorem evalOp_frame {o : IOper} {s' : St} (he : evalOp tab o s = some s') (hcl : cls o.op = .R ∨ cls o.op = .H ∨ cls o.op = .C) (hl : ∀ y ∈ looks o,t.get y = s.get y) (hd : cls o.op = .C → ∀ d,o.dst = some d → t.hp d = s.hp d) (hh : cls o.op = .H → Le s.hp t.hp) :
  ∃ t',evalOp tab o t = some t' ∧ Delta o.dst (cls o.op) s' t t' := by
 unfold evalOp at he ⊢
 split at he
 ·exact eop_frame he hcl (fun y hy => hl y (List.mem_append_left _ hy)) hd hh
 ·rename_i g want hg
  have hgt : t.get g = s.get g := hl g (List.mem_append_right _ (by rw [hg]; simp))
  rw [hgt]
  split at he
  ·rename_i b hb
   split at he
   ·rename_i hbw
    rw [if_pos hbw]
    exact eop_frame he hcl (fun y hy => hl y (List.mem_append_left _ hy)) hd hh
   ·rename_i hbw
    rw [if_neg hbw]
    cases he
    exact ⟨_,rfl,.put (.raw undef) hd⟩
  ·split at he
   ·rename_i hb
    rw [if_pos hb]
    cases he
    exact ⟨_,rfl,.put (.raw undef) hd⟩
   ·cases he
  ·cases he

theorem evalW_frame {o : IOper} {s' : St} (he : evalOp tab o s = some s') (hcl : cls o.op = .W) (hl : ∀ y ∈ looks o,t.get y = s.get y) (hh : t.hp = s.hp) :
  ∃ t',evalOp tab o t = some t' ∧ (o.dst = none → t'.hp = s'.hp ∧ ∀ x,t'.get x = t.get x) := by
 have main : ∀ {s'},eop tab s o.dst o.op = some s' → (∀ y ∈ looksOp o.op,t.get y = s.get y) → ∃ t',eop tab t o.dst o.op = some t' ∧ (o.dst = none → t'.hp = s'.hp ∧ ∀ x,t'.get x = t.get x) := by
  intro s' he hl
  cases hop : o.op with
  | store n a x =>
   rw [hop] at he hl
   simp only [looksOp,List.mem_append] at hl
   simp only [eop] at he ⊢
   rw [ev_congr (fun y hy => hl y (.inl hy)),ev_congr (x := x) (fun y hy => hl y (.inr hy))]
   split at he
   ·split at he
    ·rename_i l i off ha
     split at he
     ·rename_i b hb
      split at he
      ·rename_i y hy
       split at he
       ·rename_i hc
        split at he
        ·rename_i z hz
         cases he
         refine ⟨t.setH l (some { b with elems := b.elems.set i z }),?_,fun _ => ⟨?_,fun x => rfl⟩⟩
         ·rw [hh,hb]; dsimp only; rw [hy]; dsimp only; rw [if_pos hc,hz]
         ·funext m
          simp only [St.hp_setH,hh]
        ·cases he
       ·cases he
      ·cases he
     ·cases he
    ·cases he
   ·cases he
  | call f xs ow => rw [hop] at hcl; cases ow <;> cases hcl
  | load n x => rw [hop] at hcl; cases x <;> cases hcl
  | iaddrS n x i => rw [hop] at hcl; cases x <;> cases hcl
  | _ => rw [hop] at hcl; cases hcl
 unfold evalOp at he ⊢
 split at he
 ·exact main he fun y hy => hl y (List.mem_append_left _ hy)
 ·rename_i g want hg
  have hgt : t.get g = s.get g := hl g (List.mem_append_right _ (by rw [hg]; simp))
  rw [hgt]
  split at he
  ·rename_i b hb
   split at he
   ·rename_i hbw
    rw [if_pos hbw]
    exact main he fun y hy => hl y (List.mem_append_left _ hy)
   ·rename_i hbw
    rw [if_neg hbw]
    cases he
    refine ⟨_,rfl,fun e => ?_⟩
    rw [e]
    exact ⟨hh,fun x => rfl⟩
  ·split at he
   ·rename_i hb
    rw [if_pos hb]
    cases he
    refine ⟨_,rfl,fun e => ?_⟩
    rw [e]
    exact ⟨hh,fun x => rfl⟩
   ·cases he
  ·cases he

structure Eqv (s t : St) : Prop where
 get : ∀ x,t.get x = s.get x
 hp : t.hp = s.hp
theorem Eqv.refl (s : St) : Eqv s s := ⟨fun _ => rfl,rfl⟩
theorem Eqv.trans {a b c : St} (h : Eqv a b) (k : Eqv b c) : Eqv a c := ⟨fun x => (k.get x).trans (h.get x),k.hp.trans h.hp⟩

def apart : IOp → IOp → Bool
 | .load _ (.o _ a),.store _ (.o _ b) _ => a != b
 | _,_ => false
theorem apart_inv {p o : IOp} (h : apart p o = true) : ∃ n u a m v b x,p = .load n (.o u a) ∧ o = .store m (.o v b) x ∧ a ≠ b := by
 unfold apart at h
 split at h
 ·exact ⟨_,_,_,_,_,_,_,rfl,rfl,by simpa using h⟩
 ·cases h
theorem load_frame {o : IOper} {n : Option Nat} {u a : Nat} (hop : o.op = .load n (.o u a)) {s' : St} (he : evalOp tab o s = some s') (hl : ∀ y ∈ looks o,t.get y = s.get y) (hh : t.hp a = s.hp a) :
  ∃ t',evalOp tab o t = some t' ∧ (∀ x,t'.get x = if o.dst = some x then s'.get x else t.get x) ∧ t'.hp = t.hp ∧ s'.hp = s.hp ∧ ∀ x,o.dst ≠ some x → s'.get x = s.get x := by
 have fin : ∀ v : AV,(∀ x,(t.put o.dst v).get x = if o.dst = some x then (s.put o.dst v).get x else t.get x) ∧ (t.put o.dst v).hp = t.hp ∧ (s.put o.dst v).hp = s.hp ∧ ∀ x,o.dst ≠ some x → (s.put o.dst v).get x = s.get x := by
  intro v
  refine ⟨fun x => ?_,hp_put' _ _ _,hp_put' _ _ _,fun x hx => by rw [get_put,if_neg hx]⟩
  rw [get_put,get_put]; split <;> rfl
 have hev : ev t (.o u a) = ev s (.o u a) := ev_congr fun y hy => hl y (List.mem_append_left _ (by rw [hop]; exact hy))
 have main : ∀ {s'},eop tab s o.dst o.op = some s' → ∃ v,eop tab t o.dst o.op = some (t.put o.dst v) ∧ s' = s.put o.dst v := by
  intro s' he
  rw [hop] at he ⊢
  simp only [eop,vop,Option.map_eq_some_iff] at he ⊢
  obtain ⟨v,h1,rfl⟩ := he
  refine ⟨v,⟨v,?_,rfl⟩,rfl⟩
  rw [hev]
  have hlp : ∃ i off,ev s (.o u a) = .lptr a i off := by
   simp only [ev] at h1 ⊢
   split at h1
   ·rename_i l i off hg
    split at h1
    ·rename_i e; subst e; exact ⟨i,off,by rw [if_pos rfl]⟩
    ·cases h1
   ·cases h1
  obtain ⟨i,off,e⟩ := hlp
  rw [e] at h1 ⊢
  simp only [vload] at h1 ⊢
  rw [hh]; exact h1
 unfold evalOp at he ⊢
 split at he
 ·obtain ⟨v,h1,rfl⟩ := main he
  exact ⟨_,h1,fin v⟩
 ·rename_i g want hg
  have hgt : t.get g = s.get g := hl g (List.mem_append_right _ (by rw [hg]; simp))
  rw [hgt]
  split at he
  ·split at he
   ·rename_i hb
    rw [if_pos hb]
    obtain ⟨v,h1,rfl⟩ := main he
    exact ⟨_,h1,fin v⟩
   ·rename_i hb
    rw [if_neg hb]
    cases he
    exact ⟨_,rfl,fin _⟩
  ·split at he
   ·rename_i hb
    rw [if_pos hb]
    cases he
    exact ⟨_,rfl,fin _⟩
   ·cases he
  ·cases he
theorem store_only {o : IOper} {m v b : Nat} {x : Opd} (hop : o.op = .store m (.o v b) x) (hd : o.dst = none) {s' : St} (he : evalOp tab o s = some s') : ∀ l,l ≠ b → s'.hp l = s.hp l := by
 have main : ∀ {s'},eop tab s o.dst o.op = some s' → ∀ l,l ≠ b → s'.hp l = s.hp l := by
  intro s' he l hl
  rw [hop,hd] at he
  simp only [eop] at he
  split at he
  ·rename_i l' i off ha
   have : l' = b := by
    simp only [ev] at ha
    split at ha
    ·rename_i l2 i2 off2 hg
     split at ha
     ·rename_i e; cases ha; exact e
     ·cases ha
    ·cases ha
   subst this
   split at he
   ·split at he
    ·split at he
     ·split at he
      ·cases he
       rw [St.hp_setH,if_neg (Ne.symm hl)]
      ·cases he
     ·cases he
    ·cases he
   ·cases he
  ·cases he
 unfold evalOp at he
 split at he
 ·exact main he
 ·split at he
  ·split at he
   ·exact main he
   ·cases he; intro l _; rw [hp_put']
  ·split at he
   ·cases he; intro l _; rw [hp_put']
   ·cases he
  ·cases he

theorem lk_append_some {α : Type} : ∀ {bs hs : List (Nat × Option α)},bs.all (fun p => p.2.isSome) = true → ∀ l,lk none (bs ++ hs) l = (lk none bs l).or (lk none hs l)
 | [],hs,_,l => by simp [lk]
 | (k,v) :: r,hs,h,l => by
  simp only [List.all_cons,Bool.and_eq_true] at h
  simp only [List.cons_append,lk]
  split
  ·obtain ⟨x,hx⟩ := Option.isSome_iff_exists.1 h.1
   rw [hx]; rfl
  ·exact lk_append_some h.2 l
theorem lk_names {α : Type} : ∀ {bs : List (Nat × Option α)} {l : Nat},(∀ p ∈ bs,p.1 ≠ l) → lk none bs l = none
 | [],l,_ => rfl
 | (k,v) :: r,l,h => by
  simp only [lk]
  rw [if_neg (h _ List.mem_cons_self)]
  exact lk_names fun p hp => h p (List.mem_cons_of_mem _ hp)
theorem ownC_some : ∀ {xs : List AV} {d : Nat} {es : List Nat} {ys : List AV} {bs : List (Nat × Option Blk)},ownC d es xs = some (ys,bs) → bs.all (fun p => p.2.isSome) = true
 | [],d,es,ys,bs,h => by simp only [ownC,Option.some.injEq,Prod.mk.injEq] at h; rw [← h.2]; rfl
 | x :: r,d,es,ys,bs,h => by
  have gen : ∀ {es : List Nat},(match ownC (d + 1000) es r with | some (ys,bs) => some (x :: ys,bs) | none => none) = some (ys,bs) → bs.all (fun p => p.2.isSome) = true := by
   intro es h
   split at h
   ·rename_i h1; cases h; exact ownC_some h1
   ·cases h
  cases es with
  | nil => cases x <;> exact gen h
  | cons e es =>
   cases x with
   | sl xs =>
    simp only [ownC] at h
    split at h
    ·rename_i h1
     cases h
     simp only [List.all_cons,Option.isSome_some,Bool.true_and]
     exact ownC_some h1
    ·cases h
   | _ => exact gen h
theorem own1_some {d : Nat} {es : List Nat} {x y : AV} {bs : List (Nat × Option Blk)} (h : own1 d es x = some (y,bs)) : bs.all (fun p => p.2.isSome) = true := by
 cases x with
 | agg cs =>
  simp only [own1] at h
  split at h
  ·rename_i h1; cases h; exact ownC_some h1
  ·cases h
 | _ =>
  simp only [own1] at h
  split at h
  ·rename_i h1; cases h; exact ownC_some h1
  ·cases h
theorem ownT_some : ∀ {xs : List AV} {d : Nat} {es : List Nat} {ys : List AV} {bs : List (Nat × Option Blk)},ownT d es xs = some (ys,bs) → bs.all (fun p => p.2.isSome) = true
 | [],d,es,ys,bs,h => by simp only [ownT,Option.some.injEq,Prod.mk.injEq] at h; rw [← h.2]; rfl
 | x :: r,d,es,ys,bs,h => by
  simp only [ownT] at h
  split at h
  ·rename_i h1 h2
   cases h
   rw [List.all_append,own1_some h1,ownT_some h2]; rfl
  ·cases h
theorem ownV_some {d : Nat} {es : List Nat} {x y : AV} {bs : List (Nat × Option Blk)} (h : ownV d es x = some (y,bs)) : bs.all (fun p => p.2.isSome) = true := by
 cases x with
 | tup xs =>
  simp only [ownV] at h
  split at h
  ·rename_i h1; cases h; exact ownT_some h1
  ·cases h
 | _ => simp only [ownV] at h; exact own1_some h

theorem own_frame {o : IOper} {f : CT} {xs : List Opd} {e : Nat} {es : List Nat} (hop : o.op = .call f xs (e :: es)) {s' : St} (he : evalOp tab o s = some s') :
  Le s.hp s'.hp ∧ (∀ x,o.dst ≠ some x → s'.get x = s.get x) ∧
  ∀ (t : St) (n : Nat),(∀ y ∈ looks o,t.get y = s.get y) → Le s.hp t.hp → (∀ l,l ≠ n → t.hp l = s.hp l) → (t.hp n = s.hp n ∨ s'.hp n = none) →
   ∃ t',evalOp tab o t = some t' ∧ (∀ x,t'.get x = if o.dst = some x then s'.get x else t.get x) ∧ ∀ l,t'.hp l = if l = n ∧ s'.hp n = none then t.hp l else s'.hp l := by
 have skip : ∀ v : AV,Le s.hp (s.put o.dst v).hp ∧ (∀ x,o.dst ≠ some x → (s.put o.dst v).get x = s.get x) ∧
   ∀ (t : St) (n : Nat),(∀ l,l ≠ n → t.hp l = s.hp l) → (t.hp n = s.hp n ∨ (s.put o.dst v).hp n = none) →
   (∀ x,(t.put o.dst v).get x = if o.dst = some x then (s.put o.dst v).get x else t.get x) ∧ ∀ l,(t.put o.dst v).hp l = if l = n ∧ (s.put o.dst v).hp n = none then t.hp l else (s.put o.dst v).hp l := by
  intro v
  refine ⟨by rw [hp_put']; exact fun _ _ h => h,fun x hx => by rw [get_put,if_neg hx],fun t n h1 h2 => ⟨fun x => ?_,fun l => ?_⟩⟩
  ·rw [get_put,get_put]; split <;> rfl
  ·rw [hp_put',hp_put']
   by_cases hl : l = n
   ·subst hl
    rcases h2 with h2 | h2
    ·rw [h2]; split <;> rfl
    ·rw [hp_put'] at h2; rw [if_pos ⟨rfl,h2⟩]
   ·rw [if_neg fun h => hl h.1,h1 l hl]
 have core : ∀ {d : Nat},o.dst = some d → ∀ (y : AV) (bs : List (Nat × Option Blk)),bs.all (fun p => p.2.isSome) = true → (∀ p ∈ bs,s.hp p.1 = none) →
   (∀ t : St,(∀ y ∈ looksOp o.op,t.get y = s.get y) → Le s.hp t.hp → (∀ p ∈ bs,t.hp p.1 = none) → eop tab t o.dst o.op = some ⟨(d,y) :: t.env,bs ++ t.heap⟩) →
   Le s.hp (St.hp ⟨(d,y) :: s.env,bs ++ s.heap⟩) ∧ (∀ x,o.dst ≠ some x → St.get ⟨(d,y) :: s.env,bs ++ s.heap⟩ x = s.get x) ∧
   ∀ (t : St) (n : Nat),(∀ y ∈ looksOp o.op,t.get y = s.get y) → Le s.hp t.hp → (∀ l,l ≠ n → t.hp l = s.hp l) → (t.hp n = s.hp n ∨ St.hp ⟨(d,y) :: s.env,bs ++ s.heap⟩ n = none) →
    ∃ t',eop tab t o.dst o.op = some t' ∧ (∀ x,t'.get x = if o.dst = some x then St.get ⟨(d,y) :: s.env,bs ++ s.heap⟩ x else t.get x) ∧ ∀ l,t'.hp l = if l = n ∧ St.hp ⟨(d,y) :: s.env,bs ++ s.heap⟩ n = none then t.hp l else St.hp ⟨(d,y) :: s.env,bs ++ s.heap⟩ l := by
  intro d hd2 y bs hsome hfree hgo
  have hhp : ∀ (u : St) l,St.hp ⟨(d,y) :: u.env,bs ++ u.heap⟩ l = (lk none bs l).or (u.hp l) := fun u l => lk_append_some hsome l
  have hget : ∀ (u : St) x,St.get ⟨(d,y) :: u.env,bs ++ u.heap⟩ x = if d = x then y else u.get x := fun u x => rfl
  refine ⟨fun l b hb => ?_,fun x hx => ?_,fun t n hl hle h6 h7 => ?_⟩
  ·rw [hhp]
   have : lk none bs l = none := lk_names fun p hp e => by rw [← e,hfree p hp] at hb; cases hb
   rw [this,hb]; rfl
  ·rw [hget,if_neg]; rintro rfl; exact hx hd2
  ·have hn : ∀ p ∈ bs,t.hp p.1 = none := by
    intro p hp
    by_cases hpn : p.1 = n
    ·rcases h7 with h7 | h7
     ·rw [hpn,h7,← hpn,hfree p hp]
     ·exfalso
      rw [hhp] at h7
      have : lk none bs n = none := by
       cases hq : lk none bs n with
       | none => rfl
       | some b => rw [hq] at h7; cases h7
      have hin : ∀ {bs : List (Nat × Option Blk)},bs.all (fun p => p.2.isSome) = true → p ∈ bs → lk none bs p.1 ≠ none := by
       intro bs
       induction bs with
       | nil => intro _ h; cases h
       | cons q bs ih =>
        intro ha hm
        simp only [List.all_cons,Bool.and_eq_true] at ha
        simp only [lk]
        split
        ·intro e; rw [e] at ha; cases ha.1
        ·rename_i hne
         rcases List.mem_cons.1 hm with rfl | hm
         ·exact absurd rfl hne
         ·exact ih ha.2 hm
      exact hin hsome hp (by rw [hpn]; exact this)
    ·rw [h6 _ hpn]; exact hfree p hp
   refine ⟨⟨(d,y) :: t.env,bs ++ t.heap⟩,hgo t hl hle hn,fun x => ?_,fun l => ?_⟩
   ·rw [hget,hget,hd2]
    simp only [Option.some.injEq]
    split <;> rfl
   ·rw [hhp,hhp,hhp]
    by_cases hln : l = n
    ·subst hln
     rcases h7 with h7 | h7
     ·rw [h7]
      split
      ·rename_i hc
       have : lk none bs l = none := by
        cases hq : lk none bs l with
        | none => rfl
        | some b => rw [hq] at hc; cases hc.2
       rw [this]; rfl
      ·rfl
     ·rw [hhp] at h7
      rw [if_pos ⟨rfl,h7⟩]
      have : lk none bs l = none := by
       cases hq : lk none bs l with
       | none => rfl
       | some b => rw [hq] at h7; cases h7
      rw [this]; rfl
    ·rw [if_neg fun h => hln h.1,h6 l hln]
 have main : ∀ {s'},eop tab s o.dst o.op = some s' → Le s.hp s'.hp ∧ (∀ x,o.dst ≠ some x → s'.get x = s.get x) ∧
  ∀ (t : St) (n : Nat),(∀ y ∈ looksOp o.op,t.get y = s.get y) → Le s.hp t.hp → (∀ l,l ≠ n → t.hp l = s.hp l) → (t.hp n = s.hp n ∨ s'.hp n = none) →
   ∃ t',eop tab t o.dst o.op = some t' ∧ (∀ x,t'.get x = if o.dst = some x then s'.get x else t.get x) ∧ ∀ l,t'.hp l = if l = n ∧ s'.hp n = none then t.hp l else s'.hp l := by
  intro s' he
  rw [hop] at he ⊢
  simp only [eop] at he ⊢
  split at he
  ·rename_i d id vs hd2 h2
   split at he
   ·rename_i ps h3
    split at he
    ·rename_i r m h4
     split at he
     ·rename_i hm
      split at he
      ·rename_i y bs h5
       split at he
       ·rename_i hf
        cases he
        have hfree : ∀ p ∈ bs,s.hp p.1 = none := by
         unfold freeNames at hf
         simp only [Bool.and_eq_true,List.all_eq_true] at hf
         intro p hp
         simpa using (hf.1 p hp).1
        have key := core hd2 y bs (ownV_some h5) hfree fun t hl hle hn => by
         rw [hop] at hl ⊢
         simp only [eop]
         have hct : callTo t f xs = callTo s f xs := callTo_congr hl
         have hf' : freeNames t bs = true := by
          unfold freeNames at hf ⊢
          simp only [Bool.and_eq_true,List.all_eq_true] at hf ⊢
          refine ⟨fun p hp => ⟨by rw [hn p hp]; rfl,(hf.1 p hp).2⟩,hf.2⟩
         rw [hct,hd2,h2]
         dsimp only
         rw [mapM_le (fun x y hx => pureV_le hle hx) h3]
         dsimp only
         rw [h4]
         dsimp only
         rw [if_pos hm,h5]
         exact if_pos hf'
        rw [hop] at key
        simp only [eop] at key
        exact key
       ·cases he
      ·cases he
     ·rename_i hm
      split at he
      ·rename_i r' H
       split at he
       ·rename_i hf
        cases he
        have key := core hd2 r' (H.map fun p => (p.1,some p.2)) (by simp [List.all_eq_true]) (fun p hp => by
          obtain ⟨q,hq,rfl⟩ := List.mem_map.1 hp
          exact hf q hq) fun t hl hle hn => by
         rw [hop] at hl ⊢
         simp only [eop]
         have hct : callTo t f xs = callTo s f xs := callTo_congr hl
         rw [hct,hd2,h2]
         dsimp only
         rw [mapM_le (fun x y hx => pureV_le hle hx) h3]
         dsimp only
         rw [h4]
         dsimp only
         rw [if_neg hm]
         exact if_pos fun p hp => hn (p.1,some p.2) (List.mem_map.2 ⟨p,hp,rfl⟩)
        rw [hop] at key
        simp only [eop] at key
        exact key
       ·cases he
      ·cases he
    ·cases he
   ·cases he
  ·cases he
 unfold evalOp at he ⊢
 split at he
 ·rename_i hg
  obtain ⟨m1,m2,m3⟩ := main he
  exact ⟨m1,m2,fun t n hl => m3 t n fun y hy => hl y (List.mem_append_left _ hy)⟩
 ·rename_i g want hg
  have hgt : ∀ t : St,(∀ y ∈ looks o,t.get y = s.get y) → t.get g = s.get g := fun t hl => hl g (List.mem_append_right _ (by rw [hg]; simp))
  split at he
  ·rename_i b hb
   split at he
   ·rename_i hbw
    obtain ⟨m1,m2,m3⟩ := main he
    refine ⟨m1,m2,fun t n hl h1 h2 h3 => ?_⟩
    rw [hgt t hl,hb]
    dsimp only
    rw [if_pos hbw]
    exact m3 t n (fun y hy => hl y (List.mem_append_left _ hy)) h1 h2 h3
   ·rename_i hbw
    cases he
    obtain ⟨m1,m2,m3⟩ := skip (.raw undef)
    refine ⟨m1,m2,fun t n hl h1 h2 h3 => ?_⟩
    rw [hgt t hl,hb]
    dsimp only
    rw [if_neg hbw]
    exact ⟨_,rfl,m3 t n h2 h3⟩
  ·rename_i v hb
   split at he
   ·rename_i hbw
    cases he
    obtain ⟨m1,m2,m3⟩ := skip (.raw undef)
    refine ⟨m1,m2,fun t n hl h1 h2 h3 => ?_⟩
    rw [hgt t hl,hb]
    dsimp only
    rw [if_pos hbw]
    exact ⟨_,rfl,m3 t n h2 h3⟩
   ·cases he
  ·cases he

theorem copy_frame {o : IOper} {es by0 : Nat} {x y : Opd} (hop : o.op = .copy es by0 x y) {s' : St} (he : evalOp tab o s = some s') :
  (∀ x,o.dst ≠ some x → s'.get x = s.get x) ∧ ∀ (t : St),(∀ y ∈ looks o,t.get y = s.get y) → t.hp = s.hp → ∃ t',evalOp tab o t = some t' ∧ (∀ x,t'.get x = if o.dst = some x then s'.get x else t.get x) ∧ t'.hp = s'.hp := by
 have main : ∀ {s'},eop tab s o.dst o.op = some s' → (∀ x,o.dst ≠ some x → s'.get x = s.get x) ∧ ∀ (t : St),(∀ y ∈ looksOp o.op,t.get y = s.get y) → t.hp = s.hp → ∃ t',eop tab t o.dst o.op = some t' ∧ (∀ x,t'.get x = if o.dst = some x then s'.get x else t.get x) ∧ t'.hp = s'.hp := by
  intro s' he
  rw [hop] at he ⊢
  simp only [eop] at he ⊢
  split at he
  ·rename_i ys l off len hy hx
   split at he
   ·rename_i b hb
    split at he
    ·rename_i hc
     cases he
     refine ⟨fun z hz => by rw [get_put,if_neg hz,St.get_setH],fun t hl hh => ?_⟩
     simp only [looksOp,List.mem_append] at hl
     have ex : ev t x = ev s x := ev_congr fun z hz => hl z (.inl hz)
     have ey : ev t y = ev s y := ev_congr fun z hz => hl z (.inr hz)
     rw [ex,ey,hh,hy,hx]
     dsimp only
     rw [hb]
     dsimp only
     rw [if_pos hc]
     refine ⟨_,rfl,fun z => ?_,?_⟩
     ·rw [get_put,get_put,St.get_setH,St.get_setH]; split <;> rfl
     ·rw [hp_put',hp_put']; funext m; simp only [St.hp_setH,hh]
    ·cases he
   ·cases he
  ·cases he
 have skip : ∀ v : AV,(∀ x,o.dst ≠ some x → (s.put o.dst v).get x = s.get x) ∧ ∀ t : St,t.hp = s.hp → (∀ x,(t.put o.dst v).get x = if o.dst = some x then (s.put o.dst v).get x else t.get x) ∧ (t.put o.dst v).hp = (s.put o.dst v).hp := by
  intro v
  refine ⟨fun x hx => by rw [get_put,if_neg hx],fun t h => ⟨fun x => ?_,by rw [hp_put',hp_put',h]⟩⟩
  rw [get_put,get_put]; split <;> rfl
 unfold evalOp at he ⊢
 split at he
 ·rename_i hg
  obtain ⟨m2,m3⟩ := main he
  exact ⟨m2,fun t hl => m3 t fun y hy => hl y (List.mem_append_left _ hy)⟩
 ·rename_i g want hg
  have hgt : ∀ t : St,(∀ y ∈ looks o,t.get y = s.get y) → t.get g = s.get g := fun t hl => hl g (List.mem_append_right _ (by rw [hg]; simp))
  split at he
  ·rename_i b hb
   split at he
   ·rename_i hbw
    obtain ⟨m2,m3⟩ := main he
    refine ⟨m2,fun t hl h1 => ?_⟩
    rw [hgt t hl,hb]
    dsimp only
    rw [if_pos hbw]
    exact m3 t (fun y hy => hl y (List.mem_append_left _ hy)) h1
   ·rename_i hbw
    cases he
    obtain ⟨m2,m3⟩ := skip (.raw undef)
    refine ⟨m2,fun t hl h1 => ?_⟩
    rw [hgt t hl,hb]
    dsimp only
    rw [if_neg hbw]
    exact ⟨_,rfl,m3 t h1⟩
  ·rename_i v hb
   split at he
   ·rename_i hbw
    cases he
    obtain ⟨m2,m3⟩ := skip (.raw undef)
    refine ⟨m2,fun t hl h1 => ?_⟩
    rw [hgt t hl,hb]
    dsimp only
    rw [if_pos hbw]
    exact ⟨_,rfl,m3 t h1⟩
   ·cases he
  ·cases he
theorem ok_frame {o : IOper} (hc : cls o.op = .O ∨ cls o.op = .K) {s' : St} (he : evalOp tab o s = some s') :
  (∀ x,o.dst ≠ some x → s'.get x = s.get x) ∧ ∀ (t : St),(∀ y ∈ looks o,t.get y = s.get y) → t.hp = s.hp → ∃ t',evalOp tab o t = some t' ∧ (∀ x,t'.get x = if o.dst = some x then s'.get x else t.get x) ∧ t'.hp = s'.hp := by
 rcases hc with hc | hc
 ·cases hop : o.op with
  | call f xs ow =>
   cases ow with
   | nil => rw [hop] at hc; cases hc
   | cons e es =>
    obtain ⟨h1,h2,h3⟩ := own_frame hop he
    refine ⟨h2,fun t hl hh => ?_⟩
    obtain ⟨t',g1,g2,g3⟩ := h3 t 0 hl (by rw [hh]; exact fun _ _ h => h) (fun l _ => by rw [hh]) (.inl (by rw [hh]))
    refine ⟨t',g1,g2,?_⟩
    funext l
    rw [g3 l]
    split
    ·rename_i hc
     obtain ⟨e0,h4⟩ := hc
     rw [e0,h4,hh]
     cases hq : s.hp 0 with
     | none => rfl
     | some b => rw [h1 0 b hq] at h4; cases h4
    ·rfl
  | load n x => rw [hop] at hc; cases x <;> cases hc
  | iaddrS n x i => rw [hop] at hc; cases x <;> cases hc
  | _ => rw [hop] at hc; cases hc
 ·cases hop : o.op with
  | copy es by0 x y => exact copy_frame hop he
  | load n x => rw [hop] at hc; cases x <;> cases hc
  | iaddrS n x i => rw [hop] at hc; cases x <;> cases hc
  | call f xs ow => rw [hop] at hc; cases ow <;> cases hc
  | _ => rw [hop] at hc; cases hc

def isAlloc (o : IOper) : Bool := match o.op with
 | .alloc _ => o.g.isNone
 | _ => false
def comm (p o : IOper) : Bool :=
 (match p.dst with
  | some d => !(looks o).contains d && o.dst != some d
  | none => true) &&
 (match o.dst with
  | some d => !(looks p).contains d
  | none => true) &&
 (match cls p.op,cls o.op with
  | .R,.R | .R,.H | .R,.C | .H,.R | .H,.H | .H,.C | .C,.R | .C,.C => true
  | .R,.W => o.dst == none
  | .W,.R => p.dst == none
  | .H,.W => o.dst == none && apart p.op o.op
  | .W,.H => p.dst == none && apart o.op p.op
  | .R,.O | .R,.K | .O,.R | .K,.R | .H,.O => true
  | .O,.C => isAlloc o
  | _,_ => false)
theorem comm_spec {p o : IOper} (h : comm p o = true) : (∀ d,p.dst = some d → d ∉ looks o) ∧ (∀ d,p.dst = some d → o.dst ≠ some d) ∧ (∀ d,o.dst = some d → d ∉ looks p) := by
 simp only [comm,Bool.and_eq_true] at h
 obtain ⟨⟨h1,h2⟩,_⟩ := h
 refine ⟨fun d hd => ?_,fun d hd => ?_,fun d hd => ?_⟩
 ·rw [hd] at h1; simp at h1; exact h1.1
 ·rw [hd] at h1; simp at h1; exact h1.2
 ·rw [hd] at h2; simpa using h2

theorem swap {p o : IOper} (hc : comm p o = true) {s s1 s2 : St} (hp : evalOp tab p s = some s1) (ho : evalOp tab o s1 = some s2) :
  ∃ t1 t2,evalOp tab o s = some t1 ∧ evalOp tab p t1 = some t2 ∧ Eqv s2 t2 := by
 obtain ⟨c1,c2,c3⟩ := comm_spec hc
 have hcl : (match cls p.op,cls o.op with
  | .R,.R | .R,.H | .R,.C | .H,.R | .H,.H | .H,.C | .C,.R | .C,.C => true
  | .R,.W => o.dst == none
  | .W,.R => p.dst == none
  | .H,.W => o.dst == none && apart p.op o.op
  | .W,.H => p.dst == none && apart o.op p.op
  | .R,.O | .R,.K | .O,.R | .K,.R | .H,.O => true
  | .O,.C => isAlloc o
  | _,_ => false) = true := by
  simp only [comm,Bool.and_eq_true] at hc; exact hc.2
 by_cases hRO : (cls p.op = .R ∨ cls p.op = .H) ∧ (cls o.op = .O ∨ cls o.op = .K)
 ·have hph : cls p.op = .R ∨ cls p.op = .H ∨ cls p.op = .C := by rcases hRO.1 with h | h <;> simp [h]
  have hpC : cls p.op ≠ .C := by rcases hRO.1 with h | h <;> rw [h] <;> decide
  obtain ⟨_,e1,D1⟩ := evalOp_frame hp (t := s) hph (fun _ _ => rfl) (fun _ _ _ => rfl) (fun _ _ _ h => h)
  rw [hp] at e1; cases e1
  obtain ⟨f1,f2⟩ := ok_frame hRO.2 ho
  obtain ⟨t1,g1,g2,g3⟩ := f2 s (fun y hy => by rw [D1.get,if_neg fun e => c1 y e hy]) (D1.same hpC).symm
  have hle : cls p.op = .H → Le s.hp t1.hp := by
   intro hH
   rw [g3]
   rw [hH] at hcl
   cases hop : o.op with
   | call f xs ow =>
    cases ow with
    | nil => rw [hop] at hRO; rcases hRO.2 with h | h <;> cases h
    | cons e es =>
     have := (own_frame hop ho).1
     rw [D1.same hpC] at this
     exact this
   | copy es by0 x y => rw [hop] at hcl; cases hcl
   | load n x => rw [hop] at hRO; rcases hRO.2 with h | h <;> cases x <;> cases h
   | iaddrS n x i => rw [hop] at hRO; rcases hRO.2 with h | h <;> cases x <;> cases h
   | _ => rw [hop] at hRO; rcases hRO.2 with h | h <;> cases h
  obtain ⟨t2,k1,D2⟩ := evalOp_frame hp (t := t1) hph (fun y hy => by rw [g2,if_neg fun e => c3 y e hy]) (fun e => absurd e hpC) hle
  refine ⟨t1,t2,g1,k1,fun x => ?_,by rw [D2.same hpC,g3]⟩
  rw [D2.get,g2]
  by_cases e1 : p.dst = some x
  ·rw [if_pos e1,f1 x (c2 x e1)]
  ·rw [if_neg e1]
   by_cases e2 : o.dst = some x
   ·rw [if_pos e2]
   ·rw [if_neg e2,f1 x e2,D1.get,if_neg e1]
 by_cases hOR : (cls p.op = .O ∨ cls p.op = .K) ∧ cls o.op = .R
 ·obtain ⟨f1,f2⟩ := ok_frame hOR.1 hp
  obtain ⟨t1,g1,D1⟩ := evalOp_frame ho (t := s) (.inl hOR.2) (fun y hy => (f1 y fun e => c1 y e hy).symm) (fun e => by rw [hOR.2] at e; cases e) (fun e => by rw [hOR.2] at e; cases e)
  have hoC : cls o.op ≠ .C := by rw [hOR.2]; decide
  obtain ⟨_,e2,D2⟩ := evalOp_frame ho (t := s1) (.inl hOR.2) (fun _ _ => rfl) (fun _ _ _ => rfl) (fun _ _ _ h => h)
  rw [ho] at e2; cases e2
  obtain ⟨t2,k1,k2,k3⟩ := f2 t1 (fun y hy => by rw [D1.get,if_neg fun e => c3 y e hy]) (D1.same hoC)
  refine ⟨t1,t2,g1,k1,fun x => ?_,by rw [k3,D2.same hoC]⟩
  rw [k2,D2.get,D1.get]
  by_cases e1 : p.dst = some x
  ·rw [if_pos e1,if_neg (c2 x e1)]
  ·rw [if_neg e1]
   by_cases e2 : o.dst = some x
   ·rw [if_pos e2,if_pos e2]
   ·rw [if_neg e2,if_neg e2,f1 x e1]
 by_cases hOC : cls p.op = .O ∧ cls o.op = .C
 ·rw [hOC.1,hOC.2] at hcl
  have hcl : isAlloc o = true := hcl
  unfold isAlloc at hcl
  split at hcl
  ·rename_i z hop
   have hg : o.g = none := by simpa using hcl
   cases hpop : p.op with
   | call f xs ow =>
    cases ow with
    | nil => rw [hpop] at hOC; cases hOC.1
    | cons e es =>
     obtain ⟨f1,f2,f3⟩ := own_frame hpop hp
     have hev : ∀ u : St,evalOp tab o u = eop tab u o.dst (.alloc z) := fun u => by unfold evalOp; rw [hg,hop]
     rw [hev] at ho
     cases hd : o.dst with
     | none => rw [hd] at ho; cases ho
     | some d =>
      rw [hd] at ho
      simp only [eop] at ho
      split at ho
      ·rename_i hfr
       cases ho
       have h1 : s1.hp d = none := by simpa using hfr
       have h0 : s.hp d = none := by
        cases hq : s.hp d with
        | none => rfl
        | some b => rw [f1 d b hq] at h1; cases h1
       obtain ⟨t2,k1,k2,k3⟩ := f3 ((s.setH d (some ⟨z.cells.length,false,[z]⟩)).set d (.lptr d 0 0)) d (fun y hy => by
         rw [St.get_set,if_neg fun e => c3 y (by rw [hd,e]) hy,St.get_setH]) (fun l b hb => by
         rw [St.hp_set,St.hp_setH]
         split
         ·rename_i e; subst e; rw [h0] at hb; cases hb
         ·exact hb) (fun l hl => by rw [St.hp_set,St.hp_setH,if_neg (Ne.symm hl)]) (.inr h1)
       refine ⟨_,t2,by rw [hev,hd]; simp only [eop]; rw [if_pos (by simp [h0])],k1,fun x => ?_,?_⟩
       ·rw [k2,St.get_set,St.get_set,St.get_setH,St.get_setH]
        by_cases e1 : p.dst = some x
        ·have : d ≠ x := fun e => c2 x e1 (by rw [hd,e])
         rw [if_pos e1,if_neg this]
        ·rw [if_neg e1]
         split
         ·rfl
         ·rw [f2 x e1]
       ·funext l
        rw [k3,St.hp_set,St.hp_setH,St.hp_set,St.hp_setH]
        by_cases e1 : l = d
        ·subst e1; rw [if_pos ⟨rfl,h1⟩,if_pos rfl,if_pos rfl]
        ·rw [if_neg fun h => e1 h.1,if_neg (Ne.symm e1)]
      ·cases ho
   | load n x => rw [hpop] at hOC; cases x <;> cases hOC.1
   | iaddrS n x i => rw [hpop] at hOC; cases x <;> cases hOC.1
   | _ => rw [hpop] at hOC; cases hOC.1
  ·cases hcl
 by_cases hLS : cls p.op = .H ∧ cls o.op = .W
 ·rw [hLS.1,hLS.2] at hcl
  simp only [Bool.and_eq_true,beq_iff_eq] at hcl
  obtain ⟨hod,hap⟩ := hcl
  obtain ⟨n,u,a,m,v,b,x,hop,hoo,hab⟩ := apart_inv hap
  obtain ⟨_,e1,_,_,hh1,hg1⟩ := load_frame hop hp (t := s) (fun _ _ => rfl) rfl
  obtain ⟨t1,h1,h2⟩ := evalW_frame ho (t := s) hLS.2 (fun y hy => by rw [hg1 y fun e => c1 y e hy]) hh1.symm
  obtain ⟨h3,h4⟩ := h2 hod
  obtain ⟨_,e2,h5⟩ := evalW_frame ho (t := s1) hLS.2 (fun _ _ => rfl) rfl
  rw [ho] at e2; cases e2
  obtain ⟨_,h6⟩ := h5 hod
  obtain ⟨t2,g1,g2,g3,g4,g5⟩ := load_frame hop hp (t := t1) (fun y _ => h4 y) (by rw [h3,store_only hoo hod ho a hab,hh1])
  refine ⟨t1,t2,h1,g1,fun y => ?_,by rw [g3,h3]⟩
  rw [g2,h6 y,h4 y]
  split
  ·rfl
  ·rename_i hne; rw [hg1 y hne]
 by_cases hSL : cls p.op = .W ∧ cls o.op = .H
 ·rw [hSL.1,hSL.2] at hcl
  simp only [Bool.and_eq_true,beq_iff_eq] at hcl
  obtain ⟨hpd,hap⟩ := hcl
  obtain ⟨n,u,a,m,v,b,x,hoo,hop,hab⟩ := apart_inv hap
  obtain ⟨_,e1,h1⟩ := evalW_frame hp (t := s) hSL.1 (fun _ _ => rfl) rfl
  rw [hp] at e1; cases e1
  obtain ⟨_,h2⟩ := h1 hpd
  obtain ⟨t1,g1,g2,g3,g4,g5⟩ := load_frame hoo ho (t := s) (fun y _ => (h2 y).symm) (store_only hop hpd hp a hab).symm
  obtain ⟨t2,k1,k2⟩ := evalW_frame hp (t := t1) hSL.1 (fun y hy => by rw [g2,if_neg fun e => c3 y e hy]) g3
  obtain ⟨k3,k4⟩ := k2 hpd
  refine ⟨t1,t2,g1,k1,fun y => ?_,by rw [k3,g4]⟩
  rw [k4 y,g2]
  split
  ·rfl
  ·rename_i hne; rw [g5 y hne,h2 y]
 by_cases hWo : cls o.op = .W
 ·-- a store behind
  rw [hWo] at hcl
  have hpR : cls p.op = .R := by cases hq : cls p.op <;> rw [hq] at hcl <;> first | rfl | exact absurd (And.intro hq hWo) hLS | cases hcl
  rw [hpR] at hcl
  have hod : o.dst = none := by simpa using hcl
  obtain ⟨s1',e1,D1⟩ := evalOp_frame hp (t := s) (.inl hpR) (fun _ _ => rfl) (fun _ _ _ => rfl) (fun _ _ _ h => h)
  rw [hp] at e1; cases e1
  have hh1 := D1.same (by rw [hpR]; decide)
  obtain ⟨t1,h1,h2⟩ := evalW_frame ho (t := s) hWo (fun y hy => by rw [D1.get,if_neg (fun e => c1 y e hy)]) hh1.symm
  obtain ⟨h3,h4⟩ := h2 hod
  obtain ⟨s2',e2,h5⟩ := evalW_frame ho (t := s1) hWo (fun _ _ => rfl) rfl
  rw [ho] at e2; cases e2
  obtain ⟨_,h6⟩ := h5 hod
  obtain ⟨s2'',e3,h7⟩ := evalW_frame ho (t := s1) hWo (fun _ _ => rfl) rfl
  obtain ⟨t2,g1,D2⟩ := evalOp_frame hp (t := t1) (.inl hpR) (fun y _ => h4 y) (fun e => by rw [hpR] at e; cases e) (fun e => by rw [hpR] at e; cases e)
  refine ⟨t1,t2,h1,g1,fun x => ?_,?_⟩
  ·rw [D2.get,h6 x,h4 x]
   split
   ·rfl
   ·rename_i hne; rw [D1.get,if_neg hne]
  ·rw [D2.same (by rw [hpR]; decide),h3]
 ·by_cases hWp : cls p.op = .W
  ·-- a store ahead
   rw [hWp] at hcl
   have hoR : cls o.op = .R := by cases hq : cls o.op <;> rw [hq] at hcl <;> first | rfl | exact absurd (And.intro hWp hq) hSL | cases hcl
   rw [hoR] at hcl
   have hpd : p.dst = none := by simpa using hcl
   obtain ⟨s1',e1,h1⟩ := evalW_frame hp (t := s) hWp (fun _ _ => rfl) rfl
   rw [hp] at e1; cases e1
   obtain ⟨_,h2⟩ := h1 hpd
   obtain ⟨t1,g1,D1⟩ := evalOp_frame ho (t := s) (.inl hoR) (fun y _ => (h2 y).symm) (fun e => by rw [hoR] at e; cases e) (fun e => by rw [hoR] at e; cases e)
   obtain ⟨s2',e2,D2⟩ := evalOp_frame ho (t := s1) (.inl hoR) (fun _ _ => rfl) (fun e => by rw [hoR] at e; cases e) (fun e => by rw [hoR] at e; cases e)
   rw [ho] at e2; cases e2
   have k1 := D1.same (by rw [hoR]; decide)
   have k2 := D2.same (by rw [hoR]; decide)
   obtain ⟨t2,g2,h3⟩ := evalW_frame hp (t := t1) hWp (fun y hy => by rw [D1.get,if_neg (fun e => c3 y e hy)]) k1
   obtain ⟨h4,h5⟩ := h3 hpd
   refine ⟨t1,t2,g1,g2,fun x => ?_,?_⟩
   ·rw [h5 x,D1.get,D2.get,h2 x]; split <;> rfl
   ·rw [h4,k2]
  ·-- neither writes
   have hpc : cls p.op = .R ∨ cls p.op = .H ∨ cls p.op = .C := by
    cases hq : cls p.op <;> first | exact .inl rfl | exact .inr (.inl rfl) | exact .inr (.inr rfl) | exact absurd hq hWp | (exfalso; cases hr : cls o.op <;> rw [hq,hr] at hcl <;> first | (cases hcl; done) | exact hOR ⟨.inl hq,hr⟩ | exact hOR ⟨.inr hq,hr⟩ | exact hOC ⟨hq,hr⟩)
   have hoc : cls o.op = .R ∨ cls o.op = .H ∨ cls o.op = .C := by
    cases hq : cls o.op <;> first | exact .inl rfl | exact .inr (.inl rfl) | exact .inr (.inr rfl) | exact absurd hq hWo | (exfalso; cases hr : cls p.op <;> rw [hr,hq] at hcl <;> first | (cases hcl; done) | exact hRO ⟨.inl hr,.inl hq⟩ | exact hRO ⟨.inr hr,.inl hq⟩ | exact hRO ⟨.inl hr,.inr hq⟩)
   have hCH : cls o.op = .H → cls p.op ≠ .C := by
    intro e1 e2
    rw [e1,e2] at hcl; cases hcl
   obtain ⟨s1',e1,D1⟩ := evalOp_frame hp (t := s) hpc (fun _ _ => rfl) (fun _ _ _ => rfl) (fun _ _ _ h => h)
   rw [hp] at e1; cases e1
   obtain ⟨s2',e2,D2⟩ := evalOp_frame ho (t := s1) hoc (fun _ _ => rfl) (fun _ _ _ => rfl) (fun _ _ _ h => h)
   rw [ho] at e2; cases e2
   obtain ⟨t1,g1,D3⟩ := evalOp_frame ho (t := s) hoc (fun y hy => by rw [D1.get,if_neg (fun e => c1 y e hy)])
    (fun _ d hd => by
     by_cases hpC : cls p.op = .C
     ·rw [D1.hp hpC,if_neg (fun e => c2 d e hd)]
     ·rw [D1.same hpC])
    (fun e => by rw [D1.same (hCH e)]; exact fun _ _ h => h)
   obtain ⟨t2,g2,D4⟩ := evalOp_frame hp (t := t1) hpc (fun y hy => by rw [D3.get,if_neg (fun e => c3 y e hy)])
    (fun _ d hd => by
     by_cases hoC : cls o.op = .C
     ·rw [D3.hp hoC,if_neg (c2 d hd)]
     ·rw [D3.same hoC])
    (fun _ => D3.le)
   refine ⟨t1,t2,g1,g2,fun x => ?_,?_⟩
   ·rw [D4.get,D3.get,D2.get,D1.get]
    by_cases e1 : p.dst = some x <;> by_cases e2 : o.dst = some x
    ·exact absurd e2 (c2 x e1)
    ·simp [e1,e2]
    ·simp [e1,e2]
    ·simp [e1,e2]
   ·funext l
    by_cases hpC : cls p.op = .C <;> by_cases hoC : cls o.op = .C
    ·rw [D4.hp hpC,D3.hp hoC,D2.hp hoC,D1.hp hpC]
     by_cases e1 : p.dst = some l <;> by_cases e2 : o.dst = some l
     ·exact absurd e2 (c2 l e1)
     ·simp [e1,e2]
     ·simp [e1,e2]
     ·simp [e1,e2]
    ·rw [D4.hp hpC,D3.same hoC,D2.same hoC,D1.hp hpC]; split <;> rfl
    ·rw [D4.same hpC,D3.hp hoC,D2.hp hoC,D1.same hpC]; split <;> rfl
    ·rw [D4.same hpC,D3.same hoC,D2.same hoC,D1.same hpC]
end
end Go.Ab

namespace Go.Ab
open Go.RowKit

def evalOps (tab : Tab) : List IOper → St → Option St
 | [],s => some s
 | o :: r,s => match evalOp tab o s with
  | some s' => evalOps tab r s'
  | none => none

theorem lk_append_congr {α : Type} {d : α} {xs ys : List (Nat × α)} {m : Nat} (h : lk d xs m = lk d ys m) : ∀ bs,lk d (bs ++ xs) m = lk d (bs ++ ys) m
 | [] => h
 | (k,v) :: r => by
  simp only [List.cons_append,lk]
  split
  ·rfl
  ·exact lk_append_congr h r

section
variable {tab : Tab} {s t : St}

theorem eop_eqv (he : Eqv s t) {dst : Option Nat} {iop : IOp} {s' : St} (h : eop tab s dst iop = some s') : ∃ t',eop tab t dst iop = some t' ∧ Eqv s' t' := by
 by_cases hcl : cls iop = .R ∨ cls iop = .H ∨ cls iop = .C
 ·obtain ⟨t',h1,D⟩ := eop_frame h (t := t) hcl (fun y _ => he.get y) (fun _ d _ => by rw [he.hp]) (fun _ => by rw [he.hp]; exact fun _ _ h => h)
  obtain ⟨s'',h2,D2⟩ := eop_frame h (t := s) hcl (fun _ _ => rfl) (fun _ _ _ => rfl) (fun _ _ _ h => h)
  rw [h] at h2; cases h2
  refine ⟨t',h1,fun x => ?_,?_⟩
  ·rw [D.get,D2.get,he.get]; split <;> rfl
  ·by_cases hC : cls iop = .C
   ·funext l
    rw [D.hp hC,D2.hp hC,he.hp]; split <;> rfl
   ·rw [D.same hC,D2.same hC,he.hp]
 ·have hev : ∀ x,ev t x = ev s x := fun x => ev_congr fun y _ => he.get y
  cases iop <;> first | exact absurd (.inl rfl) hcl | exact absurd (.inr (.inl rfl)) hcl | exact absurd (.inr (.inr rfl)) hcl | skip
  case load n x => cases x <;> first | exact absurd (.inl rfl) hcl | exact absurd (.inr (.inl rfl)) hcl
  case iaddrS n x i => cases x <;> first | exact absurd (.inl rfl) hcl | exact absurd (.inr (.inl rfl)) hcl
  case store n a x =>
   simp only [eop] at h ⊢
   rw [hev,hev,he.hp]
   split at h
   ·split at h
    ·rename_i l i off ha
     split at h
     ·rename_i b hb
      split at h
      ·rename_i y hy
       split at h
       ·rename_i hc
        split at h
        ·rename_i z hz
         cases h
         refine ⟨t.setH l (some { b with elems := b.elems.set i z }),by rw [if_pos hc],fun x => he.get x,?_⟩
         funext m
         simp only [St.hp_setH,he.hp]
        ·cases h
       ·cases h
      ·cases h
     ·cases h
    ·cases h
   ·cases h
  case append es bytes x y =>
   simp only [eop] at h ⊢
   rw [hev,hev,he.hp]
   split at h
   ·rename_i d ys hy
    split at h
    ·rename_i hall
     rw [if_pos hall]
     split at h
     ·split at h
      ·rename_i hc
       cases h
       refine ⟨_,by rw [if_pos hc],fun z => ?_,?_⟩
       ·simp only [St.get_set,St.get_setH,he.get]
       ·funext m; simp only [St.hp_set,St.hp_setH,he.hp]
      ·cases h
     ·rename_i l len
      split at h
      ·rename_i b hb
       split at h
       ·rename_i hc
        cases h
        refine ⟨_,by rw [if_pos hc],fun z => ?_,?_⟩
        ·have := he.get z
         simp only [St.get] at this ⊢
         simp only [lk,get_purge,this]
        ·funext m
         have := congrFun he.hp m
         simp only [St.hp] at this ⊢
         simp only [lk,hp_purge,this]
       ·cases h
      ·cases h
     ·cases h
    ·cases h
   ·rename_i d hy
    unfold appH at h ⊢
    rw [he.hp]
    split at h
    ·rename_i ly n
     split at h
     ·rename_i c hc
      split at h
      ·rename_i hcc
       rw [if_pos hcc]
       split at h
       ·split at h
        ·rename_i hd
         cases h
         refine ⟨_,by rw [if_pos hd],fun z => ?_,?_⟩
         ·simp only [St.get_set,St.get_setH,he.get]
         ·funext m; simp only [St.hp_set,St.hp_setH,he.hp]
        ·cases h
       ·rename_i l len
        split at h
        ·rename_i b hb
         split at h
         ·rename_i hbc
          cases h
          refine ⟨_,by rw [if_pos hbc],fun z => ?_,?_⟩
          ·have := he.get z
           simp only [St.get] at this ⊢
           simp only [lk,get_purge,this]
          ·funext m
           have := congrFun he.hp m
           simp only [St.hp] at this ⊢
           simp only [lk,hp_purge,this]
         ·cases h
        ·cases h
       ·cases h
      ·cases h
     ·cases h
    ·cases h
   ·cases h
  case eqnil => cases h
  case dead => cases h
  case callM f xs =>
   have hxs : xs.map (ev t) = xs.map (ev s) := List.map_congr_left fun x _ => hev x
   simp only [eop] at h ⊢
   rw [hxs,he.hp]
   split at h
   ·rename_i ps qs h1
    split at h
    ·rename_i r ess yss h2
     split at h
     ·rename_i hc
      split at h
      ·rename_i bs h3
       cases h
       refine ⟨_,by rw [if_pos hc],fun z => ?_,?_⟩
       ·rw [get_put,get_put]
        split
        ·rfl
        ·exact he.get z
       ·rw [hp_put',hp_put']
        have h6 : ∀ m,St.hp t m = St.hp s m := fun m => congrFun he.hp m
        simp only [St.hp] at h6
        funext m
        exact lk_append_congr (h6 m) _
      ·cases h
     ·cases h
    ·rename_i r0 es ys h2
     split at h
     ·rename_i d l len hd ha
      split at h
      ·rename_i b hb
       split at h
       ·rename_i hc
        cases h
        refine ⟨_,by rw [if_pos hc],fun z => ?_,?_⟩
        ·have := he.get z
         simp only [St.get] at this ⊢
         simp only [lk,get_purge,this]
        ·funext m
         have := congrFun he.hp m
         simp only [St.hp] at this ⊢
         simp only [lk,hp_purge,this]
       ·cases h
      ·cases h
     ·cases h
    ·cases h
   ·split at h
    ·rename_i r H' h2
     cases h
     refine ⟨_,rfl,fun z => ?_,?_⟩
     ·rw [get_put,get_put]
      split
      ·rfl
      ·exact he.get z
     ·rw [hp_put',hp_put']
      have h6 : ∀ m,St.hp t m = St.hp s m := fun m => congrFun he.hp m
      simp only [St.hp] at h6
      funext m
      exact lk_append_congr (h6 m) _
    ·cases h
  case copy es by0 x y =>
   simp only [eop] at h ⊢
   rw [hev,hev,he.hp]
   split at h
   ·rename_i ys l off len hy hx
    split at h
    ·rename_i b hb
     split at h
     ·rename_i hc
      cases h
      refine ⟨_,by rw [if_pos hc],fun z => ?_,?_⟩
      ·rw [get_put,get_put,St.get_setH,St.get_setH,he.get]
      ·rw [hp_put',hp_put']; funext m; simp only [St.hp_setH,he.hp]
     ·cases h
    ·cases h
   ·cases h
  case call f xs ow =>
   cases ow with
   | nil => exact absurd (.inr (.inl rfl)) hcl
   | cons e es =>
    have hct : callTo t f xs = callTo s f xs := callTo_congr fun y _ => he.get y
    simp only [eop] at h ⊢
    rw [hct,he.hp]
    split at h
    ·rename_i d id vs h2
     split at h
     ·rename_i ps h3
      split at h
      ·rename_i r m h4
       split at h
       ·rename_i hm
        split at h
        ·rename_i y bs h5
         split at h
         ·rename_i hf
          cases h
          have hf' : freeNames t bs = true := by
           unfold freeNames at hf ⊢
           rw [he.hp]; exact hf
          refine ⟨_,by rw [if_pos hm,if_pos hf'],fun z => ?_,?_⟩
          ·have := he.get z
           simp only [St.get] at this ⊢
           simp only [lk,this]
          ·have h6 : ∀ m,St.hp t m = St.hp s m := fun m => congrFun he.hp m
           simp only [St.hp] at h6
           funext m
           exact lk_append_congr (h6 m) bs
         ·cases h
        ·cases h
       ·rename_i hm
        split at h
        ·rename_i r' H _
         split at h
         ·rename_i hf
          cases h
          refine ⟨_,by rw [if_neg hm]; exact if_pos hf,fun z => ?_,?_⟩
          ·have := he.get z
           simp only [St.get] at this ⊢
           simp only [lk,this]
          ·have h6 : ∀ m,St.hp t m = St.hp s m := fun m => congrFun he.hp m
           simp only [St.hp] at h6
           funext m
           exact lk_append_congr (h6 m) _
         ·cases h
        ·cases h
      ·cases h
     ·cases h
    ·cases h

theorem evalOp_eqv (he : Eqv s t) {o : IOper} {s' : St} (h : evalOp tab o s = some s') : ∃ t',evalOp tab o t = some t' ∧ Eqv s' t' := by
 unfold evalOp at h ⊢
 split at h
 ·exact eop_eqv he h
 ·rename_i g want hg
  rw [he.get]
  split at h
  ·split at h
   ·rename_i hb
    rw [if_pos hb]
    exact eop_eqv he h
   ·rename_i hb
    rw [if_neg hb]
    cases h
    exact ⟨_,rfl,fun x => by rw [get_put,get_put,he.get],by rw [hp_put',hp_put',he.hp]⟩
  ·split at h
   ·rename_i hb
    rw [if_pos hb]
    cases h
    exact ⟨_,rfl,fun x => by rw [get_put,get_put,he.get],by rw [hp_put',hp_put',he.hp]⟩
   ·cases h
  ·cases h
theorem evalOps_eqv : ∀ {l : List IOper} {s t s' : St},Eqv s t → evalOps tab l s = some s' → ∃ t',evalOps tab l t = some t' ∧ Eqv s' t'
 | [],s,t,s',he,h => by cases h; exact ⟨t,rfl,he⟩
 | o :: l,s,t,s',he,h => by
  simp only [evalOps] at h ⊢
  split at h
  ·rename_i s1 h1
   obtain ⟨t1,h2,he2⟩ := evalOp_eqv he h1
   rw [h2]
   exact evalOps_eqv he2 h
  ·cases h

theorem ownise_eval {od : List (Nat × Nat)} {pd : List Nat} {o : IOper} {s s' : St} (h : evalOp tab (ownise od pd o) s = some s') : evalOp tab o s = some s' := by
 have hev : ∀ {a m : Nat} {l i off : Nat},ev s (.o a m) = .lptr l i off → ev s (.t a) = .lptr l i off := by
  intro a m l i off he
  simp only [ev] at he ⊢
  split at he
  ·rename_i hg
   split at he
   ·rw [hg]; exact he
   ·cases he
  ·cases he
 have main : ∀ {s'},eop tab s (ownise od pd o).dst (ownise od pd o).op = some s' → eop tab s o.dst o.op = some s' := by
  intro s' he
  unfold ownise at he
  split at he
  ·rename_i n a hop
   split at he
   ·rw [hop]
    simp only [eop,vop,Option.map_eq_some_iff] at he ⊢
    obtain ⟨v,h1,h2⟩ := he
    refine ⟨v,?_,h2⟩
    rename_i m hm
    cases hq : ev s (.o a m) with
    | lptr l i off => rw [hq] at h1; rw [hev hq]; exact h1
    | ptr x off =>
     simp only [ev] at hq
     split at hq
     ·split at hq <;> cases hq
     ·cases hq
    | _ => rw [hq] at h1; cases h1
   ·split at he
    ·rw [hop]
     simp only [eop,vop,Option.map_eq_some_iff] at he ⊢
     obtain ⟨v,h1,h2⟩ := he
     refine ⟨v,?_,h2⟩
     simp only [ev] at h1 ⊢
     split at h1
     ·rename_i hg; rw [hg]; exact h1
     ·cases h1
     ·cases h1
    ·exact he
  ·rename_i n a x hop
   split at he
   ·rw [hop]
    simp only [eop] at he ⊢
    split at he
    ·split at he
     ·rename_i l i off ha
      rw [hev ha]; exact he
     ·cases he
    ·cases he
   ·exact he
  ·rename_i es a i hop
   split at he
   ·rw [hop]
    simp only [eop,vop,Option.map_eq_some_iff] at he ⊢
    obtain ⟨v,h1,h2⟩ := he
    refine ⟨v,?_,h2⟩
    simp only [ev] at h1 ⊢
    split at h1
    ·rename_i hg; rw [hg]; exact h1
    ·rename_i hg; rw [hg]; exact h1
    ·generalize ev s i = j at h1; cases j <;> cases h1
   ·exact he
  ·exact he
 have hd : (ownise od pd o).dst = o.dst ∧ (ownise od pd o).g = o.g := by
  unfold ownise; split
  ·split
   ·exact ⟨rfl,rfl⟩
   ·split <;> exact ⟨rfl,rfl⟩
  ·split <;> exact ⟨rfl,rfl⟩
  ·split <;> exact ⟨rfl,rfl⟩
  ·exact ⟨rfl,rfl⟩
 unfold evalOp at h ⊢
 rw [hd.2] at h
 split at h
 ·exact main h
 ·split at h
  ·rename_i b hb
   split at h
   ·rename_i hbw; rw [if_pos hbw]; exact main h
   ·rename_i hbw; rw [if_neg hbw,← hd.1]; exact h
  ·rename_i v hv
   split at h
   ·rename_i hn; rw [if_pos hn,← hd.1]; exact h
   ·cases h
  ·cases h
theorem bring_front {o : IOper} {l2 : List IOper} : ∀ {l1 : List IOper} {s sf : St},(∀ p ∈ l1,comm p o = true) → evalOps tab (l1 ++ o :: l2) s = some sf → ∃ s' sf',evalOp tab o s = some s' ∧ evalOps tab (l1 ++ l2) s' = some sf' ∧ Eqv sf sf'
 | [],s,sf,_,h => by
  simp only [List.nil_append,evalOps] at h ⊢
  split at h
  ·rename_i s' h1; exact ⟨s',sf,h1,h,.refl _⟩
  ·cases h
 | p :: l1,s,sf,hc,h => by
  simp only [List.cons_append,evalOps] at h ⊢
  split at h
  ·rename_i s1 h1
   obtain ⟨s2,sf1,h2,h3,e1⟩ := bring_front (fun p hp => hc p (List.mem_cons_of_mem _ hp)) h
   obtain ⟨t1,t2,g1,g2,e2⟩ := swap (hc p List.mem_cons_self) h1 h2
   obtain ⟨sf2,g3,e3⟩ := evalOps_eqv e2 h3
   exact ⟨t1,sf2,g1,by rw [g2]; exact g3,e1.trans e3⟩
  ·cases h
end

def aft (o : Oper) : List Nat := o.after.toList.filterMap fun e => if Region.binds .any e = true then some e.on else none
def reachL : List (List Nat) → List (List Nat) → List (List Nat)
 | [],acc => acc
 | a :: r,acc => reachL r (acc ++ [a ++ a.flatMap fun j => acc.getD j []])
def goodSets (as sets : List (List Nat)) : Bool :=
 (List.range as.length).all fun i => (as.getD i []).all (fun k => decide (k < i)) && (sets.getD i []).all fun k => (as.getD i []).contains k || (as.getD i []).any fun j => (sets.getD j []).contains k
def goodPairs (sets : List (List Nat)) (ios : List IOper) : Bool :=
 (List.range ios.length).all fun i => (List.range i).all fun k => (sets.getD i []).contains k || (match ios[k]?,ios[i]? with
  | some p,some o => comm p o
  | _,_ => false)
def drawOk (ops : List Oper) (ios : List IOper) : Bool :=
 let as := ops.map aft
 let sets := reachL as []
 decide (ios.length = ops.length) && ios.all (fun o => match o.op with | .eqnil .. => false | _ => true) && goodSets as sets && goodPairs sets ios

section
variable {P : Program} {cf : Cfg} {tab : Tab}

theorem draws_sound (ht : TabOkC P cf tab) {cp : CP} (hn : cp.n = cf.n) {ops : Array Oper} {Q : Exit → Act → World → Prop} {io : Nat → IOper} {sets : List (List Nat)} {sf0 : St}
  (hio : ∀ i,i < ops.size → ∃ o,ops[i]? = some o ∧ (∃ raw,cOper P cp ops o = some raw ∧ ∀ s s',evalOp tab (io i) s = some s' → evalOp tab raw s = some s') ∧ (∀ k ∈ aft o,k < i) ∧ ∀ k ∈ sets.getD i [],k ∈ aft o ∨ ∃ j ∈ aft o,k ∈ sets.getD j [])
  (hpair : ∀ i k,i < ops.size → k < i → k ∈ sets.getD i [] ∨ comm (io k) (io i) = true)
  (hQ : ∀ s a w,Eqv sf0 s → StR cf s a w → Q .normal a w) :
  ∀ (fuel : Nat) (listed : Array Bool) (st : St) (a : Act) (w : World) (sf : St),listed.size = ops.size →
   (∀ j,listed.getD j false = true → ∀ k ∈ sets.getD j [],listed.getD k false = true) → StR cf st a w →
   evalOps tab (((List.range ops.size).filter fun i => !listed.getD i true).map io) st = some sf → Eqv sf0 sf →
   ((List.range ops.size).filter fun i => !listed.getD i true).length ≤ fuel → wpAny P .any ops Q fuel listed a w := by
 have ft : ∀ (listed : Array Bool) (i : Nat),listed.size = ops.size → i < ops.size → listed.getD i true = listed.getD i false := by
  intro listed i h1 h2
  have : i < listed.size := by omega
  simp [Array.getD_eq_getD_getElem?,this]
 have mrem : ∀ (listed : Array Bool) (i : Nat),i ∈ (List.range ops.size).filter (fun i => !listed.getD i true) ↔ i < ops.size ∧ listed.getD i true = false := by
  intro listed i; simp
 -- what is not ready is not there
 have empty : ∀ (listed : Array Bool),listed.size = ops.size → Region.ready .any ops listed = [] → (List.range ops.size).filter (fun i => !listed.getD i true) = [] := by
  intro listed hsz hr
  have key : ∀ n i,i ≤ n → i ∉ (List.range ops.size).filter (fun i => !listed.getD i true) := by
   intro n
   induction n with
   | zero =>
    intro i hi hm
    obtain ⟨h1,h2⟩ := (mrem listed i).1 hm
    obtain ⟨o,g1,_,g3,_⟩ := hio i h1
    have : i ∈ Region.ready .any ops listed := by
     rw [mem_ready]
     refine ⟨h2,o,g1,fun e he hb => ?_⟩
     have := g3 e.on (List.mem_filterMap.2 ⟨e,by simpa using he,by rw [if_pos hb]⟩)
     omega
    rw [hr] at this; cases this
   | succ n ih =>
    intro i hi hm
    obtain ⟨h1,h2⟩ := (mrem listed i).1 hm
    obtain ⟨o,g1,_,g3,_⟩ := hio i h1
    have : i ∈ Region.ready .any ops listed := by
     rw [mem_ready]
     refine ⟨h2,o,g1,fun e he hb => ?_⟩
     have hlt := g3 e.on (List.mem_filterMap.2 ⟨e,by simpa using he,by rw [if_pos hb]⟩)
     have hnot := ih e.on (by omega)
     cases hq : listed.getD e.on false with
     | true => rfl
     | false => exact absurd ((mrem listed e.on).2 ⟨by omega,by rw [ft listed e.on hsz (by omega)]; exact hq⟩) hnot
    rw [hr] at this; cases this
  exact List.eq_nil_iff_forall_not_mem.2 fun i => key i i (Nat.le_refl _)
 intro fuel
 induction fuel with
 | zero =>
  intro listed st a w sf hsz hcl h he hq hfuel
  have hnil := List.eq_nil_of_length_eq_zero (Nat.le_zero.1 hfuel)
  rw [hnil] at he
  cases he
  refine ⟨?_,hQ _ _ _ hq h⟩
  refine List.eq_nil_iff_forall_not_mem.2 fun i hi => ?_
  obtain ⟨h1,o,h2,_⟩ := mem_ready.1 hi
  have : i ∈ (List.range ops.size).filter (fun i => !listed.getD i true) := (mrem listed i).2 ⟨(Array.getElem?_eq_some_iff.1 h2).1,h1⟩
  rw [hnil] at this; cases this
 | succ fuel ih =>
  intro listed st a w sf hsz hcl h he hq hfuel
  refine ⟨fun hr => ?_,fun i hi => ?_⟩
  ·rw [empty listed hsz hr] at he
   cases he
   exact hQ _ _ _ hq h
  ·obtain ⟨h1,o,h2,h3⟩ := mem_ready.1 hi
   have hlt := (Array.getElem?_eq_some_iff.1 h2).1
   obtain ⟨o',g1,g2,g3,g4⟩ := hio i hlt
   rw [h2] at g1; cases g1
   have hmem := (mrem listed i).2 ⟨hlt,h1⟩
   have hsorted : List.Pairwise (· < ·) ((List.range ops.size).filter fun i => !listed.getD i true) := List.Pairwise.filter _ List.pairwise_lt_range
   have hmr := mrem listed
   have hfil : (List.range ops.size).filter (fun j => !(listed.setIfInBounds i true).getD j true) = ((List.range ops.size).filter fun j => !listed.getD j true).filter (fun j => decide (j ≠ i)) := by
    rw [List.filter_filter]
    refine List.filter_congr fun j hj => ?_
    by_cases hji : j = i
    ·subst hji
     have : j < listed.size := by omega
     simp [Array.getD_eq_getD_getElem?,this]
    ·rw [getD_set_ne true (Ne.symm hji)]; simp [hji]
   generalize hrem : (List.range ops.size).filter (fun i => !listed.getD i true) = rem at *
   obtain ⟨l1,l2,rfl⟩ := List.append_of_mem hmem
   rw [List.pairwise_append] at hsorted
   obtain ⟨_,p2,p3⟩ := hsorted
   have hl1 : ∀ k ∈ l1,k < i := fun k hk => p3 k hk i List.mem_cons_self
   have hl2 : ∀ k ∈ l2,i < k := fun k hk => (List.pairwise_cons.1 p2).1 k hk
   have hrest : (l1 ++ i :: l2).filter (fun j => decide (j ≠ i)) = l1 ++ l2 := by
    rw [List.filter_append,List.filter_cons]
    simp only [ne_eq,not_true_eq_false,decide_false,Bool.false_eq_true,if_false]
    rw [List.filter_eq_self.2 fun k hk => by have := hl1 k hk; simp; omega,List.filter_eq_self.2 fun k hk => by have := hl2 k hk; simp; omega]
   have hready : ∀ k ∈ aft o,listed.getD k false = true := by
    intro k hk
    obtain ⟨e,he,hb⟩ := List.mem_filterMap.1 hk
    split at hb
    ·rename_i hb'; cases hb; exact h3 e (by simpa using he) hb'
    ·cases hb
   have hset : ∀ k ∈ sets.getD i [],listed.getD k false = true := by
    intro k hk
    rcases g4 k hk with hk | ⟨j,hj,hk⟩
    ·exact hready k hk
    ·exact hcl j (hready j hj) k hk
   have hcomm : ∀ p ∈ l1.map io,comm p (io i) = true := by
    intro p hp
    obtain ⟨k,hk,rfl⟩ := List.mem_map.1 hp
    rcases hpair i k hlt (hl1 k hk) with hs | hs
    ·have h5 := hset k hs
     have h6 := (hmr k).1 (List.mem_append_left _ hk)
     rw [ft listed k hsz h6.1] at h6
     rw [h5] at h6; cases h6.2
    ·exact hs
   rw [List.map_append,List.map_cons] at he
   obtain ⟨s',sf',e1,e2,e3⟩ := bring_front hcomm he
   obtain ⟨raw,g21,g22⟩ := g2
   refine evalOp_sound ht hn h h2 g21 (g22 _ _ e1) fun a' w' h' => ?_
   refine ih (listed.setIfInBounds i true) s' a' w' sf' (by simpa using hsz) (fun j hj k hk => ?_) h' ?_ (hq.trans e3) ?_
   ·by_cases hji : j = i
    ·subst hji; exact getD_set_true (hset k hk)
    ·rw [getD_set_ne false (Ne.symm hji)] at hj
     exact getD_set_true (hcl j hj k hk)
   ·rw [hfil,hrest,List.map_append]; exact e2
   ·rw [hfil,hrest]
    simp only [List.length_append,List.length_cons] at hfuel ⊢
    omega
end
end Go.Ab

namespace Go.Ab
open Go.RowKit

def cCode (P : Program) (cp : CP) : Code → Option ICode
 | .skip => some .skip
 | .region id ops draw => match ops.toList.mapM (cOper P cp ops) with
  | some l => if draw = true then (if drawOk ops.toList (l.map (ownise cp.od cp.pd)) = true then some (.reg (l.map (ownise cp.od cp.pd)) (cp.kp.getD id [])) else none) else some (.reg l (cp.kp.getD id []))
  | none => none
 | .seq a b => match cCode P cp a,cCode P cp b with
  | some a,some b => some (.seq a b)
  | _,_ => none
 | .cond c a b => match cOpd c,cCode P cp a,cCode P cp b with
  | some c,some a,some b => some (.cond c a b)
  | _,_,_ => none
 | .block id c => (cCode P cp c).map (.block id)
 | .loop c => (cCode P cp c).map .loop
 | .exit id => some (.exit id)
 | .ret => some .ret
 | _ => none

def QK (cf : Cfg) (K : IExit → St → Prop) : Exit → Act → World → Prop
 | .normal,a,w => ∃ st,StR cf st a w ∧ K .normal st
 | .exit id,a,w => ∃ st,StR cf st a w ∧ K (.exit id) st
 | .ret,a,w => ∃ st,StR cf st a w ∧ K .ret st
 | _,_,_ => False

section
variable {P : Program} {cf : Cfg} {tab : Tab} {ρ : Nat → Option Nat} {st : St} {a : Act} {w : World}

theorem lk_keep {α : Type} (d : α) (f : Nat → α) : ∀ (ks : List Nat) (t : Nat),lk d (ks.map fun k => (k,f k)) t = f t ∨ lk d (ks.map fun k => (k,f k)) t = d
 | [],t => .inr rfl
 | k :: ks,t => by
  simp only [List.map_cons,lk]
  split
  ·rename_i e; subst e; exact .inl rfl
  ·exact lk_keep d f ks t
theorem StRρ.keep (h : StRρ cf ρ st a w) (ks : List Nat) : StRρ cf ρ (keepOnly ks st) a w := by
 refine ⟨h.hp,fun t => ?_,h.size,h.defers,h.fr,h.own,h.z0,h.pin,h.shp⟩
 rcases lk_keep .any st.get ks t with e | e
 ·have : (keepOnly ks st).get t = st.get t := e
  rw [this]; exact h.tmp t
 ·have : (keepOnly ks st).get t = .any := e
  rw [this]; exact .pure (.any _)
theorem StRρ.eqv (h : StRρ cf ρ st a w) {t : St} (he : Eqv t st) : StRρ cf ρ t a w := by
 have h1 : st.hp = t.hp := he.hp
 refine ⟨?_,fun x => ?_,h.size,h.defers,h.fr,?_,h.z0,h.pin,h.shp⟩
 ·rw [← h1]; exact h.hp
 ·rw [← h1,← he.get x]; exact h.tmp x
 ·rw [← h1]; exact h.own

theorem ops_of_mapM {cp : CP} {ops : Array Oper} {l : List IOper} (h : ops.toList.mapM (cOper P cp ops) = some l) : Ops P cp ops (List.range ops.size) l := by
 obtain ⟨h1,h2⟩ := mapM_some h
 have key : ∀ (n : Nat) (r : List IOper),r.length = n → n ≤ ops.size → (∀ (i : Nat) io,r[i]? = some io → l[ops.size - n + i]? = some io) → Ops P cp ops (List.range' (ops.size - n) n) r := by
  intro n
  induction n with
  | zero =>
   intro r hr _ _
   rw [List.eq_nil_of_length_eq_zero hr]
   exact .nil
  | succ n ih =>
   intro r hr hn hget
   cases r with
   | nil => cases hr
   | cons io r =>
    rw [List.range'_succ]
    have hlt : ops.size - (n + 1) < ops.size := by omega
    have h3 := hget 0 io rfl
    simp only [Nat.add_zero] at h3
    have h4 : ops.toList[ops.size - (n + 1)]? = some ops[ops.size - (n + 1)] := by simp [hlt]
    refine .cons (o := ops[ops.size - (n + 1)]) (by simp [hlt]) (h2 _ _ _ h4 h3) ?_
    rw [show ops.size - (n + 1) + 1 = ops.size - n by omega]
    refine ih r (by simpa using hr) (by omega) fun i io' hi => ?_
    have := hget (i + 1) io' (by simpa using hi)
    rw [show ops.size - n + i = ops.size - (n + 1) + (i + 1) by omega]
    exact this
 have := key ops.size l (by simpa using h1.symm) (Nat.le_refl _) (fun i io hi => by simpa using hi)
 rw [Nat.sub_self] at this
 rw [List.range_eq_range']
 exact this

theorem wpOps_eval : ∀ {l : List IOper} {st : St} {K : St → Prop},(∀ o ∈ l,∀ n x,o.op ≠ .eqnil n x) → wpOps tab l st K → ∃ sf,evalOps tab l st = some sf ∧ K sf
 | [],st,K,_,h => ⟨st,rfl,h⟩
 | o :: l,st,K,hne,h => by
  unfold wpOps at h
  split at h
  ·rename_i neg x hop; exact absurd hop (hne o List.mem_cons_self neg x)
  ·have ih := fun st => wpOps_eval (l := l) (st := st) (K := K) fun o ho => hne o (List.mem_cons_of_mem _ ho)
   simp only [evalOps,evalOp]
   split at h
   ·rename_i hg
    obtain ⟨st',h1,h2⟩ := h
    rw [h1]
    exact ih st' h2
   ·rename_i g want hg
    split at h
    ·rename_i b hb
     by_cases hbw : b = want
     ·obtain ⟨st',h1,h2⟩ := h.1 hbw
      rw [if_pos hbw,h1]
      exact ih st' h2
     ·rw [if_neg hbw]
      exact ih _ (h.2 (by cases b <;> cases want <;> simp_all))
    ·rw [if_pos h.1]
     exact ih _ h.2
    ·exact h.elim

theorem reg_sound (hm : P.follows .mixedOrders = true) (ht : TabOkC P cf tab) {cp : CP} (hn : cp.n = cf.n) {id : Nat} {ops : Array Oper} {draw : Bool} {ic : ICode} (hc : cCode P cp (.region id ops draw) = some ic) {K : IExit → St → Prop}
  (h : StR cf st a w) (hw : wpA tab ic st K) : (Code.region id ops draw).wp P (QK cf K) a w := by
 simp only [cCode] at hc
 split at hc
 ·rename_i l hl
  have hops := ops_of_mapM hl
  obtain ⟨m1,m2⟩ := mapM_some hl
  split at hc
  ·rename_i hd
   subst hd
   split at hc
   ·rename_i hok
    cases hc
    simp only [wpA] at hw
    simp only [drawOk,Bool.and_eq_true,decide_eq_true_eq] at hok
    obtain ⟨⟨⟨hlen,hne⟩,hsets⟩,hpairs⟩ := hok
    obtain ⟨sf,hev,hK⟩ := wpOps_eval (fun o ho n x e => by
     have := List.all_eq_true.1 hne o ho
     rw [e] at this; cases this) hw
    generalize hS : reachL (ops.toList.map aft) [] = sets at hsets hpairs
    have hsz : l.length = ops.size := by simpa using hlen
    generalize hL : l.map (ownise cp.od cp.pd) = l' at *
    have hsz' : l'.length = ops.size := by rw [← hL,List.length_map]; exact hsz
    refine wp_region_any hm ?_
    obtain ⟨ρ,h⟩ := h
    have hall : (List.range ops.size).filter (fun i => !(Array.replicate ops.size false).getD i true) = List.range ops.size := by
     refine List.filter_eq_self.2 fun i hi => ?_
     have : i < ops.size := by simpa using hi
     simp [Array.getD_eq_getD_getElem?,this]
    have hlist : (List.range ops.size).map (fun i => l'.getD i default) = l' := by
     refine List.ext_getElem? fun i => ?_
     by_cases hi : i < ops.size
     ·simp [hi,hsz']
     ·rw [List.getElem?_eq_none (by simpa using hi),List.getElem?_eq_none (by omega)]
    refine draws_sound (cf := cf) (sf0 := sf) (io := fun i => l'.getD i default) (sets := sets) ht hn (fun i hi => ?_) (fun i k hi hk => ?_) (fun s a' w' he hs => ?_) ops.size _ st a _ sf (by simp) (fun j hj => ?_) ⟨ρ,h.drewN 1⟩ ?_ (.refl _) ?_
    ·have hio : l[i]? = some (l.getD i default) := by simp [hsz,hi]
     have ho : ops.toList[i]? = some ops[i] := by simp [hi]
     have hi' : l'.getD i default = ownise cp.od cp.pd (l.getD i default) := by
      rw [← hL]; simp [List.getD_eq_getElem?_getD,hsz,hi]
     refine ⟨ops[i],by simp [hi],⟨_,m2 i _ _ ho hio,fun s s' he => by rw [hi'] at he; exact ownise_eval he⟩,?_⟩
     have has : (ops.toList.map aft).getD i [] = aft ops[i] := by simp [hi]
     simp only [goodSets,List.length_map,Array.length_toList,List.all_eq_true,List.mem_range,Bool.and_eq_true,decide_eq_true_eq,Bool.or_eq_true,List.any_eq_true,List.contains_iff_mem] at hsets
     have := hsets i hi
     rw [has] at this
     exact this
    ·simp only [goodPairs,List.all_eq_true,List.mem_range,Bool.or_eq_true,List.contains_iff_mem] at hpairs
     have hio : l'[i]? = some (l'.getD i default) := by simp [hsz',hi]
     have hko : l'[k]? = some (l'.getD k default) := by simp [hsz',show k < ops.size by omega]
     have := hpairs i (by omega) k hk
     rw [hio,hko] at this
     exact this
    ·obtain ⟨ρ',hs⟩ := hs
     exact ⟨keepOnly _ sf,⟨ρ',(hs.eqv he).keep _⟩,hK⟩
    ·by_cases hj' : j < ops.size
     ·simp [Array.getD_eq_getD_getElem?,hj'] at hj
     ·simp [Array.getD_eq_getD_getElem?,hj'] at hj
    ·rw [hall,hlist]; exact hev
    ·rw [hall]; simp
   ·cases hc
  ·rename_i hd
   have hd' : draw = false := by simpa using hd
   subst hd'
   cases hc
   simp only [wpA] at hw
   refine wp_region ?_
   exact regs_sound ht hn (K := fun st' => K .normal (keepOnly _ st')) (fun s a' w' hs hk => by
    obtain ⟨ρ',hs⟩ := hs
    exact ⟨_,⟨ρ',hs.keep _⟩,hk⟩) hops h hw
 ·cases hc

theorem code_sound (hm : P.follows .mixedOrders = true) (ht : TabOkC P cf tab) {cp : CP} (hn : cp.n = cf.n) : ∀ (c : Code) {ic : ICode} {K : IExit → St → Prop} {st : St} {a : Act} {w : World},cCode P cp c = some ic → StR cf st a w → wpA tab ic st K → c.wp P (QK cf K) a w := by
 intro c
 induction c with
 | skip =>
  intro ic K st a w hc h hw
  cases hc
  exact wp_skip ⟨st,h,hw⟩
 | region id ops draw =>
  intro ic K st a w hc h hw
  exact reg_sound hm ht hn hc h hw
 | seq x y ihx ihy =>
  intro ic K st a w hc h hw
  simp only [cCode] at hc
  split at hc
  ·rename_i ix iy hx hy
   cases hc
   simp only [wpA] at hw
   refine wp_seq (wp_mono (ihx hx h hw) fun e a' w' hq => ?_)
   cases e with
   | normal => obtain ⟨s,hs,hk⟩ := hq; exact ihy hy hs hk
   | exit id => exact hq
   | ret => exact hq
   | goto l => exact hq.elim
   | panic ch => exact hq.elim
   | outgrown => exact hq.elim
  ·cases hc
 | cond x y z ihy ihz =>
  intro ic K st a w hc h hw
  simp only [cCode] at hc
  split at hc
  ·rename_i cx iy iz hx hy hz
   cases hc
   simp only [wpA] at hw
   split at hw
   ·rename_i t ht'
    obtain ⟨ρ,h⟩ := h
    have hv := h.ev x cx hx
    rw [ht'] at hv
    exact wp_cond_split hv.bool_inv (fun e => ihy hy ⟨ρ,h⟩ (hw.1 e)) (fun e => ihz hz ⟨ρ,h⟩ (hw.2 e))
   ·exact hw.elim
  ·cases hc
 | block id x ih =>
  intro ic K st a w hc h hw
  simp only [cCode,Option.map_eq_some_iff] at hc
  obtain ⟨ix,hx,rfl⟩ := hc
  simp only [wpA] at hw
  refine wp_block (wp_mono (ih hx h hw) fun e a' w' hq => ?_)
  cases e with
  | normal => exact hq
  | exit id' =>
   obtain ⟨s,hs,hk⟩ := hq
   simp only [Kblock,Exit.inBlock] at hk ⊢
   split
   ·rename_i e; rw [if_pos e] at hk; obtain ⟨t,h1,h2⟩ := hk; exact ⟨t,h1 _ _ _ hs,h2⟩
   ·rename_i e; rw [if_neg e] at hk; exact ⟨s,hs,hk⟩
  | ret => exact hq
  | goto l => exact hq.elim
  | panic ch => exact hq.elim
  | outgrown => exact hq.elim
 | loop x ih =>
  intro ic K st a w hc h hw
  simp only [cCode,Option.map_eq_some_iff] at hc
  obtain ⟨ix,hx,rfl⟩ := hc
  simp only [wpA] at hw
  intro b k cs
  have key := hw (fun s => ∀ a w,StR cf s a w → ∃ e a' w',QK cf K e a' w' ∧ Arrives P (lone (b.at a (.code x :: .inLoop x :: k)) cs w) b k cs e a' w') (fun s hs a w h => by
   obtain ⟨e,a₁,w₁,hq,harr⟩ := ih hx h hs b (.inLoop x :: k) cs
   cases e with
   | normal =>
    obtain ⟨s1,hs1,hX⟩ := hq
    obtain ⟨e₂,a₂,w₂,hq₂,harr₂⟩ := hX a₁ w₁ hs1
    exact ⟨e₂,a₂,w₂,hq₂,.of_steps (Steps.trans harr (.one step_inLoop)) harr₂⟩
   | exit id => exact ⟨.exit id,a₁,w₁,hq,.pass (x := .inLoop x) rfl (fun _ _ => .inl (by simp)) harr⟩
   | ret => exact ⟨.ret,a₁,w₁,hq,.pass (x := .inLoop x) rfl (fun _ _ => .inl (by simp)) harr⟩
   | goto l => exact hq.elim
   | panic ch => exact hq.elim
   | outgrown => exact hq.elim) (fun s s' hwk hX a w h => hX a w (hwk cf a w h))
  obtain ⟨e,a',w',hq,harr⟩ := key a w h
  exact ⟨e,a',w',hq,.of_steps (.one step_loop) harr⟩
 | exit id =>
  intro ic K st a w hc h hw
  cases hc
  exact wp_exit ⟨st,h,hw⟩
 | ret =>
  intro ic K st a w hc h hw
  cases hc
  exact wp_ret ⟨st,h,hw⟩
 | _ => intro ic K st a w hc; cases hc
end
end Go.Ab

namespace Go.Ab
open Go.RowKit

inductive RV where
 | t (n : Nat)
 | c (a : Nat) (n : Option Nat)
def cRV (P : Program) : ResultVar → Option RV
 | .tmp t => some (.t t)
 | .cell a t => (loadT P t).map (.c a)
def rvV (st : St) : RV → Option AV
 | .t n => pureV st.hp (st.get n)
 | .c a n => match vload st.hp n (st.get a) with
  | some x => pureV st.hp x
  | none => none
def rvs (st : St) : List RV → Option (List AV)
 | [] => some []
 | r :: rs => match rvV st r,rvs st rs with
  | some x,some xs => some (x :: xs)
  | _,_ => none
def outV (st : St) : List RV → Option AV
 | [r] => rvV st r
 | rs => match rvs st rs with
  | some xs => some (.tup xs)
  | none => none
def rvRaw (st : St) : RV → Option AV
 | .t n => some (st.get n)
 | .c a n => vload st.hp n (st.get a)
theorem rvV_raw (st : St) (r : RV) : rvV st r = (rvRaw st r).bind (pureV st.hp) := by
 cases r with
 | t n => rfl
 | c a n =>
  simp only [rvV,rvRaw]
  cases vload st.hp n (st.get a) <;> rfl
def new1 (h : Nat → Option Blk) : AV → Bool
 | .lsl l _ _ => match h l with
  | some b => b.pur && b.elems.all flatE
  | none => false
 | .snil => true
 | x => flatC x
def newE (h : Nat → Option Blk) : AV → Bool
 | .agg cs => cs.all (new1 h)
 | x => new1 h x
def freshL (h : Nat → Option Blk) : List Nat → List AV → Option (List Nat)
 | [],[] => some []
 | _ :: _,[] => none
 | e :: es,.lsl l off len :: r => match h l,freshL h es r with
  | some b,some ns => if off = 0 ∧ b.pur = true ∧ b.es = e ∧ len = b.elems.length ∧ b.elems.all flatE = true ∧ ns.contains l = false then some (l :: ns) else none
  | _,_ => none
 | _ :: es,.snil :: r => freshL h es r
 | es,x :: r => if flatC x = true then freshL h es r else none
def endR (st : St) (r : RV) : Bool := match rvRaw st r with
 | some x => newE st.hp x
 | none => false
def endL (st : St) : List Nat → List RV → Option (List Nat)
 | es,[] => if es = [] then some [] else none
 | es,r :: rs => match rvRaw st r with
  | some x => match freshL st.hp (es.take (nSl x.cells)) x.cells,endL st (es.drop (nSl x.cells)) rs with
   | some n1,some n2 => if n1.all (fun l => !n2.contains l) = true then some (n1 ++ n2) else none
   | _,_ => none
  | none => none
def endOk (m : Md) (st : St) (rs : List RV) : Bool := match m with
 | .any => true
 | .new => rs.all (endR st)
 | .own es => (endL st es rs).isSome
 | .wr .. | .ownH .. | .wrH _ | .tk .. => false
def outM (m : Md) (st : St) (rs : List RV) : Option AV := match outV st rs with
 | some r => if endOk m st rs = true then some (nzV r) else none
 | none => none
def Ret (m : Md) (rs : List RV) (Q : AV → Prop) : IExit → St → Prop
 | .exit _,_ => False
 | _,st => ∃ r,outM m st rs = some r ∧ Q r

def envOf : Nat → List AV → List (Nat × AV)
 | _,[] => []
 | i,x :: xs => (i,x) :: envOf (i + 1) xs
def startSt (vs : List AV) : St := ⟨envOf 0 vs,[]⟩

theorem lk_envOf : ∀ (vs : List AV) (i t : Nat),i ≤ t → lk .any (envOf i vs) t = vs.getD (t - i) .any
 | [],i,t,_ => by simp [envOf,lk]
 | x :: xs,i,t,h => by
  simp only [envOf,lk]
  split
  ·rename_i e; subst e; simp
  ·rename_i e
   rw [lk_envOf xs (i + 1) t (by omega)]
   rw [show t - i = (t - (i + 1)) + 1 by omega,List.getD_cons_succ]

section
variable {P : Program} {cf : Cfg} {tab : Tab} {ρ : Nat → Option Nat} {st : St} {a : Act} {w : World}

def rvRun (tmps : Array Value) : ResultVar → Sem Value
 | .tmp t => pure (tmps.getD t undef)
 | .cell a t => do loadVar t (← asAddr (tmps.getD a undef))

theorem rv_ok (h : StRρ cf ρ st a w) {r : ResultVar} {rv : RV} (hc : cRV P r = some rv) {x : AV} (hx : rvV st rv = some x) :
  ∃ v raw,(rvRun a.tmps r).run P w = .ok v w ∧ rvRaw st rv = some raw ∧ V ρ st.hp w (Zf cf.Z0 cf.base ρ st.hp w) v raw ∧ pureV st.hp raw = some x ∧ V0 w (Zo (Zf cf.Z0 cf.base ρ st.hp w) ρ st.hp) v x := by
 cases r with
 | tmp t =>
  cases hc
  exact ⟨_,_,rfl,rfl,h.tmp t,hx,pureV_ok h.hp (h.tmp t) hx⟩
 | cell b t =>
  simp only [cRV,Option.map_eq_some_iff] at hc
  obtain ⟨n,hn,rfl⟩ := hc
  simp only [rvV] at hx
  split at hx
  ·rename_i y hy
   have hy' : rvRaw st (.c b n) = some y := hy
   have hv := h.tmp b
   have key : ∃ B o off z,a.tmps.getD b undef = .pointer (some ⟨B,o + off,none⟩) ∧ CA ρ st.hp w (Zf cf.Z0 cf.base ρ st.hp w) B o z.cells ∧ loadC n z off = some y := by
    clear hy'
    generalize st.get b = bx at hv hy
    unfold vload at hy
    split at hy
    ·obtain ⟨B,o,e,hca⟩ := ptr_ca hv; exact ⟨B,o,_,_,e,hca,hy⟩
    ·split at hy
     ·rename_i hb
      split at hy
      ·rename_i hx'
       obtain ⟨B,o,e,hca⟩ := lptr_ca h.hp hv hb hx'
       exact ⟨B,o,_,_,e,hca,hy⟩
      ·cases hy
     ·cases hy
    ·cases hy
   obtain ⟨B,o,off,z,e1,hca,hl⟩ := key
   obtain ⟨v,hr,hvr⟩ := loadVar_ok hn hca hl
   refine ⟨v,y,?_,hy',hvr,hx,pureV_ok h.hp hvr hx⟩
   simp [rvRun,e1,asAddr,hr]
  ·cases hx

theorem rvs_ok (h : StRρ cf ρ st a w) : ∀ {rs : List ResultVar} {rvl : List RV} {xs : List AV},rs.mapM (cRV P) = some rvl → rvs st rvl = some xs →
  ∃ vs : List Value,(rs.mapM (rvRun a.tmps)).run P w = .ok vs w ∧ vs.length = xs.length ∧ xs.length = rvl.length ∧ ∀ (i : Nat) c d r,vs[i]? = some c → xs[i]? = some d → rvl[i]? = some r →
   (∃ raw,rvRaw st r = some raw ∧ V ρ st.hp w (Zf cf.Z0 cf.base ρ st.hp w) c raw ∧ pureV st.hp raw = some d) ∧ V0 w (Zo (Zf cf.Z0 cf.base ρ st.hp w) ρ st.hp) c d
 | [],rvl,xs,h1,h2 => by
  cases h1; cases h2
  exact ⟨[],by simp,rfl,rfl,fun i c d r q => by simp at q⟩
 | r :: rs,rvl,xs,h1,h2 => by
  rw [List.mapM_cons] at h1
  simp only [bind,Option.bind_eq_some_iff,pure,Option.some.injEq] at h1
  obtain ⟨rv,g1,rvl',g2,rfl⟩ := h1
  simp only [rvs] at h2
  split at h2
  ·rename_i x xs' k1 k2
   cases h2
   obtain ⟨v,raw,e1,e2,e3,e4,e5⟩ := rv_ok h g1 k1
   obtain ⟨vs,f3,f4,f5,f6⟩ := rvs_ok h g2 k2
   refine ⟨v :: vs,?_,by simp [f4],by simp [f5],fun i c d r q1 q2 q3 => ?_⟩
   ·rw [List.mapM_cons]; simp [e1,f3]
   ·cases i with
    | zero => simp at q1 q2 q3; subst q1; subst q2; subst q3; exact ⟨⟨raw,e2,e3,e4⟩,e5⟩
    | succ i => simp at q1 q2 q3; exact f6 i c d r q1 q2 q3
  ·cases h2

theorem out_ok (h : StRρ cf ρ st a w) {fn : Func} {rvl : List RV} (hr : fn.results.toList.mapM (cRV P) = some rvl) {x : AV} (hx : outV st rvl = some x) :
  ∃ v,(results fn a.tmps).run P w = .ok v w ∧ V0 w (Zo (Zf cf.Z0 cf.base ρ st.hp w) ρ st.hp) v x ∧
   ((∃ r raw,rvl = [r] ∧ rvRaw st r = some raw ∧ V ρ st.hp w (Zf cf.Z0 cf.base ρ st.hp w) v raw ∧ pureV st.hp raw = some x) ∨
    ∃ (vs : List Value) (xs : List AV),(∀ r,rvl ≠ [r]) ∧ v = .tuple vs.toArray ∧ x = .tup xs ∧ vs.length = xs.length ∧ xs.length = rvl.length ∧ ∀ (i : Nat) c d r,vs[i]? = some c → xs[i]? = some d → rvl[i]? = some r → ∃ raw,rvRaw st r = some raw ∧ V ρ st.hp w (Zf cf.Z0 cf.base ρ st.hp w) c raw ∧ pureV st.hp raw = some d) := by
 have hres : ∀ {vs : List Value},(fn.results.toList.mapM (rvRun a.tmps)).run P w = .ok vs w → (results fn a.tmps).run P w = .ok (if h : vs.toArray.size = 1 then vs.toArray[0] else .tuple vs.toArray) w := by
  intro vs hvs
  have hm : fn.results.mapM (rvRun a.tmps) = (List.toArray <$> fn.results.toList.mapM (rvRun a.tmps) : Sem (Array Value)) := by
   rw [Array.mapM_eq_mapM_toList]
  have hg : results fn a.tmps = (do let vs ← fn.results.mapM (rvRun a.tmps); pure (if h : vs.size = 1 then vs[0] else .tuple vs) : Sem Value) := by
   unfold results
   congr 1
  rw [hg,hm]
  simp [hvs]
 obtain ⟨l1,l2⟩ := mapM_some hr
 unfold outV at hx
 split at hx
 ·rename_i rv
  have hlen : fn.results.toList.length = 1 := by rw [l1]; rfl
  obtain ⟨r,hrl⟩ := List.length_eq_one_iff.1 hlen
  have g1 : cRV P r = some rv := l2 0 r rv (by rw [hrl]; rfl) rfl
  obtain ⟨v,raw,e1,e2,e3,e4,e5⟩ := rv_ok h g1 hx
  refine ⟨v,?_,e5,.inl ⟨rv,raw,rfl,e2,e3,e4⟩⟩
  rw [hres (vs := [v]) (by rw [hrl,List.mapM_cons]; simp [e1])]
  rfl
 ·rename_i hne
  split at hx
  ·rename_i xs hxs
   cases hx
   obtain ⟨vs,e1,e2,e2',e3⟩ := rvs_ok h hr hxs
   have hl : vs.length ≠ 1 := by
    intro hq
    rw [← e2,hq] at e2'
    obtain ⟨r,hrl⟩ := List.length_eq_one_iff.1 e2'.symm
    exact hne r hrl
   have hrv : ∀ (i : Nat),i < xs.length → ∃ r,rvl[i]? = some r := fun i hi => ⟨rvl[i]'(by omega),by simp⟩
   refine ⟨.tuple vs.toArray,?_,.tup _ _ (by simp [e2]) fun i c d q1 q2 => ?_,.inr ⟨vs,xs,hne,rfl,rfl,e2,e2',fun i c d r q1 q2 q3 => (e3 i c d r q1 q2 q3).1⟩⟩
   ·rw [hres e1]
    rw [dif_neg (by simpa using hl)]
   ·obtain ⟨r,hr⟩ := hrv i (List.getElem?_eq_some_iff.1 q2).1
    exact (e3 i c d r (by simpa using q1) q2 hr).2
  ·cases hx

theorem new1_ok (h : StRρ cf ρ st a w) (hM : ∀ b,¬ cf.M b) {v : Value} {x p : AV} (hv : V ρ st.hp w (Zf cf.Z0 cf.base ρ st.hp w) v x) (hx : pure1 st.hp x = some p) (hn : new1 st.hp x = true) : V0 w (fun b => cf.base ≤ b ∧ b < w.heap.size) v (nz p) := by
 cases x with
 | lsl l off len =>
  have hp0 := pure1_ok h.hp hv hx
  simp only [new1] at hn
  simp only [pure1,partL_eq] at hx
  cases hb : st.hp l with
  | none => rw [hb] at hn; cases hn
  | some b =>
   rw [hb] at hn hx
   simp only [Bool.and_eq_true,List.all_eq_true] at hn
   dsimp only at hx
   split at hx
   ·rename_i hc
    cases hx
    show V0 w _ v (.sl ((b.elems.drop off).take len))
    rcases lsl_inv hv with ⟨B,b',t,n,cap,h1,h2,h3,rfl,h4,h5,h6,h7⟩ | ⟨b',h1,h2,hnil,rfl,rfl⟩
    ·rw [hb] at h2; cases h2
     have hmem : ∀ x ∈ (b.elems.drop off).take len,flatE x = true := fun x hx => hn.2 x (List.mem_of_mem_drop (List.mem_of_mem_take hx))
     generalize (b.elems.drop off).take len = ys at hp0 hmem ⊢
     cases hp0 with
     | slnil hq => exact .slnil hq
     | sl _ _ _ _ es _ hl hc' hm hz hs hk hd =>
      refine .sl B (off * b.es) len cap es _ hl hc' hm (fun _ => ?_) hs hk fun i x j d c q1 q2 q3 => ?_
      ·rcases h.own l B (by simp [hb]) h1 with g | g
       ·obtain ⟨c,t,g1,_⟩ := h.hp.blk l b B hb h1
        exact ⟨g,(Array.getElem?_eq_some_iff.1 g1).1⟩
       ·exact (hM B g).elim
      ·have hf := hmem x (List.mem_of_getElem? q1)
       have h0 := hd i x j d c q1 q2 q3
       refine (V.pure (ρ := ρ) (h := st.hp) h0).flatC ?_
       cases x with
       | agg cs => simp only [flatE,List.all_eq_true] at hf; exact hf d (List.mem_of_getElem? q2)
       | _ =>
        cases j with
        | zero => simp [AV.cells] at q2; subst q2; exact hf
        | succ j => simp [AV.cells] at q2
    ·exact hnil.v0
   ·rename_i hc
    split at hx
    ·rename_i hol
     exact absurd ⟨hn.1,by omega⟩ hc
    ·cases hx
 | snil =>
  cases hx
  have := snil_inv hv; subst this
  exact .slnil (.inl rfl)
 | bool => cases hx; exact hv.flatC rfl
 | int => cases hx; exact hv.flatC rfl
 | flt => cases hx; exact hv.flatC rfl
 | str => cases hx; exact hv.flatC rfl
 | _ => cases hn
theorem newE_ok (h : StRρ cf ρ st a w) (hM : ∀ b,¬ cf.M b) {v : Value} {x p : AV} (hv : V ρ st.hp w (Zf cf.Z0 cf.base ρ st.hp w) v x) (hx : pureV st.hp x = some p) (hn : newE st.hp x = true) : V0 w (fun b => cf.base ≤ b ∧ b < w.heap.size) v (nzE p) := by
 cases x with
 | agg cs =>
  obtain ⟨vs,rfl,hl,hd⟩ := agg_inv hv
  simp only [pureV,pureX,Option.map_eq_some_iff] at hx
  obtain ⟨ps,hm,rfl⟩ := hx
  obtain ⟨h1,h2⟩ := mapM_some hm
  simp only [newE,List.all_eq_true] at hn
  refine .agg vs _ (by simp [hl,h1]) fun i c d q1 q2 => ?_
  simp only [List.getElem?_map,Option.map_eq_some_iff] at q2
  obtain ⟨d',q2,rfl⟩ := q2
  have hi : i < cs.length := by rw [h1]; exact (List.getElem?_eq_some_iff.1 q2).1
  have hx' : cs[i]? = some cs[i] := by simp [hi]
  exact new1_ok h hM (hd i c _ q1 hx') (h2 i _ d' hx' q2) (hn _ (List.mem_of_getElem? hx'))
 | lsl l off len =>
  have h1 := new1_ok h hM hv (p := p) hx hn
  simp only [pureV,pureX,pure1] at hx
  split at hx
  ·split at hx
   ·cases hx; exact h1
   ·split at hx
    ·simp only [Option.map_eq_some_iff] at hx
     obtain ⟨ys,_,rfl⟩ := hx
     exact h1
    ·cases hx
  ·cases hx
 | snil => cases hx; exact new1_ok h hM hv rfl hn
 | bool => cases hx; exact new1_ok h hM hv rfl hn
 | int => cases hx; exact new1_ok h hM hv rfl hn
 | flt => cases hx; exact new1_ok h hM hv rfl hn
 | str => cases hx; exact new1_ok h hM hv rfl hn
 | _ => cases hn

theorem freshL_ok (h : StRρ cf ρ st a w) (hM : ∀ b,¬ cf.M b) : ∀ {es : List Nat} {xs : List AV} {vs : List Value} {ps : List AV} {ns : List Nat},vs.length = xs.length → ps.length = xs.length → (∀ (i : Nat) v x p,vs[i]? = some v → xs[i]? = some x → ps[i]? = some p → V ρ st.hp w (Zf cf.Z0 cf.base ρ st.hp w) v x ∧ pure1 st.hp x = some p) →
  freshL st.hp es xs = some ns → ∃ Bs,OwnL w cf.base es vs (ps.map nz) Bs ∧ ∀ B ∈ Bs,∃ l ∈ ns,ρ l = some B ∧ (st.hp l).isSome = true
 | es,[],vs,ps,ns,hl1,hl2,hd,hf => by
  have e1 := List.eq_nil_of_length_eq_zero hl1
  have e2 := List.eq_nil_of_length_eq_zero hl2
  subst e1; subst e2
  cases es with
  | nil => exact ⟨[],.nil,fun B hB => by cases hB⟩
  | cons => cases hf
 | es,x :: xs,[],ps,ns,hl1,hl2,hd,hf => by cases hl1
 | es,x :: xs,v :: vs,[],ns,hl1,hl2,hd,hf => by cases hl2
 | es,x :: xs,v :: vs,p :: ps,ns,hl1,hl2,hd,hf => by
  obtain ⟨hv,hp⟩ := hd 0 v x p rfl rfl rfl
  have hd' : ∀ (i : Nat) v x p,vs[i]? = some v → xs[i]? = some x → ps[i]? = some p → V ρ st.hp w (Zf cf.Z0 cf.base ρ st.hp w) v x ∧ pure1 st.hp x = some p := fun i v x p q1 q2 q3 => hd (i + 1) v x p (by simpa using q1) (by simpa using q2) (by simpa using q3)
  have hl1' : vs.length = xs.length := by simpa using hl1
  have hl2' : ps.length = xs.length := by simpa using hl2
  have flat : flatC x = true → freshL st.hp es xs = some ns → ∃ Bs,OwnL w cf.base es (v :: vs) ((p :: ps).map nz) Bs ∧ ∀ B ∈ Bs,∃ l ∈ ns,ρ l = some B ∧ (st.hp l).isSome = true := by
   intro hfx hf
   obtain ⟨Bs,g1,g2⟩ := freshL_ok h hM hl1' hl2' hd' hf
   have : p = x ∧ nz x = x := by
    cases x <;> first | (cases hfx; done) | (cases hp; exact ⟨rfl,rfl⟩)
   obtain ⟨rfl,e⟩ := this
   refine ⟨Bs,?_,g2⟩
   rw [List.map_cons,e]
   exact .flat hfx (hv.flatC hfx) g1
  cases es with
  | nil =>
   simp only [freshL] at hf
   split at hf
   ·rename_i hfx; exact flat hfx hf
   ·cases hf
  | cons e es =>
   cases x with
   | lsl l off len =>
    simp only [freshL] at hf
    split at hf
    ·rename_i b ns' hb hns
     split at hf
     ·rename_i hc
      cases hf
      obtain ⟨rfl,hpur,rfl,rfl,hfl,hnot⟩ := hc
      obtain ⟨Bs,g1,g2⟩ := freshL_ok h hM hl1' hl2' hd' hns
      have hpx : p = .sl b.elems := by
       simp only [pure1,hb] at hp
       rw [if_pos ⟨hpur,by omega⟩,partL_eq] at hp
       cases hp; simp
      subst hpx
      rcases lsl_inv hv with ⟨B,b',t,n,cap,h1,h2,h3,rfl,h4,h5,h6,h7⟩ | ⟨b',h1,h2,hnil,_,h0⟩
      ·rw [hb] at h2; cases h2
       obtain ⟨c,t',k1,k2,k3,_,k5⟩ := h.hp.blk l b B hb h1
       have hn : n = c.size := by
        simp only [World.shape?,k1,Option.some.injEq,Prod.mk.injEq] at h3
        exact h3.2.symm
       refine ⟨B :: Bs,?_,fun B' hB' => ?_⟩
       ·rw [Nat.zero_mul]
        refine .sl ?_ k1 h4 h7 (by rw [← hn]; simpa using h5) k3 (fun i x j d v q1 q2 q3 => ?_) ?_ g1
        ·rcases h.own l B (by simp [hb]) h1 with g | g
         ·exact g
         ·exact (hM B g).elim
        ·have hf := List.all_eq_true.1 hfl x (List.mem_of_getElem? q1)
         refine (V.pure (ρ := ρ) (h := st.hp) (k5 hpur i x j d v q1 q2 q3)).flatC ?_
         cases x with
         | agg cs => simp only [flatE,List.all_eq_true] at hf; exact hf d (List.mem_of_getElem? q2)
         | _ =>
          cases j with
          | zero => simp [AV.cells] at q2; subst q2; exact hf
          | succ j => simp [AV.cells] at q2
        ·intro hB
         obtain ⟨l',hl',hr,hal⟩ := g2 B hB
         have : l = l' := h.hp.inj l l' B (by simp [hb]) hal h1 hr
         subst this
         simp at hnot; exact hnot hl'
       ·rcases List.mem_cons.1 hB' with rfl | hB'
        ·exact ⟨l,List.mem_cons_self,h1,by simp [hb]⟩
        ·obtain ⟨l',h1,h2⟩ := g2 B' hB'; exact ⟨l',List.mem_cons_of_mem _ h1,h2⟩
      ·have he : b.elems = [] := List.eq_nil_of_length_eq_zero h0
       rw [he]
       exact ⟨Bs,.none hnil g1,fun B hB => by obtain ⟨l',h1,h2⟩ := g2 B hB; exact ⟨l',List.mem_cons_of_mem _ h1,h2⟩⟩
     ·cases hf
    ·cases hf
   | snil =>
    simp only [freshL] at hf
    obtain ⟨Bs,g1,g2⟩ := freshL_ok h hM hl1' hl2' hd' hf
    cases hp
    have := snil_inv hv; subst this
    exact ⟨Bs,.none (.inl rfl) g1,g2⟩
   | _ =>
    simp only [freshL] at hf
    split at hf
    ·rename_i hfx; exact flat hfx hf
    ·cases hf

theorem freshL_len {h : Nat → Option Blk} : ∀ {xs : List AV} {es ns : List Nat},freshL h es xs = some ns → es.length ≤ nSl xs → es.length = nSl xs
 | [],es,ns,hf,_ => by
  cases es with
  | nil => rfl
  | cons => cases hf
 | x :: xs,es,ns,hf,hle => by
  have flat : flatC x = true → isSl x = false := by intro hx; cases x <;> first | rfl | cases hx
  cases es with
  | nil =>
   simp only [freshL] at hf
   split at hf
   ·rename_i hx
    have := freshL_len hf (Nat.zero_le _)
    simp only [nSl,flat hx]; simpa using this
   ·cases hf
  | cons e es =>
   cases x with
   | lsl l off len =>
    simp only [freshL] at hf
    split at hf
    ·rename_i b ns' hb hns
     simp only [nSl,isSl,if_true,List.length_cons] at hle ⊢
     have := freshL_len hns (by omega)
     omega
    ·cases hf
   | snil =>
    simp only [freshL] at hf
    simp only [nSl,isSl,if_true,List.length_cons] at hle ⊢
    have := freshL_len hf (by omega)
    omega
   | _ =>
    simp only [freshL] at hf
    split at hf
    ·rename_i hx
     simp only [nSl,flat hx,Bool.false_eq_true,if_false,Nat.zero_add] at hle ⊢
     exact freshL_len hf hle
    ·cases hf
theorem nSl_pure {h : Nat → Option Blk} : ∀ {xs ps : List AV} {es ns : List Nat},freshL h es xs = some ns → ps.length = xs.length → (∀ (i : Nat) x p,xs[i]? = some x → ps[i]? = some p → pure1 h x = some p) → nSl (ps.map nz) = nSl xs
 | [],ps,es,ns,_,hl,_ => by rw [List.eq_nil_of_length_eq_zero hl]; rfl
 | x :: xs,[],es,ns,_,hl,_ => by cases hl
 | x :: xs,p :: ps,es,ns,hf,hl,hd => by
  have hp := hd 0 x p rfl rfl
  have rest : ∀ {es ns : List Nat},freshL h es xs = some ns → nSl (ps.map nz) = nSl xs := fun hf => nSl_pure hf (by simpa using hl) fun i x p q1 q2 => hd (i + 1) x p (by simpa using q1) (by simpa using q2)
  have flat : flatC x = true → isSl (nz p) = isSl x := by
   intro hx
   cases x <;> first | (cases hx; done) | (cases hp; rfl)
  simp only [List.map_cons,nSl]
  cases es with
  | nil =>
   simp only [freshL] at hf
   split at hf
   ·rename_i hx; rw [flat hx,rest hf]
   ·cases hf
  | cons e es =>
   cases x with
   | lsl l off len =>
    simp only [freshL] at hf
    split at hf
    ·rename_i b ns' hb hns
     have : isSl (nz p) = true := by
      simp only [pure1] at hp
      split at hp
      ·split at hp
       ·cases hp; rfl
       ·split at hp
        ·simp only [Option.map_eq_some_iff] at hp
         obtain ⟨ys,_,rfl⟩ := hp
         rfl
        ·cases hp
      ·cases hp
     rw [this,rest hns]; rfl
    ·cases hf
   | snil =>
    simp only [freshL] at hf
    cases hp
    rw [rest hf]; rfl
   | _ =>
    simp only [freshL] at hf
    split at hf
    ·rename_i hx; rw [flat hx,rest hf]
    ·cases hf

theorem outM_ok (h : StRρ cf ρ st a w) (hM : ∀ b,¬ cf.M b) {m : Md} {fn : Func} {rvl : List RV} (hr : fn.results.toList.mapM (cRV P) = some rvl) {x : AV} (hx : outM m st rvl = some x) :
  ∃ v,(results fn a.tmps).run P w = .ok v w ∧ V0 w (Zo (Zf cf.Z0 cf.base ρ st.hp w) ρ st.hp) v x ∧ (m.isNew = true → V0 w (fun b => cf.base ≤ b ∧ b < w.heap.size) v x) ∧ ∀ es,m = .own es → OwnR w cf.base es v x := by
 unfold outM at hx
 split at hx
 ·rename_i r hr0
  split at hx
  ·rename_i hok
   cases hx
   obtain ⟨v,h1,h2,h3⟩ := out_ok h hr hr0
   have one : ∀ {es : List Nat} {ns : List Nat} {raw d : AV} {c : Value},freshL st.hp es raw.cells = some ns → V ρ st.hp w (Zf cf.Z0 cf.base ρ st.hp w) c raw → pureV st.hp raw = some d → es.length ≤ nSl raw.cells →
     (∃ Bs,OwnL w cf.base es c.cells.toList (nzE d).cells Bs ∧ (∀ B ∈ Bs,∃ l ∈ ns,ρ l = some B ∧ (st.hp l).isSome = true)) ∧ nzV d = nzE d ∧ nSl (nzE d).cells = nSl raw.cells ∧ es.length = nSl raw.cells := by
    intro es ns raw d c hns g2 g3 hle
    have single : raw.cells = [raw] → pure1 st.hp raw = some d → c.cells = #[c] → (nzE d).cells = [nz d] → ∃ Bs,OwnL w cf.base es c.cells.toList (nzE d).cells Bs ∧ (∀ B ∈ Bs,∃ l ∈ ns,ρ l = some B ∧ (st.hp l).isSome = true) := by
     intro e1 e2 e3 e4
     rw [e1] at hns
     obtain ⟨Bs,k1,k2⟩ := freshL_ok (xs := [raw]) (vs := [c]) (ps := [d]) h hM rfl rfl (fun i u x p q1 q2 q3 => by
      cases i with
      | zero => cases q1; cases q2; cases q3; exact ⟨g2,e2⟩
      | succ i => simp at q2) hns
     exact ⟨Bs,by rw [e3,e4]; exact k1,k2⟩
    have hcell : raw.one = true → c.cells = #[c] := by
     intro h1
     have := g2.one h1
     cases c <;> first | rfl | cases this
    have hlen := freshL_len hns hle
    cases raw with
    | agg cs =>
     obtain ⟨vs,rfl,hl,hd⟩ := agg_inv g2
     simp only [pureV,pureX,Option.map_eq_some_iff] at g3
     obtain ⟨ps,hm,rfl⟩ := g3
     obtain ⟨k1,k2⟩ := mapM_some hm
     obtain ⟨Bs,k3,k4⟩ := freshL_ok (vs := vs.toList) (ps := ps) h hM (by simpa using hl) k1.symm (fun i u x p q1 q2 q3 => ⟨hd i u x (by simpa using q1) q2,k2 i x p q2 q3⟩) hns
     refine ⟨⟨Bs,k3,k4⟩,rfl,?_,hlen⟩
     exact nSl_pure hns k1.symm fun i x p q2 q3 => k2 i x p q2 q3
    | lsl l off len =>
     have hp1 : pure1 st.hp (.lsl l off len) = some d := g3
     have hp2 := hp1
     simp only [pure1] at hp2
     split at hp2
     ·split at hp2
      ·cases hp2; exact ⟨single rfl hp1 (hcell rfl) rfl,rfl,rfl,hlen⟩
      ·split at hp2
       ·simp only [Option.map_eq_some_iff] at hp2
        obtain ⟨ys,_,rfl⟩ := hp2
        exact ⟨single rfl hp1 (hcell rfl) rfl,rfl,rfl,hlen⟩
       ·cases hp2
     ·cases hp2
    | snil => cases g3; exact ⟨single rfl rfl (hcell rfl) rfl,rfl,rfl,hlen⟩
    | bool => cases g3; exact ⟨single rfl rfl (hcell rfl) rfl,rfl,rfl,hlen⟩
    | int => cases g3; exact ⟨single rfl rfl (hcell rfl) rfl,rfl,rfl,hlen⟩
    | flt => cases g3; exact ⟨single rfl rfl (hcell rfl) rfl,rfl,rfl,hlen⟩
    | str => cases g3; exact ⟨single rfl rfl (hcell rfl) rfl,rfl,rfl,hlen⟩
    | _ =>
     exfalso
     cases es with
     | nil => simp [AV.cells,freshL,flatC] at hns
     | cons => simp [AV.cells,freshL,flatC] at hns
   have ownc : ∀ es,m = .own es → OwnR w cf.base es v (nzV r) ∧ V0 w (fun b => cf.base ≤ b ∧ b < w.heap.size) v (nzV r) := by
    intro es hm
    subst hm
    simp only [endOk] at hok
    obtain ⟨ns,hns⟩ := Option.isSome_iff_exists.1 hok
    have newz : ∀ {es : List Nat} {ns : List Nat} {raw d : AV} {c : Value} {Bs : List Nat},freshL st.hp es raw.cells = some ns → V ρ st.hp w (Zf cf.Z0 cf.base ρ st.hp w) c raw → pureV st.hp raw = some d → OwnL w cf.base es c.cells.toList (nzE d).cells Bs → V0 w (fun b => cf.base ≤ b ∧ b < w.heap.size) c (nzE d) := by
     intro es ns raw d c Bs hfr hv hp ho
     have hc := ho.v0
     have h4 : V0 w (Zo (Zf cf.Z0 cf.base ρ st.hp w) ρ st.hp) c (nzE d) := (pureV_ok h.hp hv hp).nzE
     generalize nzE d = x at *
     cases x with
     | agg cs =>
      cases h4 with
      | agg vs _ hl hd => exact .agg vs cs hl fun i c d q1 q2 => hc i c d (by simpa [Value.cells] using q1) q2
     | any => exact .any _
     | raw => cases h4; exact .raw _
     | _ =>
      have hcell : c.cells = #[c] := by cases c <;> first | rfl | (cases h4; done) | (cases h4; rename_i hq; rcases hq with hq | ⟨_,hq⟩ <;> cases hq)
      rw [hcell] at hc
      exact hc 0 c _ rfl rfl
    rcases h3 with ⟨rv,raw,rfl,g1,g2,g3⟩ | ⟨vs,xs,_,rfl,rfl,hl,hl2,hd⟩
    ·simp only [endL,g1] at hns
     split at hns
     ·rename_i n1 n2 hn1 hn2
      split at hn2
      ·rename_i hdrop
       obtain ⟨⟨Bs,k1,_⟩,k2,k3,k4⟩ := one hn1 g2 g3 (by simp; omega)
       have hes : es.take (nSl raw.cells) = es := by
        have := List.take_append_drop (nSl raw.cells) es
        rw [hdrop,List.append_nil] at this; exact this
       rw [hes] at k1 hn1
       rw [k2]
       refine ⟨?_,newz hn1 g2 g3 k1⟩
       have : ∀ x : AV,x = nzE r → (∃ Bs,OwnL w cf.base es v.cells.toList x.cells Bs) → OwnR w cf.base es v x := by
        intro x hx hB
        cases x with
        | tup ds =>
         exfalso
         cases r <;> first | (cases hx; done) | skip
         all_goals
          rename_i vs0
          obtain ⟨Bs,ho⟩ := hB
          rcases ho.single rfl with hf | ⟨zs,hz⟩
          ·cases hf
          ·cases hz
        | _ => exact hB
       exact this _ rfl ⟨Bs,k1⟩
      ·cases hn2
     ·cases hns
    ·have key : ∀ (rs : List RV) (vs : List Value) (xs : List AV) (es ns : List Nat),vs.length = xs.length → xs.length = rs.length → (∀ (i : Nat) c d r,vs[i]? = some c → xs[i]? = some d → rs[i]? = some r → ∃ raw,rvRaw st r = some raw ∧ V ρ st.hp w (Zf cf.Z0 cf.base ρ st.hp w) c raw ∧ pureV st.hp raw = some d) →
       endL st es rs = some ns → ∃ Bs,OwnT w cf.base es vs (xs.map nzE) Bs ∧ (∀ B ∈ Bs,∃ l ∈ ns,ρ l = some B ∧ (st.hp l).isSome = true) ∧ ∀ (i : Nat) c d,vs[i]? = some c → (xs.map nzE)[i]? = some d → V0 w (fun b => cf.base ≤ b ∧ b < w.heap.size) c d := by
      intro rs
      induction rs with
      | nil =>
       intro vs xs es ns e1 e2 _ hns
       have e3 := List.eq_nil_of_length_eq_zero e2
       subst e3
       have e4 := List.eq_nil_of_length_eq_zero e1
       subst e4
       simp only [endL] at hns
       split at hns
       ·rename_i he; subst he; cases hns
        exact ⟨[],.nil,fun B hB => (by cases hB),fun i c d q => by simp at q⟩
       ·cases hns
      | cons rv rs ih =>
       intro vs xs es ns e1 e2 hd hns
       cases xs with
       | nil => cases e2
       | cons x xs =>
        cases vs with
        | nil => cases e1
        | cons v vs =>
         obtain ⟨raw,g1,g2,g3⟩ := hd 0 v x rv rfl rfl rfl
         simp only [endL,g1] at hns
         split at hns
         ·rename_i n1 n2 hn1 hn2
          split at hns
          ·rename_i hdis
           cases hns
           obtain ⟨⟨Bs,k1,k1'⟩,k2,k3,k4⟩ := one hn1 g2 g3 (by simp; omega)
           obtain ⟨Bs',m1,m2,m3⟩ := ih vs xs _ n2 (by simpa using e1) (by simpa using e2) (fun i c d r q1 q2 q3 => hd (i + 1) c d r (by simpa using q1) (by simpa using q2) (by simpa using q3)) hn2
           have hnew := newz hn1 g2 g3 k1
           refine ⟨Bs ++ Bs',?_,fun B hB => ?_,fun i c d q1 q2 => ?_⟩
           ·rw [List.map_cons,← List.take_append_drop (nSl raw.cells) es]
            refine .cons k1 hnew (by rw [k3]; exact k4) (fun B hB hB' => ?_) m1
            obtain ⟨l,hl,hlB,hls⟩ := k1' B hB
            obtain ⟨l',hl',hlB',hls'⟩ := m2 B hB'
            have := h.hp.inj l l' B hls hls' hlB hlB'
            subst this
            have := List.all_eq_true.1 hdis l hl
            simp at this; exact this hl'
           ·rcases List.mem_append.1 hB with hB | hB
            ·obtain ⟨l,hl,q⟩ := k1' B hB; exact ⟨l,List.mem_append_left _ hl,q⟩
            ·obtain ⟨l,hl,q⟩ := m2 B hB; exact ⟨l,List.mem_append_right _ hl,q⟩
           ·cases i with
            | zero => simp at q1 q2; subst q1; subst q2; exact hnew
            | succ i => simp at q1 q2; exact m3 i c d q1 (by simpa using q2)
          ·cases hns
         ·cases hns
     obtain ⟨Bs,m1,_,m3⟩ := key rvl vs xs es ns hl hl2 hd hns
     exact ⟨⟨_,Bs,rfl,by simpa using m1⟩,.tup _ _ (by simpa using hl) fun i c d q1 q2 => m3 i c d (by simpa using q1) q2⟩
   refine ⟨v,h1,h2.nzV,fun hn => ?_,fun es hm => (ownc es hm).1⟩
   cases m with
   | any => cases hn
   | wr => cases hn
   | wrH => cases hn
   | tk => cases hn
   | ownH => simp [endOk] at hok
   | own es => exact (ownc es rfl).2
   | new =>
    simp only [endOk,List.all_eq_true] at hok
    have one : ∀ {rv : RV} {raw d : AV} {c : Value},rv ∈ rvl → rvRaw st rv = some raw → V ρ st.hp w (Zf cf.Z0 cf.base ρ st.hp w) c raw → pureV st.hp raw = some d → V0 w (fun b => cf.base ≤ b ∧ b < w.heap.size) c (nzE d) ∧ nzV d = nzE d := by
     intro rv raw d c hrv g1 g2 g3
     have := hok rv hrv
     simp only [endR,g1] at this
     refine ⟨newE_ok h hM g2 g3 this,?_⟩
     cases raw with
     | agg cs =>
      simp only [pureV,pureX,Option.map_eq_some_iff] at g3
      obtain ⟨ps,_,rfl⟩ := g3; rfl
     | lsl l off len =>
      simp only [pureV,pureX,pure1] at g3
      split at g3
      ·split at g3
       ·cases g3; rfl
       ·split at g3
        ·simp only [Option.map_eq_some_iff] at g3
         obtain ⟨ys,_,rfl⟩ := g3
         rfl
        ·cases g3
      ·cases g3
     | snil => cases g3; rfl
     | bool => cases g3; rfl
     | int => cases g3; rfl
     | flt => cases g3; rfl
     | str => cases g3; rfl
     | _ => cases this
    rcases h3 with ⟨r',raw,rfl,g1,g2,g3⟩ | ⟨vs,xs,_,rfl,rfl,hl,hl2,hd⟩
    ·obtain ⟨k1,k2⟩ := one List.mem_cons_self g1 g2 g3
     rw [k2]; exact k1
    ·refine .tup _ _ (by simpa using hl) fun i c d q1 q2 => ?_
     simp only [List.getElem?_map,Option.map_eq_some_iff] at q2
     obtain ⟨d',q2,rfl⟩ := q2
     have hi : i < rvl.length := by rw [← hl2]; exact (List.getElem?_eq_some_iff.1 q2).1
     have hr' : rvl[i]? = some rvl[i] := by simp [hi]
     obtain ⟨raw,g1,g2,g3⟩ := hd i c d' _ (by simpa using q1) q2 hr'
     exact (one (List.mem_of_getElem? hr') g1 g2 g3).1
  ·cases hx
 ·cases hx

theorem spec_of (hm : P.follows .mixedOrders = true) (ht : TabOk P tab) {f : FuncId} {fn : Func} {c : Code} {ic : ICode} {cp : CP} {rvl : List RV} (hf : P.funcs[f]? = some fn) (hname : (fn.name == "runtime.NumGoroutine") = false) (hb : fn.body = some c)
  (hn : cp.n = fn.ntmps) (hc : cCode P cp c = some ic) (hr : fn.results.toList.mapM (cRV P) = some rvl) {vs : List AV} {r : AV} {m : Md} (hlim : cp.n ≤ 1000000) (hlen : vs.length ≤ fn.ntmps) (hw : wpA tab ic (startSt vs) (Ret m rvl (· = r))) : SaysM P m f vs r := by
 intro w Z args hZ hsz hV
 have hname' : ¬ fn.name = "runtime.NumGoroutine" := by simpa using hname
 refine .inr ⟨by simp [callFunc,hf,hname',hb],?_⟩
 refine calls_of_wp hf hb ?_
 let cf : Cfg := ⟨fn.ntmps,w.heap.size,fun _ => False,Z,w,fun _ h => h.elim,fun _ => none,by rw [← hn]; exact hlim,false⟩
 have ht : TabOkC P cf tab := ⟨ht,fun h => by cases h⟩
 have hstart : StRρ cf (fun _ => none) (startSt vs) { tmps := args ++ Array.replicate (fn.ntmps - args.size) undef,defers := [] } w := by
  refine ⟨⟨fun l b B hb _ => (by cases hb),fun l b hb _ => (by cases hb),fun l l' B hl => (by cases hl)⟩,fun t => ?_,?_,rfl,Fr.refl _ w,fun l B hl => (by cases hl),fun b hb => hZ b hb,fun _ _ => rfl,fun _ _ => rfl⟩
  ·refine .pure ?_
   have hget : (startSt vs).get t = vs.getD t .any := by
    have := lk_envOf vs 0 t (Nat.zero_le _)
    rw [Nat.sub_zero] at this
    exact this
   rw [hget]
   by_cases hlt : t < vs.length
   ·have h1 : args[t]? = some (args[t]'(by omega)) := by simp [hsz,hlt]
    have h2 : vs[t]? = some vs[t] := by simp [hlt]
    have h3 : (args ++ Array.replicate (fn.ntmps - args.size) undef).getD t undef = args[t]'(by omega) := by
     simp [Array.getD_eq_getD_getElem?,Array.getElem?_append,hsz,hlt]
    have h4 : vs.getD t .any = vs[t] := by simp [hlt]
    rw [h4]
    show V0 w _ ((args ++ Array.replicate (fn.ntmps - args.size) undef).getD t undef) _
    rw [h3]
    exact (hV t _ _ h1 h2).widen fun b hb => ⟨.inl hb,hZ b hb,fun l hl => (by cases hl)⟩
   ·have h4 : vs.getD t .any = .any := by simp [show vs.length ≤ t by omega]
    rw [h4]; exact .any _
  ·simp [cf,hsz]; omega
 have hfin : ∀ {ρ : Nat → Option Nat} {st : St} {a' : Act} {w' : World},StRρ cf ρ st a' w' → (∃ x,outM m st rvl = some x ∧ x = r) → a'.defers = [] ∧ ∃ v,(results fn a'.tmps).run P w' = .ok v w' ∧ ∃ u,Ending.returned v = .returned u ∧ ResM m Z w r u w' := by
  rintro ρ st a' w' h ⟨x,hx,rfl⟩
  obtain ⟨v,h1,h2,h3,h4⟩ := outM_ok h (fun b hb => hb) hr hx
  refine ⟨h.defers,v,h1,v,rfl,?_⟩
  cases m with
  | any =>
   refine ⟨h.fr.below,h2.widen fun b hb => ?_⟩
   rcases hb with hb | ⟨l,hl,he⟩
   ·rcases hb.1 with h3 | h3
    ·exact .inl h3
    ·exact .inr ⟨h3,hb.2.1⟩
   ·rcases h.own l b hl he with h3 | h3
    ·cases hb' : st.hp l with
     | none => rw [hb'] at hl; cases hl
     | some b' =>
      obtain ⟨c,t,g,_⟩ := h.hp.blk l b' b hb' he
      exact .inr ⟨h3,(Array.getElem?_eq_some_iff.1 g).1⟩
    ·exact h3.elim
  | new => exact ⟨h.fr.below,h3 rfl⟩
  | own es => exact ⟨h.fr.below,h3 rfl,h4 es rfl⟩
  | wr es yss =>
   unfold outM at hx
   split at hx
   ·simp [endOk] at hx
   ·cases hx
  | ownH r' H =>
   unfold outM at hx
   split at hx
   ·simp [endOk] at hx
   ·cases hx
  | wrH H =>
   unfold outM at hx
   split at hx
   ·simp [endOk] at hx
   ·cases hx
  | tk es ys =>
   unfold outM at hx
   split at hx
   ·simp [endOk] at hx
   ·cases hx
 refine wp_mono (code_sound (cf := cf) hm ht hn c hc ⟨_,hstart⟩ hw) fun e a' w' hq => ?_
 cases e with
 | normal =>
  obtain ⟨st,⟨ρ,h⟩,hk⟩ := hq
  exact hfin h hk
 | ret =>
  obtain ⟨st,⟨ρ,h⟩,hk⟩ := hq
  exact hfin h hk
 | exit id =>
  obtain ⟨st,h,hk⟩ := hq
  exact hk.elim
 | goto l => exact hq.elim
 | panic ch => exact hq.elim
 | outgrown => exact hq.elim
end
end Go.Ab

