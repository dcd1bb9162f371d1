/- Each operation that gives a value does what the abstract reading says. No conditions. -/
import Derived.Test.YtadbhabmahpkiacFwA
import Derived.WalkKit
set_option linter.all false
namespace Go.Ab
open Go.RowKit

def Gives (P : Program) (s : Sem Value) (w : World) (Q : Value → Prop) : Prop := ∃ v n,s.run P w = .ok v (w.drewN n) ∧ Q v
theorem Gives.here {P : Program} {s : Sem Value} {w : World} {Q : Value → Prop} {v : Value} (h : s.run P w = .ok v w) (hq : Q v) : Gives P s w Q := ⟨v,0,h,hq⟩

theorem addr_add (B o k : Nat) : (⟨B,o,none⟩ : Addr).add k = ⟨B,o + k,none⟩ := by
 unfold Addr.add; split
 ·rename_i h; subst h; rfl
 ·rfl

theorem constCell_V0 {w : World} {Z : Nat → Prop} {v : Value} {a : AV} (h : constCell v = some a) : V0 w Z v a := by
 unfold constCell at h
 split at h
 ·cases h; exact .bool _
 ·split at h
  ·cases h; rename_i hw; exact .int _ _ hw
  ·cases h
 ·split at h
  ·cases h; rename_i hb; exact .flt _ _ _ ⟨hb,rfl⟩
  ·cases h
 ·split at h
  ·cases h; rename_i hs; exact .str _ hs
  ·cases h
 ·cases h; exact .snil
 all_goals first | (cases h; exact .any _) | cases h

theorem mapM_some {α β : Type} {f : α → Option β} : ∀ {l : List α} {r : List β},l.mapM f = some r → l.length = r.length ∧ ∀ (i : Nat) x y,l[i]? = some x → r[i]? = some y → f x = some y
 | [],r,h => by
  simp at h; subst h; exact ⟨rfl,fun i x y hx => by simp at hx⟩
 | a :: l,r,h => by
  rw [List.mapM_cons] at h
  cases ha : f a with
  | none => rw [ha] at h; cases h
  | some b =>
   rw [ha] at h
   cases hl : l.mapM f with
   | none => rw [hl] at h; cases h
   | some bs =>
    rw [hl] at h
    cases h
    obtain ⟨h1,h2⟩ := mapM_some hl
    refine ⟨by simp [h1],fun i x y hx hy => ?_⟩
    cases i with
    | zero => simp at hx hy; subst hx; subst hy; exact ha
    | succ i => exact h2 i x y (by simpa using hx) (by simpa using hy)

theorem constAV_V0 {w : World} {Z : Nat → Prop} {v : Value} {a : AV} (h : constAV v = some a) : V0 w Z v a := by
 unfold constAV at h
 split at h
 ·rename_i cs
  cases hm : cs.toList.mapM constCell with
  | none => rw [hm] at h; cases h
  | some ds =>
   rw [hm] at h; cases h
   obtain ⟨h1,h2⟩ := mapM_some hm
   refine .agg cs ds (by simpa using h1) fun i c d hc hd => constCell_V0 (h2 i c d (by simpa using hc) hd)
 ·exact constCell_V0 h

def CA (ρ : Nat → Option Nat) (h : Nat → Option Blk) (w : World) (Z : Nat → Prop) (B o : Nat) (cs : List AV) : Prop :=
 ∀ (j : Nat) d,cs[j]? = some d → ∃ c,w.cell? ⟨B,o + j,none⟩ = some c ∧ V ρ h w Z c d

section
variable {P : Program} {ρ : Nat → Option Nat} {h : Nat → Option Blk} {w : World} {Z : Nat → Prop}

theorem V.cells {v : Value} {x : AV} (hv : V ρ h w Z v x) (hx : x.one = true ∨ ∃ cs,x = .agg cs) :
  v.cells.size = x.cells.length ∧ ∀ (j : Nat) c d,v.cells[j]? = some c → x.cells[j]? = some d → V ρ h w Z c d := by
 have one : x.one = true → vone v = true → v.cells.size = x.cells.length ∧ ∀ (j : Nat) c d,v.cells[j]? = some c → x.cells[j]? = some d → V ρ h w Z c d := by
  intro h1 h2
  have e1 : v.cells = #[v] := by cases v <;> first | rfl | cases h2
  have e2 : x.cells = [x] := by cases x <;> first | rfl | cases h1
  rw [e1,e2]
  refine ⟨rfl,fun j c d hc hd => ?_⟩
  cases j with
  | zero => simp at hc hd; subst hc; subst hd; exact hv
  | succ j => simp at hc
 rcases hx with hx | ⟨cs,rfl⟩
 ·exact one hx (hv.one hx)
 ·cases hv with
  | pure h0 =>
   cases h0 with
   | agg vs _ hl hd => exact ⟨hl,fun j c d hc hd' => .pure (hd j c d hc hd')⟩
  | agg vs _ hl hd => exact ⟨hl,hd⟩

theorem V0.ca {B o off : Nat} {x : AV} (hv : V0 w Z (.pointer (some ⟨B,o + off,none⟩)) (.ptr x off)) : True := trivial

theorem ptr_ca {v : Value} {x : AV} {off : Nat} (hv : V ρ h w Z v (.ptr x off)) : ∃ B o,v = .pointer (some ⟨B,o + off,none⟩) ∧ CA ρ h w Z B o x.cells := by
 cases hv with
 | pure h0 =>
  cases h0 with
  | ptr B o _ _ hz hk hd =>
   refine ⟨B,o,rfl,fun j d hj => ?_⟩
   obtain ⟨c,hc⟩ := hk j d hj
   exact ⟨c,hc,.pure (hd j d c hj hc)⟩

theorem cell_of (w : World) (g j : Nat) (cs : Array Value) (t : TypeId) (fr : Nat × Nat) (hg : w.heap[g]? = some (.cells cs t fr)) : w.cell? ⟨g,j,none⟩ = cs[j]? := by
 simp [World.cell?,hg]

theorem idx_lt {n es i j : Nat} (hi : i < n) (hj : j < es) : i * es + j < n * es := by
 have : i * es + es ≤ n * es := by
  have := Nat.mul_le_mul_right es (show i + 1 ≤ n from hi)
  rw [Nat.add_mul,Nat.one_mul] at this; exact this
 omega

theorem Hp.ca (hp : Hp ρ h w Z) {l i : Nat} {b : Blk} {B : Nat} {x : AV} (hb : h l = some b) (hρ : ρ l = some B) (hx : b.elems[i]? = some x) : CA ρ h w Z B (i * b.es) x.cells := by
 obtain ⟨c,t,hc,hsz,hes,hv,_⟩ := hp.blk l b B hb hρ
 intro j d hj
 have hi : i < b.elems.length := (List.getElem?_eq_some_iff.1 hx).1
 have hjl : j < b.es := by
  rw [← hes x (List.mem_of_getElem? hx)]
  exact (List.getElem?_eq_some_iff.1 hj).1
 have hlt : i * b.es + j < c.size := Nat.lt_of_lt_of_le (idx_lt hi hjl) hsz
 refine ⟨c[i * b.es + j],?_,hv i x j d _ hx hj (by simp [hlt])⟩
 rw [cell_of w B _ c t _ hc]; simp [hlt]

theorem lptr_ca (hp : Hp ρ h w Z) {v : Value} {l i off : Nat} (hv : V ρ h w Z v (.lptr l i off)) {b : Blk} {x : AV} (hb : h l = some b) (hx : b.elems[i]? = some x) :
  ∃ B o,v = .pointer (some ⟨B,o + off,none⟩) ∧ CA ρ h w Z B o x.cells := by
 cases hv with
 | pure h0 => cases h0
 | lptr _ _ _ B b' hρ hh =>
  rw [hb] at hh; cases hh
  exact ⟨B,i * b.es,rfl,hp.ca hb hρ hx⟩

/-! ### The types' facts -/
def aggD : TypeDesc → Bool
 | .struct _ | .array _ _ => true
 | _ => false
theorem loadT_none {t : TypeId} (ht : loadT P t = some none) : ∃ d,P.underlying t = some d ∧ aggD d = false := by
 unfold loadT aggT at ht
 cases hu : P.underlying t with
 | none => rw [hu] at ht; simp at ht
 | some d =>
  refine ⟨d,rfl,?_⟩
  rw [hu] at ht
  cases d <;> first | rfl | (dsimp only at ht; cases hs : sizeT P t <;> rw [hs] at ht <;> cases ht)
theorem loadT_some {t : TypeId} {n : Nat} (ht : loadT P t = some (some n)) : ∃ d i,P.underlying t = some d ∧ aggD d = true ∧ P.info? t = some i ∧ i.size = n := by
 unfold loadT aggT at ht
 cases hu : P.underlying t with
 | none => rw [hu] at ht; simp at ht
 | some d =>
  rw [hu] at ht
  cases hi : P.info? t with
  | none =>
   have hs : sizeT P t = none := by simp [sizeT,hi]
   rw [hs] at ht
   cases d <;> cases ht
  | some i =>
   have hs : sizeT P t = some i.size := by simp [sizeT,hi]
   rw [hs] at ht
   refine ⟨d,i,rfl,?_,rfl,?_⟩
   ·cases d <;> first | rfl | cases ht
   ·cases d <;> first | (cases ht; rfl) | cases ht

theorem run_isAgg_false {t : TypeId} {d : TypeDesc} (hu : P.underlying t = some d) (hd : aggD d = false) (w : World) : (isAgg t).run P w = .ok false w := by
 cases d <;> first | (simp [isAgg,run_underlying hu]; done) | cases hd
theorem run_isAgg_true {t : TypeId} {d : TypeDesc} (hu : P.underlying t = some d) (hd : aggD d = true) (w : World) : (isAgg t).run P w = .ok true w := by
 cases d <;> first | (simp [isAgg,run_underlying hu]; done) | cases hd
theorem run_size {t : TypeId} {i : TypeInfo} (hi : P.info? t = some i) (w : World) : (sizeOf t).run P w = .ok i.size w := by
 simp [sizeOf,typeInfo,hi]
theorem sizeT_some {t : TypeId} {n : Nat} (h : sizeT P t = some n) : ∃ i,P.info? t = some i ∧ i.size = n := by
 unfold sizeT at h
 cases hi : P.info? t with
 | none => rw [hi] at h; cases h
 | some i => rw [hi] at h; cases h; exact ⟨i,rfl,rfl⟩

theorem loadVar_ok {t : TypeId} {n : Option Nat} (ht : loadT P t = some n) {B o off : Nat} {x av : AV} (hca : CA ρ h w Z B o x.cells) (hl : loadC n x off = some av) :
  ∃ v,(loadVar t ⟨B,o + off,none⟩).run P w = .ok v w ∧ V ρ h w Z v av := by
 cases n with
 | none =>
  obtain ⟨d,hu,hd⟩ := loadT_none ht
  obtain ⟨c,hc,hv⟩ := hca off av hl
  refine ⟨c,?_,hv⟩
  simp [loadVar,run_isAgg_false hu hd,load,Sem.run,hc]
 | some n =>
  obtain ⟨d,i,hu,hd,hi,rfl⟩ := loadT_some ht
  cases x with
  | agg cs =>
   have key : ∃ ds,av = .agg ds ∧ ds.length = i.size ∧ ∀ j,j < i.size → ds[j]? = cs[off + j]? := by
    unfold loadC at hl
    dsimp only at hl
    split at hl
    ·rename_i h1; cases hl
     exact ⟨cs,rfl,h1.2.symm,fun j hj => by rw [h1.1,Nat.zero_add]⟩
    ·split at hl
     ·rename_i h2; cases hl
      refine ⟨_,rfl,by simp; omega,fun j hj => ?_⟩
      rw [List.getElem?_take_of_lt hj,List.getElem?_drop]
     ·cases hl
   obtain ⟨ds,rfl,hlen,hget⟩ := key
   have hcell : ∀ j,j < i.size → ∃ c,w.cell? ⟨B,o + off + j,none⟩ = some c ∧ ∀ d,ds[j]? = some d → V ρ h w Z c d := by
    intro j hj
    have hj' : j < ds.length := by omega
    obtain ⟨c,hc,hv⟩ := hca (off + j) ds[j] (by show cs[off + j]? = _; rw [← hget j hj]; simp [hj'])
    refine ⟨c,by rw [Nat.add_assoc]; exact hc,fun d hd' => ?_⟩
    have : ds[j] = d := by simpa [hj'] using hd'
    rw [← this]; exact hv
   let f : Nat → Value := fun j => (w.cell? ⟨B,o + off + j,none⟩).getD undef
   have hf : ∀ j,j < i.size → w.cell? ((⟨B,o + off,none⟩ : Addr).add j) = some (f j) := by
    intro j hj
    obtain ⟨c,hc,_⟩ := hcell j hj
    rw [addr_add]; simp [f,hc]
   refine ⟨.agg ((List.range i.size).map f).toArray,?_,.agg _ _ (by simp [hlen]) fun j c d hc hd' => ?_⟩
   ·simp [loadVar,run_isAgg_true hu hd,run_size hi,run_loadCells w _ _ f hf]
   ·have hj : j < i.size := by rw [← hlen]; exact (List.getElem?_eq_some_iff.1 hd').1
    obtain ⟨c',hc',hv⟩ := hcell j hj
    have : c = c' := by
     simp [hj] at hc
     rw [← hc]; simp [f,hc']
    subst this
    exact hv d hd'
  | _ => cases hl

theorem snd_load (hp : Hp ρ h w Z) {t : TypeId} {n : Option Nat} (ht : loadT P t = some n) {v : Value} {x av : AV} (hv : V ρ h w Z v x) (hl : vload h n x = some av) :
  Gives P (Instr.loadAt t v) w fun r => V ρ h w Z r av := by
 have key : ∃ B o off y,v = .pointer (some ⟨B,o + off,none⟩) ∧ CA ρ h w Z B o y.cells ∧ loadC n y off = some av := by
  unfold vload at hl
  split at hl
  ·obtain ⟨B,o,e,hca⟩ := ptr_ca hv; exact ⟨B,o,_,_,e,hca,hl⟩
  ·split at hl
   ·rename_i hb
    split at hl
    ·rename_i hx
     obtain ⟨B,o,e,hca⟩ := lptr_ca hp hv hb hx
     exact ⟨B,o,_,_,e,hca,hl⟩
    ·cases hl
   ·cases hl
  ·cases hl
 obtain ⟨B,o,off,y,rfl,hca,hl'⟩ := key
 obtain ⟨r,hr,hvr⟩ := loadVar_ok ht hca hl'
 exact .here (by simp [Instr.loadAt,Instr.sureAddr,hr]) hvr
end
end Go.Ab

namespace Go.Ab
open Go.RowKit Ieee

section
variable {P : Program} {ρ : Nat → Option Nat} {h : Nat → Option Blk} {w : World} {Z : Nat → Prop}

theorem V.int_inv {v : Value} {k : IntKind} {n : Int} (hv : V ρ h w Z v (.int k n)) : v = .int k n ∧ (Lit.int k n).wf = true := by
 cases hv with | pure h0 => cases h0; exact ⟨rfl,by assumption⟩
theorem V.flt_inv {v : Value} {k : FloatKind} {c : Nat} (hv : V ρ h w Z v (.flt k c)) : ∃ b,v = .float k b ∧ FV k b c := by
 cases hv with | pure h0 => cases h0; exact ⟨_,rfl,by assumption⟩
theorem V.bool_inv {v : Value} {b : Bool} (hv : V ρ h w Z v (.bool b)) : v = .bool b := by
 cases hv with | pure h0 => cases h0; rfl
theorem V.str_inv {v : Value} {l : List UInt8} (hv : V ρ h w Z v (.str l)) : ∃ s,v = .string s ∧ s.data.toList = l ∧ s.size ≤ maxLen := by
 cases hv with | pure h0 => cases h0; exact ⟨_,rfl,rfl,by assumption⟩

theorem V.intI {k : IntKind} {n : Int} (hw : (Lit.int k n).wf = true) : V ρ h w Z (.int k n) (.int k n) := .pure (.int k n hw)
theorem V.boolI (b : Bool) : V ρ h w Z (.bool b) (.bool b) := .pure (.bool b)
theorem V.fltI {k : FloatKind} {b c : Nat} (hf : FV k b c) : V ρ h w Z (.float k b) (.flt k c) := .pure (.flt k b c hf)

theorem wf_bounds {k : IntKind} {n : Int} (hw : (Lit.int k n).wf = true) : k.min ≤ n ∧ n ≤ k.max := by
 simpa [Lit.wf] using hw
theorem bounds_wf {k : IntKind} {n : Int} (h1 : k.min ≤ n) (h2 : n ≤ k.max) : (Lit.int k n).wf = true := by
 simp [Lit.wf,h1,h2]

theorem wf_tmod {k : IntKind} {a b : Int} (ha : (Lit.int k a).wf = true) : (Lit.int k (a.tmod b)).wf = true := by
 obtain ⟨h1,h2⟩ := wf_bounds ha
 have hmin : k.min ≤ 0 := by cases k <;> decide
 have hmax : 0 ≤ k.max := by cases k <;> decide
 rcases Int.le_total 0 a with h0 | h0
 ·have := Int.tmod_nonneg b h0
  have h3 : a.tmod b ≤ a := by
   have e1 := Int.natAbs_tmod a b
   have e2 := Nat.mod_le a.natAbs b.natAbs
   omega
  exact bounds_wf (Int.le_trans hmin this) (Int.le_trans h3 h2)
 ·have e : a.tmod b = -((-a).tmod b) := by rw [Int.neg_tmod]; omega
  have h3 : 0 ≤ (-a).tmod b := Int.tmod_nonneg b (by omega)
  have h4 : (-a).tmod b ≤ -a := by
   have e1 := Int.natAbs_tmod (-a) b
   have e2 := Nat.mod_le (-a).natAbs b.natAbs
   omega
  exact bounds_wf (by omega) (by omega)
theorem wf_shr {k : IntKind} {a : Int} {n : Nat} (ha : (Lit.int k a).wf = true) : (Lit.int k (a.fdiv (2 ^ n))).wf = true := by
 obtain ⟨h1,h2⟩ := wf_bounds ha
 have hp : (0 : Int) < 2 ^ n := Int.pow_pos (by decide)
 have hmin : k.min ≤ 0 := by cases k <;> decide
 have hmax : 0 ≤ k.max := by cases k <;> decide
 rw [Int.fdiv_eq_ediv_of_nonneg _ (Int.le_of_lt hp)]
 refine bounds_wf ?_ ?_
 ·refine (Int.le_ediv_iff_mul_le hp).2 ?_
  refine Int.le_trans ?_ h1
  have h3 : (1 : Int) ≤ 2 ^ n := hp
  have := Int.mul_le_mul_of_nonpos_left hmin h3
  omega
 ·refine (Int.ediv_le_iff_le_mul hp).2 ?_
  have h3 : (1 : Int) ≤ 2 ^ n := hp
  have := Int.mul_le_mul_of_nonneg_left h3 hmax
  omega

theorem intop_ok {op : BinOp} {t : TypeId} {k k' : IntKind} {a b : Int} {av : AV} (hk : k = k' ∨ op = .shl ∨ op = .shr) (ha : (Lit.int k a).wf = true) (he : intop op k a b = some av) (w : World) :
  ∃ v,(binOp op t (.int k a) (.int k' b)).run P w = .ok v w ∧ V ρ h w Z v av := by
 cases op <;> simp only [intop] at he
 case shl =>
  split at he
  ·rename_i h0; cases he
   refine ⟨_,?_,.intI (wf_wrap k _)⟩
   simp [binOp,Op.shift,show ¬ b < 0 by omega]
  ·cases he
 case shr =>
  split at he
  ·rename_i h0; cases he
   refine ⟨_,?_,.intI (wf_shr ha)⟩
   simp [binOp,Op.shift,show ¬ b < 0 by omega]
  ·cases he
 all_goals
  have hk' : k = k' := by simpa using hk
  subst hk'
 case quo =>
  split at he
  ·cases he
  ·rename_i h0; cases he; exact ⟨_,by simp [binOp,Op.intDiv,h0],.intI (wf_wrap k _)⟩
 case rem =>
  split at he
  ·cases he
  ·rename_i h0; cases he; exact ⟨_,by simp [binOp,Op.intDiv,h0],.intI (wf_tmod ha)⟩
 case eql => cases he; exact ⟨_,by first | (simp [binOp,Op.intCmp]; done) | (simp [binOp,Op.intCmp]; rfl),.boolI _⟩
 case neq => cases he; exact ⟨_,by first | (simp [binOp,Op.intCmp,bne]; done) | (simp [binOp,Op.intCmp,bne]; rfl),.boolI _⟩
 case lss => cases he; exact ⟨_,by first | (simp [binOp,Op.intCmp]; done) | (simp [binOp,Op.intCmp]; rfl),.boolI _⟩
 case leq => cases he; exact ⟨_,by first | (simp [binOp,Op.intCmp]; done) | (simp [binOp,Op.intCmp]; rfl),.boolI _⟩
 case gtr => cases he; exact ⟨_,by first | (simp [binOp,Op.intCmp]; done) | (simp [binOp,Op.intCmp]; rfl),.boolI _⟩
 case geq => cases he; exact ⟨_,by first | (simp [binOp,Op.intCmp]; done) | (simp [binOp,Op.intCmp]; rfl),.boolI _⟩
 all_goals
  cases he
  exact ⟨_,by first | (simp [binOp,Op.intArith,Op.intBits,bitop]; done) | (simp [binOp,Op.intArith,Op.intBits,bitop]; rfl),.intI (by first | exact wf_wrap k _ | (simp only [bitop]; exact wf_wrap k _))⟩

theorem order_swap (d e : Datum) : (d.order e == some .gt) = (e.order d == some .lt) := by
 have hc : ∀ a b : Int,(compare a b = .gt) ↔ (compare b a = .lt) := by
  intro a b
  rw [Int.compare_eq_gt,Int.compare_eq_lt]
 have hn : ∀ a b : Nat,(compare a b = .gt) ↔ (compare b a = .lt) := by
  intro a b
  rw [Nat.compare_eq_gt,Nat.compare_eq_lt]
 cases d with
 | nan s t => cases e <;> rfl
 | infinity s =>
  cases e with
  | nan => rfl
  | infinity t => cases s <;> cases t <;> rfl
  | number t n j => cases s <;> rfl
 | number s m i =>
  cases e with
  | nan => rfl
  | infinity t => cases t <;> rfl
  | number t n j =>
   simp only [Datum.order]
   rw [Int.min_comm j i]
   rw [Bool.eq_iff_iff]
   simp only [beq_iff_eq,Option.some.injEq]
   exact hc _ _
theorem order_swap_eq (d e : Datum) : (d.order e == some .eq) = (e.order d == some .eq) := by
 have hc : ∀ a b : Int,(compare a b = .eq) ↔ (compare b a = .eq) := by
  intro a b
  rw [Int.compare_eq_eq,Int.compare_eq_eq]; exact eq_comm
 cases d with
 | nan s t => cases e <;> rfl
 | infinity s =>
  cases e with
  | nan => rfl
  | infinity t => cases s <;> cases t <;> rfl
  | number t n j => cases s <;> rfl
 | number s m i =>
  cases e with
  | nan => rfl
  | infinity t => cases t <;> rfl
  | number t n j =>
   simp only [Datum.order]
   rw [Int.min_comm j i]
   rw [Bool.eq_iff_iff]
   simp only [beq_iff_eq,Option.some.injEq]
   exact hc _ _

theorem ford_gt (k : FloatKind) (a b : Nat) : (ford k a b == some .gt) = flt k b a := order_swap _ _
theorem ford_ge (k : FloatKind) (a b : Nat) : (ford k a b == some .gt || ford k a b == some .eq) = fle k b a := by
 unfold fle
 rw [ford_gt]; unfold flt; congr 1; exact order_swap_eq _ _

theorem choose_nan (k : FloatKind) (x y : Nat) (w : World) : ∃ b,(choose (.nanBits k x y)).run P w = .ok b (w.drewN 1) ∧ FV k b (nan k) :=
 ⟨_,rfl,fv_nanBits k x y _⟩

theorem fltop_ok {op : BinOp} {t : TypeId} {k : FloatKind} {x y a b : Nat} {av : AV} (ha : FV k x a) (hb : FV k y b) (he : fltop op k a b = some av) (w : World) :
  ∃ v n,(binOp op t (.float k x) (.float k y)).run P w = .ok v (w.drewN n) ∧ V ρ h w Z v av := by
 have hcmp := ford_cn ha hb
 have arith : ∀ (g : Datum → Datum → Option Datum) (_ : Good2 g) (res : Option Nat),res = (g (k.format.read x) (k.format.read y)).map k.format.write →
   av = .flt k (op2 k g a b) → (binOp op t (.float k x) (.float k y)).run P w = (match res with | some r => .ok (.float k r) w | none => ((choose (.nanBits k x y)).run P w).andThen fun r w' => .ok (.float k r) w') →
   ∃ v n,(binOp op t (.float k x) (.float k y)).run P w = .ok v (w.drewN n) ∧ V ρ h w Z v av := by
  intro g hg res hres hav hrun
  subst hav
  cases hr : res with
  | some r =>
   rw [hr] at hrun
   exact ⟨_,0,hrun,.fltI (hg.fv ha hb (by rw [← hres,hr]))⟩
  | none =>
   rw [hr] at hrun
   obtain ⟨r,h1,h2⟩ := choose_nan (P := P) k x y w
   rw [h1] at hrun
   exact ⟨_,1,hrun,.fltI (by rw [hg.none ha hb (by rw [← hres,hr])]; exact h2)⟩
 cases op <;> simp only [fltop] at he
 case add =>
  cases he
  refine arith Datum.sum good_sum (k.format.add x y) rfl rfl ?_
  cases hr : k.format.add x y <;> simp [binOp,Op.floatArith,hr]
 case sub =>
  cases he
  refine arith subD good_sub (k.format.sub x y) rfl rfl ?_
  cases hr : k.format.sub x y <;> simp [binOp,Op.floatArith,hr]
 case mul =>
  cases he
  refine arith Datum.product good_product (k.format.mul x y) rfl rfl ?_
  cases hr : k.format.mul x y <;> simp [binOp,Op.floatArith,hr]
 case quo =>
  cases he
  refine arith _ (good_quotient _) (k.format.div x y) rfl rfl ?_
  cases hr : k.format.div x y <;> simp [binOp,Op.floatArith,hr]
 case eql => cases he; exact ⟨_,0,by simp [binOp,Op.floatCmp,hcmp]; exact ⟨rfl,rfl⟩,.boolI _⟩
 case neq => cases he; exact ⟨_,0,by simp [binOp,Op.floatCmp,hcmp]; exact ⟨rfl,rfl⟩,.boolI _⟩
 case lss => cases he; exact ⟨_,0,by simp [binOp,Op.floatCmp,hcmp]; exact ⟨rfl,rfl⟩,.boolI _⟩
 case leq => cases he; exact ⟨_,0,by simp [binOp,Op.floatCmp,hcmp]; exact ⟨rfl,rfl⟩,.boolI _⟩
 case gtr => cases he; exact ⟨_,0,by simp [binOp,Op.floatCmp,hcmp]; exact ⟨ford_gt k a b,rfl⟩,.boolI _⟩
 case geq => cases he; exact ⟨_,0,by simp only [binOp,Op.floatCmp,hcmp,ne_eq,not_true_eq_false,if_false,ford_ge]; rfl,.boolI _⟩
 all_goals cases he
end
end Go.Ab

namespace Go.Ab
open Go.RowKit Ieee

section
variable {P : Program} {ρ : Nat → Option Nat} {h : Nat → Option Blk} {w : World} {Z : Nat → Prop}

theorem run_eqGuard (op : BinOp) (t : TypeId) (x y : Operand) {v u : Value} {a b : AV} {isb : Bool} {av : AV} (ha : V ρ h w Z v a) (he : bop op isb a b = some av) (w' : World) :
  (eqGuard op t x y v u).run P w' = .ok () w' := by
 have hv : (∃ b,v = .bool b) ∨ (∃ k n,v = .int k n) ∨ (∃ k n,v = .float k n) ∨ (∃ s,v = .string s) := by
  cases a <;> cases b <;> simp only [bop] at he <;> first | (cases he; done) | skip
  ·exact .inl ⟨_,ha.bool_inv⟩
  ·exact .inr (.inl ⟨_,_,ha.int_inv.1⟩)
  ·obtain ⟨_,e,_⟩ := ha.flt_inv; exact .inr (.inr (.inl ⟨_,_,e⟩))
  ·obtain ⟨_,e,_⟩ := ha.str_inv; exact .inr (.inr (.inr ⟨_,e⟩))
 rcases hv with ⟨b,rfl⟩ | ⟨k,n,rfl⟩ | ⟨k,n,rfl⟩ | ⟨s,rfl⟩ <;> cases op <;> rfl

theorem isBoolT_true {t : TypeId} (h : isBoolT P t = true) : P.underlying t = some .bool := by
 unfold isBoolT at h; split at h <;> simp_all

theorem str_len (s : ByteArray) : s.data.toList.length = s.size := by rw [Array.length_toList]; rfl
theorem str_eq_iff (s t : ByteArray) : (s.toList == t.toList) = decide (s.data.toList = t.data.toList) := by
 rw [ByteArray.toList_eq,ByteArray.toList_eq,Bool.eq_iff_iff]; simp

theorem snd_bin {op : BinOp} {t : TypeId} {x y : Operand} {v u : Value} {a b av : AV} (ha : V ρ h w Z v a) (hb : V ρ h w Z u b) (he : bop op (isBoolT P t) a b = some av) :
  Gives P (do eqGuard op t x y v u; binOp op t v u) w fun r => V ρ h w Z r av := by
 have hg := run_eqGuard (P := P) (u := u) op t x y ha he
 have key : ∃ r n,(binOp op t v u).run P w = .ok r (w.drewN n) ∧ V ρ h w Z r av := by
  cases a <;> cases b <;> simp only [bop] at he <;> first | (cases he; done) | skip
  ·rename_i p q
   have e1 := ha.bool_inv; have e2 := hb.bool_inv
   subst e1; subst e2
   split at he
   ·rename_i hbt
    have hu := isBoolT_true hbt
    cases op <;> simp only at he <;> first | (cases he; done) | skip
    ·cases he
     exact ⟨_,0,run_eql_bool w t p q hu,.boolI _⟩
    ·cases he
     exact ⟨_,0,run_neq_bool w t p q hu,.boolI _⟩
   ·cases he
  ·obtain ⟨rfl,h1⟩ := ha.int_inv
   obtain ⟨rfl,h2⟩ := hb.int_inv
   split at he
   ·rename_i hk
    obtain ⟨r,h3,h4⟩ := intop_ok (P := P) (ρ := ρ) (h := h) (Z := Z) (t := t) hk h1 he w
    exact ⟨r,0,h3,h4⟩
   ·cases he
  ·obtain ⟨_,rfl,h1⟩ := ha.flt_inv
   obtain ⟨_,rfl,h2⟩ := hb.flt_inv
   split at he
   ·rename_i hk; subst hk
    exact fltop_ok h1 h2 he w
   ·cases he
  ·obtain ⟨s,rfl,e1,m1⟩ := ha.str_inv
   obtain ⟨s',rfl,e2,m2⟩ := hb.str_inv
   subst e1; subst e2
   cases op <;> simp only at he <;> first | (cases he; done) | skip
   ·split at he
    ·rename_i hl
     cases he
     have hl' : ¬ (IntKind.i64.max < ((s.size + s'.size : Nat) : Int)) := by
      have : IntKind.i64.max = 9223372036854775807 := by decide
      rw [this]
      rw [str_len,str_len] at hl
      omega
     refine ⟨.string (s ++ s'),0,?_,?_⟩
     ·show (Op.stringOp .add s s').run P w = _
      unfold Op.stringOp
      dsimp only
      rw [if_neg hl']; rfl
     ·have hd : (s ++ s').data.toList = s.data.toList ++ s'.data.toList := by simp
      rw [← hd]
      refine .pure (.str _ ?_)
      have : (s ++ s').size = s.size + s'.size := by simp
      rw [this]
      rw [str_len,str_len] at hl
      unfold maxLen; omega
    ·cases he
   ·cases he
    exact ⟨_,0,by simp only [binOp,Op.stringOp,str_eq_iff]; rfl,.boolI _⟩
   ·cases he
    exact ⟨_,0,by simp only [binOp,Op.stringOp,str_eq_iff]; rfl,.boolI _⟩
 obtain ⟨r,n,hr,hv⟩ := key
 exact ⟨r,n,by simp [hg,hr],hv⟩

theorem snd_un {op : UnOp} {v : Value} {a av : AV} (ha : V ρ h w Z v a) (he : uop op a = some av) : Gives P (Op.unary op v) w fun r => V ρ h w Z r av := by
 cases a <;> simp only [uop] at he <;> first | (cases he; done) | skip
 ·have := ha.bool_inv; subst this
  cases op <;> simp only at he <;> first | (cases he; done) | skip
  cases he
  exact .here (by simp [Op.unary]) (.boolI _)
 ·obtain ⟨rfl,h1⟩ := ha.int_inv
  cases op <;> simp only at he <;> first | (cases he; done) | skip
  cases he
  exact .here (by simp [Op.unary,Op.intArith]) (.intI (wf_wrap _ _))
 ·obtain ⟨_,rfl,h1⟩ := ha.flt_inv
  cases op <;> simp only at he <;> first | (cases he; done) | skip
  cases he
  exact .here (by simp [Op.unary]) (.fltI h1.neg)

theorem narrow_fv {x c : Nat} (hx : FV .f64 x c) (hok : narrowOk c = true) (w : World) : ∃ r n,(Conv.floatToFloat .f64 x .f32).run P w = .ok (.float .f32 r) (w.drewN n) ∧ FV .f32 r (narrow c) := by
 by_cases hn : isNaN .f64 x = true
 ·obtain ⟨s,t,e⟩ := decode_of_nan hn
  have hc : isNaN .f64 c = true := by rw [← hx.nan]; exact hn
  refine ⟨_,1,by simp [Conv.floatToFloat,e,choose,Sem.run,Question.forced]; exact ⟨rfl,rfl⟩,?_⟩
  unfold narrow; rw [if_pos hc]
  exact fv_nanConv .f32 x _
 ·have e := hx.not (by rw [← hx.nan]; simpa using hn)
  subst e
  unfold narrow
  rw [if_neg hn]
  have hd : (FloatKind.f64.decode x).isNaN = false := by simpa [isNaN,FloatKind.decode] using hn
  have hfv : FV .f32 (FloatKind.f32.encode (FloatKind.f64.decode x)) (FloatKind.f32.encode (FloatKind.f64.decode x)) :=
   ⟨FloatKind.f32.format.write_lt _,cn_of_not (write_not_nan _ _ hd)⟩
  cases hq : FloatKind.f64.decode x with
  | nan s t => rw [hq] at hd; cases hd
  | infinity s =>
   rw [hq] at hfv
   exact ⟨_,0,by simp [Conv.floatToFloat,hq]; rfl,hfv⟩
  | number s m e =>
   rw [hq] at hfv
   have hi : (FloatKind.f32.decode (FloatKind.f32.encode (.number s m e))).isInfinity = false := by
    unfold narrowOk at hok; rw [hq] at hok; simpa using hok
   exact ⟨_,0,by simp [Conv.floatToFloat,hq,hi]; rfl,hfv⟩
theorem widen_fv {x c : Nat} (hx : FV .f32 x c) (w : World) : ∃ r n,(Conv.floatToFloat .f32 x .f64).run P w = .ok (.float .f64 r) (w.drewN n) ∧ FV .f64 r (widen c) := by
 by_cases hn : isNaN .f32 x = true
 ·obtain ⟨s,t,e⟩ := decode_of_nan hn
  have hc : isNaN .f32 c = true := by rw [← hx.nan]; exact hn
  refine ⟨_,1,by simp [Conv.floatToFloat,e,choose,Sem.run,Question.forced]; exact ⟨rfl,rfl⟩,?_⟩
  unfold widen; rw [if_pos hc]
  exact fv_nanConv .f64 x _
 ·have e := hx.not (by rw [← hx.nan]; simpa using hn)
  subst e
  unfold widen
  rw [if_neg hn]
  have hd : (FloatKind.f32.decode x).isNaN = false := by simpa [isNaN,FloatKind.decode] using hn
  have hfv : FV .f64 (FloatKind.f64.encode (FloatKind.f32.decode x)) (FloatKind.f64.encode (FloatKind.f32.decode x)) :=
   ⟨FloatKind.f64.format.write_lt _,cn_of_not (write_not_nan _ _ hd)⟩
  cases hq : FloatKind.f32.decode x with
  | nan s t => rw [hq] at hd; cases hd
  | infinity s =>
   rw [hq] at hfv
   exact ⟨_,0,by simp [Conv.floatToFloat,hq]; rfl,hfv⟩
  | number s m e =>
   rw [hq] at hfv
   exact ⟨_,0,by simp [Conv.floatToFloat,hq,widen_ok hq]; rfl,hfv⟩

def CDok (P : Program) (src dst : TypeId) : CD → Prop
 | .int k => P.underlying dst = some (.int k) ∧ ∃ d,P.underlying src = some d
 | .flt k => P.underlying dst = some (.float k) ∧ ∃ d,P.underlying src = some d
 | .str => P.underlying dst = some .string ∧ ∃ e,P.underlying src = some (.slice e) ∧ P.underlying e = some (.int .u8)

theorem convert_int {src dst : TypeId} {k k' : IntKind} {n : Int} {d : TypeDesc} (hd : P.underlying dst = some (.int k)) (hs : P.underlying src = some d) (w : World) :
  (convert src dst (.int k' n)).run P w = .ok (.int k (k.wrap n)) w := by
 cases d <;> simp [convert,run_underlying hs,run_underlying hd,Conv.intToInt]
theorem convert_int_float {src dst : TypeId} {k : FloatKind} {k' : IntKind} {n : Int} {d : TypeDesc} (hd : P.underlying dst = some (.float k)) (hs : P.underlying src = some d) (w : World) :
  (convert src dst (.int k' n)).run P w = .ok (.float k (k.nearest n)) w := by
 cases d <;> simp [convert,run_underlying hs,run_underlying hd,Conv.intToFloat]
theorem convert_float {src dst : TypeId} {k s : FloatKind} {b : Nat} {d : TypeDesc} (hd : P.underlying dst = some (.float k)) (hs : P.underlying src = some d) (w : World) :
  (convert src dst (.float s b)).run P w = (Conv.floatToFloat s b k).run P w := by
 cases d <;> simp [convert,run_underlying hs,run_underlying hd]

theorem snd_bytes {src dst e : TypeId} (hd : P.underlying dst = some .string) (hs : P.underlying src = some (.slice e)) (he : P.underlying e = some (.int .u8))
  {B o len cap : Nat} {xs : List AV} (hl : xs.length = len) (hm : len ≤ maxLen) (hu : xs.all AV.isU8 = true)
  (hc : ∀ (i : Nat) x,xs[i]? = some x → ∃ c,w.cell? ⟨B,o + i,none⟩ = some c ∧ V ρ h w Z c x) :
  Gives P (convert src dst (.slice (some ⟨B,o,none⟩) len cap)) w fun r => V ρ h w Z r (.str (xs.map AV.u8)) := by
 let ns : List Int := xs.map fun x => match x with | .int _ n => n | _ => 0
 have hint : ∀ (i : Nat) x,xs[i]? = some x → ∃ n,x = .int .u8 n := by
  intro i x hx
  have := List.all_eq_true.1 hu x (List.mem_of_getElem? hx)
  cases x <;> first | (cases this; done) | skip
  rename_i k n
  cases k <;> first | (cases this; done) | exact ⟨n,rfl⟩
 have hcell : ∀ j,j < len → w.cell? ((⟨B,o,none⟩ : Addr).add j) = some (.int .u8 (ns.getD j 0)) := by
  intro j hj
  have hj' : j < xs.length := by omega
  obtain ⟨n,hn⟩ := hint j xs[j] (by simp [hj'])
  obtain ⟨c,h1,h2⟩ := hc j xs[j] (by simp [hj'])
  rw [hn] at h2
  obtain ⟨rfl,_⟩ := h2.int_inv
  rw [addr_add,h1]
  have : ns.getD j 0 = n := by simp [ns,List.getD,hj',hn]
  rw [this]
 have hrun := run_convert_bytes_arg (P := P) w src e hs he B o len cap ns (by simp [ns,hl]) (fun i hi => by have := hcell i hi; rwa [addr_add] at this) dst hd
 refine .here hrun (.pure ?_)
 have hd2 : (strOfNums ns).data.toList = xs.map AV.u8 := by
  rw [strOfNums_data]
  simp only [ns,List.map_map]
  refine List.map_congr_left fun x hx => ?_
  obtain ⟨i,hi⟩ := List.mem_iff_getElem?.1 hx
  obtain ⟨n,rfl⟩ := hint i x hi
  rfl
 rw [← hd2]
 exact .str _ (by rw [strOfNums_size]; simp [ns,hl]; exact hm)
end
end Go.Ab

namespace Go.Ab
open Go.RowKit Ieee

section
variable {P : Program} {ρ : Nat → Option Nat} {h : Nat → Option Blk} {w : World} {Z : Nat → Prop}

theorem sl_inv {v : Value} {xs : List AV} (hv : V ρ h w Z v (.sl xs)) :
  (∃ B o cap es,v = .slice (some ⟨B,o,none⟩) xs.length cap ∧ xs.length ≤ cap ∧ xs.length ≤ maxLen ∧ (xs ≠ [] → Z B) ∧ (∀ x ∈ xs,x.cells.length = es) ∧
   ∀ (i : Nat) x,xs[i]? = some x → CA ρ h w Z B (o + i * es) x.cells ∧ ∀ (j : Nat) d,x.cells[j]? = some d → ∃ c,w.cell? ⟨B,o + i * es + j,none⟩ = some c ∧ V0 w Z c d) ∨ (Nil0 v ∧ xs = []) := by
 cases hv with
 | pure h0 =>
  cases h0 with
  | sl B o len cap es _ hl hc hm hz hs hk hd =>
   subst hl
   refine .inl ⟨B,o,cap,es,rfl,hc,hm,hz,hs,fun i x hx => ⟨fun j d hj => ?_,fun j d hj => ?_⟩⟩
   ·obtain ⟨c,h1⟩ := hk i x j d hx hj
    exact ⟨c,h1,.pure (hd i x j d c hx hj h1)⟩
   ·obtain ⟨c,h1⟩ := hk i x j d hx hj
    exact ⟨c,h1,hd i x j d c hx hj h1⟩
  | slnil hv => exact .inr ⟨hv,rfl⟩
theorem snil_inv {v : Value} (hv : V ρ h w Z v .snil) : v = .slice none 0 0 := by
 cases hv with | pure h0 => cases h0; rfl
theorem lsl_inv {v : Value} {l off len : Nat} (hv : V ρ h w Z v (.lsl l off len)) :
  (∃ B b t n cap,ρ l = some B ∧ h l = some b ∧ w.shape? B = some (t,n) ∧ v = .slice (some ⟨B,off * b.es,none⟩) len cap ∧ len ≤ cap ∧ (off + cap) * b.es ≤ n ∧ off + len ≤ b.elems.length ∧ len ≤ maxLen) ∨
  (∃ b,ρ l = none ∧ h l = some b ∧ Nil0 v ∧ off = 0 ∧ len = 0) := by
 cases hv with
 | pure h0 => cases h0
 | lsl _ _ _ cap B b t n h1 h2 h3 h4 h5 h6 h7 => exact .inl ⟨B,b,t,n,cap,h1,h2,h3,rfl,h4,h5,h6,h7⟩
 | lnil _ b hv h1 h2 => exact .inr ⟨b,h1,h2,hv,rfl,rfl⟩

theorem mul_add' (off i es : Nat) : (off + i) * es = off * es + i * es := Nat.add_mul ..

theorem Hp.ca0 (hp : Hp ρ h w Z) {l i : Nat} {b : Blk} {B : Nat} {x : AV} (hb : h l = some b) (hρ : ρ l = some B) (hx : b.elems[i]? = some x) (hpur : b.pur = true) :
  ∀ (j : Nat) d,x.cells[j]? = some d → ∃ c,w.cell? ⟨B,i * b.es + j,none⟩ = some c ∧ V0 w Z c d := by
 obtain ⟨c,t,hc,hsz,hes,_,hv0⟩ := hp.blk l b B hb hρ
 intro j d hj
 have hi : i < b.elems.length := (List.getElem?_eq_some_iff.1 hx).1
 have hjl : j < b.es := by
  rw [← hes x (List.mem_of_getElem? hx)]
  exact (List.getElem?_eq_some_iff.1 hj).1
 have hlt : i * b.es + j < c.size := Nat.lt_of_lt_of_le (idx_lt hi hjl) hsz
 refine ⟨c[i * b.es + j],?_,hv0 hpur i x j d _ hx hj (by simp [hlt])⟩
 rw [cell_of w B _ c t _ hc]; simp [hlt]

theorem run_convert_nil0 {v : Value} (hn : Nil0 v) {src dst e : TypeId} (hs : P.underlying src = some (.slice e)) (hu : P.underlying e = some (.int .u8)) (hd1 : P.underlying dst = some .string) :
  (convert src dst v).run P w = .ok (.string ByteArray.empty) w := by
 rcases hn with rfl | ⟨a,rfl⟩
 ·exact run_convert_bytes_nil w src e hs hu 0 0 dst hd1
 ·rw [run_convert_bytes_string w src dst e _ 0 0 hs hu hd1]
  simp [Conv.bytesToString,loadCells]
  rfl

theorem snd_conv (hp : Hp ρ h w Z) {src dst : TypeId} {d : CD} (hd : CDok P src dst d) {v : Value} {a av : AV} (ha : V ρ h w Z v a) (he : vconv h d a = some av) :
  Gives P (convert src dst v) w fun r => V ρ h w Z r av := by
 have simple : ∀ {a},V ρ h w Z v a → convop d a = some av → (∀ xs,a ≠ .sl xs) → a ≠ .snil → Gives P (convert src dst v) w fun r => V ρ h w Z r av := by
  intro a ha he n1 n2
  cases d with
  | int k =>
   obtain ⟨hd1,u,hs⟩ := hd
   cases a with
   | int k' n =>
    simp only [convop] at he
    obtain ⟨rfl,h1⟩ := ha.int_inv
    cases he
    exact .here (convert_int hd1 hs w) (.intI (wf_wrap _ _))
   | flt kf c =>
    simp only [convop] at he
    obtain ⟨b,rfl,h1⟩ := ha.flt_inv
    have e := f2i_fv h1
    cases hf : f2i kf c with
    | none => rw [hf] at he; cases he
    | some n =>
     rw [hf] at he e
     simp only [f2iK] at he
     split at he
     ·rename_i hb
      cases he
      exact .here (run_convert_float_int w src dst kf k b n (by rw [hs]; rfl) hd1 (by simp [floatToIntVal,e,hb.1,hb.2])) (.intI (bounds_wf hb.1 hb.2))
     ·cases he
   | _ => simp only [convop] at he; cases he
  | flt k =>
   obtain ⟨hd1,u,hs⟩ := hd
   cases a with
   | int k' n =>
    obtain ⟨rfl,h1⟩ := ha.int_inv
    cases k <;> (simp only [convop] at he; cases he; exact .here (convert_int_float hd1 hs w) (.fltI (fv_ofInt _ _)))
   | flt kf c =>
    obtain ⟨b,rfl,h1⟩ := ha.flt_inv
    have hc := convert_float (b := b) (s := kf) hd1 hs w
    cases k <;> cases kf <;> simp only [convop] at he
    ·cases he; exact .here (by rw [hc]; simp [Conv.floatToFloat]) (.fltI h1)
    ·split at he
     ·rename_i hok
      cases he
      obtain ⟨r,n,h2,h3⟩ := narrow_fv (P := P) h1 hok w
      exact ⟨_,n,by rw [hc]; exact h2,.fltI h3⟩
     ·cases he
    ·cases he
     obtain ⟨r,n,h2,h3⟩ := widen_fv (P := P) h1 w
     exact ⟨_,n,by rw [hc]; exact h2,.fltI h3⟩
    ·cases he; exact .here (by rw [hc]; simp [Conv.floatToFloat]) (.fltI h1)
   | _ => cases k <;> (simp only [convop] at he; cases he)
  | str =>
   cases a <;> simp only [convop] at he <;> first | (cases he; done) | (exact absurd rfl (n1 _)) | exact absurd rfl n2
 cases a with
 | sl xs =>
  cases d with
  | str =>
   obtain ⟨hd1,e,hs,hu⟩ := hd
   simp only [vconv,convop] at he
   split at he
   ·rename_i hall
    cases he
    rcases sl_inv ha with ⟨B,o,cap,es,rfl,hc,hm,hz,hsz,hca⟩ | ⟨hnil,rfl⟩
    ·refine snd_bytes hd1 hs hu rfl hm hall (fun i x hx => ?_)
     have h8 : x.cells = [x] := by
      have := List.all_eq_true.1 hall x (List.mem_of_getElem? hx)
      cases x <;> first | rfl | cases this
     have hes : es = 1 := by
      rw [← hsz x (List.mem_of_getElem? hx),h8]; rfl
     obtain ⟨c,h1,h2⟩ := (hca i x hx).1 0 x (by rw [h8]; rfl)
     rw [hes,Nat.mul_one,Nat.add_zero] at h1
     exact ⟨c,h1,h2⟩
    ·refine .here (run_convert_nil0 hnil hs hu hd1) (.pure ?_)
     exact .str ByteArray.empty (by decide)
   ·cases he
  | int k => simp only [vconv,convop] at he; cases he
  | flt k => cases k <;> (simp only [vconv,convop] at he; cases he)
 | snil =>
  cases d with
  | str =>
   obtain ⟨hd1,e,hs,hu⟩ := hd
   simp only [vconv,convop] at he
   cases he
   have := snil_inv ha; subst this
   exact .here (run_convert_bytes_nil w src e hs hu 0 0 dst hd1) (.pure (.str ByteArray.empty (by decide)))
  | int k => simp only [vconv,convop] at he; cases he
  | flt k => cases k <;> (simp only [vconv,convop] at he; cases he)
 | lsl l off len =>
  cases d with
  | str =>
   obtain ⟨hd1,e,hs,hu⟩ := hd
   simp only [vconv,elemsOf,partL_eq] at he
   rcases lsl_inv ha with ⟨B,b,t,n,cap,h1,h2,h3,rfl,h4,h5,h6,h7⟩ | ⟨b,h1,h2,hnil,rfl,rfl⟩
   ·rw [h2] at he
    dsimp only at he
    split at he
    ·rename_i xs hxs
     split at hxs
     ·rename_i hpur
      cases hxs
      simp only [convop] at he
      split at he
      ·rename_i hall
       cases he
       refine snd_bytes hd1 hs hu (by simp; omega) h7 hall (fun i x hx => ?_)
       have hlt : i < len := by
        have := (List.getElem?_eq_some_iff.1 hx).1
        simp at this; omega
       rw [List.getElem?_take_of_lt hlt,List.getElem?_drop] at hx
       have h8 : x.cells = [x] := by
        have := List.all_eq_true.1 hall x (by
         refine List.mem_of_getElem? (i := i) ?_
         rw [List.getElem?_take_of_lt hlt,List.getElem?_drop]; exact hx)
        cases x <;> first | rfl | cases this
       obtain ⟨_,_,_,_,hes,_,_⟩ := hp.blk l b B h2 h1
       have hes1 : b.es = 1 := by rw [← hes x (List.mem_of_getElem? hx),h8]; rfl
       obtain ⟨c,h9,h10⟩ := hp.ca h2 h1 hx 0 x (by rw [h8]; rfl)
       rw [hes1,Nat.mul_one,Nat.add_zero] at h9
       rw [hes1,Nat.mul_one]
       exact ⟨c,h9,h10⟩
      ·cases he
     ·cases hxs
    ·cases he
   ·rw [h2] at he
    dsimp only at he
    split at he
    ·rename_i xs hxs
     split at hxs
     ·cases hxs
      simp only [Nat.zero_add,List.take_zero,convop,List.all_nil,if_true,List.map_nil] at he
      cases he
      exact .here (run_convert_nil0 hnil hs hu hd1) (.pure (.str ByteArray.empty (by decide)))
     ·cases hxs
    ·cases he
  | int k => simp only [vconv,elemsOf,partL_eq] at he; cases he
  | flt k => simp only [vconv,elemsOf,partL_eq] at he; cases he
 | _ => exact simple ha he (fun xs e => by cases e) (fun e => by cases e)
end
end Go.Ab

namespace Go.Ab
open Go.RowKit Ieee

section
variable {P : Program} {ρ : Nat → Option Nat} {h : Nat → Option Blk} {w : World} {Z : Nat → Prop}

theorem V0.shift {v : Value} {x : AV} {off : Nat} (hv : V0 w Z v (.ptr x off)) : ∃ B o,v = .pointer (some ⟨B,o + off,none⟩) ∧ ∀ k,V0 w Z (.pointer (some ⟨B,o + off + k,none⟩)) (.ptr x (off + k)) := by
 cases hv with
 | ptr B o _ _ hz hk hd => exact ⟨B,o,rfl,fun k => by rw [Nat.add_assoc]; exact .ptr B o (off + k) x hz hk hd⟩
theorem V.shift {v : Value} {a : AV} (hv : V ρ h w Z v a) {f : Nat → AV} (hf : (∃ x off,a = .ptr x off ∧ ∀ k,f k = .ptr x (off + k)) ∨ (∃ l i off,a = .lptr l i off ∧ ∀ k,f k = .lptr l i (off + k))) :
  ∃ B o,v = .pointer (some ⟨B,o,none⟩) ∧ ∀ k,V ρ h w Z (.pointer (some ⟨B,o + k,none⟩)) (f k) := by
 rcases hf with ⟨x,off,rfl,hf⟩ | ⟨l,i,off,rfl,hf⟩
 ·cases hv with
  | pure h0 =>
   obtain ⟨B,o,rfl,h1⟩ := h0.shift
   exact ⟨B,o + off,rfl,fun k => by rw [hf]; exact .pure (h1 k)⟩
 ·cases hv with
  | pure h0 => cases h0
  | lptr _ _ _ B b hρ hh => exact ⟨B,i * b.es + off,rfl,fun k => by rw [hf,Nat.add_assoc]; exact .lptr l i (off + k) B b hρ hh⟩

def notNil : Value → Bool
 | .pointer (some _) | .func (.func _) _ _ => true
 | _ => false
theorem snd_nil {v : Value} {a av : AV} (ha : V ρ h w Z v a) (he : vnil a = some av) : notNil v = true ∧ V ρ h w Z v av := by
 unfold vnil at he
 split at he
 ·cases he
  obtain ⟨B,o,rfl,_⟩ := ptr_ca ha
  exact ⟨rfl,ha⟩
 ·cases he
  cases ha with
  | pure h0 => cases h0
  | lptr _ _ _ B b h1 h2 => exact ⟨rfl,.lptr _ _ _ B b h1 h2⟩
 ·cases he
  cases ha with
  | pure h0 => cases h0 with | fn f c1 c2 d1 d2 a1 a2 a3 a4 => exact ⟨rfl,.pure (.fn _ _ _ _ _ a1 a2 a3 a4)⟩
  | fn f c1 c2 d1 d2 a1 a2 a3 a4 => exact ⟨rfl,.fn _ _ _ _ _ a1 a2 a3 a4⟩
 ·cases he

theorem snd_faddr {s : TypeId} {fs : Array Field} {i : Nat} {f : Field} (hu : P.underlying s = some (.struct fs)) (hf : fs[i]? = some f) (hs : (sizeT P f.type).getD 0 ≠ 0)
  {v : Value} {a av : AV} (ha : V ρ h w Z v a) (he : vfaddr f.offset a = some av) : Gives P (Instr.fieldAt s v i) w fun r => V ρ h w Z r av := by
 have key : ∃ B o,v = .pointer (some ⟨B,o,none⟩) ∧ V ρ h w Z (.pointer (some ⟨B,o + f.offset,none⟩)) av := by
  unfold vfaddr at he
  split at he
  ·cases he
   obtain ⟨B,o,e,hk⟩ := ha.shift (f := fun k => .ptr _ (_ + k)) (.inl ⟨_,_,rfl,fun k => rfl⟩)
   exact ⟨B,o,e,hk _⟩
  ·cases he
   obtain ⟨B,o,e,hk⟩ := ha.shift (f := fun k => .lptr _ _ (_ + k)) (.inr ⟨_,_,_,rfl,fun k => rfl⟩)
   exact ⟨B,o,e,hk _⟩
  ·cases he
 obtain ⟨B,o,rfl,hv⟩ := key
 obtain ⟨ti,hi,hsz⟩ : ∃ ti,P.info? f.type = some ti ∧ ti.size ≠ 0 := by
  unfold sizeT at hs
  cases hq : P.info? f.type with
  | none => rw [hq] at hs; exact absurd rfl hs
  | some ti => rw [hq] at hs; exact ⟨ti,rfl,by simpa using hs⟩
 refine .here (v := .pointer (some ⟨B,o + f.offset,none⟩)) ?_ hv
 simp [Instr.fieldAt,run_underlying hu,hf,Instr.sureAddr,fieldPlace,run_size hi,hsz,addr_add]

theorem snd_iaddrA {t : TypeId} {len es : Nat} {e : TypeId} (hu : P.underlying t = some (.array len e)) (hs : sizeT P e = some es) {v u : Value} {a i av : AV} (ha : V ρ h w Z v a) (hi : V ρ h w Z u i)
  (he : viaddrA len es a i = some av) : Gives P (Instr.indexAt t v u) w fun r => V ρ h w Z r av := by
 obtain ⟨ti,hti,rfl⟩ := sizeT_some hs
 have key : ∃ B o n k,v = .pointer (some ⟨B,o,none⟩) ∧ u = .int k n ∧ 0 ≤ n ∧ n < (len : Int) ∧ V ρ h w Z (.pointer (some ⟨B,o + n.toNat * ti.size,none⟩)) av := by
  unfold viaddrA at he
  split at he
  ·split at he
   ·rename_i hb
    cases he
    obtain ⟨rfl,_⟩ := hi.int_inv
    obtain ⟨B,o,e,hk⟩ := ha.shift (f := fun k => .ptr _ (_ + k)) (.inl ⟨_,_,rfl,fun k => rfl⟩)
    exact ⟨B,o,_,_,e,rfl,hb.1,hb.2,hk _⟩
   ·cases he
  ·split at he
   ·rename_i hb
    cases he
    obtain ⟨rfl,_⟩ := hi.int_inv
    obtain ⟨B,o,e,hk⟩ := ha.shift (f := fun k => .lptr _ _ (_ + k)) (.inr ⟨_,_,_,rfl,fun k => rfl⟩)
    exact ⟨B,o,_,_,e,rfl,hb.1,hb.2,hk _⟩
   ·cases he
  ·cases he
 obtain ⟨B,o,n,k,rfl,rfl,h0,h1,hv⟩ := key
 refine .here (v := .pointer (some ⟨B,o + n.toNat * ti.size,none⟩)) ?_ hv
 simp [Instr.indexAt,asIntOf,run_underlying hu,Instr.sureAddr,h0,h1,run_size hti,addr_add]

theorem snd_iaddrS {t e : TypeId} {es : Nat} (hu : P.underlying t = some (.slice e)) (hs : sizeT P e = some es) {v u : Value} {a i av : AV} (ha : V ρ h w Z v a) (hi : V ρ h w Z u i)
  (he : viaddrS h es a i = some av) : Gives P (Instr.indexAt t v u) w fun r => V ρ h w Z r av := by
 obtain ⟨ti,hti,rfl⟩ := sizeT_some hs
 have key : ∃ B o len cap n k,v = .slice (some ⟨B,o,none⟩) len cap ∧ u = .int k n ∧ 0 ≤ n ∧ n < (len : Int) ∧ V ρ h w Z (.pointer (some ⟨B,o + n.toNat * ti.size,none⟩)) av := by
  unfold viaddrS at he
  split at he
  ·rename_i xs _ n
   obtain ⟨rfl,_⟩ := hi.int_inv
   split at he
   ·rename_i h0
    split at he
    ·rename_i x hx
     split at he
     ·rename_i hxe
      cases he
      have hlt : n.toNat < xs.length := (List.getElem?_eq_some_iff.1 hx).1
      rcases sl_inv ha with ⟨B,o,cap,es,rfl,hc,hm,hz,hsz,hca⟩ | ⟨_,rfl⟩
      ·have hes : es = ti.size := by rw [← hsz x (List.mem_of_getElem? hx),hxe]
       subst hes
       refine ⟨B,o,_,_,n,_,rfl,rfl,h0,by omega,?_⟩
       have := V0.ptr (w := w) (Z := Z) B (o + n.toNat * ti.size) 0 x (fun _ => hz (ne_of_get hx)) (fun j d hj => by
        obtain ⟨c,h1,_⟩ := (hca _ x hx).2 j d hj; exact ⟨c,h1⟩) (fun j d c hj h2 => by
        obtain ⟨c',h1,h3⟩ := (hca _ x hx).2 j d hj
        rw [h1] at h2; cases h2; exact h3)
       exact .pure this
      ·simp at hx
     ·cases he
    ·cases he
   ·cases he
  ·rename_i l off len _ n
   obtain ⟨rfl,_⟩ := hi.int_inv
   split at he
   ·rename_i hb
    split at he
    ·rename_i b hbl
     split at he
     ·rename_i hes
      cases he
      rcases lsl_inv ha with ⟨B,b',t',n',cap,h1,h2,h3,rfl,h4,h5,h6,h7⟩ | ⟨b',h1,h2,_,rfl,rfl⟩
      ·rw [hbl] at h2; cases h2
       refine ⟨B,off * b.es,_,_,n,_,rfl,rfl,hb.1,hb.2,?_⟩
       have := V.lptr (ρ := ρ) (h := h) (w := w) (Z := Z) l (off + n.toNat) 0 B b h1 hbl
       rw [Nat.add_zero,mul_add',hes] at this
       rw [hes]; exact this
      ·have := hb.2; have := hb.1; simp at *; omega
     ·cases he
    ·cases he
   ·cases he
  ·cases he
 obtain ⟨B,o,len,cap,n,k,rfl,rfl,h0,h1,hv⟩ := key
 refine .here (v := .pointer (some ⟨B,o + n.toNat * ti.size,none⟩)) ?_ hv
 simp [Instr.indexAt,asIntOf,run_underlying hu,h0,h1,run_size hti,addr_add]

theorem agg_inv {v : Value} {cs : List AV} (hv : V ρ h w Z v (.agg cs)) : ∃ vs : Array Value,v = .agg vs ∧ vs.size = cs.length ∧ ∀ (j : Nat) c d,vs[j]? = some c → cs[j]? = some d → V ρ h w Z c d := by
 cases hv with
 | pure h0 => cases h0 with | agg vs _ hl hd => exact ⟨vs,rfl,hl,fun j c d h1 h2 => .pure (hd j c d h1 h2)⟩
 | agg vs _ hl hd => exact ⟨vs,rfl,hl,hd⟩
theorem tup_inv {v : Value} {cs : List AV} (hv : V ρ h w Z v (.tup cs)) : ∃ vs : Array Value,v = .tuple vs ∧ vs.size = cs.length ∧ ∀ (j : Nat) c d,vs[j]? = some c → cs[j]? = some d → V ρ h w Z c d := by
 cases hv with
 | pure h0 => cases h0 with | tup vs _ hl hd => exact ⟨vs,rfl,hl,fun j c d h1 h2 => .pure (hd j c d h1 h2)⟩
 | tup vs _ hl hd => exact ⟨vs,rfl,hl,hd⟩

theorem aggT_false {t : TypeId} (ht : aggT P t = some false) : ∃ d,P.underlying t = some d ∧ aggD d = false := by
 unfold aggT at ht
 cases hu : P.underlying t with
 | none => rw [hu] at ht; cases ht
 | some d => rw [hu] at ht; exact ⟨d,rfl,by cases d <;> first | rfl | cases ht⟩

theorem part_ok {t : TypeId} {n : Option Nat} (ht : loadT P t = some n) {vs : Array Value} {cs : List AV} {off : Nat} {av : AV} (hl : vs.size = cs.length)
  (hv : ∀ (j : Nat) c d,vs[j]? = some c → cs[j]? = some d → V ρ h w Z c d) (he : loadC n (.agg cs) off = some av) :
  ∃ v,(part t vs off).run P w = .ok v w ∧ V ρ h w Z v av := by
 cases n with
 | none =>
  obtain ⟨d,hu,hd⟩ := loadT_none ht
  have hlt : off < cs.length := (List.getElem?_eq_some_iff.1 (show cs[off]? = some av from he)).1
  have hlt' : off < vs.size := by omega
  refine ⟨vs[off],?_,hv off _ av (by simp [hlt']) he⟩
  simp [part,run_isAgg_false hu hd,hlt']
 | some n =>
  obtain ⟨d,i,hu,hd,hi,rfl⟩ := loadT_some ht
  refine ⟨.agg (vs.extract off (off + i.size)),by simp [part,run_isAgg_true hu hd,run_size hi],?_⟩
  unfold loadC at he
  dsimp only at he
  split at he
  ·rename_i h1; cases he
   refine .agg _ _ (by simp; omega) fun j c d hc hd' => hv j c d ?_ hd'
   have hj : j < cs.length := (List.getElem?_eq_some_iff.1 hd').1
   rw [h1.1] at hc
   simpa [Array.getElem?_extract,h1.2,hl,hj] using hc
  ·split at he
   ·rename_i h2; cases he
    refine .agg _ _ (by simp; omega) fun j c d hc hd' => ?_
    have hj : j < i.size := by
     have := (List.getElem?_eq_some_iff.1 hd').1
     simp at this; omega
    rw [List.getElem?_take_of_lt hj,List.getElem?_drop] at hd'
    refine hv (off + j) c d ?_ hd'
    rw [Array.getElem?_extract] at hc
    split at hc
    ·exact hc
    ·cases hc
   ·cases he

theorem snd_field {t : TypeId} {fs : Array Field} {i : Nat} {f : Field} {n : Option Nat} (hu : P.underlying t = some (.struct fs)) (hf : fs[i]? = some f) (hn : loadT P f.type = some n)
  {v : Value} {a av : AV} (ha : V ρ h w Z v a) (he : vfield f.offset n a = some av) : Gives P (Instr.field t v i) w fun r => V ρ h w Z r av := by
 unfold vfield at he
 split at he
 ·obtain ⟨vs,rfl,hl,hv⟩ := agg_inv ha
  obtain ⟨r,hr,hvr⟩ := part_ok hn hl hv he
  exact .here (by simp [Instr.field,run_underlying hu,hf,asAgg,hr]) hvr
 ·cases he

theorem snd_idxA {t e : TypeId} {len es : Nat} (hu : P.underlying t = some (.array len e)) (hs : sizeT P e = some es) (hg : aggT P e = some false) {v u : Value} {a i av : AV} (ha : V ρ h w Z v a) (hi : V ρ h w Z u i)
  (he : vidxA len es a i = some av) : Gives P (Instr.index t v u) w fun r => V ρ h w Z r av := by
 obtain ⟨ti,hti,rfl⟩ := sizeT_some hs
 obtain ⟨d,hud,hd⟩ := aggT_false hg
 unfold vidxA at he
 split at he
 ·rename_i cs _ n
  obtain ⟨rfl,_⟩ := hi.int_inv
  obtain ⟨vs,rfl,hl,hv⟩ := agg_inv ha
  split at he
  ·rename_i hb
   have hlt : n.toNat * ti.size < vs.size := by rw [hl]; exact (List.getElem?_eq_some_iff.1 he).1
   refine .here (v := vs[n.toNat * ti.size]) ?_ (hv _ _ _ (by simp [hlt]) he)
   simp [Instr.index,asIntOf,run_underlying hu,hb.1,hb.2,run_size hti,part,run_isAgg_false hud hd,hlt]
  ·cases he
 ·cases he

theorem snd_idxS {t : TypeId} (hu : P.underlying t = some .string) {v u : Value} {a i av : AV} (ha : V ρ h w Z v a) (hi : V ρ h w Z u i)
  (he : vidxS a i = some av) : Gives P (Instr.index t v u) w fun r => V ρ h w Z r av := by
 unfold vidxS at he
 split at he
 ·rename_i l _ n
  obtain ⟨rfl,_⟩ := hi.int_inv
  obtain ⟨s,rfl,rfl,_⟩ := ha.str_inv
  split at he
  ·rename_i h0
   split at he
   ·rename_i b hb
    cases he
    have hlt : n.toNat < s.size := by rw [← str_len]; exact (List.getElem?_eq_some_iff.1 hb).1
    have hb' : s[n.toNat]? = some b := by
     have : s[n.toNat]? = s.data[n.toNat]? := by
      rw [getElem?_pos s _ hlt,getElem?_pos s.data _ hlt]; rfl
     rw [this]; simpa using hb
    refine .here (v := .int .u8 b.toNat) ?_ (.intI ?_)
    ·simp [Instr.index,asIntOf,run_underlying hu,h0,hb']
    ·have := b.toNat_lt
     exact bounds_wf (by show (0 : Int) ≤ _; omega) (by show _ ≤ (255 : Int); omega)
   ·cases he
  ·cases he
 ·cases he

theorem snd_extract {i : Nat} {v : Value} {a av : AV} (ha : V ρ h w Z v a) (he : vextract i a = some av) : Gives P (Instr.extract v i) w fun r => V ρ h w Z r av := by
 unfold vextract at he
 split at he
 ·obtain ⟨vs,rfl,hl,hv⟩ := tup_inv ha
  have hlt : i < vs.size := by rw [hl]; exact (List.getElem?_eq_some_iff.1 he).1
  refine .here (v := vs[i]) ?_ (hv i _ _ (by simp [hlt]) he)
  simp [Instr.extract,hlt]
 ·cases he

theorem wf_len {n : Nat} (hm : n ≤ maxLen) : (Lit.int .i64 n).wf = true := by
 unfold maxLen at hm
 exact bounds_wf (by show (-9223372036854775808 : Int) ≤ _; omega) (by show _ ≤ (9223372036854775807 : Int); omega)

theorem snd_len {t : TypeId} {s : Bool} (hu : if s = true then P.underlying t = some .string else ∃ e,P.underlying t = some (.slice e)) {v : Value} {a av : AV} (ty : TypeId) {tys : Array TypeId} (h0 : tys[0]? = some t) (ha : V ρ h w Z v a) (he : vlen s a = some av) :
  Gives P (Builtin.len_ tys ty #[v]) w fun r => V ρ h w Z r av := by
 unfold vlen at he
 split at he
 ·cases he
  obtain ⟨s,rfl,rfl,hm⟩ := ha.str_inv
  have hs : P.underlying t = some .string := hu
  rw [str_len]
  exact .here (by simp [Builtin.len_,h0,run_underlying hs,goInt]) (.intI (wf_len hm))
 all_goals first | (cases he; done) | (obtain ⟨e,hs⟩ : ∃ e,P.underlying t = some (.slice e) := hu)
 ·cases he
  rcases sl_inv ha with ⟨B,o,cap,es,rfl,hc,hm,_⟩ | ⟨hnil,rfl⟩
  ·exact .here (by simp [Builtin.len_,h0,run_underlying hs,goInt]) (.intI (wf_len hm))
  ·rcases hnil with rfl | ⟨a,rfl⟩ <;> exact .here (by simp [Builtin.len_,h0,run_underlying hs,goInt]) (.intI (wf_len (Nat.zero_le _)))
 ·cases he
  have := snil_inv ha; subst this
  exact .here (by simp [Builtin.len_,h0,run_underlying hs,goInt]) (.intI (wf_len (n := 0) (Nat.zero_le _)))
 ·cases he
  rcases lsl_inv ha with ⟨B,b,t',n,cap,h1,h2,h3,rfl,h4,h5,h6,h7⟩ | ⟨b,h1,h2,hnil,rfl,rfl⟩
  ·exact .here (by simp [Builtin.len_,h0,run_underlying hs,goInt]) (.intI (wf_len h7))
  ·rcases hnil with rfl | ⟨a,rfl⟩ <;> exact .here (by simp [Builtin.len_,h0,run_underlying hs,goInt]) (.intI (wf_len (n := 0) (Nat.zero_le _)))

theorem fv_of_not {k : FloatKind} {x a : Nat} (h : FV k x a) (hn : isNaN k a = false) : x = a := h.not hn
theorem mm_fv {mx : Bool} {k : FloatKind} {x y a b : Nat} (ha : FV k x a) (hb : FV k y b) (w : World) :
  ∃ r n,((if mx = true then Builtin.max2 (.float k x) (.float k y) else Builtin.min2 (.float k x) (.float k y))).run P w = .ok (.float k r) (w.drewN n) ∧ FV k r (if mx = true then fmax k a b else fmin k a b) := by
 have ho := ford_cn ha hb
 cases hq : ford k a b with
 | none =>
  rw [hq] at ho
  cases mx
  ·exact ⟨_,1,by simp [Builtin.min2,ho,choose,Sem.run,Question.forced]; exact ⟨rfl,rfl⟩,by simp only [fmin,hq]; exact fv_nanMinMax k false x y _⟩
  ·exact ⟨_,1,by simp [Builtin.max2,ho,choose,Sem.run,Question.forced]; exact ⟨rfl,rfl⟩,by simp only [fmax,hq]; exact fv_nanMinMax k true x y _⟩
 | some o =>
  obtain ⟨n1,n2⟩ := ford_some hq
  have e1 := ha.not n1; have e2 := hb.not n2
  subst e1; subst e2
  rw [hq] at ho
  cases o <;> cases mx <;> simp only [fmax,fmin,hq,Builtin.max2,Builtin.min2,ho,if_true,if_false,Bool.false_eq_true]
  ·exact ⟨_,0,rfl,ha⟩
  ·exact ⟨_,0,rfl,hb⟩
  ·refine ⟨_,0,rfl,?_⟩; split <;> assumption
  ·refine ⟨_,0,rfl,?_⟩; split <;> assumption
  ·exact ⟨_,0,rfl,hb⟩
  ·exact ⟨_,0,rfl,ha⟩
theorem snd_mm {mx : Bool} {v u : Value} {a b av : AV} (tys : Array TypeId) (ty : TypeId) (ha : V ρ h w Z v a) (hb : V ρ h w Z u b) (he : vmm mx a b = some av) :
  Gives P (if mx = true then Builtin.max_ tys ty #[v,u] else Builtin.min_ tys ty #[v,u]) w fun r => V ρ h w Z r av := by
 unfold vmm at he
 split at he
 ·rename_i k a k' b
  split at he
  ·rename_i hk; subst hk
   cases he
   obtain ⟨x,rfl,hx⟩ := ha.flt_inv
   obtain ⟨y,rfl,hy⟩ := hb.flt_inv
   obtain ⟨r,n,h1,h2⟩ := mm_fv (P := P) (mx := mx) hx hy w
   refine ⟨_,n,?_,.fltI h2⟩
   cases mx
   ·simpa [Builtin.min_] using h1
   ·simpa [Builtin.max_] using h1
  ·cases he
 ·cases he
end
end Go.Ab

namespace Go.Ab
open Go.RowKit Ieee

section
variable {P : Program} {ρ : Nat → Option Nat} {h : Nat → Option Blk} {w : World} {Z : Nat → Prop}

theorem bound_ok {o : Option Value} {a : Option AV} {d n : Nat} (hrel : match o,a with | none,none => True | some v,some x => V ρ h w Z v x | _,_ => False) (he : bnd a (some d) = some n) :
  (o = none ∧ n = d) ∨ ∃ k,o = some (.int k n) := by
 unfold bnd at he
 cases o with
 | none =>
  cases a with
  | none => cases he; exact .inl ⟨rfl,rfl⟩
  | some => exact hrel.elim
 | some v =>
  cases a with
  | none => exact hrel.elim
  | some x =>
   dsimp only at hrel
   cases x with
   | int k m =>
    obtain ⟨rfl,_⟩ := hrel.int_inv
    dsimp only at he
    split at he
    ·rename_i h0; cases he
     exact .inr ⟨k,by rw [Int.toNat_of_nonneg h0]⟩
    ·cases he
   | _ => cases he

theorem run_sliceBounds {isSl : Bool} {len cap : Nat} {lo hi : Option Value} {l m : Nat} (hl : (lo = none ∧ l = 0) ∨ ∃ k,lo = some (.int k l)) (hh : (hi = none ∧ m = len) ∨ ∃ k,hi = some (.int k m)) (h1 : l ≤ m) (h2 : m ≤ cap) (w : World) :
  (Instr.sliceBounds isSl len cap lo hi none).run P w = .ok (l,m,cap) w := by
 have e1 : ∀ (k : IntKind) (a y : Nat) (c : BoundsCode),a ≤ y → (Instr.sliceBound (.int k a) y c).run P w = .ok a w := by
  intro k a y c hay
  have : (0 : Int) ≤ a ∧ (a : Int) ≤ y := ⟨by omega,by omega⟩
  simp [Instr.sliceBound,asIntOf,this]
 rcases hl with ⟨rfl,rfl⟩ | ⟨k,rfl⟩ <;> rcases hh with ⟨rfl,rfl⟩ | ⟨k',rfl⟩ <;> simp [Instr.sliceBounds,e1,h1,h2]

def OptR (ρ : Nat → Option Nat) (h : Nat → Option Blk) (w : World) (Z : Nat → Prop) (o : Option Value) (a : Option AV) : Prop :=
 match o,a with
 | none,none => True
 | some v,some x => V ρ h w Z v x
 | _,_ => False

theorem snd_sliceS {t : TypeId} (hu : P.underlying t = some .string) {v : Value} {lo hi : Option Value} {a av : AV} {alo ahi : Option AV} (ha : V ρ h w Z v a) (hlo : OptR ρ h w Z lo alo) (hhi : OptR ρ h w Z hi ahi)
  (he : vsliceS (bnd alo) (bnd ahi) a = some av) : Gives P (Instr.sliceAt t v lo hi none) w fun r => V ρ h w Z r av := by
 unfold vsliceS at he
 split at he
 ·rename_i l
  obtain ⟨s,rfl,rfl,hm⟩ := ha.str_inv
  split at he
  ·rename_i x y hx hy
   split at he
   ·rename_i hb
    cases he
    have h1 := bound_ok (w := w) (ρ := ρ) (h := h) (Z := Z) (o := lo) hlo hx
    have h2 := bound_ok (w := w) (ρ := ρ) (h := h) (Z := Z) (o := hi) hhi hy
    rw [str_len] at hb h2
    have hrun := run_sliceBounds (P := P) (isSl := false) (cap := s.size) h1 h2 hb.1 hb.2 w
    refine .here (v := .string (s.extract x y)) (by simp [Instr.sliceAt,Instr.slice,run_underlying hu,hrun]) (.pure ?_)
    have hd : (s.extract x y).data.toList = (s.data.toList.take y).drop x := by
     simp [List.extract,List.drop_take]
    rw [← hd]
    refine .str _ ?_
    have : (s.extract x y).size ≤ s.size := by simp; omega
    omega
   ·cases he
  ·cases he
 ·cases he

theorem Nil0.ad {v : Value} (h : Nil0 v) : ∃ ad,v = .slice ad 0 0 ∧ Nil0 (.slice ad 0 0) := by
 rcases h with rfl | ⟨a,rfl⟩
 ·exact ⟨none,rfl,.inl rfl⟩
 ·exact ⟨_,rfl,.inr ⟨a,rfl⟩⟩
theorem snd_sliceX {t e : TypeId} {es : Nat} (hu : P.underlying t = some (.slice e)) (hs : sizeT P e = some es) {v : Value} {lo hi : Option Value} {a av : AV} {alo ahi : Option AV} (ha : V ρ h w Z v a) (hlo : OptR ρ h w Z lo alo) (hhi : OptR ρ h w Z hi ahi)
  (hes : (∀ l off len,a = .lsl l off len → ∀ b,h l = some b → b.elems ≠ [] → b.es = es) ∧ (∀ xs,a = .sl xs → ∀ x ∈ xs,x.cells.length = es))
  (he : vsliceX (bnd alo) (bnd ahi) a = some av) : Gives P (Instr.sliceAt t v lo hi none) w fun r => V ρ h w Z r av := by
 obtain ⟨ti,hti,rfl⟩ := sizeT_some hs
 have run : ∀ (ad : Option Addr) (len cap x y : Nat),((lo = none ∧ x = 0) ∨ ∃ k,lo = some (.int k x)) → ((hi = none ∧ y = len) ∨ ∃ k,hi = some (.int k y)) → x ≤ y → y ≤ cap →
   (Instr.sliceAt t (.slice ad len cap) lo hi none).run P w = .ok (.slice (if cap = x then ad else ad.map (·.add (x * ti.size))) (y - x) (cap - x)) w := by
  intro ad len cap x y h1 h2 h3 h4
  have hrun := run_sliceBounds (P := P) (isSl := true) (len := len) (cap := cap) h1 h2 h3 h4 w
  simp [Instr.sliceAt,Instr.slice,run_underlying hu,hrun,run_size hti]
 unfold vsliceX at he
 split at he
 ·rename_i xs
  split at he
  ·rename_i x y hx hy
   split at he
   ·rename_i hb
    cases he
    have h1 := bound_ok (w := w) (ρ := ρ) (h := h) (Z := Z) (o := lo) hlo hx
    have h2 := bound_ok (w := w) (ρ := ρ) (h := h) (Z := Z) (o := hi) hhi hy
    rcases sl_inv ha with ⟨B,o,cap,es,rfl,hc,hm,hz,hsz,hca⟩ | ⟨hnil,rfl⟩
    ·refine .here (run _ _ cap x y h1 h2 hb.1 (by omega)) ?_
     by_cases hxy : x = y
     ·subst hxy
      have e0 : (xs.take x).drop x = [] := by simp
      rw [e0]
      have : ∃ B' o',(if cap = x then some (⟨B,o,none⟩ : Addr) else Option.map (fun x_1 : Addr => x_1.add (x * ti.size)) (some ⟨B,o,none⟩)) = some ⟨B',o',none⟩ := by
       split
       ·exact ⟨B,o,rfl⟩
       ·exact ⟨B,o + x * ti.size,by simp [addr_add]⟩
      obtain ⟨B',o',e1⟩ := this
      rw [e1]
      exact .pure (.sl B' o' (x - x) (cap - x) 0 [] (by simp) (by omega) (by omega) (fun hne => absurd rfl hne) (fun _ hm => by cases hm) (fun i x j d hx => by simp at hx) (fun i x j d c hx => by simp at hx))
     ·rw [if_neg (by omega)]
      have hne : xs ≠ [] := by rintro rfl; simp at hb; omega
      have hesz : es = ti.size := by
       cases xs with
       | nil => exact absurd rfl hne
       | cons x0 r => rw [← hsz x0 (by simp),hes.2 _ rfl x0 (by simp)]
      subst hesz
      simp only [Option.map_some,addr_add]
      have get : ∀ (i : Nat) z,((xs.take y).drop x)[i]? = some z → xs[x + i]? = some z := by
       intro i z hz'
       rw [List.getElem?_drop] at hz'
       by_cases hlt : x + i < y
       ·rw [List.getElem?_take_of_lt hlt] at hz'; exact hz'
       ·rw [List.getElem?_take_eq_none (by omega)] at hz'; cases hz'
      refine .pure (.sl B _ (y - x) (cap - x) ti.size _ (by simp; omega) (by omega) (by omega) (fun _ => hz hne) (fun z hz' => ?_) (fun i z j d hz' hj => ?_) (fun i z j d c hz' hj hcell => ?_))
      ·exact hsz z (List.mem_of_mem_take (List.mem_of_mem_drop hz'))
      ·obtain ⟨c,h5,_⟩ := (hca _ z (get i z hz')).2 j d hj
       rw [Nat.add_mul,← Nat.add_assoc] at h5
       exact ⟨c,h5⟩
      ·obtain ⟨c',h5,h6⟩ := (hca _ z (get i z hz')).2 j d hj
       rw [Nat.add_mul,← Nat.add_assoc] at h5
       rw [h5] at hcell; cases hcell; exact h6
    ·have hx0 : x = 0 := by simp at hb; omega
     have hy0 : y = 0 := by simp at hb; omega
     subst hx0; subst hy0
     obtain ⟨ad,rfl,hnil'⟩ := hnil.ad
     refine .here (run ad 0 0 0 0 h1 h2 (Nat.le_refl _) (Nat.le_refl _)) ?_
     simpa using V.pure hnil'.v0
   ·cases he
  ·cases he
 ·rename_i l off len
  split at he
  ·rename_i x y hx hy
   split at he
   ·rename_i hb
    have h1 := bound_ok (w := w) (ρ := ρ) (h := h) (Z := Z) (o := lo) hlo hx
    have h2 := bound_ok (w := w) (ρ := ρ) (h := h) (Z := Z) (o := hi) hhi hy
    rcases lsl_inv ha with ⟨B,b,t',n,cap,q1,q2,q3,rfl,q4,q5,q6,q7⟩ | ⟨b,q1,q2,hnil,rfl,rfl⟩
    ·refine .here (run _ _ cap x y h1 h2 hb.1 (by omega)) ?_
     split at he
     ·rename_i hxy
      cases he; subst hxy
      have : ∃ B' o',(if cap = x then some (⟨B,off * b.es,none⟩ : Addr) else Option.map (fun x_1 : Addr => x_1.add (x * ti.size)) (some ⟨B,off * b.es,none⟩)) = some ⟨B',o',none⟩ := by
       split
       ·exact ⟨B,_,rfl⟩
       ·exact ⟨B,off * b.es + x * ti.size,by simp [addr_add]⟩
      obtain ⟨B',o',e1⟩ := this
      rw [e1]
      exact .pure (.sl B' o' (x - x) (cap - x) 0 [] (by simp) (by omega) (by omega) (fun hne => absurd rfl hne) (fun _ hm => by cases hm) (fun i x j d hx => by simp at hx) (fun i x j d c hx => by simp at hx))
     ·rename_i hxy
      cases he
      rw [if_neg (by omega)]
      have hne : b.elems ≠ [] := by intro e0; rw [e0] at q6; simp at q6; omega
      have hes' := hes.1 l off len rfl b q2 hne
      simp only [Option.map_some,addr_add]
      have := V.lsl (ρ := ρ) (h := h) (w := w) (Z := Z) l (off + x) (y - x) (cap - x) B b t' n q1 q2 q3 (by omega) (by rw [show off + x + (cap - x) = off + cap by omega]; exact q5) (by omega) (by omega)
      rw [mul_add',hes'] at this
      rw [hes']; exact this
    ·have hx0 : x = 0 := by omega
     have hy0 : y = 0 := by omega
     subst hx0; subst hy0
     simp at he
     cases he
     obtain ⟨ad,rfl,hnil'⟩ := hnil.ad
     refine .here (run ad 0 0 0 0 h1 h2 (Nat.le_refl _) (Nat.le_refl _)) ?_
     simpa using V.pure hnil'.v0
   ·cases he
  ·cases he
 ·cases he

theorem snd_fn {f : Fn} {c1 c2 : Array Value} {d1 d2 : List AV} (hl1 : c1.size = d1.length) (hl2 : c2.size = d2.length) (h1 : ∀ (i : Nat) c d,c1[i]? = some c → d1[i]? = some d → V ρ h w Z c d)
  (h2 : ∀ (i : Nat) c d,c2[i]? = some c → d2[i]? = some d → V ρ h w Z c d) : Gives P (Instr.makeFunc f c1 c2) w fun r => V ρ h w Z r (.fn f d1 d2) :=
 .here (by simp [Instr.makeFunc]) (.fn f c1 c2 d1 d2 hl1 hl2 h1 h2)
end
end Go.Ab

namespace Go.Ab
open Go.RowKit Ieee

section
variable {P : Program} {ρ : Nat → Option Nat} {h : Nat → Option Blk} {w : World} {Z : Nat → Prop}

def VL (ρ : Nat → Option Nat) (h : Nat → Option Blk) (w : World) (Z : Nat → Prop) (cs : Array Value) (ds : List AV) : Prop :=
 cs.size = ds.length ∧ ∀ (j : Nat) c d,cs[j]? = some c → ds[j]? = some d → V ρ h w Z c d

theorem laid_or {x : AV} (hx : laid x = true) : x.one = true ∨ ∃ cs,x = .agg cs := by
 cases x <;> first | exact .inr ⟨_,rfl⟩ | exact .inl hx

theorem foldl_put (off : Nat) : ∀ (l : List Value) (n : Nat) (cs : Array Value),off + n + l.length ≤ cs.size →
  ((l.zipIdx n).foldl (fun (cs : Array Value) (x : Value × Nat) => cs.setIfInBounds (off + x.2) x.1) cs).size = cs.size ∧
  ∀ k,((l.zipIdx n).foldl (fun (cs : Array Value) (x : Value × Nat) => cs.setIfInBounds (off + x.2) x.1) cs)[k]? = if off + n ≤ k ∧ k < off + n + l.length then l[k - (off + n)]? else cs[k]?
 | [],n,cs,_ => ⟨rfl,fun k => by rw [if_neg (by simp only [List.length_nil]; omega)]; rfl⟩
 | v :: l,n,cs,hl => by
  simp only [List.zipIdx_cons,List.foldl_cons]
  obtain ⟨h1,h2⟩ := foldl_put off l (n + 1) (cs.setIfInBounds (off + n) v) (by simp at hl ⊢; omega)
  refine ⟨by rw [h1]; simp,fun k => ?_⟩
  rw [h2 k]
  by_cases hk : off + n = k
  ·subst hk
   rw [if_neg (by omega),if_pos (by simp)]
   simp at hl
   simp [show off + n < cs.size by omega]
  ·by_cases hk2 : off + (n + 1) ≤ k ∧ k < off + (n + 1) + l.length
   ·rw [if_pos hk2,if_pos (by simp; omega)]
    obtain ⟨m,rfl⟩ : ∃ m,k = off + n + 1 + m := ⟨k - (off + n + 1),by omega⟩
    rw [show off + n + 1 + m - (off + (n + 1)) = m by omega,show off + n + 1 + m - (off + n) = m + 1 by omega]
    rfl
   ·rw [if_neg hk2,if_neg (by simp; omega),Array.getElem?_setIfInBounds_ne hk]

theorem VL.put {cs : Array Value} {ds vs : List AV} {v : Value} {off : Nat} (hc : VL ρ h w Z cs ds) (hv : v.cells.size = vs.length ∧ ∀ (j : Nat) c d,v.cells[j]? = some c → vs[j]? = some d → V ρ h w Z c d) (ho : off + vs.length ≤ ds.length) :
  VL ρ h w Z (v.cells.zipIdx.foldl (fun cs (c,j) => cs.setIfInBounds (off + j) c) cs) (ds.take off ++ vs ++ ds.drop (off + vs.length)) := by
 have hl : off + 0 + v.cells.toList.length ≤ cs.size := by rw [hc.1]; simp [hv.1]; omega
 obtain ⟨h1,h2⟩ := foldl_put off v.cells.toList 0 cs hl
 have e : v.cells.zipIdx.foldl (fun cs (c,j) => cs.setIfInBounds (off + j) c) cs = (v.cells.toList.zipIdx 0).foldl (fun (cs : Array Value) (x : Value × Nat) => cs.setIfInBounds (off + x.2) x.1) cs := by
  rw [← Array.foldl_toList,Array.toList_zipIdx]
 rw [e]
 refine ⟨by rw [h1,hc.1]; simp; omega,fun j c d hj hd => ?_⟩
 rw [h2 j] at hj
 simp only [Nat.add_zero,Array.length_toList] at hj
 rw [hv.1] at hj
 have hlt : (ds.take off).length = off := by simp; omega
 by_cases hr : off ≤ j ∧ j < off + vs.length
 ·rw [if_pos hr] at hj
  rw [List.append_assoc,List.getElem?_append_right (by omega),hlt,List.getElem?_append_left (by omega)] at hd
  exact hv.2 (j - off) c d (by simpa using hj) hd
 ·rw [if_neg hr] at hj
  refine hc.2 j c d hj ?_
  by_cases hlo : j < off
  ·rw [List.append_assoc,List.getElem?_append_left (by omega),List.getElem?_take_of_lt hlo] at hd
   exact hd
  ·rw [List.append_assoc,List.getElem?_append_right (by omega),List.getElem?_append_right (by omega),List.getElem?_drop,hlt] at hd
   rw [show off + vs.length + (j - off - vs.length) = j by omega] at hd
   exact hd

theorem fill_ok {st : St} {ev0 : Operand → Value} (hev : ∀ x ox,cOpd x = some ox → V ρ h w Z (ev0 x) (ev st ox)) (pl : Nat → Option (Nat × Nat)) : ∀ (parts : List (Nat × Operand)) (ps : List (Nat × Nat × Opd)) (cs : Array Value) (ds ds' : List AV),
  partsG pl parts = some ps → VL ρ h w Z cs ds → fillC st ds ps = some ds' → ∃ cs',Instr.fill pl cs (parts.map fun (i,x) => (i,ev0 x)) = some cs' ∧ VL ρ h w Z cs' ds'
 | [],ps,cs,ds,ds',hp,hc,hf => by
  cases hp
  cases hf
  exact ⟨cs,rfl,hc⟩
 | (i,x) :: r,ps,cs,ds,ds',hp,hc,hf => by
  simp only [partsG] at hp
  split at hp
  ·rename_i off n ox r' h1 h2 h3
   cases hp
   simp only [fillC] at hf
   split at hf
   ·rename_i hb
    have hv := (hev x ox h2).cells (laid_or hb.1)
    have hc' := hc.put (off := off) hv (by rw [hb.2.1]; exact hb.2.2)
    rw [hb.2.1] at hc'
    obtain ⟨cs',h4,h5⟩ := fill_ok hev pl r r' _ _ ds' h3 hc' hf
    refine ⟨cs',?_,h5⟩
    simp only [List.map_cons,Instr.fill,h1]
    have hsz : (ev0 x).cells.size = n := by rw [hv.1,hb.2.1]
    rw [if_neg (by simp [hsz,hc.1]; omega)]
    exact h4
   ·cases hf
  ·cases hp

theorem constAV_agg {z : Value} {ds : List AV} (hz : constAV z = some (.agg ds)) : VL ρ h w Z z.cells ds := by
 have := constAV_V0 (w := w) (Z := Z) hz
 have := (V.pure (ρ := ρ) (h := h) this).cells (.inr ⟨ds,rfl⟩)
 exact this

theorem snd_build {st : St} {ev0 : Operand → Value} (hev : ∀ x ox,cOpd x = some ox → V ρ h w Z (ev0 x) (ev st ox)) {own mu : List Nat} {t : TypeId} {parts : Array (Nat × Operand)} {iop : IOp} (hc : cOp P own mu (.build t parts) = some iop)
  {av : AV} (he : vop st iop = some av) : Gives P (Instr.build t (parts.map fun (i,x) => (i,ev0 x))) w fun r => V ρ h w Z r av := by
 simp only [cOp,bind,Option.bind] at hc
 cases hz : zeroT P t with
 | none => rw [hz] at hc; cases hc
 | some z =>
  rw [hz] at hc
  dsimp only at hc
  have hzz : ∃ it v,P.info? t = some it ∧ it.zero = some v ∧ constAV v = some z := by
   unfold zeroT at hz
   cases hi : P.info? t with
   | none => rw [hi] at hz; cases hz
   | some it =>
    rw [hi] at hz
    cases hv : it.zero with
    | none => simp [hv] at hz
    | some v => simp [hv] at hz; exact ⟨it,v,rfl,hv,hz⟩
  obtain ⟨it,v,hit,hv,hcv⟩ := hzz
  cases z with
  | agg zs =>
   dsimp only at hc
   cases hu : P.underlying t with
   | none => rw [hu] at hc; cases hc
   | some d =>
    rw [hu] at hc
    have fin : ∀ (pl : Nat → Option (Nat × Nat)) (ps : List (Nat × Nat × Opd)),partsG pl parts.toList = some ps → iop = .build zs ps →
      (∀ cs,Instr.fill pl v.cells (parts.toList.map fun (i,x) => (i,ev0 x)) = some cs → P.built t (parts.toList.map fun (i,x) => (i,ev0 x)) = some cs) →
      Gives P (Instr.build t (parts.map fun (i,x) => (i,ev0 x))) w fun r => V ρ h w Z r av := by
     intro pl ps hps hio hb
     subst hio
     simp only [vop] at he
     cases hf : fillC st zs ps with
     | none => rw [hf] at he; cases he
     | some ds =>
      rw [hf] at he; cases he
      obtain ⟨cs,h1,h2⟩ := fill_ok hev pl _ _ _ _ _ hps (constAV_agg hcv) hf
      exact .here (run_build w t _ cs (by simpa using hb cs h1)) (.agg _ _ h2.1 h2.2)
    cases d <;> first | (cases hc; done) | skip
    case array n e =>
     dsimp only at hc
     cases hs : sizeT P e with
     | none => rw [hs] at hc; cases hc
     | some es =>
      rw [hs] at hc
      dsimp only at hc
      obtain ⟨ie,hie,rfl⟩ := sizeT_some hs
      cases hps : partsG (fun i => some (i * ie.size,ie.size)) parts.toList with
      | none => rw [hps] at hc; cases hc
      | some ps =>
       rw [hps] at hc
       cases hc
       exact fin _ ps hps rfl (fun cs hcs => by simp only [Program.built,hit,hu,hv,hie]; exact hcs)
    case struct fs =>
     dsimp only at hc
     cases hpl : placesT P fs with
     | none => rw [hpl] at hc; cases hc
     | some pl =>
      rw [hpl] at hc
      dsimp only at hc
      cases hps : partsG (pl.toArray[·]?) parts.toList with
      | none => rw [hps] at hc; cases hc
      | some ps =>
       rw [hps] at hc
       cases hc
       unfold placesT at hpl
       exact fin _ ps hps rfl (fun cs hcs => by simp only [Program.built,hit,hu,hv,hpl]; exact hcs)
  | _ => cases hc
end
end Go.Ab

