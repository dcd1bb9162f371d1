/- An abstract reading of the model: floats up to the bits of a not-a-number, values, states, and what operations compute on them. No conditions. -/
import Derived.Laws.FloatArith
import Derived.Below
import Derived.Orders
import Derived.Deep.Draws
import Derived.OpenShut
set_option linter.all false
namespace Go.Ab
open Ieee

def isNaN (k : FloatKind) (b : Nat) : Bool := (k.format.read b).isNaN
def nan : FloatKind → Nat
 | .f32 => 2143289344
 | .f64 => 9221120237041090560
def cn (k : FloatKind) (b : Nat) : Nat := if isNaN k b then nan k else b
structure FV (k : FloatKind) (b c : Nat) : Prop where
 lt : b < 2 ^ k.format.width
 eq : cn k b = c

theorem isNaN_nan (k : FloatKind) : isNaN k (nan k) = true := by cases k <;> decide
theorem nan_lt (k : FloatKind) : nan k < 2 ^ k.format.width := by cases k <;> decide
theorem isNaN_cn (k : FloatKind) (b : Nat) : isNaN k (cn k b) = isNaN k b := by
 unfold cn
 split
 ·rename_i h; rw [isNaN_nan,h]
 ·rfl
theorem cn_cn (k : FloatKind) (b : Nat) : cn k (cn k b) = cn k b := by
 have h := isNaN_cn k b
 by_cases e : isNaN k b = true
 ·have e2 : cn k b = nan k := by unfold cn; rw [if_pos e]
  rw [e2]; unfold cn; rw [if_pos (isNaN_nan k)]
 ·have e2 : cn k b = b := by unfold cn; rw [if_neg e]
  rw [e2,e2]
theorem cn_of_not {k : FloatKind} {b : Nat} (h : isNaN k b = false) : cn k b = b := by unfold cn; rw [h]; rfl
theorem cn_of_nan {k : FloatKind} {b : Nat} (h : isNaN k b = true) : cn k b = nan k := by unfold cn; rw [h]; rfl
theorem cn_lt {k : FloatKind} {b : Nat} (h : b < 2 ^ k.format.width) : cn k b < 2 ^ k.format.width := by
 unfold cn; split
 ·exact nan_lt k
 ·exact h

structure Canon (k : FloatKind) (c : Nat) : Prop where
 lt : c < 2 ^ k.format.width
 eq : cn k c = c
theorem FV.canon {k : FloatKind} {b c : Nat} (h : FV k b c) : Canon k c := by
 have := h.eq; subst this; exact ⟨cn_lt h.lt,cn_cn k b⟩
theorem Canon.fv {k : FloatKind} {c : Nat} (h : Canon k c) : FV k c c := ⟨h.lt,h.eq⟩
theorem FV.nan {k : FloatKind} {b c : Nat} (h : FV k b c) : isNaN k b = isNaN k c := by rw [← h.eq,isNaN_cn]
theorem FV.not {k : FloatKind} {b c : Nat} (h : FV k b c) (hn : isNaN k c = false) : b = c := by
 rw [← h.nan] at hn
 rw [← h.eq,cn_of_not hn]
theorem Canon.nan {k : FloatKind} {c : Nat} (h : Canon k c) (hn : isNaN k c = true) : c = nan k := by
 rw [← h.eq,cn_of_nan hn]
theorem canon_nan (k : FloatKind) : Canon k (nan k) := ⟨nan_lt k,cn_of_nan (isNaN_nan k)⟩

theorem word_rung (f : Format) (neg : Bool) {rung : Nat} (h : rung ≤ f.infRung) : (f.read (f.word neg rung)).isNaN = false := by
 have h1 := f.infRung_lt
 have h2 : (f.word neg rung) % f.signWeight = rung := by
  unfold Format.word
  split
  ·rw [Nat.add_mod_left]; exact Nat.mod_eq_of_lt (by omega)
  ·exact Nat.mod_eq_of_lt (by omega)
 unfold Format.read
 simp only [h2]
 split
 ·rfl
 ·split
  ·rfl
  ·rw [if_pos (by omega)]; rfl
theorem write_not_nan (f : Format) (d : Datum) (h : d.isNaN = false) : (f.read (f.write d)).isNaN = false := by
 cases d with
 | number neg mag place =>
  show (f.read (f.nearest neg mag place)).isNaN = false
  unfold Format.nearest
  split
  ·exact word_rung f neg (Nat.zero_le _)
  ·exact word_rung f neg (Nat.min_le_right _ _)
 | infinity neg => exact word_rung f neg (Nat.le_refl _)
 | nan neg fr => cases h

section two
variable (k : FloatKind) (g : Datum → Datum → Option Datum)
def op2 (a b : Nat) : Nat := ((g (k.format.read a) (k.format.read b)).map k.format.write).getD (nan k)
structure Good2 : Prop where
 left : ∀ d e,d.isNaN = true → g d e = none
 right : ∀ d e,e.isNaN = true → g d e = none
 out : ∀ d e r,g d e = some r → r.isNaN = false
variable {k g}
theorem Good2.cn (hg : Good2 g) (x y : Nat) : g (k.format.read (cn k x)) (k.format.read (cn k y)) = g (k.format.read x) (k.format.read y) := by
 by_cases hx : isNaN k x = true
 ·rw [hg.left _ _ hx,hg.left _ _ (by have := isNaN_cn k x; rw [hx] at this; exact this)]
 ·by_cases hy : isNaN k y = true
  ·rw [hg.right _ _ hy,hg.right _ _ (by have := isNaN_cn k y; rw [hy] at this; exact this)]
  ·rw [cn_of_not (by simpa using hx),cn_of_not (by simpa using hy)]
theorem Good2.fv (hg : Good2 g) {x y a b r : Nat} (hx : FV k x a) (hy : FV k y b) (h : (g (k.format.read x) (k.format.read y)).map k.format.write = some r) : FV k r (op2 k g a b) := by
 have e : op2 k g a b = r := by
  unfold op2
  rw [← hx.eq,← hy.eq,hg.cn,h]; rfl
 rw [e]
 cases hd : g (k.format.read x) (k.format.read y) with
 | none => rw [hd] at h; cases h
 | some d =>
  rw [hd] at h
  simp only [Option.map_some,Option.some.injEq] at h
  subst h
  exact ⟨k.format.write_lt d,cn_of_not (write_not_nan _ _ (hg.out _ _ _ hd))⟩
theorem Good2.none (hg : Good2 g) {x y a b : Nat} (hx : FV k x a) (hy : FV k y b) (h : (g (k.format.read x) (k.format.read y)).map k.format.write = none) : op2 k g a b = nan k := by
 unfold op2
 rw [← hx.eq,← hy.eq,hg.cn,h]; rfl
theorem Good2.canon (hg : Good2 g) (a b : Nat) : Canon k (op2 k g a b) := by
 unfold op2
 cases hd : g (k.format.read a) (k.format.read b) with
 | none => exact canon_nan k
 | some d => exact ⟨k.format.write_lt d,cn_of_not (write_not_nan _ _ (hg.out _ _ _ hd))⟩
end two

def subD (d e : Datum) : Option Datum := d.sum e.opposite
theorem good_sum : Good2 Datum.sum := by
 refine ⟨fun d e h => ?_,fun d e h => ?_,fun d e r h => ?_⟩
 ·cases d <;> cases e <;> simp_all [Datum.isNaN,Datum.sum]
 ·cases d <;> cases e <;> simp_all [Datum.isNaN,Datum.sum]
 ·cases d <;> cases e <;> simp only [Datum.sum] at h <;> (try cases h) <;> (try rfl)
  split at h <;> cases h
  rfl
theorem good_sub : Good2 subD := by
 refine ⟨fun d e h => good_sum.left _ _ h,fun d e h => good_sum.right _ _ ?_,fun d e r h => good_sum.out _ _ _ h⟩
 cases e <;> simp_all [Datum.isNaN,Datum.opposite]
theorem good_product : Good2 Datum.product := by
 refine ⟨fun d e h => ?_,fun d e h => ?_,fun d e r h => ?_⟩
 ·cases d <;> cases e <;> simp_all [Datum.isNaN,Datum.product]
 ·cases d <;> cases e <;> simp_all [Datum.isNaN,Datum.product]
 ·cases d <;> cases e <;> simp only [Datum.product] at h <;> (try cases h) <;> (try rfl) <;> (split at h <;> cases h; rfl)
theorem good_quotient (n : Nat) : Good2 (Datum.quotient n) := by
 refine ⟨fun d e h => ?_,fun d e h => ?_,fun d e r h => ?_⟩
 ·cases d <;> cases e <;> simp_all [Datum.isNaN,Datum.quotient]
 ·cases d <;> cases e <;> simp_all [Datum.isNaN,Datum.quotient]
 ·cases d <;> cases e <;> simp only [Datum.quotient] at h <;> (try cases h) <;> (try rfl)
  split at h
  ·split at h <;> cases h
   rfl
  ·cases h; rfl

/- The operations of the kinds,on canonical bits. -/
def fadd (k : FloatKind) (a b : Nat) : Nat := op2 k Datum.sum a b
def fsub (k : FloatKind) (a b : Nat) : Nat := op2 k subD a b
def fmul (k : FloatKind) (a b : Nat) : Nat := op2 k Datum.product a b
def fdiv (k : FloatKind) (a b : Nat) : Nat := op2 k (Datum.quotient (k.format.fractionBits + 2)) a b
def ford (k : FloatKind) (a b : Nat) : Option Ordering := k.format.order a b
def feq (k : FloatKind) (a b : Nat) : Bool := ford k a b == some .eq
def flt (k : FloatKind) (a b : Nat) : Bool := ford k a b == some .lt
def fle (k : FloatKind) (a b : Nat) : Bool := ford k a b == some .lt || ford k a b == some .eq
def fneg (k : FloatKind) (a : Nat) : Nat := cn k (Op.negFloat k a)
def fsqrt (a : Nat) : Nat := (FloatKind.f64.format.sqrt a).getD (nan .f64)
def ofInt (k : FloatKind) (n : Int) : Nat := k.nearest n

theorem ford_cn {k : FloatKind} {x y a b : Nat} (hx : FV k x a) (hy : FV k y b) : k.format.order x y = ford k a b := by
 have hn : ∀ d e : Datum,d.isNaN = true → d.order e = none := by intro d e h; cases d <;> cases e <;> simp_all [Datum.isNaN,Datum.order]
 have hn' : ∀ d e : Datum,e.isNaN = true → d.order e = none := by intro d e h; cases d <;> cases e <;> simp_all [Datum.isNaN,Datum.order]
 unfold ford Format.order
 by_cases h1 : isNaN k x = true
 ·rw [hn _ _ h1,hn _ _ (by rw [hx.nan] at h1; exact h1)]
 ·by_cases h2 : isNaN k y = true
  ·rw [hn' _ _ h2,hn' _ _ (by rw [hy.nan] at h2; exact h2)]
  ·rw [hx.not (by rw [← hx.nan]; simpa using h1),hy.not (by rw [← hy.nan]; simpa using h2)]

end Go.Ab

namespace Go.Ab
open Ieee

theorem isNaN_rung (k : FloatKind) (b : Nat) : isNaN k b = decide (k.format.infRung < b % k.format.signWeight) := by
 unfold isNaN Format.read
 have h0 : 0 < k.format.binade := Nat.two_pow_pos _
 have h1 : k.format.binade ≤ k.format.infRung := by cases k <;> decide
 dsimp only
 split
 ·rename_i h; symm; simp only [Datum.isNaN,decide_eq_false_iff_not]; omega
 ·split
  ·rename_i h; symm; simp only [Datum.isNaN,decide_eq_false_iff_not]; omega
  ·split
   ·rename_i h; symm; simp only [Datum.isNaN,decide_eq_false_iff_not]; omega
   ·symm; simp only [Datum.isNaN,decide_eq_true_eq]; omega

theorem neg_rung (k : FloatKind) (b : Nat) : Op.negFloat k b % k.format.signWeight = b % k.format.signWeight := by
 unfold Op.negFloat Format.signWeight
 rw [Nat.xor_mod_two_pow,Nat.mod_self,Nat.xor_zero]
theorem neg_lt {k : FloatKind} {b : Nat} (h : b < 2 ^ k.format.width) : Op.negFloat k b < 2 ^ k.format.width := by
 unfold Op.negFloat
 refine Nat.xor_lt_two_pow h ?_
 cases k <;> decide
theorem isNaN_neg (k : FloatKind) (b : Nat) : isNaN k (Op.negFloat k b) = isNaN k b := by
 rw [isNaN_rung,isNaN_rung,neg_rung]
theorem FV.neg {k : FloatKind} {x a : Nat} (h : FV k x a) : FV k (Op.negFloat k x) (fneg k a) := by
 refine ⟨neg_lt h.lt,?_⟩
 unfold fneg
 by_cases hn : isNaN k x = true
 ·rw [cn_of_nan (by rw [isNaN_neg]; exact hn),cn_of_nan (by rw [isNaN_neg,← h.nan]; exact hn)]
 ·rw [h.not (by rw [← h.nan]; simpa using hn)]

theorem root_none (n : Nat) (d : Datum) (h : d.isNaN = true) : d.root n = none := by cases d <;> simp_all [Datum.isNaN,Datum.root]
theorem root_out (n : Nat) (d r : Datum) (h : d.root n = some r) : r.isNaN = false := by
 cases d <;> simp only [Datum.root] at h
 ·split at h
  ·cases h; rfl
  ·split at h
   ·cases h
   ·cases h; rfl
 ·split at h <;> cases h
  rfl
 ·cases h
theorem FV.sqrt {x a r : Nat} (hx : FV FloatKind.f64 x a) (h : FloatKind.f64.format.sqrt x = some r) : FV FloatKind.f64 r (fsqrt a) := by
 unfold fsqrt
 by_cases hn : isNaN .f64 x = true
 ·unfold Format.sqrt at h; rw [root_none _ _ hn] at h; cases h
 ·have e := hx.not (by rw [← hx.nan]; simpa using hn)
  subst e
  rw [h]
  show FV FloatKind.f64 r r
  unfold Format.sqrt at h
  cases hd : (FloatKind.f64.format.read x).root (FloatKind.f64.format.fractionBits + 2) with
  | none => rw [hd] at h; cases h
  | some d =>
   rw [hd] at h
   simp only [Option.map_some,Option.some.injEq] at h
   subst h
   exact ⟨FloatKind.f64.format.write_lt d,cn_of_not (write_not_nan _ _ (root_out _ _ _ hd))⟩
theorem FV.sqrt_none {x a : Nat} (hx : FV FloatKind.f64 x a) (h : FloatKind.f64.format.sqrt x = none) : fsqrt a = Go.Ab.nan FloatKind.f64 := by
 unfold fsqrt
 by_cases hn : isNaN .f64 x = true
 ·have : isNaN .f64 a = true := by rw [← hx.nan]; exact hn
  unfold Format.sqrt; rw [root_none _ _ this]; rfl
 ·have e := hx.not (by rw [← hx.nan]; simpa using hn)
  subst e
  rw [h]; rfl

theorem fv_cut (k : FloatKind) (t : Nat) : FV k (match k with | .f32 => (t % 2) * 2 ^ 31 + 0x7f800000 + 1 + (t / 2) % (2 ^ 23 - 1) | .f64 => (t % 2) * 2 ^ 63 + 0x7ff0000000000000 + 1 + (t / 2) % (2 ^ 52 - 1)) (nan k) := by
 cases k with
 | f32 =>
  have h2 : (t / 2) % (2 ^ 23 - 1) < 2 ^ 23 - 1 := Nat.mod_lt _ (by decide)
  dsimp only
  refine ⟨?_,cn_of_nan ?_⟩
  ·have : (2:Nat) ^ FloatKind.f32.format.width = 4294967296 := by decide
   omega
  ·rw [isNaN_rung]
   have e1 : FloatKind.f32.format.infRung = 2139095040 := by decide
   have e2 : FloatKind.f32.format.signWeight = 2147483648 := by decide
   rw [e1,e2,decide_eq_true_eq]
   rcases Nat.mod_two_eq_zero_or_one t with hq | hq <;> rw [hq] <;> omega
 | f64 =>
  have h2 : (t / 2) % (2 ^ 52 - 1) < 2 ^ 52 - 1 := Nat.mod_lt _ (by decide)
  dsimp only
  refine ⟨?_,cn_of_nan ?_⟩
  ·have : (2:Nat) ^ FloatKind.f64.format.width = 18446744073709551616 := by decide
   omega
  ·rw [isNaN_rung]
   have e1 : FloatKind.f64.format.infRung = 9218868437227405312 := by decide
   have e2 : FloatKind.f64.format.signWeight = 9223372036854775808 := by decide
   rw [e1,e2,decide_eq_true_eq]
   rcases Nat.mod_two_eq_zero_or_one t with hq | hq <;> rw [hq] <;> omega
theorem fv_nanBits (k : FloatKind) (x y t : Nat) : FV k ((Question.nanBits k x y).cut t) (nan k) := by
 have := fv_cut k t
 cases k <;> exact this
theorem fv_nanConv (k : FloatKind) (x t : Nat) : FV k ((Question.nanConv k x).cut t) (nan k) := by
 have := fv_cut k t
 cases k <;> exact this
theorem fv_nanMinMax (k : FloatKind) (m : Bool) (x y t : Nat) : FV k ((Question.nanMinMax k m x y).cut t) (nan k) := by
 have := fv_cut k t
 cases k <;> exact this

theorem fv_ofInt (k : FloatKind) (n : Int) : FV k (k.nearest n) (ofInt k n) := by
 show FV k (k.format.write (.number (n < 0) n.natAbs 0)) (k.format.write (.number (n < 0) n.natAbs 0))
 exact ⟨k.format.write_lt _,cn_of_not (write_not_nan _ _ rfl)⟩

/- Conversions between the kinds. -/
def widen (c : Nat) : Nat := if isNaN .f32 c then nan .f64 else FloatKind.f64.encode (FloatKind.f32.decode c)
def narrow (c : Nat) : Nat := if isNaN .f64 c then nan .f32 else FloatKind.f32.encode (FloatKind.f64.decode c)
def narrowOk (c : Nat) : Bool := match FloatKind.f64.decode c with
 | .number s m e => !(FloatKind.f32.decode (FloatKind.f32.encode (.number s m e))).isInfinity
 | _ => true

theorem read_word_number (f : Format) (neg : Bool) {rung : Nat} (h : rung < f.infRung) : (f.read (f.word neg rung)).isInfinity = false := by
 have h1 := f.infRung_lt
 have h2 : (f.word neg rung) % f.signWeight = rung := by
  unfold Format.word
  split
  ·rw [Nat.add_mod_left]; exact Nat.mod_eq_of_lt (by omega)
  ·exact Nat.mod_eq_of_lt (by omega)
 unfold Format.read
 simp only [h2]
 split
 ·rfl
 ·first | rfl | (rw [if_pos h]; rfl)
theorem cut_zero (way : Toward) (neg : Bool) (n : Nat) (hw : way = .even) : way.cut neg n 0 = n := by
 subst hw
 unfold Toward.cut
 simp [Nat.mod_one]
theorem read_f32_number {c : Nat} {s : Bool} {m : Nat} {e : Int} (h : FloatKind.f32.decode c = .number s m e) : m < 2 ^ 24 ∧ -149 ≤ e ∧ e ≤ 104 := by
 have e1 : FloatKind.f32.format.infRung = 2139095040 := by decide
 have e2 : FloatKind.f32.format.binade = 8388608 := by decide
 have e3 : FloatKind.f32.format.leastPlace = -149 := by decide
 unfold FloatKind.decode Format.read at h
 dsimp only at h
 rw [e1,e2,e3] at h
 split at h
 ·cases h; omega
 ·split at h
  ·rename_i h1 h2
   cases h
   generalize c % FloatKind.f32.format.signWeight = r at *
   omega
  ·split at h <;> cases h
theorem widen_ok {c : Nat} {s : Bool} {m : Nat} {e : Int} (h : FloatKind.f32.decode c = .number s m e) : (FloatKind.f64.decode (FloatKind.f64.encode (.number s m e))).isInfinity = false := by
 obtain ⟨hm,h1,h2⟩ := read_f32_number h
 show (FloatKind.f64.format.read (FloatKind.f64.format.nearest s m e)).isInfinity = false
 have e1 : FloatKind.f64.format.infRung = 9218868437227405312 := by decide
 have e2 : FloatKind.f64.format.binade = 4503599627370496 := by decide
 have e3 : FloatKind.f64.format.leastPlace = -1074 := by decide
 have e4 : FloatKind.f64.format.fractionBits = 52 := by decide
 unfold Format.nearest
 rw [e2,e3,e4]
 split
 ·exact read_word_number _ _ (by rw [e1]; decide)
 ·rename_i h0
  have hL : m.log2 ≤ 23 := by
   have := (Nat.log2_lt h0).2 hm
   omega
  have hlt : m < 2 ^ (m.log2 + 1) := Nat.lt_log2_self
  dsimp only
  generalize hl : m.log2 = L at *
  generalize hla : max (e + (L : Int) - ((52 : Nat) : Int)) (-1074) = last
  have hlast : last ≤ 75 := by omega
  have hlast2 : last < e := by omega
  have hd : (last - e).toNat = 0 := by omega
  rw [hd,cut_zero _ _ _ rfl]
  refine read_word_number _ _ ?_
  have hs : (e - last).toNat ≤ 52 - L := by omega
  have hk : m <<< (e - last).toNat < 2 ^ 53 := by
   rw [Nat.shiftLeft_eq]
   calc m * 2 ^ (e - last).toNat < 2 ^ (L + 1) * 2 ^ (e - last).toNat := Nat.mul_lt_mul_of_pos_right hlt (Nat.two_pow_pos _)
    _ = 2 ^ (L + 1 + (e - last).toNat) := by rw [← Nat.pow_add]
    _ ≤ 2 ^ 53 := Nat.pow_le_pow_right (by decide) (by omega)
  have hq : (last - -1074).toNat ≤ 1149 := by omega
  rw [e1]
  generalize m <<< (e - last).toNat = n at *
  have h3 : (last - -1074).toNat * 4503599627370496 ≤ 1149 * 4503599627370496 := Nat.mul_le_mul_right _ hq
  have h4 : (last - -1074).toNat * 4503599627370496 + n < 1149 * 4503599627370496 + 2 ^ 53 := Nat.add_lt_add_of_le_of_lt h3 hk
  have h5 : 1149 * 4503599627370496 + 2 ^ 53 ≤ 9218868437227405312 := by decide
  exact Nat.lt_of_le_of_lt (Nat.min_le_left _ _) (Nat.lt_of_lt_of_le h4 h5)
theorem decode_of_nan {k : FloatKind} {b : Nat} (h : isNaN k b = true) : ∃ s t,k.decode b = .nan s t := by
 unfold isNaN at h
 show ∃ s t,k.format.read b = .nan s t
 cases hd : k.format.read b with
 | nan s t => exact ⟨s,t,rfl⟩
 | number => rw [hd] at h; cases h
 | infinity => rw [hd] at h; cases h

/- A number's integral part,as an integer. -/
def f2i (k : FloatKind) (c : Nat) : Option Int := (k.decode c).toInt .zero
theorem f2i_fv {k : FloatKind} {x c : Nat} (h : FV k x c) : (k.decode x).toInt .zero = f2i k c := by
 by_cases hn : isNaN k x = true
 ·obtain ⟨s,t,e⟩ := decode_of_nan hn
  obtain ⟨s',t',e'⟩ := decode_of_nan (by rw [h.nan] at hn; exact hn)
  unfold f2i; rw [e,e']; rfl
 ·unfold f2i; rw [h.not (by rw [← h.nan]; simpa using hn)]
def integral (way : Toward) (c : Nat) : Nat := if isNaN .f64 c then nan .f64 else FloatKind.f64.encode ((FloatKind.f64.decode c).integral way)

/- max and min of two,as the built-in functions have them -/
def fmax (k : FloatKind) (x y : Nat) : Nat := match ford k x y with
 | none => nan k
 | some .lt => y
 | some .gt => x
 | some .eq => if (k.decode x).neg then y else x
def fmin (k : FloatKind) (x y : Nat) : Nat := match ford k x y with
 | none => nan k
 | some .lt => x
 | some .gt => y
 | some .eq => if (k.decode x).neg then x else y
theorem ford_some {k : FloatKind} {x y : Nat} {o : Ordering} (h : ford k x y = some o) : isNaN k x = false ∧ isNaN k y = false := by
 unfold ford Format.order at h
 unfold isNaN
 constructor
 ·cases hd : k.format.read x <;> first | rfl | (rw [hd] at h; cases h)
 ·cases hd : k.format.read y <;> first | rfl | (rw [hd] at h; cases hx : k.format.read x <;> rw [hx] at h <;> cases h)

end Go.Ab

namespace Go.Ab
open Go.RowKit

inductive AV where
 | any
 | bool (b : Bool)
 | int (k : IntKind) (n : Int)
 | flt (k : FloatKind) (c : Nat)
 | str (l : List UInt8)
 | agg (cs : List AV)
 | tup (vs : List AV)
 | sl (xs : List AV)
 | snil
 | ptr (x : AV) (off : Nat)
 | fn (f : Fn) (first caps : List AV)
 | lptr (l i off : Nat)
 | lsl (l off len : Nat)
 | raw (v : Value)
 deriving Inhabited

def AV.cells : AV → List AV
 | .agg cs => cs
 | x => [x]
def AV.one : AV → Bool
 | .any | .agg _ | .tup _ | .raw _ => false
 | _ => true

def vone : Value → Bool
 | .agg _ | .tuple _ => false
 | _ => true

def Nil0 (v : Value) : Prop := v = .slice none 0 0 ∨ ∃ a,v = .slice (some a) 0 0

inductive V0 (w : World) (Z : Nat → Prop) : Value → AV → Prop where
 | any (v : Value) : V0 w Z v .any
 | raw (v : Value) : V0 w Z v (.raw v)
 | bool (b : Bool) : V0 w Z (.bool b) (.bool b)
 | int (k : IntKind) (n : Int) (h : (Lit.int k n).wf = true) : V0 w Z (.int k n) (.int k n)
 | flt (k : FloatKind) (b c : Nat) (h : FV k b c) : V0 w Z (.float k b) (.flt k c)
 | str (s : ByteArray) (h : s.size ≤ maxLen) : V0 w Z (.string s) (.str s.data.toList)
 | agg (cs : Array Value) (ds : List AV) (hl : cs.size = ds.length) (h : ∀ (i : Nat) c d,cs[i]? = some c → ds[i]? = some d → V0 w Z c d) : V0 w Z (.agg cs) (.agg ds)
 | tup (cs : Array Value) (ds : List AV) (hl : cs.size = ds.length) (h : ∀ (i : Nat) c d,cs[i]? = some c → ds[i]? = some d → V0 w Z c d) : V0 w Z (.tuple cs) (.tup ds)
 | fn (f : Fn) (c1 c2 : Array Value) (d1 d2 : List AV) (hl1 : c1.size = d1.length) (hl2 : c2.size = d2.length) (h1 : ∀ (i : Nat) c d,c1[i]? = some c → d1[i]? = some d → V0 w Z c d)
   (h2 : ∀ (i : Nat) c d,c2[i]? = some c → d2[i]? = some d → V0 w Z c d) : V0 w Z (.func f c1 c2) (.fn f d1 d2)
 | sl (B o len cap es : Nat) (xs : List AV) (hl : xs.length = len) (hc : len ≤ cap) (hm : len ≤ maxLen) (hz : xs ≠ [] → Z B) (hs : ∀ x ∈ xs,x.cells.length = es)
   (hk : ∀ (i : Nat) x (j : Nat) d,xs[i]? = some x → x.cells[j]? = some d → ∃ c,w.cell? ⟨B,o + i * es + j,none⟩ = some c)
   (h : ∀ (i : Nat) x (j : Nat) d c,xs[i]? = some x → x.cells[j]? = some d → w.cell? ⟨B,o + i * es + j,none⟩ = some c → V0 w Z c d) : V0 w Z (.slice (some ⟨B,o,none⟩) len cap) (.sl xs)
 | slnil {v : Value} (hv : Nil0 v) : V0 w Z v (.sl [])
 | snil : V0 w Z (.slice none 0 0) .snil
 | ptr (B o off : Nat) (x : AV) (hz : x.cells ≠ [] → Z B) (hk : ∀ (j : Nat) d,x.cells[j]? = some d → ∃ c,w.cell? ⟨B,o + j,none⟩ = some c)
   (h : ∀ (j : Nat) d c,x.cells[j]? = some d → w.cell? ⟨B,o + j,none⟩ = some c → V0 w Z c d) : V0 w Z (.pointer (some ⟨B,o + off,none⟩)) (.ptr x off)

theorem ne_of_get {α : Type} {xs : List α} {i : Nat} {x : α} (h : xs[i]? = some x) : xs ≠ [] := by rintro rfl; simp at h

theorem V0.mono {w w' : World} {Z Z' : Nat → Prop} (hw : ∀ b,Z b → Z' b ∧ w'.heap[b]? = w.heap[b]?) {v : Value} {a : AV} (h : V0 w Z v a) : V0 w' Z' v a := by
 induction h with
 | any v => exact .any v
 | raw v => exact .raw v
 | bool b => exact .bool b
 | int k n h => exact .int k n h
 | flt k b c h => exact .flt k b c h
 | str s h => exact .str s h
 | agg cs ds hl _ ih => exact .agg cs ds hl ih
 | tup cs ds hl _ ih => exact .tup cs ds hl ih
 | fn f c1 c2 d1 d2 hl1 hl2 _ _ ih1 ih2 => exact .fn f c1 c2 d1 d2 hl1 hl2 ih1 ih2
 | sl B o len cap es xs hl hc hm hz hs hk _ ih =>
  refine .sl B o len cap es xs hl hc hm (fun he => (hw B (hz he)).1) hs (fun i x j d hx hj => ?_) (fun i x j d c hx hj hcell => ?_)
  ·obtain ⟨c,hc⟩ := hk i x j d hx hj
   exact ⟨c,by rw [World.cell?_of_block (w := w) (hw B (hz (ne_of_get hx))).2]; exact hc⟩
  ·rw [World.cell?_of_block (w := w) (hw B (hz (ne_of_get hx))).2] at hcell
   exact ih i x j d c hx hj hcell
 | slnil hv => exact .slnil hv
 | snil => exact .snil
 | ptr B o off x hz hk _ ih =>
  refine .ptr B o off x (fun he => (hw B (hz he)).1) (fun j d hj => ?_) (fun j d c hj hcell => ?_)
  ·obtain ⟨c,hc⟩ := hk j d hj
   exact ⟨c,by rw [World.cell?_of_block (w := w) (hw B (hz (ne_of_get hj))).2]; exact hc⟩
  ·rw [World.cell?_of_block (w := w) (hw B (hz (ne_of_get hj))).2] at hcell
   exact ih j d c hj hcell

theorem V0.one {w : World} {Z : Nat → Prop} {v : Value} {a : AV} (h : V0 w Z v a) (ha : a.one = true) : vone v = true := by
 cases h <;> first | rfl | (cases ha; done) | (rename_i hv; rcases hv with rfl | ⟨_,rfl⟩ <;> rfl)

theorem Nil0.v0 {w : World} {Z : Nat → Prop} {v : Value} (h : Nil0 v) : V0 w Z v (.sl []) := .slnil h

structure Blk where
 es : Nat
 pur : Bool
 elems : List AV
 deriving Inhabited

inductive V (ρ : Nat → Option Nat) (h : Nat → Option Blk) (w : World) (Z : Nat → Prop) : Value → AV → Prop where
 | pure {v : Value} {a : AV} (hv : V0 w Z v a) : V ρ h w Z v a
 | agg (cs : Array Value) (ds : List AV) (hl : cs.size = ds.length) (hd : ∀ (i : Nat) c d,cs[i]? = some c → ds[i]? = some d → V ρ h w Z c d) : V ρ h w Z (.agg cs) (.agg ds)
 | tup (cs : Array Value) (ds : List AV) (hl : cs.size = ds.length) (hd : ∀ (i : Nat) c d,cs[i]? = some c → ds[i]? = some d → V ρ h w Z c d) : V ρ h w Z (.tuple cs) (.tup ds)
 | fn (f : Fn) (c1 c2 : Array Value) (d1 d2 : List AV) (hl1 : c1.size = d1.length) (hl2 : c2.size = d2.length) (h1 : ∀ (i : Nat) c d,c1[i]? = some c → d1[i]? = some d → V ρ h w Z c d)
   (h2 : ∀ (i : Nat) c d,c2[i]? = some c → d2[i]? = some d → V ρ h w Z c d) : V ρ h w Z (.func f c1 c2) (.fn f d1 d2)
 | lptr (l i off B : Nat) (b : Blk) (hρ : ρ l = some B) (hh : h l = some b) : V ρ h w Z (.pointer (some ⟨B,i * b.es + off,none⟩)) (.lptr l i off)
 | lsl (l off len cap B : Nat) (b : Blk) (t : TypeId) (n : Nat) (hρ : ρ l = some B) (hh : h l = some b) (hw : w.shape? B = some (t,n)) (hc : len ≤ cap) (hn : (off + cap) * b.es ≤ n) (hl : off + len ≤ b.elems.length) (hm : len ≤ maxLen) :
   V ρ h w Z (.slice (some ⟨B,off * b.es,none⟩) len cap) (.lsl l off len)
 | lnil (l : Nat) (b : Blk) {v : Value} (hv : Nil0 v) (hρ : ρ l = none) (hh : h l = some b) : V ρ h w Z v (.lsl l 0 0)

theorem V.one {ρ h} {w : World} {Z : Nat → Prop} {v : Value} {a : AV} (hv : V ρ h w Z v a) (ha : a.one = true) : vone v = true := by
 cases hv with
 | pure h0 => exact h0.one ha
 | lnil _ _ hv => rcases hv with rfl | ⟨_,rfl⟩ <;> rfl
 | agg => cases ha
 | tup => cases ha
 | fn => rfl
 | lptr => rfl
 | lsl => rfl

theorem V.mono {ρ ρ' : Nat → Option Nat} {h h' : Nat → Option Blk} {w w' : World} {Z Z' : Nat → Prop}
  (hw : ∀ b,Z b → Z' b ∧ w'.heap[b]? = w.heap[b]?)
  (hr : ∀ l b,h l = some b → ρ' l = ρ l ∧ (∃ b',h' l = some b' ∧ b'.es = b.es ∧ b'.elems.length = b.elems.length) ∧ ∀ B,ρ l = some B → w'.shape? B = w.shape? B)
  {v : Value} {a : AV} (hv : V ρ h w Z v a) : V ρ' h' w' Z' v a := by
 induction hv with
 | pure hv => exact .pure (hv.mono hw)
 | agg cs ds hl _ ih => exact .agg cs ds hl ih
 | tup cs ds hl _ ih => exact .tup cs ds hl ih
 | fn f c1 c2 d1 d2 hl1 hl2 _ _ ih1 ih2 => exact .fn f c1 c2 d1 d2 hl1 hl2 ih1 ih2
 | lptr l i off B b hρ hh =>
  obtain ⟨e1,⟨b',hb',es',_⟩,_⟩ := hr l b hh
  rw [← es']
  exact .lptr l i off B b' (by rw [e1]; exact hρ) hb'
 | lsl l off len cap B b t n hρ hh hw' hc hn hl hm =>
  obtain ⟨e1,⟨b',hb',es',el'⟩,e3⟩ := hr l b hh
  rw [← es'] at hn
  rw [← es']
  exact .lsl l off len cap B b' t n (by rw [e1]; exact hρ) hb' (by rw [e3 B hρ]; exact hw') hc hn (by rw [el']; exact hl) hm
 | lnil l b hv hρ hh =>
  obtain ⟨e1,⟨b',hb',_⟩,_⟩ := hr l b hh
  exact .lnil l b' hv (by rw [e1]; exact hρ) hb'

structure Hp (ρ : Nat → Option Nat) (h : Nat → Option Blk) (w : World) (Z : Nat → Prop) : Prop where
 blk : ∀ l b B,h l = some b → ρ l = some B → ∃ c t,w.heap[B]? = some (.cells c t (0,0)) ∧ b.elems.length * b.es ≤ c.size ∧ (∀ x ∈ b.elems,x.cells.length = b.es) ∧
  (∀ (i : Nat) x (j : Nat) d v,b.elems[i]? = some x → x.cells[j]? = some d → c[i * b.es + j]? = some v → V ρ h w Z v d) ∧
  (b.pur = true → ∀ (i : Nat) x (j : Nat) d v,b.elems[i]? = some x → x.cells[j]? = some d → c[i * b.es + j]? = some v → V0 w Z v d)
 nil : ∀ l b,h l = some b → ρ l = none → b.elems = []
 inj : ∀ l l' B,(h l).isSome = true → (h l').isSome = true → ρ l = some B → ρ l' = some B → l = l'

def Zf (Z0 : Nat → Prop) (base : Nat) (ρ : Nat → Option Nat) (h : Nat → Option Blk) (w : World) (b : Nat) : Prop :=
 (Z0 b ∨ base ≤ b) ∧ b < w.heap.size ∧ ∀ l,(h l).isSome = true → ρ l ≠ some b

structure Fr (base : Nat) (M : Nat → Prop) (w0 w : World) : Prop where
 os : w.os = w0.os
 tape : w.tape = w0.tape
 output : w.output = w0.output
 size : w0.heap.size ≤ w.heap.size
 base_le : base ≤ w0.heap.size
 block : ∀ b,b < base → ¬ M b → w.heap[b]? = w0.heap[b]?

theorem Fr.refl (M : Nat → Prop) (w : World) : Fr w.heap.size M w w := ⟨rfl,rfl,rfl,Nat.le_refl _,Nat.le_refl _,fun _ _ _ => rfl⟩
theorem Fr.below {w0 w : World} (h : Fr w0.heap.size (fun _ => False) w0 w) : Below w0.heap.size w0 w :=
 ⟨h.os,h.tape,h.output,h.size,fun k hk => h.block k hk id⟩

def lk {α : Type} (d : α) : List (Nat × α) → Nat → α
 | [],_ => d
 | (k,v) :: r,t => if k = t then v else lk d r t

structure St where
 env : List (Nat × AV)
 heap : List (Nat × Option Blk)
 deriving Inhabited
def St.get (st : St) (t : Nat) : AV := lk .any st.env t
def St.hp (st : St) (l : Nat) : Option Blk := lk none st.heap l
def St.set (st : St) (t : Nat) (v : AV) : St := ⟨(t,v) :: st.env,st.heap⟩
def St.put (st : St) (dst : Option Nat) (v : AV) : St := match dst with | some d => st.set d v | none => st
def St.setH (st : St) (l : Nat) (b : Option Blk) : St := ⟨st.env,(l,b) :: st.heap⟩

theorem St.get_set (st : St) (t u : Nat) (v : AV) : (st.set t v).get u = if t = u then v else st.get u := rfl
theorem St.hp_set (st : St) (t l : Nat) (v : AV) : (st.set t v).hp l = st.hp l := rfl
theorem St.get_setH (st : St) (t l : Nat) (b : Option Blk) : (st.setH l b).get t = st.get t := rfl
theorem St.hp_setH (st : St) (l m : Nat) (b : Option Blk) : (st.setH l b).hp m = if l = m then b else st.hp m := rfl
theorem St.hp_put (st : St) (dst : Option Nat) (l : Nat) (v : AV) : (st.put dst v).hp l = st.hp l := by cases dst <;> rfl

structure Cfg where
 n : Nat
 base : Nat
 M : Nat → Prop
 Z0 : Nat → Prop
 w0 : World
 hM : ∀ b,M b → Z0 b
 ρ0 : Nat → Option Nat
 hn : n ≤ 1000000
 k3 : Bool
def Cfg.pn (cf : Cfg) (l : Nat) : Prop := 1000000 ≤ l ∧ l % 4 ≠ 2 ∧ (l % 4 = 3 → cf.k3 = true)

structure StRρ (cf : Cfg) (ρ : Nat → Option Nat) (st : St) (a : Act) (w : World) : Prop where
 hp : Hp ρ st.hp w (Zf cf.Z0 cf.base ρ st.hp w)
 tmp : ∀ t,V ρ st.hp w (Zf cf.Z0 cf.base ρ st.hp w) (a.tmps.getD t undef) (st.get t)
 size : a.tmps.size = cf.n
 defers : a.defers = []
 fr : Fr cf.base cf.M cf.w0 w
 own : ∀ l B,(st.hp l).isSome = true → ρ l = some B → cf.base ≤ B ∨ cf.M B
 z0 : ∀ b,cf.Z0 b → b < cf.base
 pin : ∀ l,cf.pn l → ρ l = cf.ρ0 l
 shp : ∀ b,b < cf.base → w.shape? b = cf.w0.shape? b
def StR (cf : Cfg) (st : St) (a : Act) (w : World) : Prop := ∃ ρ,StRρ cf ρ st a w

end Go.Ab

namespace Go.Ab

inductive Opd where
 | t (n : Nat)
 | c (a : AV)
 | f (id : Nat)
 | o (n l : Nat)
 | p (n : Nat)
 deriving Inhabited

inductive CD where
 | int (k : IntKind)
 | flt (k : FloatKind)
 | str
 deriving Inhabited

inductive CT where
 | fn (id : Nat)
 | dyn (x : Opd)
 deriving Inhabited

inductive IOp where
 | mov (x : Opd)
 | pick (c a b : Opd)
 | alloc (z : AV)
 | box (es : Nat) (x : Opd)
 | build (zero : List AV) (parts : List (Nat × Nat × Opd))
 | bslice (es len : Nat) (zero : AV) (parts : List (Nat × Opd))
 | load (n : Option Nat) (x : Opd)
 | store (n : Nat) (a x : Opd)
 | nilchk (x : Opd)
 | bin (op : BinOp) (isb : Bool) (x y : Opd)
 | eqnil (neg : Bool) (x : Opd)
 | un (op : UnOp) (x : Opd)
 | conv (d : CD) (x : Opd)
 | mkslice (es bytes : Nat) (zero : AV) (len cap : Opd)
 | sliceS (x : Opd) (lo hi : Option Opd)
 | sliceX (es : Nat) (x : Opd) (lo hi : Option Opd)
 | faddr (off : Nat) (x : Opd)
 | iaddrA (len es : Nat) (x i : Opd)
 | iaddrS (es : Nat) (x i : Opd)
 | idxA (len es : Nat) (x i : Opd)
 | idxS (x i : Opd)
 | field (off : Nat) (n : Option Nat) (x : Opd)
 | extract (x : Opd) (i : Nat)
 | call (f : CT) (args : List Opd) (own : List Nat)
 | callM (f : Nat) (args : List Opd)
 | len (isStr : Bool) (x : Opd)
 | append (es bytes : Nat) (x y : Opd)
 | mm (mx : Bool) (x y : Opd)
 | mkfn (f : Fn) (first caps : List Opd)
 | zero3 (es : Nat) (x : Opd)
 | copy (es bytes : Nat) (x y : Opd)
 | dead
 deriving Inhabited

structure IOper where
 dst : Option Nat
 g : Option (Nat × Bool)
 op : IOp
 deriving Inhabited

inductive ICode where
 | skip
 | reg (ops : List IOper) (keep : List Nat)
 | seq (a b : ICode)
 | cond (c : Opd) (a b : ICode)
 | block (id : Nat) (c : ICode)
 | loop (c : ICode)
 | exit (id : Nat)
 | ret
 deriving Inhabited

/-! ### Compilation -/

def constCell : Value → Option AV
 | .bool b => some (.bool b)
 | .int k n => if (Lit.int k n).wf = true then some (.int k n) else none
 | .float k b => if b < 2 ^ k.format.width then some (.flt k (cn k b)) else none
 | .string s => if s.size ≤ maxLen then some (.str s.data.toList) else none
 | .slice none 0 0 => some .snil
 | .pointer none | .nilFunc | .nilIface => some .any
 | _ => none
def constAV : Value → Option AV
 | .agg cs => (cs.toList.mapM constCell).map .agg
 | v => constCell v
def cOpd : Operand → Option Opd
 | .tmp t => some (.t t)
 | .const v => (constAV v).map .c
 | .func f => some (.f f)
 | .global _ => none

section
variable (P : Program)
def aggT (t : TypeId) : Option Bool := match P.underlying t with
 | some (.struct _) | some (.array _ _) => some true
 | some _ => some false
 | none => none
def sizeT (t : TypeId) : Option Nat := (P.info? t).map (·.size)
def bytesT (t : TypeId) : Option Nat := (P.info? t).map (·.bytes)
def zeroT (t : TypeId) : Option AV := ((P.info? t).bind (·.zero)).bind constAV
def loadT (t : TypeId) : Option (Option Nat) := match aggT P t,sizeT P t with
 | some true,some n => some (some n)
 | some false,some _ => some none
 | _,_ => none
def elemT (t : TypeId) : Option TypeId := match P.underlying t with
 | some (.slice e) => some e
 | _ => none
def placesT (fs : Array Field) : Option (List (Nat × Nat)) := fs.toList.mapM fun f => (P.info? f.type).map fun i => (f.offset,i.size)
def partsG (pl : Nat → Option (Nat × Nat)) : List (Nat × Operand) → Option (List (Nat × Nat × Opd))
 | [] => some []
 | (i,x) :: r => match pl i,cOpd x,partsG pl r with
  | some (off,n),some x,some r => some ((off,n,x) :: r)
  | _,_,_ => none
def partsS : List (Nat × Operand) → Option (List (Nat × Opd))
 | [] => some []
 | (i,x) :: r => match cOpd x,partsS r with
  | some x,some r => some ((i,x) :: r)
  | _,_ => none
def cOpds (xs : List Operand) : Option (List Opd) := xs.mapM cOpd
def optOpd : Option Operand → Option (Option Opd)
 | none => some none
 | some x => (cOpd x).map some
def isSliceT (t : TypeId) : Bool := match P.underlying t with | some (.slice _) => true | _ => false
def isBoolT (t : TypeId) : Bool := match P.underlying t with | some .bool => true | _ => false
def isU8T (t : TypeId) : Bool := match P.underlying t with | some (.int .u8) => true | _ => false
def appT (t : TypeId) : Bool := match P.underlying t with | some (.slice _) | some .string => true | _ => false
def scalarT (t : TypeId) : Bool := match P.underlying t with | some .bool | some (.int _) | some (.float _) | some .string => true | _ => false

def is0 : Option Operand → Bool
 | some (.const (.int _ n)) => n == 0
 | _ => false

def cOp (own : List Nat) (mu : List Nat) : Op → Option IOp
 | .move x | .assign x => (cOpd x).map .mov
 | .pick c a b => do pure (.pick (← cOpd c) (← cOpd a) (← cOpd b))
 | .alloc e => (zeroT P e).map .alloc
 | .box e x => do pure (.box (← sizeT P e) (← cOpd x))
 | .build t parts => do
  let .agg z ← zeroT P t | none
  match P.underlying t with
  | some (.struct fs) => do
   let pl ← placesT P fs
   pure (.build z (← partsG (pl.toArray[·]?) parts.toList))
  | some (.array _ e) => do
   let es ← sizeT P e
   pure (.build z (← partsG (fun i => some (i * es,es)) parts.toList))
  | _ => none
 | .buildSlice t len parts => do
  let e ← elemT P t
  let es ← sizeT P e
  if len * es ≤ 2 ^ 20 ∧ len ≤ 2 ^ 20 then pure (.bslice es len (← zeroT P e) (← partsS parts.toList)) else none
 | .load t a => do pure (.load (← loadT P t) (← cOpd a))
 | .store t a x => do
  let n ← sizeT P t
  pure (.store n (← cOpd a) (← cOpd x))
 | .nilCheck x => (cOpd x).map .nilchk
 | .binOp op t x y _ =>
  match op,y with
  | .eql,.const (.slice none 0 0) => if isSliceT P t then (cOpd x).map (.eqnil false) else none
  | .neq,.const (.slice none 0 0) => if isSliceT P t then (cOpd x).map (.eqnil true) else none
  | _,_ => if scalarT P t then do pure (.bin op (isBoolT P t) (← cOpd x) (← cOpd y)) else none
 | .unOp op _ x => (cOpd x).map (.un op)
 | .convert s d x =>
  match P.underlying s,P.underlying d with
  | some (.int _),some (.int k) | some (.float _),some (.int k) => (cOpd x).map (.conv (.int k))
  | some (.int _),some (.float k) | some (.float _),some (.float k) => (cOpd x).map (.conv (.flt k))
  | some (.slice e),some .string => if isU8T P e then (cOpd x).map (.conv .str) else none
  | _,_ => none
 | .makeSlice t l c => do
  let e ← elemT P t
  pure (.mkslice (← sizeT P e) (← bytesT P e) (← zeroT P e) (← cOpd l) (← cOpd c))
 | .slice t x lo hi mx =>
  match mx,P.underlying t with
  | none,some .string => do pure (.sliceS (← cOpd x) (← optOpd lo) (← optOpd hi))
  | none,some (.slice e) => do pure (.sliceX (← sizeT P e) (← cOpd x) (← optOpd lo) (← optOpd hi))
  | some m,some (.slice e) => if is0 (some m) = true ∧ is0 hi = true ∧ (lo.isNone || is0 lo) = true then do pure (.zero3 (← sizeT P e) (← cOpd x)) else none
  | _,_ => none
 | .fieldAddr s x f =>
  match P.underlying s with
  | some (.struct fs) => do
   let f ← fs[f]?
   if (sizeT P f.type).getD 0 = 0 then none else pure (.faddr f.offset (← cOpd x))
  | _ => none
 | .indexAddr t x i =>
  match P.underlying t with
  | some (.array n e) => do pure (.iaddrA n (← sizeT P e) (← cOpd x) (← cOpd i))
  | some (.slice e) => do pure (.iaddrS (← sizeT P e) (← cOpd x) (← cOpd i))
  | _ => none
 | .index t x i =>
  match P.underlying t with
  | some (.array n e) => if aggT P e = some false then do pure (.idxA n (← sizeT P e) (← cOpd x) (← cOpd i)) else none
  | some .string => do pure (.idxS (← cOpd x) (← cOpd i))
  | _ => none
 | .field t x f =>
  match P.underlying t with
  | some (.struct fs) => do
   let f ← fs[f]?
   pure (.field f.offset (← loadT P f.type) (← cOpd x))
  | _ => none
 | .extract x i => do pure (.extract (← cOpd x) i)
 | .makeFunc fn first caps => do pure (.mkfn fn (← cOpds first.toList) (← cOpds caps.toList))
 | .call c =>
  match c.callee with
  | .value (.func f) =>
   match P.funcs[f]? with
   | some fn => if fn.name == "runtime.NumGoroutine" then none else
    if mu.contains f then do pure (.callM f (← cOpds c.args.toList)) else do pure (.call (.fn f) (← cOpds c.args.toList) own)
   | none => none
  | .value (.tmp t) => do pure (.call (.dyn (.t t)) (← cOpds c.args.toList) own)
  | .builtin .len =>
   match c.args.toList,(c.argTypes[0]?).bind P.underlying with
   | [x],some .string => (cOpd x).map (.len true)
   | [x],some (.slice _) => (cOpd x).map (.len false)
   | _,_ => none
  | .builtin .append =>
   match c.args.toList,c.argTypes.toList with
   | [x,y],[t,u] => do
    let e ← elemT P t
    let es ← sizeT P e
    let z ← zeroT P e
    if z.cells.length = es ∧ appT P u = true then pure (.append es (← bytesT P e) (← cOpd x) (← cOpd y)) else none
   | _,_ => none
  | .builtin .max => match c.args.toList with
   | [x,y] => do pure (.mm true (← cOpd x) (← cOpd y))
   | _ => none
  | .builtin .min => match c.args.toList with
   | [x,y] => do pure (.mm false (← cOpd x) (← cOpd y))
   | _ => none
  | .builtin .copy =>
   match c.args.toList,c.argTypes.toList with
   | [x,y],[t,u] => do
    let e ← elemT P t
    let es ← sizeT P e
    let z ← zeroT P e
    if z.cells.length = es ∧ appT P u = true then pure (.copy es (← bytesT P e) (← cOpd x) (← cOpd y)) else none
   | _,_ => none
  | _ => none
 | _ => none

def cGuard (ops : Array Oper) : Option (Nat × Bool) → Option (Option (Nat × Bool))
 | none => some none
 | some (j,want) => match (ops[j]?).bind (·.dst) with
  | some t => some (some (t,want))
  | none => none
end
end Go.Ab

namespace Go.Ab

def bitop (op : BinOp) (k : IntKind) (x y : Int) : Int :=
 match op with
 | .and => k.wrap (BitVec.ofInt k.bits x &&& BitVec.ofInt k.bits y).toNat
 | .or => k.wrap (BitVec.ofInt k.bits x ||| BitVec.ofInt k.bits y).toNat
 | .xor => k.wrap (BitVec.ofInt k.bits x ^^^ BitVec.ofInt k.bits y).toNat
 | _ => k.wrap (BitVec.ofInt k.bits x &&& ~~~BitVec.ofInt k.bits y).toNat

def intop (op : BinOp) (k : IntKind) (a b : Int) : Option AV :=
 match op with
 | .add => some (.int k (k.wrap (a + b)))
 | .sub => some (.int k (k.wrap (a - b)))
 | .mul => some (.int k (k.wrap (a * b)))
 | .quo => if b = 0 then none else some (.int k (k.wrap (a.tdiv b)))
 | .rem => if b = 0 then none else some (.int k (a.tmod b))
 | .and => some (.int k (bitop .and k a b))
 | .or => some (.int k (bitop .or k a b))
 | .xor => some (.int k (bitop .xor k a b))
 | .andNot => some (.int k (bitop .andNot k a b))
 | .eql => some (.bool (decide (a = b)))
 | .neq => some (.bool (!decide (a = b)))
 | .lss => some (.bool (decide (a < b)))
 | .leq => some (.bool (decide (a ≤ b)))
 | .gtr => some (.bool (decide (b < a)))
 | .geq => some (.bool (decide (b ≤ a)))
 | .shl => if 0 ≤ b then some (.int k (k.wrap (a * 2 ^ (min b.toNat k.bits)))) else none
 | .shr => if 0 ≤ b then some (.int k (a.fdiv (2 ^ (min b.toNat k.bits)))) else none
def fltop (op : BinOp) (k : FloatKind) (a b : Nat) : Option AV :=
 match op with
 | .add => some (.flt k (fadd k a b))
 | .sub => some (.flt k (fsub k a b))
 | .mul => some (.flt k (fmul k a b))
 | .quo => some (.flt k (fdiv k a b))
 | .eql => some (.bool (feq k a b))
 | .neq => some (.bool (!feq k a b))
 | .lss => some (.bool (flt k a b))
 | .leq => some (.bool (fle k a b))
 | .gtr => some (.bool (flt k b a))
 | .geq => some (.bool (fle k b a))
 | _ => none
def bop (op : BinOp) (isb : Bool) : AV → AV → Option AV
 | .int k a,.int k' b => if k = k' ∨ op = .shl ∨ op = .shr then intop op k a b else none
 | .flt k a,.flt k' b => if k = k' then fltop op k a b else none
 | .str a,.str b => match op with
  | .add => if a.length + b.length ≤ 2 ^ 62 then some (.str (a ++ b)) else none
  | .eql => some (.bool (decide (a = b)))
  | .neq => some (.bool (!decide (a = b)))
  | _ => none
 | .bool a,.bool b => if isb = true then (match op with
  | .eql => some (.bool (a == b))
  | .neq => some (.bool (!(a == b)))
  | _ => none) else none
 | _,_ => none
def uop (op : UnOp) : AV → Option AV
 | .int k n => match op with
  | .neg => some (.int k (k.wrap (0 - n)))
  | _ => none
 | .flt k c => match op with
  | .neg => some (.flt k (fneg k c))
  | _ => none
 | .bool b => match op with
  | .not => some (.bool (!b))
  | _ => none
 | _ => none
def AV.isU8 : AV → Bool
 | .int .u8 _ => true
 | _ => false
def AV.u8 : AV → UInt8
 | .int _ n => UInt8.ofNat n.toNat
 | _ => 0
def f2iK (d : IntKind) : Option Int → Option AV
 | some n => if d.min ≤ n ∧ n ≤ d.max then some (.int d n) else none
 | none => none
def convop (d : CD) (x : AV) : Option AV :=
 match d,x with
 | .int k,.int _ n => some (.int k (k.wrap n))
 | .flt k,.int _ n => some (.flt k (ofInt k n))
 | .int d,.flt k c => f2iK d (f2i k c)
 | .flt .f32,.flt .f32 c => some (.flt .f32 c)
 | .flt .f64,.flt .f64 c => some (.flt .f64 c)
 | .flt .f64,.flt .f32 c => some (.flt .f64 (widen c))
 | .flt .f32,.flt .f64 c => if narrowOk c = true then some (.flt .f32 (narrow c)) else none
 | .str,.sl xs => if xs.all AV.isU8 = true then some (.str (xs.map AV.u8)) else none
 | .str,.snil => some (.str [])
 | _,_ => none

def loadC (n : Option Nat) (x : AV) (off : Nat) : Option AV :=
 match n with
 | none => x.cells[off]?
 | some n => match x with
  | .agg cs => if off = 0 ∧ n = cs.length then some (.agg cs) else if off + n ≤ cs.length then some (.agg ((cs.drop off).take n)) else none
  | _ => none
def storeC (x : AV) (off : Nat) (v : AV) : Option AV :=
 match x,v with
 | .agg cs,.agg vs => if off = 0 ∧ vs.length = cs.length then some (.agg vs) else if off + vs.length ≤ cs.length then some (.agg (cs.take off ++ vs ++ cs.drop (off + vs.length))) else none
 | .agg cs,v => if off < cs.length then some (.agg (cs.set off v)) else none
 | _,.agg _ => none
 | _,v => if off = 0 then some v else none

def refless1 : AV → Bool
 | .lptr .. | .lsl .. | .agg _ | .tup _ => false
 | .fn _ a b => a.isEmpty && b.isEmpty
 | _ => true
def refless : AV → Bool
 | .agg cs => cs.all refless1
 | x => refless1 x
def storable : AV → Bool
 | .agg cs => cs.all AV.one
 | x => x.one

def partL (xs : List AV) (off len : Nat) : List AV := if off = 0 ∧ len = xs.length then xs else (xs.drop off).take len
theorem partL_eq (xs : List AV) (off len : Nat) : partL xs off len = (xs.drop off).take len := by
 unfold partL
 split
 ·rename_i h
  rw [h.1,h.2]; simp
 ·rfl

section
variable (h : Nat → Option Blk)
def pure0 : AV → Option AV
 | .lsl l off len => match h l with
  | some b => if b.pur = true ∧ off + len ≤ b.elems.length then some (.sl (partL b.elems off len)) else none
  | none => none
 | .fn f [] [] => some (.fn f [] [])
 | .lptr .. | .agg _ | .tup _ | .fn .. => none
 | x => some x
def pure0X : AV → Option AV
 | .agg cs => (cs.mapM pure0').map .agg
 | x => pure0 h x
where pure0' := pure0 h
def pureEs (xs : List AV) : Option (List AV) := xs.mapM (pure0X h)
def pure1 : AV → Option AV
 | .lsl l off len => match h l with
  | some b => if b.pur = true ∧ off + len ≤ b.elems.length then some (.sl (partL b.elems off len)) else if off = 0 ∧ len = b.elems.length then (pureEs h b.elems).map .sl else none
  | none => none
 | .fn f [] [] => some (.fn f [] [])
 | .lptr .. | .agg _ | .tup _ | .fn .. => none
 | x => some x
def pureX : AV → Option AV
 | .agg cs => (cs.mapM pure1').map .agg
 | x => pure1 h x
where pure1' := pure1 h
def pureV : AV → Option AV
 | .lptr l i off => match h l with
  | some b => match b.elems[i]? with
   | some x => (pureX h x).map (.ptr · off)
   | none => none
  | none => none
 | .fn f first caps => match first.mapM pureP,caps.mapM pureP with
  | some a,some b => some (.fn f a b)
  | _,_ => none
 | x => pureX h x
where pureP (x : AV) : Option AV := match x with
 | .lptr l i off => match h l with
  | some b => match b.elems[i]? with
   | some x => (pureX h x).map (.ptr · off)
   | none => none
  | none => none
 | x => pureX h x
end

def elemsOf (h : Nat → Option Blk) : AV → Option (List AV)
 | .sl xs => some xs
 | .snil => some []
 | .str l => some (l.map fun b => .int .u8 b.toNat)
 | .lsl l off len => match h l with
  | some b => if b.pur = true ∧ off + len ≤ b.elems.length then some (partL b.elems off len) else none
  | none => none
 | _ => none

def elemsS (h : Nat → Option Blk) : AV → Option (List AV)
 | .str _ => none
 | x => elemsOf h x

def ev (st : St) : Opd → AV
 | .t t => st.get t
 | .c a => a
 | .f id => .fn (.func id) [] []
 | .o t n => match st.get t with
  | .lptr l i off => if l = n then .lptr l i off else .any
  | _ => .any
 | .p t => match st.get t with
  | .ptr x off => .ptr x off
  | .sl xs => .sl xs
  | _ => .any

def laid : AV → Bool
 | .agg _ => true
 | x => x.one
def fillC (st : St) (cells : List AV) : List (Nat × Nat × Opd) → Option (List AV)
 | [] => some cells
 | (off,n,x) :: r =>
  let v := (ev st x).cells
  if laid (ev st x) = true ∧ v.length = n ∧ off + n ≤ cells.length then fillC st (cells.take off ++ v ++ cells.drop (off + n)) r else none
def fillE (st : St) (es : Nat) (xs : List AV) : List (Nat × Opd) → Option (List AV)
 | [] => some xs
 | (i,x) :: r =>
  let v := ev st x
  if v.cells.length = es ∧ refless v = true ∧ storable v = true ∧ i < xs.length then fillE st es (xs.set i v) r else none

def fillH (st : St) (es : Nat) (xs : List AV) : List (Nat × Opd) → Option (List AV)
 | [] => some xs
 | (i,x) :: r =>
  let v := ev st x
  if v.cells.length = es ∧ storable v = true ∧ i < xs.length then fillH st es (xs.set i v) r else none
section
variable (h : Nat → Option Blk)
def vload (n : Option Nat) : AV → Option AV
 | .ptr x off => loadC n x off
 | .lptr l i off => match h l with
  | some b => match b.elems[i]? with
   | some x => loadC n x off
   | none => none
  | none => none
 | _ => none
def viaddrS (es : Nat) (x i : AV) : Option AV := match x,i with
 | .sl xs,.int _ n => if 0 ≤ n then (match xs[n.toNat]? with
  | some x => if x.cells.length = es then some (.ptr x 0) else none
  | none => none) else none
 | .lsl l off len,.int _ n => if 0 ≤ n ∧ n < (len : Int) then (match h l with
  | some b => if b.es = es then some (.lptr l (off + n.toNat) 0) else none
  | none => none) else none
 | _,_ => none
def vconv (d : CD) : AV → Option AV
 | .lsl l off len => match d,elemsOf h (.lsl l off len) with
  | .str,some xs => convop .str (.sl xs)
  | _,_ => none
 | v => convop d v
end
def vnil : AV → Option AV
 | .ptr x off => some (.ptr x off)
 | .lptr l i off => some (.lptr l i off)
 | .fn (.func f) a b => some (.fn (.func f) a b)
 | _ => none
def vsliceS (lo hi : Option Nat → Option Nat) : AV → Option AV
 | .str l => match lo (some 0),hi (some l.length) with
  | some a,some b => if a ≤ b ∧ b ≤ l.length then some (.str ((l.take b).drop a)) else none
  | _,_ => none
 | _ => none
def vsliceX (lo hi : Option Nat → Option Nat) : AV → Option AV
 | .sl xs => match lo (some 0),hi (some xs.length) with
  | some a,some b => if a ≤ b ∧ b ≤ xs.length then some (.sl ((xs.take b).drop a)) else none
  | _,_ => none
 | .lsl l off len => match lo (some 0),hi (some len) with
  | some a,some b => if a ≤ b ∧ b ≤ len then (if a = b then some (.sl []) else some (.lsl l (off + a) (b - a))) else none
  | _,_ => none
 | _ => none
def vfaddr (o : Nat) : AV → Option AV
 | .ptr x off => some (.ptr x (off + o))
 | .lptr l i off => some (.lptr l i (off + o))
 | _ => none
def viaddrA (len es : Nat) (x i : AV) : Option AV := match x,i with
 | .ptr x off,.int _ n => if 0 ≤ n ∧ n < (len : Int) then some (.ptr x (off + n.toNat * es)) else none
 | .lptr l e off,.int _ n => if 0 ≤ n ∧ n < (len : Int) then some (.lptr l e (off + n.toNat * es)) else none
 | _,_ => none
def vidxA (len es : Nat) (x i : AV) : Option AV := match x,i with
 | .agg cs,.int _ n => if 0 ≤ n ∧ n < (len : Int) then cs[n.toNat * es]? else none
 | _,_ => none
def vidxS (x i : AV) : Option AV := match x,i with
 | .str l,.int _ n => if 0 ≤ n then (match l[n.toNat]? with
  | some b => some (.int .u8 b.toNat)
  | none => none) else none
 | _,_ => none
def vfield (off : Nat) (n : Option Nat) : AV → Option AV
 | .agg cs => loadC n (.agg cs) off
 | _ => none
def vextract (i : Nat) : AV → Option AV
 | .tup vs => vs[i]?
 | _ => none
def vlen : Bool → AV → Option AV
 | true,.str l => some (.int .i64 l.length)
 | false,.sl xs => some (.int .i64 xs.length)
 | false,.snil => some (.int .i64 0)
 | false,.lsl _ _ len => some (.int .i64 len)
 | _,_ => none
def vmm (mx : Bool) : AV → AV → Option AV
 | .flt k a,.flt k' b => if k = k' then some (.flt k (if mx = true then fmax k a b else fmin k a b)) else none
 | _,_ => none
def esIs (es : Nat) (x : AV) : Bool := x.cells.length == es
def esSt (es : Nat) (x : AV) : Bool := x.cells.length == es && storable x
def esOk (h : Nat → Option Blk) (es : Nat) : AV → Bool
 | .sl xs => xs.all (esIs es)
 | .lsl l _ _ => match h l with
  | some b => b.es == es
  | none => false
 | _ => false
def bnd (o : Option AV) (d : Option Nat) : Option Nat := match o with
 | none => d
 | some (.int _ n) => if 0 ≤ n then some n.toNat else none
 | _ => none

def vop (st : St) : IOp → Option AV
 | .mov x => some (ev st x)
 | .pick c a b => match ev st c with
  | .bool t => some (if t = true then ev st a else ev st b)
  | _ => none
 | .build zero parts => (fillC st zero parts).map .agg
 | .load n x => vload st.hp n (ev st x)
 | .nilchk x => vnil (ev st x)
 | .bin op isb x y => bop op isb (ev st x) (ev st y)
 | .un op x => uop op (ev st x)
 | .conv d x => vconv st.hp d (ev st x)
 | .sliceS x lo hi => vsliceS (bnd (lo.map (ev st))) (bnd (hi.map (ev st))) (ev st x)
 | .sliceX es x lo hi => if esOk st.hp es (ev st x) = true then vsliceX (bnd (lo.map (ev st))) (bnd (hi.map (ev st))) (ev st x) else none
 | .faddr o x => vfaddr o (ev st x)
 | .iaddrA len es x i => viaddrA len es (ev st x) (ev st i)
 | .iaddrS es x i => viaddrS st.hp es (ev st x) (ev st i)
 | .idxA len es x i => vidxA len es (ev st x) (ev st i)
 | .idxS x i => vidxS (ev st x) (ev st i)
 | .field off n x => vfield off n (ev st x)
 | .extract x i => vextract i (ev st x)
 | .len s x => vlen s (ev st x)
 | .mm mx x y => vmm mx (ev st x) (ev st y)
 | .mkfn f first caps => some (.fn f (first.map (ev st)) (caps.map (ev st)))
 | _ => none

def name1 (l : Nat) : AV → Bool
 | .lptr m _ _ => m == l
 | .lsl m _ _ => m == l
 | .agg _ | .tup _ => true
 | .fn _ a b => !(a.isEmpty && b.isEmpty)
 | _ => false
def hasName (l : Nat) : AV → Bool
 | .agg cs => cs.any (name1 l)
 | .tup cs => cs.any (name1 l)
 | .fn _ a b => a.any (name1 l) || b.any (name1 l)
 | x => name1 l x
def purge (l : Nat) (env : List (Nat × AV)) : List (Nat × AV) := env.map fun p => (p.1,if hasName l p.2 = true then .any else p.2)
def purgeE (l : Nat) : AV → AV
 | .agg cs => .agg (cs.map fun c => if name1 l c = true then .any else c)
 | x => if name1 l x = true then .any else x
def purgeB (l : Nat) (b : Blk) : Blk := if b.pur = true then b else { b with elems := b.elems.map (purgeE l) }
def purgeH (l : Nat) (h : List (Nat × Option Blk)) : List (Nat × Option Blk) := h.map fun p => (p.1,p.2.map (purgeB l))

def flatC : AV → Bool
 | .bool _ | .int .. | .flt .. | .str _ => true
 | _ => false
def flatE : AV → Bool
 | .agg cs => cs.all flatC
 | x => flatC x

def ownC (d : Nat) : List Nat → List AV → Option (List AV × List (Nat × Option Blk))
 | _,[] => some ([],[])
 | e :: es,.sl xs :: r => match ownC (d + 1000) es r with
  | some (ys,bs) => some (.lsl d 0 xs.length :: ys,(d,some ⟨e,true,xs⟩) :: bs)
  | none => none
 | es,x :: r => match ownC (d + 1000) es r with
  | some (ys,bs) => some (x :: ys,bs)
  | none => none
def own1 (d : Nat) (es : List Nat) : AV → Option (AV × List (Nat × Option Blk))
 | .agg cs => match ownC d es cs with
  | some (ys,bs) => some (.agg ys,bs)
  | none => none
 | x => match ownC d es [x] with
  | some ([y],bs) => some (y,bs)
  | _ => none
def isSl : AV → Bool
 | .sl _ | .lsl .. | .snil => true
 | _ => false
def nSl : List AV → Nat
 | [] => 0
 | x :: r => (if isSl x = true then 1 else 0) + nSl r
def ownT (d : Nat) (es : List Nat) : List AV → Option (List AV × List (Nat × Option Blk))
 | [] => some ([],[])
 | x :: r => match own1 d (es.take (nSl x.cells)) x,ownT (d + 100000) (es.drop (nSl x.cells)) r with
  | some (y,bs),some (ys,bs') => some (y :: ys,bs ++ bs')
  | _,_ => none
def ownV (d : Nat) (es : List Nat) : AV → Option (AV × List (Nat × Option Blk))
 | .tup xs => match ownT d es xs with
  | some (ys,bs) => some (.tup ys,bs)
  | none => none
 | x => own1 d es x
def flatT : AV → Bool
 | .tup vs => vs.all flatE
 | x => flatE x
def noDup : List (Nat × Option Blk) → Bool
 | [] => true
 | p :: r => r.all (fun q => !(q.1 == p.1)) && noDup r
def freeNames (st : St) (bs : List (Nat × Option Blk)) : Bool := bs.all (fun p => (st.hp p.1).isNone && decide (p.1 < 1000000)) && noDup bs
inductive Md where
 | any
 | new
 | own (es : List Nat)
 | wr (es : List Nat) (yss : List (List AV))
 | ownH (r' : AV) (H : List (Nat × Blk))
 | wrH (H' : List (Nat × Blk))
 | tk (es : Nat) (ys : List AV)
def Md.isOwn (es : List Nat) : Md → Bool
 | .own l => l == es
 | _ => false
def Md.isWr : Md → Bool
 | .wr .. => true
 | .wrH _ => true
 | .tk .. => true
 | _ => false
def Md.isNew : Md → Bool
 | .new | .own _ | .ownH .. => true
 | _ => false
def Md.isOwnH : Md → Bool
 | .ownH .. => true
 | _ => false
def hEnc (H : List (Nat × Blk)) : AV := .tup (H.map fun p => .tup [.lsl p.1 p.2.es (if p.2.pur = true then 1 else 0),.sl p.2.elems])
def grab0 (h : Nat → Option Blk) : AV → List (Nat × Blk)
 | .lsl l _ _ => match h l with
  | some b => [(l,b)]
  | none => []
 | _ => []
def grabE (h : Nat → Option Blk) (b : Blk) : List (Nat × Blk) := if b.pur = true then [] else b.elems.flatMap fun x => x.cells.flatMap (grab0 h)
def grabC (h : Nat → Option Blk) : AV → List (Nat × Blk)
 | .lsl l _ _ => match h l with
  | some b => (l,b) :: grabE h b
  | none => []
 | _ => []
def grab (h : Nat → Option Blk) (vs : List AV) : List (Nat × Blk) := vs.flatMap fun v => v.cells.flatMap (grabC h)

def wC (h : Nat → Option Blk) : Nat → List AV → Option (List AV × List (Nat × Nat × Blk))
 | _,[] => some ([],[])
 | d,x :: r => match wC h (d + 1000) r with
  | some (ps,qs) => match x with
   | .lsl l off len => match h l with
    | some b => if off = 0 ∧ b.pur = true ∧ len = b.elems.length ∧ b.elems.all flatE = true then some (.sl b.elems :: ps,(d,l,b) :: qs) else none
    | none => none
   | x => if flatC x = true then some (x :: ps,qs) else none
  | none => none
def wA (h : Nat → Option Blk) (d : Nat) : AV → Option (AV × List (Nat × Nat × Blk))
 | .agg cs => match wC h d cs with
  | some (ps,qs) => some (.agg ps,qs)
  | none => none
 | x => match wC h d [x] with
  | some ([p],qs) => some (p,qs)
  | _ => none
def wAs (h : Nat → Option Blk) : Nat → List AV → Option (List AV × List (Nat × Nat × Blk))
 | _,[] => some ([],[])
 | d,x :: r => match wA h d x,wAs h (d + 100000) r with
  | some (p,qs),some (ps,qs') => some (p :: ps,qs ++ qs')
  | _,_ => none
def nmC : Nat → List Nat → List AV → Option (List AV × List (Nat × Blk) × List Nat)
 | _,es,[] => some ([],[],es)
 | d,es,x :: r => match x,es with
  | .sl xs,e :: es => match nmC (d + 1000) es r with
   | some (ys,bs,es') => some (.lsl d 0 xs.length :: ys,(d,⟨e,true,xs⟩) :: bs,es')
   | none => none
  | .sl _,[] => none
  | x,es => match nmC (d + 1000) es r with
   | some (ys,bs,es') => some (x :: ys,bs,es')
   | none => none
def nmA (d : Nat) (es : List Nat) : AV → Option (AV × List (Nat × Blk) × List Nat)
 | .agg cs => match nmC d es cs with
  | some (ys,bs,es') => some (.agg ys,bs,es')
  | none => none
 | x => match nmC d es [x] with
  | some ([y],bs,es') => some (y,bs,es')
  | _ => none
def nmAs : Nat → List Nat → List AV → Option (List AV × List (Nat × Blk) × List Nat)
 | _,es,[] => some ([],[],es)
 | d,es,x :: r => match nmA d es x with
  | some (y,bs,es') => match nmAs (d + 100000) es' r with
   | some (ys,bs',es'') => some (y :: ys,bs ++ bs',es'')
   | none => none
  | none => none
def zipW : List (Nat × Blk) → List (List AV) → Option (List (Nat × Blk))
 | [],[] => some []
 | (n,b) :: q,ys :: yss => match zipW q yss with
  | some r => if ys.length = b.elems.length then some ((n,{ b with elems := ys }) :: r) else none
  | none => none
 | _,_ => none
def noDupN : List Nat → Bool
 | [] => true
 | p :: r => r.all (fun q => !(q == p)) && noDupN r

abbrev Tab := Nat → List AV → Option (AV × Md)

def callTo (st : St) (f : CT) (args : List Opd) : Option (Nat × List AV) :=
 match f with
 | .fn id => some (id,args.map (ev st))
 | .dyn x => match ev st x with
  | .fn (.func id) first caps => some (id,first ++ args.map (ev st) ++ caps)
  | _ => none

def nz : AV → AV
 | .snil => .sl []
 | x => x
def nzE : AV → AV
 | .agg cs => .agg (cs.map nz)
 | x => nz x
def nzV : AV → AV
 | .tup vs => .tup (vs.map nzE)
 | x => nzE x

def noName (l : Nat) (x : AV) : Bool := x.cells.all fun d => !name1 l d
def appH (st : St) (d es bytes : Nat) (ax ay : AV) : Option St := match ay with
 | .lsl ly 0 n => match st.hp ly with
  | some c => if c.es = es ∧ n = c.elems.length ∧ c.elems.all (esSt es) = true ∧ c.elems ≠ [] then (match ax with
   | .snil => if (st.hp d).isNone = true ∧ n * bytes ≤ 2 ^ 44 ∧ n ≤ 2 ^ 44 then some ((st.setH d (some ⟨es,false,c.elems⟩)).set d (.lsl d 0 n)) else none
   | .lsl l 0 len => match st.hp l with
    | some b => if b.pur = false ∧ b.es = es ∧ len = b.elems.length ∧ l < 1000000 ∧ c.elems.all (noName l) = true ∧ b.elems.all (noName l) = true ∧ b.elems ≠ [] ∧ (len + n) * bytes ≤ 2 ^ 44 ∧ len + n ≤ 2 ^ 44 then
      some ⟨(d,.lsl l 0 (len + n)) :: purge l st.env,(l,some { b with elems := b.elems ++ c.elems }) :: purgeH l st.heap⟩ else none
    | none => none
   | _ => none) else none
  | none => none
 | _ => none

open Classical in
def eop (tab : Tab) (st : St) (dst : Option Nat) : IOp → Option St
 | .alloc z => match dst with
  | some d => if (st.hp d).isNone = true then some ((st.setH d (some ⟨z.cells.length,false,[z]⟩)).set d (.lptr d 0 0)) else none
  | none => none
 | .box es x => match dst with
  | some d => if (st.hp d).isNone = true ∧ (ev st x).cells.length = es ∧ storable (ev st x) = true then some ((st.setH d (some ⟨es,false,[ev st x]⟩)).set d (.lptr d 0 0)) else none
  | none => none
 | .bslice es len zero parts => match dst with
  | some d => if (st.hp d).isNone = true ∧ zero.cells.length = es ∧ refless zero = true then (match fillE st es (List.replicate len zero) parts with
   | some xs => some ((st.setH d (some ⟨es,true,xs⟩)).set d (.lsl d 0 len))
   | none => match fillH st es (List.replicate len zero) parts with
    | some xs => some ((st.setH d (some ⟨es,false,xs⟩)).set d (.lsl d 0 len))
    | none => none) else none
  | none => none
 | .mkslice es bytes zero l c => match dst,ev st l,ev st c with
  | some d,.int _ l,.int _ c => if (st.hp d).isNone = true ∧ zero.cells.length = es ∧ refless zero = true ∧ 0 ≤ l ∧ l ≤ c ∧ c * bytes ≤ 2 ^ 46 ∧ c ≤ 2 ^ 46 then
    some ((st.setH d (some ⟨es,true,List.replicate l.toNat (nzE zero)⟩)).set d (.lsl d 0 l.toNat)) else none
  | _,_,_ => none
 | .store n a x => match dst with
  | none => match ev st a with
   | .lptr l i off => match st.hp l with
    | some b => match b.elems[i]? with
     | some y => if storable (ev st x) = true ∧ (ev st x).cells.length = n ∧ (b.pur = true → refless (ev st x) = true) then (match storeC y off (ev st x) with
      | some z => some (st.setH l (some { b with elems := b.elems.set i z }))
      | none => none) else none
     | none => none
    | none => none
   | _ => none
  | some _ => none
 | .append es bytes x y => match dst,elemsOf st.hp (ev st y) with
  | some d,some ys => if ys.all (esSt es) = true then (match ev st x with
   | .snil => if (st.hp d).isNone = true ∧ ys.length * bytes ≤ 2 ^ 44 ∧ ys.length ≤ 2 ^ 44 then some ((st.setH d (some ⟨es,true,ys⟩)).set d (.lsl d 0 ys.length)) else none
   | .lsl l 0 len => match st.hp l with
    | some b => if b.pur = true ∧ b.es = es ∧ len = b.elems.length ∧ l < 1000000 ∧ (len + ys.length) * bytes ≤ 2 ^ 44 ∧ len + ys.length ≤ 2 ^ 44 then
      some (⟨(d,.lsl l 0 (len + ys.length)) :: purge l st.env,(l,some { b with elems := b.elems ++ ys }) :: purgeH l st.heap⟩) else none
    | none => none
   | _ => none) else none
  | some d,none => appH st d es bytes (ev st x) (ev st y)
  | _,_ => none
 | .call f args own => match dst,callTo st f args with
  | some d,some (id,vs) => match vs.mapM (pureV st.hp) with
   | some ps => match tab id (ps.map nzV) with
    | some (r,m) => match own with
     | [] => if (vs.all refless = true ∨ flatT r = true ∨ m.isNew = true) ∧ m.isWr = false then some (st.set d r) else none
     | e :: es => if m.isOwn (e :: es) = true then (match ownV d (e :: es) r with
      | some (y,bs) => if freeNames st bs = true then some ⟨(d,y) :: st.env,bs ++ st.heap⟩ else none
      | none => none) else (match m with
       | .ownH r' H => if (∀ p ∈ H,st.hp p.1 = none) then some ⟨(d,r') :: st.env,H.map (fun p => (p.1,some p.2)) ++ st.heap⟩ else none
       | _ => none)
    | none => none
   | none => none
  | _,_ => none
 | .callM f args => match wAs st.hp 1000000 (args.map (ev st)) with
  | some (ps,qs) => match tab f ps with
   | some (r,.wr ess yss) => if flatT r = true ∧ qs.map (fun q => q.2.2.es) = ess ∧ noDupN (qs.map (fun q => q.1)) = true ∧ noDupN (qs.map (fun q => q.2.1)) = true then (match zipW (qs.map fun q => (q.2.1,q.2.2)) yss with
    | some bs => some (St.put ⟨st.env,bs.map (fun p => (p.1,some p.2)) ++ st.heap⟩ dst r)
    | none => none) else none
   | some (_,.tk es ys) => match dst,args.map (ev st) with
    | some d,[.lsl l 0 len] => match st.hp l with
     | some b => if b.pur = true ∧ b.es = es ∧ len = b.elems.length ∧ l < 1000000 then some ⟨(d,.lsl l 0 ys.length) :: purge l st.env,(l,some { b with elems := ys }) :: purgeH l st.heap⟩ else none
     | none => none
    | _,_ => none
   | _ => none
  | none => match tab f (args.map (ev st) ++ [hEnc (grab st.hp (args.map (ev st)))]) with
   | some (r,.wrH H') => some (St.put ⟨st.env,H'.map (fun p => (p.1,some p.2)) ++ st.heap⟩ dst r)
   | _ => none
 | .zero3 es x => match dst,ev st x with
  | some d,.sl _ => if (st.hp d).isNone = true then some ((st.setH d (some ⟨es,true,[]⟩)).set d (.lsl d 0 0)) else none
  | some d,.snil => if (st.hp d).isNone = true then some ((st.setH d (some ⟨es,true,[]⟩)).set d (.lsl d 0 0)) else none
  | some d,.lsl _ _ _ => if (st.hp d).isNone = true then some ((st.setH d (some ⟨es,true,[]⟩)).set d (.lsl d 0 0)) else none
  | _,_ => none
 | .copy es _ x y => match elemsS st.hp (ev st y),ev st x with
  | some ys,.lsl l off len => match st.hp l with
   | some b => if b.pur = true ∧ b.es = es ∧ off + len ≤ b.elems.length ∧ ys.all (esSt es) = true then
     some ((st.setH l (some { b with elems := b.elems.take off ++ ys.take (min len ys.length) ++ b.elems.drop (off + min len ys.length) })).put dst (.int .i64 (min len ys.length : Nat))) else none
   | none => none
  | _,_ => none
 | op => (vop st op).map (st.put dst)

def nb : Value → Bool
 | .bool _ => false
 | _ => true
def evalOp (tab : Tab) (o : IOper) (st : St) : Option St :=
 match o.g with
 | none => eop tab st o.dst o.op
 | some (g,want) => match st.get g with
  | .bool b => if b = want then eop tab st o.dst o.op else some (st.put o.dst (.raw undef))
  | .raw v => if nb v = true then some (st.put o.dst (.raw undef)) else none
  | _ => none

def wpOps (tab : Tab) : List IOper → St → (St → Prop) → Prop
 | [],st,K => K st
 | o :: r,st,K => match o.op with
  | .eqnil neg x => match o.g,ev st x with
   | none,.sl xs => ∀ b : Bool,(xs ≠ [] → b = false) → wpOps tab r (st.put o.dst (.bool (b != neg))) K
   | none,.snil => wpOps tab r (st.put o.dst (.bool (true != neg))) K
   | none,.lsl _ _ (_ + 1) => wpOps tab r (st.put o.dst (.bool (false != neg))) K
   | _,_ => False
  | op => match o.g with
   | none => ∃ st',eop tab st o.dst op = some st' ∧ wpOps tab r st' K
   | some (g,want) => match st.get g with
    | .bool b => (b = want → ∃ st',eop tab st o.dst op = some st' ∧ wpOps tab r st' K) ∧ (b = !want → wpOps tab r (st.put o.dst (.raw undef)) K)
    | .raw v => nb v = true ∧ wpOps tab r (st.put o.dst (.raw undef)) K
    | _ => False

def keepOnly (ks : List Nat) (st : St) : St := ⟨ks.map fun k => (k,st.get k),st.heap⟩

inductive IExit where
 | normal
 | exit (id : Nat)
 | ret

def Wk (s s' : St) : Prop := ∀ cf a w,StR cf s a w → StR cf s' a w
def KW (k : St → Prop) (st : St) : Prop := ∃ st',Wk st st' ∧ k st'
def Kseq (next : St → Prop) (K : IExit → St → Prop) : IExit → St → Prop
 | .normal,st => next st
 | e,st => K e st
def Kblock (id : Nat) (K : IExit → St → Prop) : IExit → St → Prop
 | .exit id',st => if id' = id then KW (K .normal) st else K (.exit id') st
 | e,st => K e st
def wpLoop (B : St → (IExit → St → Prop) → Prop) (st : St) (K : IExit → St → Prop) : Prop :=
 ∀ X : St → Prop,(∀ s,B s (Kseq X K) → X s) → (∀ s s',Wk s s' → X s' → X s) → X st

def wpA (tab : Tab) : ICode → St → (IExit → St → Prop) → Prop
 | .skip,st,K => K .normal st
 | .reg ops keep,st,K => wpOps tab ops st fun st' => K .normal (keepOnly keep st')
 | .seq a b,st,K => wpA tab a st (Kseq (fun s => wpA tab b s K) K)
 | .cond c a b,st,K => match ev st c with
  | .bool t => (t = true → wpA tab a st K) ∧ (t = false → wpA tab b st K)
  | _ => False
 | .block id c,st,K => wpA tab c st (Kblock id K)
 | .loop c,st,K => wpLoop (wpA tab c) st K
 | .exit id,st,K => K (.exit id) st
 | .ret,st,K => K .ret st

theorem wpOps_mono {tab : Tab} {K K' : St → Prop} (h : ∀ s,K s → K' s) : ∀ (ops : List IOper) (st : St),wpOps tab ops st K → wpOps tab ops st K'
 | [],st,hh => h st hh
 | o :: r,st,hh => by
  have ih : ∀ st,wpOps tab r st K → wpOps tab r st K' := wpOps_mono h r
  unfold wpOps at hh ⊢
  split at hh
  ·split at hh
   ·exact fun b hb => ih _ (hh b hb)
   ·exact ih _ hh
   ·exact ih _ hh
   ·exact hh
  ·split at hh
   ·obtain ⟨st',h1,h2⟩ := hh; exact ⟨st',h1,ih _ h2⟩
   ·split at hh
    ·exact ⟨fun e => let ⟨st',h1,h2⟩ := hh.1 e; ⟨st',h1,ih _ h2⟩,fun e => ih _ (hh.2 e)⟩
    ·exact ⟨hh.1,ih _ hh.2⟩
    ·exact hh
theorem wpA_mono {tab : Tab} : ∀ (c : ICode) (st : St) {K K' : IExit → St → Prop},(∀ e s,K e s → K' e s) → wpA tab c st K → wpA tab c st K'
 | .skip,st,_,_,h,hh => h _ _ hh
 | .reg ops keep,st,_,_,h,hh => wpOps_mono (fun s hs => h _ _ hs) ops st hh
 | .seq a b,st,K,K',h,hh => wpA_mono a st (fun e s hs => by
   cases e with
   | normal => exact wpA_mono b s h hs
   | _ => exact h _ _ hs) hh
 | .cond c a b,st,_,_,h,hh => by
  unfold wpA at *
  split at hh
  ·exact ⟨fun e => wpA_mono a st h (hh.1 e),fun e => wpA_mono b st h (hh.2 e)⟩
  ·exact hh
 | .block id c,st,K,K',h,hh => wpA_mono c st (fun e s hs => by
   cases e with
   | exit id' =>
    simp only [Kblock] at hs ⊢
    by_cases hid : id' = id
    ·rw [if_pos hid] at hs ⊢; obtain ⟨t,h1,h2⟩ := hs; exact ⟨t,h1,h _ _ h2⟩
    ·rw [if_neg hid] at hs ⊢; exact h _ _ hs
   | _ => exact h _ _ hs) hh
 | .loop c,st,K,K',h,hh => by
  intro X hX hW
  refine hh X (fun s hs => hX s (wpA_mono c s (fun e s' hs' => ?_) hs)) hW
  cases e with
  | normal => exact hs'
  | _ => exact h _ _ hs'
 | .exit id,st,_,_,h,hh => h _ _ hh
 | .ret,st,_,_,h,hh => h _ _ hh

theorem wpLoop_unfold {tab : Tab} {c : ICode} {st : St} {K : IExit → St → Prop} (h : wpA tab c st (Kseq (fun s => wpLoop (wpA tab c) s K) K)) : wpLoop (wpA tab c) st K := by
 intro X hX hW
 refine hX st (wpA_mono c st (fun e s hs => ?_) h)
 cases e with
 | normal => exact hs X hX hW
 | _ => exact hs
theorem wpLoop_wk {B : St → (IExit → St → Prop) → Prop} {s s' : St} {K : IExit → St → Prop} (h : Wk s s') (h' : wpLoop B s' K) : wpLoop B s K := fun X hX hW => hW s s' h (h' X hX hW)
end Go.Ab

