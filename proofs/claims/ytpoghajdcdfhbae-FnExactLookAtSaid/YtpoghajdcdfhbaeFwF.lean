/- The greater and the lesser of two, and what a bend needs. No conditions. -/
import Derived.Test.YtpoghajdcdfhbaeFwE
set_option linter.all false
namespace Go.Ab
open Go.RowKit Ieee

def apick (neg : Bool) (win : Ordering) (x y : Nat) : Nat :=
  let a := FloatKind.f64.decode x
  let b := FloatKind.f64.decode y
  if a == .infinity neg || b == .infinity neg then FloatKind.f64.encode (.infinity neg)
  else if a.isNaN || b.isNaN then 0x7FF8000000000001
  else if a.isZero && b.isZero then (if a.neg == neg then x else y)
  else if a.order b == some win then x else y
theorem pick_def (name : String) (neg : Bool) (win : Ordering) (x y : Nat) : Extern.MathDim.pick name neg win #[.float .f64 x, .float .f64 y] = pure (.float .f64 (apick neg win x y)) := rfl
def amax (x y : Nat) : Nat := cn .f64 (apick false .gt x y)
def amin (x y : Nat) : Nat := cn .f64 (apick true .lt x y)
theorem isNaN_decode {k : FloatKind} {b : Nat} : (k.decode b).isNaN = isNaN k b := rfl
/-- what is picked, up to the bits of a not-a-number -/
theorem apick_fv (neg : Bool) (win : Ordering) {x y a b : Nat} (hx : FV .f64 x a) (hy : FV .f64 y b) : FV .f64 (apick neg win x y) (cn .f64 (apick neg win a b)) := by
  have key : cn .f64 (apick neg win x y) = cn .f64 (apick neg win a b) := by
    by_cases h1 : isNaN .f64 x = true
    · have h1' : isNaN .f64 a = true := by rw [← hx.nan]; exact h1
      obtain ⟨s, t, e⟩ := decode_of_nan h1
      obtain ⟨s', t', e'⟩ := decode_of_nan h1'
      by_cases h2 : isNaN .f64 y = true
      · have h2' : isNaN .f64 b = true := by rw [← hy.nan]; exact h2
        obtain ⟨u, v, f⟩ := decode_of_nan h2
        obtain ⟨u', v', f'⟩ := decode_of_nan h2'
        unfold apick
        rw [e, e', f, f']
        rfl
      · have hyb := hy.not (by rw [← hy.nan]; simpa using h2)
        subst hyb
        unfold apick
        rw [e, e']
        cases hd : FloatKind.f64.decode y <;> rfl
    · have hxa := hx.not (by rw [← hx.nan]; simpa using h1)
      subst hxa
      by_cases h2 : isNaN .f64 y = true
      · have h2' : isNaN .f64 b = true := by rw [← hy.nan]; exact h2
        obtain ⟨u, v, f⟩ := decode_of_nan h2
        obtain ⟨u', v', f'⟩ := decode_of_nan h2'
        unfold apick
        rw [f, f']
        cases hd : FloatKind.f64.decode x <;> rfl
      · have hyb := hy.not (by rw [← hy.nan]; simpa using h2)
        subst hyb
        rfl
  refine ⟨?_, key⟩
  unfold apick
  dsimp only
  have hx' := hx.lt
  have hy' := hy.lt
  split
  · exact FloatKind.f64.format.write_lt _
  · split
    · decide
    · split
      · split
        · exact hx'
        · exact hy'
      · split
        · exact hx'
        · exact hy'
def g_amax : List AV → Option AV
  | [.flt .f64 a, .flt .f64 b] => some (.flt .f64 (amax a b))
  | _ => none
def g_amin : List AV → Option AV
  | [.flt .f64 a, .flt .f64 b] => some (.flt .f64 (amin a b))
  | _ => none
theorem args2 {w : World} {Z : Nat → Prop} {args : Array Value} {a b : AV} (hs : args.size = [a, b].length) (h : ∀ (i : Nat) c d, args[i]? = some c → [a, b][i]? = some d → V0 w Z c d) : ∃ u v, args = #[u, v] ∧ V0 w Z u a ∧ V0 w Z v b := by
  obtain ⟨l⟩ := args
  match l, hs with
  | [u, v], _ => exact ⟨u, v, rfl, h 0 u a rfl rfl, h 1 v b rfl rfl⟩
section
variable {P : Program} {f : FuncId} {fn : Func}
theorem t_amax (hf : P.funcs[f]? = some fn) (hname : (fn.name == "runtime.NumGoroutine") = false) (hb : fn.body.isNone = true) (hn : Extern.findNext fn = none) (he : Extern.find fn = some (Extern.MathDim.pick "math.archMax" false .gt)) : ∀ vs r, g_amax vs = some r → Says P f vs r := by
  intro vs r h
  unfold g_amax at h
  split at h
  · rename_i a b
    cases h
    refine says_ext hf hname hb hn he fun w Z args hs hV => ?_
    obtain ⟨u, v, rfl, hu, hv⟩ := args2 hs hV
    obtain ⟨x, rfl, hx⟩ := hu.flt_inv
    obtain ⟨y, rfl, hy⟩ := hv.flt_inv
    exact ⟨.float .f64 (apick false .gt x y), 0, rfl, .flt _ _ _ (apick_fv false .gt hx hy)⟩
  · cases h
theorem t_amin (hf : P.funcs[f]? = some fn) (hname : (fn.name == "runtime.NumGoroutine") = false) (hb : fn.body.isNone = true) (hn : Extern.findNext fn = none) (he : Extern.find fn = some (Extern.MathDim.pick "math.archMin" true .lt)) : ∀ vs r, g_amin vs = some r → Says P f vs r := by
  intro vs r h
  unfold g_amin at h
  split at h
  · rename_i a b
    cases h
    refine says_ext hf hname hb hn he fun w Z args hs hV => ?_
    obtain ⟨u, v, rfl, hu, hv⟩ := args2 hs hV
    obtain ⟨x, rfl, hx⟩ := hu.flt_inv
    obtain ⟨y, rfl, hy⟩ := hv.flt_inv
    exact ⟨.float .f64 (apick true .lt x y), 0, rfl, .flt _ _ _ (apick_fv true .lt hx hy)⟩
  · cases h
end

/-- 1 and -1 -/
theorem ex_mone : ∀ W : Nat, W = 1074 → Ex FloatKind.f64.format true 13830554455654793216 (2 ^ W) := by
  intro W hW
  refine ⟨2 ^ 52, -52, by decide, by decide, ?_⟩
  rw [lp64, ← Nat.pow_add]
  exact congrArg (2 ^ ·) (by omega)
/-- a clamp to -1 .. 1 by two ways, and what it gives -/
theorem clamp_same {k : Nat} (hk : Nn k) (hlt : k < 2 ^ 64) : amax 13830554455654793216 (amin 4607182418800017408 k) = fmin .f64 (fmax .f64 k 13830554455654793216) 4607182418800017408 ∧
    ∃ s v, Ex FloatKind.f64.format s (fmin .f64 (fmax .f64 k 13830554455654793216) 4607182418800017408) v ∧ ∀ W : Nat, W = 1074 → v ≤ 2 ^ W := by
  obtain ⟨W, hW⟩ : ∃ W : Nat, W = 1074 := ⟨_, rfl⟩
  have x1 := ex_one W hW
  have xm := ex_mone W hW
  have r1 : FloatKind.f64.decode 4607182418800017408 = .number false (2 ^ 52) (-52) := by decide
  have rm : FloatKind.f64.decode 13830554455654793216 = .number true (2 ^ 52) (-52) := by decide
  have hU := Nat.two_pow_pos W
  have n1 : cn .f64 4607182418800017408 = 4607182418800017408 := by decide
  have nm : cn .f64 13830554455654793216 = 13830554455654793216 := by decide
  have o1m : ford .f64 4607182418800017408 13830554455654793216 = some .gt := by decide
  have om1 : ford .f64 13830554455654793216 4607182418800017408 = some .lt := by decide
  have ap1 : amax 13830554455654793216 4607182418800017408 = 4607182418800017408 := by decide
  have fm1 : fmin .f64 13830554455654793216 4607182418800017408 = 13830554455654793216 := by unfold fmin; rw [om1]
  have f11 : fmin .f64 4607182418800017408 4607182418800017408 = 4607182418800017408 := by decide
  rcases hk with ⟨s, m, e, hr⟩ | ⟨s, hr⟩
  · obtain ⟨v, xk⟩ := read_ex hr
    have hd : FloatKind.f64.decode k = .number s m e := hr
    have nk : cn .f64 k = k := cn_of_not (by unfold isNaN; rw [hr]; rfl)
    have o1k := ford_ex x1 xk
    have okm := ford_ex xk xm
    have omk := ford_ex xm xk
    have ok1 := ford_ex xk x1
    have z1 : sg false (2 ^ W) = ((2 ^ W : Nat) : Int) := rfl
    have zm : sg true (2 ^ W) = -((2 ^ W : Nat) : Int) := rfl
    rw [z1] at o1k ok1
    rw [zm] at okm omk
    have hneg : (FloatKind.f64.decode k).neg = s := by rw [hd]; rfl
    -- the library's lesser of 1 and k
    have amin_eq : amin 4607182418800017408 k = if (ford .f64 4607182418800017408 k == some .lt) = true then 4607182418800017408 else k := by
      unfold amin apick
      rw [r1, hd]
      show cn .f64 (if (Datum.number false (2 ^ 52) (-52) == Datum.infinity true || Datum.number s m e == Datum.infinity true) = true then _ else if false = true then _ else if (false && _) = true then _ else if (Datum.order (.number false (2 ^ 52) (-52)) (.number s m e) == some .lt) = true then _ else _) = _
      have q1 : (Datum.number false (2 ^ 52) (-52) == Datum.infinity true) = false := by decide
      have q2 : (Datum.number s m e == Datum.infinity true) = false := by rfl
      rw [q1, q2, if_neg (by decide), if_neg (by decide), if_neg (by rw [Bool.false_and]; decide)]
      have q3 : ford .f64 4607182418800017408 k = Datum.order (.number false (2 ^ 52) (-52)) (.number s m e) := by
        unfold ford Format.order
        rw [show FloatKind.f64.format.read 4607182418800017408 = .number false (2 ^ 52) (-52) from r1, hr]
      rw [q3]
      split <;> rename_i hq
      · exact n1
      · exact nk
    have amax_eq : amax 13830554455654793216 k = if (ford .f64 13830554455654793216 k == some .gt) = true then 13830554455654793216 else k := by
      unfold amax apick
      rw [rm, hd]
      show cn .f64 (if (Datum.number true (2 ^ 52) (-52) == Datum.infinity false || Datum.number s m e == Datum.infinity false) = true then _ else if false = true then _ else if (false && _) = true then _ else if (Datum.order (.number true (2 ^ 52) (-52)) (.number s m e) == some .gt) = true then _ else _) = _
      have q1 : (Datum.number true (2 ^ 52) (-52) == Datum.infinity false) = false := by decide
      have q2 : (Datum.number s m e == Datum.infinity false) = false := by rfl
      rw [q1, q2, if_neg (by decide), if_neg (by decide), if_neg (by rw [Bool.false_and]; decide)]
      have q3 : ford .f64 13830554455654793216 k = Datum.order (.number true (2 ^ 52) (-52)) (.number s m e) := by
        unfold ford Format.order
        rw [show FloatKind.f64.format.read 13830554455654793216 = .number true (2 ^ 52) (-52) from rm, hr]
      rw [q3]
      split <;> rename_i hq
      · exact nm
      · exact nk
    rw [amin_eq, o1k]
    have sgb : sg s v ≤ v ∧ -(v : Int) ≤ sg s v := by unfold sg; split <;> omega
    have sga : (v : Int) ≤ sg s v ∨ (v : Int) ≤ -sg s v := by unfold sg; split <;> omega
    rcases Int.lt_trichotomy ((2 ^ W : Nat) : Int) (sg s v) with h | h | h
    · -- above 1
      rw [Int.compare_eq_lt.2 h]
      have hgm : fmax .f64 k 13830554455654793216 = k := by
        unfold fmax; rw [okm, Int.compare_eq_gt.2 (by omega)]
      have hg1 : fmin .f64 k 4607182418800017408 = 4607182418800017408 := by
        unfold fmin; rw [ok1, Int.compare_eq_gt.2 h]
      rw [hgm, hg1]
      refine ⟨?_, false, _, x1, fun W' h' => Nat.pow_le_pow_right (by omega) (by omega)⟩
      show amax 13830554455654793216 4607182418800017408 = _
      exact ap1
    · -- 1
      rw [Int.compare_eq_eq.2 h]
      have hs : s = false := by
        cases s with
        | false => rfl
        | true => rw [sg_true] at h; omega
      subst hs
      have hv : v = 2 ^ W := by
        have : sg false v = (v : Int) := rfl
        omega
      have hk1 : k = 4607182418800017408 := ex_unique (by rw [hv] at xk; exact xk) x1 hlt (by decide)
      subst hk1
      have hgm : fmax .f64 4607182418800017408 13830554455654793216 = 4607182418800017408 := by unfold fmax; rw [o1m]
      rw [hgm, f11]
      exact ⟨ap1, false, _, x1, fun W' h' => Nat.pow_le_pow_right (by omega) (by omega)⟩
    · rw [Int.compare_eq_gt.2 h]
      show amax 13830554455654793216 k = _ ∧ _
      rw [amax_eq, omk]
      rcases Int.lt_trichotomy (-((2 ^ W : Nat) : Int)) (sg s v) with g | g | g
      · rw [Int.compare_eq_lt.2 g]
        have hgm : fmax .f64 k 13830554455654793216 = k := by
          unfold fmax; rw [okm, Int.compare_eq_gt.2 (by omega)]
        have hg1 : fmin .f64 k 4607182418800017408 = k := by
          unfold fmin; rw [ok1, Int.compare_eq_lt.2 h]
        rw [hgm, hg1]
        refine ⟨rfl, s, v, xk, fun W' h' => ?_⟩
        have : W' = W := by omega
        subst this
        omega
      · rw [← g, Int.compare_eq_eq.2 rfl]
        have hs : s = true := by
          cases s with
          | true => rfl
          | false =>
            have : sg false v = (v : Int) := rfl
            omega
        subst hs
        have hv : v = 2 ^ W := by
          rw [sg_true] at g; omega
        have hkm : k = 13830554455654793216 := ex_unique (by rw [hv] at xk; exact xk) xm hlt (by decide)
        subst hkm
        have hgm : fmax .f64 13830554455654793216 13830554455654793216 = 13830554455654793216 := by decide
        rw [hgm, fm1]
        exact ⟨rfl, true, _, xm, fun W' h' => Nat.pow_le_pow_right (by omega) (by omega)⟩
      · rw [Int.compare_eq_gt.2 g]
        have hgm : fmax .f64 k 13830554455654793216 = 13830554455654793216 := by
          unfold fmax; rw [okm, Int.compare_eq_lt.2 (by omega)]
        rw [hgm, fm1]
        exact ⟨rfl, true, _, xm, fun W' h' => Nat.pow_le_pow_right (by omega) (by omega)⟩
  · have hkv : k = 9218868437227405312 ∨ k = 18442240474082181120 := by
      have sw : FloatKind.f64.format.signWeight = 2 ^ 63 := by decide
      have e1 : FloatKind.f64.format.infRung = 9218868437227405312 := by decide
      have e2 : FloatKind.f64.format.binade = 4503599627370496 := by decide
      unfold Format.read at hr
      rw [sw, e1, e2] at hr
      dsimp only at hr
      split at hr
      · cases hr
      · split at hr
        · cases hr
        · split at hr
          · omega
          · cases hr
    rcases hkv with rfl | rfl
    · have h1 : fmin .f64 (fmax .f64 9218868437227405312 13830554455654793216) 4607182418800017408 = 4607182418800017408 := by decide
      rw [h1]
      exact ⟨by decide, false, _, x1, fun W' h' => Nat.pow_le_pow_right (by omega) (by omega)⟩
    · have h1 : fmin .f64 (fmax .f64 18442240474082181120 13830554455654793216) 4607182418800017408 = 13830554455654793216 := by decide
      rw [h1]
      exact ⟨by decide, true, _, xm, fun W' h' => Nat.pow_le_pow_right (by omega) (by omega)⟩
end Go.Ab

namespace Go.Ab
open Ieee

/-- a value of a unit or more is not rounded to nothing -/
theorem nearest_pos2 (f : Format) (neg : Bool) (mag : Nat) (place : Int) (h : 2 ^ (f.leastPlace - place).toNat ≤ mag * 2 ^ (place - f.leastPlace).toNat) : ∃ r, f.nearest neg mag place = f.word neg (min r f.infRung) ∧ 0 < r := by
  have hm : mag ≠ 0 := by
    rintro rfl
    rw [Nat.zero_mul] at h
    have := Nat.two_pow_pos (f.leastPlace - place).toNat; omega
  unfold Format.nearest
  rw [if_neg hm]
  refine ⟨_, rfl, ?_⟩
  have hb : 0 < f.binade := Nat.two_pow_pos _
  generalize hlast : max (place + (mag.log2 : Int) - (f.fractionBits : Int)) f.leastPlace = last
  by_cases hc : last = f.leastPlace
  · have hk : 1 ≤ Toward.even.cut neg (mag <<< (place - last).toNat) (last - place).toNat := by
      unfold Toward.cut
      dsimp only
      refine Nat.le_trans ?_ (Nat.le_add_right _ _)
      rw [Nat.shiftLeft_eq, hc, Nat.one_shiftLeft]
      generalize mag * 2 ^ (place - f.leastPlace).toNat = n at *
      have hn0 : n ≠ 0 := by have := Nat.two_pow_pos (f.leastPlace - place).toNat; omega
      have := (Nat.le_log2 hn0).2 h
      rw [Nat.min_eq_left (by omega)]
      exact (Nat.le_div_iff_mul_le (Nat.two_pow_pos _)).2 (by rw [Nat.one_mul]; exact h)
    omega
  · have : 0 < (last - f.leastPlace).toNat * f.binade := Nat.mul_pos (by omega) hb
    omega
/-- a bounded number, read -/
theorem Bd.read {c n : Nat} (h : Bd c n) : ∃ s m e, FloatKind.f64.format.read c = .number s m e := by
  obtain ⟨s, m, e, h1, _⟩ := h 1074 rfl
  exact ⟨s, m, e, h1⟩
theorem Bd.nn {c n : Nat} (h : Bd c n) : Nn c := .inl h.read
theorem bd_widen {x : Nat} (h : feq .f32 (fsub .f32 x x) 0 = true) : Bd (widen x) 128 := by
  obtain ⟨s, m, e, d⟩ := fin32 h
  obtain ⟨q1, q2, q3⟩ := read_f32_number d
  intro W hW
  refine (widen_ex d).ms.mg.mono (Nat.le_of_lt (Nat.lt_of_lt_of_le (Nat.mul_lt_mul_of_pos_right q1 (Nat.two_pow_pos _)) ?_))
  rw [← Nat.pow_add]
  exact Nat.pow_le_pow_right (by omega) (by omega)
theorem read_lt53 {x : Nat} {s : Bool} {m : Nat} {e : Int} (h1 : FloatKind.f64.format.read x = .number s m e) : m < 2 ^ 53 := by
  have e1 : FloatKind.f64.format.infRung = 9218868437227405312 := by decide
  have e2 : FloatKind.f64.format.binade = 4503599627370496 := by decide
  unfold Format.read at h1
  dsimp only at h1
  rw [e1, e2] at h1
  split at h1
  · cases h1; omega
  · split at h1
    · cases h1; omega
    · split at h1 <;> cases h1
/-- twice a number that a float32 has -/
theorem twice_ex {x : Nat} {s : Bool} {m : Nat} {e : Int} (d : FloatKind.f32.decode x = .number s m e) (hm : m ≠ 0) : Ex FloatKind.f64.format s (fmul .f64 4611686018427387904 (widen x)) (2 * (m * 2 ^ (e + 1074).toNat)) := by
  obtain ⟨q1, q2, q3⟩ := read_f32_number d
  obtain ⟨m', i, h1, h2, h3⟩ := widen_ex d
  have r2 : FloatKind.f64.format.read 4611686018427387904 = .number false (2 ^ 52) (-51) := by decide
  have hw : fmul .f64 4611686018427387904 (widen x) = FloatKind.f64.format.nearest s (m' * 2 ^ 52) ((i + 1) - ((52 : Nat) : Int)) := by
    unfold fmul op2
    rw [r2, h1]
    show FloatKind.f64.format.nearest (false ^^ s) (2 ^ 52 * m') (-51 + i) = _
    rw [Bool.false_xor, Nat.mul_comm]
    congr 1
    omega
  have hm0 : m' ≠ 0 := by
    rintro rfl
    rw [Nat.zero_mul] at h3
    have := Nat.mul_pos (show 0 < m by omega) (Nat.two_pow_pos (e + 1074).toNat); omega
  have hm53 := read_lt53 h1
  rw [lp64] at h2 h3
  rw [hw, nearest_shift FloatKind.f64.format s m' 52 (i + 1) hm0 (by rw [show FloatKind.f64.format.fractionBits = 52 by decide]; exact hm53) (by rw [lp64]; omega)]
  obtain ⟨K, hK⟩ : ∃ K : Nat, K = 2098 := ⟨_, rfl⟩
  have hval : m' * 2 ^ (i + 1 - -1074).toNat = 2 * (m * 2 ^ (e + 1074).toNat) := by
    rw [← h3, show (i + 1 - -1074).toNat = (i - -1074).toNat + 1 by omega, Nat.pow_succ, ← Nat.mul_assoc, Nat.mul_comm]
  have := nearest_exact FloatKind.f64.format s m' (i + 1) (by rw [lp64]; omega) (by rw [show FloatKind.f64.format.fractionBits = 52 by decide]; exact hm53) (by
    rw [rv64_inf hK, lp64, hval]
    have h5 : m * 2 ^ (e + 1074).toNat < 2 ^ 24 * 2 ^ (e + 1074).toNat := Nat.mul_lt_mul_of_pos_right q1 (Nat.two_pow_pos _)
    have h6 : 2 ^ 24 * 2 ^ (e + 1074).toNat ≤ 2 ^ (K - 1) := by rw [← Nat.pow_add]; exact Nat.pow_le_pow_right (by omega) (by omega)
    have h7 : 2 ^ K = 2 * 2 ^ (K - 1) := by rw [Nat.mul_comm, ← Nat.pow_succ]; exact congrArg (2 ^ ·) (by omega)
    rw [h7]
    omega)
  rw [lp64, hval] at this
  exact this
/-- the divisor of a bend's cosine -/
theorem den2_ok {x y : Nat} (hx : feq .f32 (fsub .f32 x x) 0 = true) (hy : feq .f32 (fsub .f32 y y) 0 = true) (px : flt .f32 0 x = true) (py : flt .f32 0 y = true) :
    ∃ s m e, FloatKind.f64.format.read (fmul .f64 (fmul .f64 4611686018427387904 (widen x)) (widen y)) = .number s m e ∧ m ≠ 0 := by
  have nz : ∀ {z : Nat} {s : Bool} {m : Nat} {e : Int}, FloatKind.f32.decode z = .number s m e → flt .f32 0 z = true → m ≠ 0 := by
    intro z s m e d h
    rintro rfl
    have h0 : Ex FloatKind.f32.format false 0 0 := ⟨0, -149, decode_zero32, by decide, by decide⟩
    have o := order_ex h0 (ex32 d)
    have h' : FloatKind.f32.format.order 0 z == some .lt := h
    unfold Format.order at h'
    rw [o, Nat.zero_mul] at h'
    cases s <;> exact absurd h' (by decide)
  obtain ⟨sx, mx, ex, dx⟩ := fin32 hx
  obtain ⟨sy, my, ey, dy⟩ := fin32 hy
  obtain ⟨a1, a2, a3⟩ := read_f32_number dx
  obtain ⟨b1, b2, b3⟩ := read_f32_number dy
  have hmx := nz dx px
  have hmy := nz dy py
  obtain ⟨m1, i1, r1, l1, v1⟩ := twice_ex dx hmx
  obtain ⟨m2, i2, r2, l2, v2⟩ := widen_ex dy
  have two : Bd 4611686018427387904 2 := bd_const (s := false) (m := 2 ^ 52) (e := -51) (by decide) (by decide) (by decide) (by decide)
  have hbd := bd_mul (bd_mul two (bd_widen hx) (by omega)) (bd_widen hy) (by omega)
  obtain ⟨s, m, e, hr⟩ := hbd.read
  refine ⟨s, m, e, hr, ?_⟩
  rintro rfl
  have hw : fmul .f64 (fmul .f64 4611686018427387904 (widen x)) (widen y) = FloatKind.f64.format.nearest (sx ^^ sy) (m1 * m2) (i1 + i2) := by
    show op2 .f64 Datum.product _ _ = _
    unfold op2
    show ((Datum.product (FloatKind.f64.format.read (fmul .f64 4611686018427387904 (widen x))) (FloatKind.f64.format.read (widen y))).map FloatKind.f64.format.write).getD _ = _
    rw [r1, r2]; rfl
  rw [lp64] at l1 l2 v1 v2
  obtain ⟨W, hW⟩ : ∃ W : Nat, W = 1074 := ⟨_, rfl⟩
  obtain ⟨r, q1, q2⟩ := nearest_pos2 FloatKind.f64.format (sx ^^ sy) (m1 * m2) (i1 + i2) (by
    rw [lp64]
    -- (m1 2^(i1+1074)) (m2 2^(i2+1074)) >= 2^925 2^925
    obtain ⟨K, hK⟩ : ∃ K : Nat, K = 925 := ⟨_, rfl⟩
    have g1 : 2 ^ K ≤ m1 * 2 ^ (i1 - -1074).toNat := by
      rw [v1]
      have : 2 ^ K ≤ m1 * 0 + mx * 2 ^ (ex + 1074).toNat := by
        rw [Nat.mul_zero, Nat.zero_add]
        exact Nat.le_trans (Nat.pow_le_pow_right (by omega) (by omega)) (Nat.le_mul_of_pos_left _ (by omega))
      omega
    have g2 : 2 ^ K ≤ m2 * 2 ^ (i2 - -1074).toNat := by
      rw [v2]
      exact Nat.le_trans (Nat.pow_le_pow_right (by omega) (by omega)) (Nat.le_mul_of_pos_left _ (by omega))
    have g3 := Nat.mul_le_mul g1 g2
    rw [← Nat.pow_add, Nat.mul_mul_mul_comm, ← Nat.pow_add] at g3
    by_cases hc : -1074 ≤ i1 + i2
    · rw [show (-1074 - (i1 + i2)).toNat = 0 by omega, Nat.pow_zero]
      have hm12 : 0 < m1 * m2 := by
        apply Nat.pos_of_ne_zero
        intro h0
        rw [h0, Nat.zero_mul] at g3
        have := Nat.two_pow_pos (K + K); omega
      exact Nat.mul_pos hm12 (Nat.two_pow_pos _)
    · rw [show (i1 + i2 - -1074).toNat = 0 by omega, Nat.pow_zero, Nat.mul_one]
      apply Nat.le_of_mul_le_mul_right (c := 2 ^ ((i1 - -1074).toNat + (i2 - -1074).toNat)) _ (Nat.two_pow_pos _)
      refine Nat.le_trans ?_ g3
      rw [← Nat.pow_add]
      exact Nat.pow_le_pow_right (by omega) (by omega))
  -- a number 0 would be the rung 0
  have hr2 : r < FloatKind.f64.format.infRung := by
    apply Nat.lt_of_not_le
    intro hc
    rw [Nat.min_eq_right hc] at q1
    rw [hw, q1, read_inf_word .f64] at hr
    cases hr
  rw [Nat.min_eq_left (by omega)] at q1
  obtain ⟨m', e', g1, g2, g3⟩ := read_word FloatKind.f64.format (sx ^^ sy) hr2
  rw [hw, q1, g1] at hr
  cases hr
  rw [Nat.zero_mul] at g3
  have := rv_mono FloatKind.f64.format (show 1 ≤ r by omega)
  rw [rv_small _ (by decide)] at this
  omega
/-- 1 less a square of what is at most 1 is not below zero -/
theorem one_less {q : Nat} (hq : Bd q 0) (hs : Nng q) : Bd (fsub .f64 4607182418800017408 q) 1 ∧ Nng (fsub .f64 4607182418800017408 q) := by
  refine ⟨bd_sub bd_one hq (by omega), ?_⟩
  obtain ⟨W, hW⟩ : ∃ W : Nat, W = 1074 := ⟨_, rfl⟩
  obtain ⟨s, m, e, r1, r2, r3⟩ := hq W hW
  have xq : Ex FloatKind.f64.format s q (m * 2 ^ (e - FloatKind.f64.format.leastPlace).toNat) := ⟨m, e, r1, r2, rfl⟩
  obtain ⟨S, M, base, t1, t2, t3⟩ := sub_ex (ex_one W hW) xq
  have hw : fsub .f64 4607182418800017408 q = FloatKind.f64.format.nearest S M base := by
    unfold fsub op2; rw [t1]; rfl
  rw [hw]
  have ho : sg false (2 ^ W) = ((2 ^ W : Nat) : Int) := rfl
  have hsg : sg s (m * 2 ^ (e - FloatKind.f64.format.leastPlace).toNat) = ((m * 2 ^ (e - FloatKind.f64.format.leastPlace).toNat : Nat) : Int) := by
    rcases hs s m e r1 with h | h
    · subst h; rfl
    · subst h; rw [Nat.zero_mul]; cases s <;> rfl
  rw [Nat.zero_add] at r3
  rw [ho, hsg] at t3
  cases S with
  | false => exact nng_nearest _ _
  | true =>
    rw [sg_true] at t3
    have hM : M * 2 ^ (base - FloatKind.f64.format.leastPlace).toNat = 0 := by
      generalize m * 2 ^ (e - FloatKind.f64.format.leastPlace).toNat = w at *
      generalize 2 ^ W = U at *
      omega
    have : M = 0 := by
      rcases Nat.mul_eq_zero.1 hM with h | h
      · exact h
      · have := Nat.two_pow_pos (base - FloatKind.f64.format.leastPlace).toNat; omega
    subst this
    exact nng_zero _ _
end Go.Ab

namespace Go.Ab

theorem take_all {α β : Type} (e : α → β) (xs : List α) : List.take xs.length (List.map e xs) = List.map e xs := by
  rw [List.take_of_length_le]; simp
def decL {α : Type} (d : AV → Option α) : List AV → Option (List α)
  | [] => some []
  | x :: xs => match d x, decL d xs with
    | some a, some as => some (a :: as)
    | _, _ => none
theorem decL_map {α : Type} {d : AV → Option α} {e : α → AV} (h : ∀ p, d (e p) = some p) : ∀ ys : List α, decL d (List.map e ys) = some ys
  | [] => rfl
  | y :: ys => by
    simp only [List.map_cons, decL, h, decL_map h ys]
theorem decL_inv {α : Type} {d : AV → Option α} {e : α → AV} (h : ∀ x p, d x = some p → x = e p) : ∀ {xs : List AV} {ys : List α}, decL d xs = some ys → xs = List.map e ys
  | [], ys, hd => by cases hd; rfl
  | x :: xs, ys, hd => by
    simp only [decL] at hd
    split at hd
    · rename_i a as h1 h2
      cases hd
      rw [List.map_cons, h x a h1, decL_inv h h2]
    · cases hd
def dF32 : AV → Option Nat
  | .flt .f32 c => some c
  | _ => none
def dF64 : AV → Option Nat
  | .flt .f64 c => some c
  | _ => none
def dI64 : AV → Option Int
  | .int .i64 n => some n
  | _ => none
def dU8 : AV → Option Int
  | .int .u8 n => some n
  | _ => none
def dBool : AV → Option Bool
  | .bool b => some b
  | _ => none
def dStr : AV → Option (List UInt8)
  | .str l => some l
  | _ => none
theorem dF32_map (ys : List Nat) : decL dF32 (List.map (AV.flt .f32) ys) = some ys := decL_map (d := dF32) (e := AV.flt .f32) (fun _ => rfl) ys
theorem dF64_map (ys : List Nat) : decL dF64 (List.map (AV.flt .f64) ys) = some ys := decL_map (d := dF64) (e := AV.flt .f64) (fun _ => rfl) ys
theorem dI64_map (ys : List Int) : decL dI64 (List.map (AV.int .i64) ys) = some ys := decL_map (d := dI64) (e := AV.int .i64) (fun _ => rfl) ys
theorem dU8_map (ys : List Int) : decL dU8 (List.map (AV.int .u8) ys) = some ys := decL_map (d := dU8) (e := AV.int .u8) (fun _ => rfl) ys
theorem dBool_map (ys : List Bool) : decL dBool (List.map AV.bool ys) = some ys := decL_map (d := dBool) (e := AV.bool) (fun _ => rfl) ys
theorem dStr_map (ys : List (List UInt8)) : decL dStr (List.map AV.str ys) = some ys := decL_map (d := dStr) (e := AV.str) (fun _ => rfl) ys
theorem dF32_inv : ∀ x p, dF32 x = some p → x = AV.flt .f32 p := by
  intro x p h; unfold dF32 at h; split at h <;> cases h; rfl
theorem dF64_inv : ∀ x p, dF64 x = some p → x = AV.flt .f64 p := by
  intro x p h; unfold dF64 at h; split at h <;> cases h; rfl
theorem dI64_inv : ∀ x p, dI64 x = some p → x = AV.int .i64 p := by
  intro x p h; unfold dI64 at h; split at h <;> cases h; rfl
theorem dU8_inv : ∀ x p, dU8 x = some p → x = AV.int .u8 p := by
  intro x p h; unfold dU8 at h; split at h <;> cases h; rfl
theorem dBool_inv : ∀ x p, dBool x = some p → x = AV.bool p := by
  intro x p h; unfold dBool at h; split at h <;> cases h; rfl
theorem dStr_inv : ∀ x p, dStr x = some p → x = AV.str p := by
  intro x p h; unfold dStr at h; split at h <;> cases h; rfl
end Go.Ab

