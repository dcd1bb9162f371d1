/- Loops, functions of the library without body, and how great the results of operations on floats may be. No conditions. -/
import Derived.Test.YtadbhabmahpkiaaFwD
import Derived.Laws.Externs
set_option linter.all false
namespace Go.Ab

def Kl (tab : Tab) (c : ICode) (K : IExit → St → Prop) : IExit → St → Prop := Kseq (fun s => wpLoop (wpA tab c) s K) K
section
variable {tab : Tab} {st : St} {K : IExit → St → Prop} {c : ICode}
theorem Kl_normal : Kl tab c K .normal st = eA tab (.loop c) st K := rfl
theorem Kl_exit (id : Nat) : Kl tab c K (.exit id) st = K (.exit id) st := rfl
theorem Kl_ret : Kl tab c K .ret st = K .ret st := rfl
theorem eA_loop (h : eA tab c st (Kl tab c K)) : eA tab (.loop c) st K := wpLoop_unfold h
theorem eA_wk {s s' : St} (h : Wk s s') (h' : eA tab (.loop c) s' K) : eA tab (.loop c) s K := wpLoop_wk h h'
theorem eA_cast {c : ICode} {s s' : St} (h : s = s') (h' : eA tab c s' K) : eA tab c s K := by subst h; exact h'
end

/- A choice of two values: two ways. -/
def ePk (tab : Tab) (c : AV) (d : Nat) (a b : Opd) (r : List IOper) (st : St) (k : St → Prop) : Prop := match c with
  | .bool t => if t = true then eI tab r (st.set d (ev st a)) k else eI tab r (st.set d (ev st b)) k
  | _ => False
section
variable {tab : Tab} {st : St} {k : St → Prop}
theorem b_pick (d : Nat) (c a b : Opd) (r : List IOper) : bindSt (eop tab st (some d) (.pick c a b)) (eR tab r k) = ePk tab (ev st c) d a b r st k := by
  show bindSt ((vop st (.pick c a b)).map (st.put (some d))) (eR tab r k) = _
  simp only [vop]
  generalize ev st c = x
  cases x with
  | bool t => cases t <;> rfl
  | _ => rfl
theorem ePk_true (d : Nat) (a b : Opd) (r : List IOper) : ePk tab (.bool true) d a b r st k = eI tab r (st.set d (ev st a)) k := rfl
theorem ePk_false (d : Nat) (a b : Opd) (r : List IOper) : ePk tab (.bool false) d a b r st k = eI tab r (st.set d (ev st b)) k := rfl
theorem ePk_of {t : Bool} {d : Nat} {a b : Opd} {r : List IOper} (h1 : t = true → ePk tab (.bool true) d a b r st k) (h2 : t = false → ePk tab (.bool false) d a b r st k) : ePk tab (.bool t) d a b r st k := by cases t <;> simp_all
end
theorem cast_lit (n : Nat) : ((no_index (OfNat.ofNat n) : Nat) : Int) = OfNat.ofNat n := rfl
theorem toNat_lit (n : Nat) : Int.toNat (no_index (OfNat.ofNat n)) = OfNat.ofNat n := rfl
theorem prod_eta {α β : Type} (p : α × β) : (p.1, p.2) = p := rfl
theorem Wk.refl (s : St) : Wk s s := fun _ _ _ h => h
theorem KW_refl {k : St → Prop} {st : St} (h : k st) : KW k st := ⟨st, Wk.refl st, h⟩
theorem KW_of {k : St → Prop} {st st' : St} (hw : Wk st st') (h : k st') : KW k st := ⟨st', hw, h⟩
theorem Wk.cast {s t u : St} (h : Wk s t) (e : t = u) : Wk s u := by subst e; exact h
/-- a condition, or nothing -/
def need {α : Type} (p : Bool) (x : Option α) : Option α := if p = true then x else none
theorem need_iff {α : Type} {p : Bool} {x : Option α} {o : α} : need p x = some o ↔ p = true ∧ x = some o := by
  unfold need; cases p <;> simp
theorem getD_some {α : Type} {x : Option α} {d : α} (h : x.isSome = true) : x = some (x.getD d) := by cases x <;> simp_all
def inB (n : Int) (len : Nat) : Bool := decide (0 ≤ n) && decide (n < (len : Int))
def atI {α : Type} [Inhabited α] (xs : List α) (n : Int) : α := xs.getD n.toNat default
section
variable {α : Type} [Inhabited α] {e : α → AV} {xs : List α} {n : Int} {h : Nat → Option Blk} {k : IntKind} {es : Nat}
theorem atI_get (hb : inB n xs.length = true) : xs[n.toNat]? = some (atI xs n) := by
  simp only [inB, Bool.and_eq_true, decide_eq_true_eq] at hb
  have : n.toNat < xs.length := by omega
  simp [atI, this]
theorem getE (hb : inB n xs.length = true) : (xs.map e)[n.toNat]? = some (e (atI xs n)) := by rw [List.getElem?_map, atI_get hb]; rfl
theorem iaddr_sl (hb : inB n xs.length = true) (hc : (e (atI xs n)).cells.length = es) : viaddrS h es (.sl (xs.map e)) (.int k n) = some (.ptr (e (atI xs n)) 0) := by
  have h0 : 0 ≤ n := by simp only [inB, Bool.and_eq_true, decide_eq_true_eq] at hb; exact hb.1
  simp only [viaddrS, if_pos h0, getE hb, if_pos hc]
theorem iaddr_lsl {l off len : Nat} (hb : inB n len = true) : viaddrS h es (.lsl l off len) (.int k n) = match h l with
    | some b => if b.es = es then some (.lptr l (off + n.toNat) 0) else none
    | none => none := by
  simp only [inB, Bool.and_eq_true, decide_eq_true_eq] at hb
  simp only [viaddrS]
  rw [if_pos hb]
  cases h l <;> rfl
end
def f2iOk (d : IntKind) (k : FloatKind) (c : Nat) : Bool := match f2i k c with
  | some n => decide (d.min ≤ n) && decide (n ≤ d.max)
  | none => false
def f2iV (k : FloatKind) (c : Nat) : Int := (f2i k c).getD 0
theorem f2iK_eq (d : IntKind) (k : FloatKind) (c : Nat) : f2iK d (f2i k c) = if f2iOk d k c = true then some (.int d (f2iV k c)) else none := by
  unfold f2iK f2iOk f2iV
  cases f2i k c with
  | none => rfl
  | some n => simp
theorem bits_i64 : IntKind.bits .i64 = 64 := rfl
theorem bits_i32 : IntKind.bits .i32 = 32 := rfl
theorem bits_u64 : IntKind.bits .u64 = 64 := rfl
theorem bits_u32 : IntKind.bits .u32 = 32 := rfl
theorem bits_u8 : IntKind.bits .u8 = 8 := rfl

/-- every name that the value bears is one of these; the number bounds how deep the value is -/
def nameIn : Nat → List Nat → AV → Bool
  | _, ls, .lptr m _ _ => ls.contains m
  | _, ls, .lsl m _ _ => ls.contains m
  | n + 1, ls, .agg cs => cs.all (nameIn n ls)
  | n + 1, ls, .tup cs => cs.all (nameIn n ls)
  | n + 1, ls, .fn _ a b => a.all (nameIn n ls) && b.all (nameIn n ls)
  | 0, _, .agg _ => false
  | 0, _, .tup _ => false
  | 0, _, .fn .. => false
  | _, _, _ => true
def blkIn (ls : List Nat) (b : Blk) : Bool := b.pur || b.elems.all fun x => x.cells.all (nameIn 2 ls)
def optIn (ls : List Nat) : Option Blk → Bool
  | none => true
  | some b => blkIn ls b
def normOk (ks ls : List Nat) (st : St) : Bool := ks.all (fun k => nameIn 2 ls (st.get k)) && ls.all (fun l => optIn ls (st.hp l))
def normS (ks ls : List Nat) (st : St) : St := ⟨ks.map fun k => (k, st.get k), ls.map fun l => (l, st.hp l)⟩

theorem V.keepNames {ρ : Nat → Option Nat} {h h' : Nat → Option Blk} {w : World} {Z Z' : Nat → Prop} {ls : List Nat} (hh : ∀ l ∈ ls, h' l = h l) (hz : ∀ b, Z b → Z' b) :
    ∀ {v : Value} {a : AV}, V ρ h w Z v a → ∀ {n : Nat}, nameIn n ls a = true → V ρ h' w Z' v a := by
  intro v a hv
  induction hv with
  | pure hv => intro n _; exact .pure (hv.widen hz)
  | agg cs ds hl _ ih =>
    intro n hn
    cases n with
    | zero => cases hn
    | succ n =>
      simp only [nameIn, List.all_eq_true] at hn
      exact .agg cs ds hl fun i c d hc hd => ih i c d hc hd (hn d (List.mem_of_getElem? hd))
  | tup cs ds hl _ ih =>
    intro n hn
    cases n with
    | zero => cases hn
    | succ n =>
      simp only [nameIn, List.all_eq_true] at hn
      exact .tup cs ds hl fun i c d hc hd => ih i c d hc hd (hn d (List.mem_of_getElem? hd))
  | fn f c1 c2 d1 d2 hl1 hl2 _ _ ih1 ih2 =>
    intro n hn
    cases n with
    | zero => cases hn
    | succ n =>
      simp only [nameIn, List.all_eq_true, Bool.and_eq_true] at hn
      exact .fn f c1 c2 d1 d2 hl1 hl2 (fun i c d hc hd => ih1 i c d hc hd (hn.1 d (List.mem_of_getElem? hd))) (fun i c d hc hd => ih2 i c d hc hd (hn.2 d (List.mem_of_getElem? hd)))
  | lptr l i off B b hρ hb =>
    intro n hn
    have hl : l ∈ ls := by cases n <;> simpa [nameIn] using hn
    exact .lptr l i off B b hρ (by rw [hh l hl]; exact hb)
  | lsl l off len cap B b t k hρ hb hw hc hn' hl hm =>
    intro n hn
    have hl' : l ∈ ls := by cases n <;> simpa [nameIn] using hn
    exact .lsl l off len cap B b t k hρ (by rw [hh l hl']; exact hb) hw hc hn' hl hm
  | lnil l b hv hρ hb =>
    intro n hn
    have hl : l ∈ ls := by cases n <;> simpa [nameIn] using hn
    exact .lnil l b hv hρ (by rw [hh l hl]; exact hb)

theorem lk_map_mem {α : Type} (d : α) (f : Nat → α) : ∀ (ks : List Nat) (t : Nat), t ∈ ks → lk d (ks.map fun k => (k, f k)) t = f t
  | [], t, h => by cases h
  | k :: ks, t, h => by
    simp only [List.map_cons, lk]
    split
    · rename_i e; subst e; rfl
    · rename_i e
      refine lk_map_mem d f ks t ?_
      rcases List.mem_cons.1 h with h | h
      · exact absurd h.symm e
      · exact h
theorem lk_map_not {α : Type} (d : α) (f : Nat → α) : ∀ (ks : List Nat) (t : Nat), t ∉ ks → lk d (ks.map fun k => (k, f k)) t = d
  | [], t, h => rfl
  | k :: ks, t, h => by
    simp only [List.map_cons, lk]
    split
    · rename_i e; subst e; exact absurd List.mem_cons_self h
    · exact lk_map_not d f ks t fun hm => h (List.mem_cons_of_mem _ hm)

theorem wk_norm {ks ls : List Nat} {st : St} (hok : normOk ks ls st = true) : Wk st (normS ks ls st) := by
  rintro cf a w ⟨ρ, h⟩
  simp only [normOk, Bool.and_eq_true, List.all_eq_true] at hok
  have hin : ∀ l ∈ ls, (normS ks ls st).hp l = st.hp l := fun l hl => lk_map_mem none st.hp ls l hl
  have hout : ∀ l b, (normS ks ls st).hp l = some b → l ∈ ls ∧ st.hp l = some b := fun l b hb => by
    by_cases hl : l ∈ ls
    · exact ⟨hl, by rw [← hin l hl]; exact hb⟩
    · have : (normS ks ls st).hp l = none := lk_map_not none st.hp ls l hl
      rw [this] at hb; cases hb
  have hsome : ∀ l, ((normS ks ls st).hp l).isSome = true → l ∈ ls ∧ (st.hp l).isSome = true := fun l hl => by
    cases hb : (normS ks ls st).hp l with
    | none => rw [hb] at hl; cases hl
    | some b => obtain ⟨h1, h2⟩ := hout l b hb; exact ⟨h1, by rw [h2]; rfl⟩
  have hz : ∀ b, Zf cf.Z0 cf.base ρ st.hp w b → Zf cf.Z0 cf.base ρ (normS ks ls st).hp w b := fun b hb => ⟨hb.1, hb.2.1, fun l hl => hb.2.2 l (hsome l hl).2⟩
  have hV : ∀ {v : Value} {a : AV} {n : Nat}, V ρ st.hp w (Zf cf.Z0 cf.base ρ st.hp w) v a → nameIn n ls a = true → V ρ (normS ks ls st).hp w (Zf cf.Z0 cf.base ρ (normS ks ls st).hp w) v a := fun hv hn => hv.keepNames hin hz hn
  refine ⟨ρ, ⟨⟨fun l b B hb hρ => ?_, fun l b hb hρ => h.hp.nil l b (hout l b hb).2 hρ, fun l l' B hl hl' => h.hp.inj l l' B (hsome l hl).2 (hsome l' hl').2⟩, fun t => ?_, h.size, h.defers, h.fr, fun l B hl => h.own l B (hsome l hl).2, h.z0, h.pin, h.shp⟩⟩
  · obtain ⟨hl, hb'⟩ := hout l b hb
    obtain ⟨c, t, g1, g2, g3, g4, g5⟩ := h.hp.blk l b B hb' hρ
    refine ⟨c, t, g1, g2, g3, fun i x j d v q1 q2 q3 => ?_, fun hp i x j d v q1 q2 q3 => (g5 hp i x j d v q1 q2 q3).widen hz⟩
    have hk := hok.2 l hl
    rw [hb'] at hk
    simp only [optIn, blkIn, Bool.or_eq_true, List.all_eq_true] at hk
    rcases hk with hk | hk
    · exact .pure ((g5 hk i x j d v q1 q2 q3).widen hz)
    · exact hV (g4 i x j d v q1 q2 q3) (hk x (List.mem_of_getElem? q1) d (List.mem_of_getElem? q2))
  · by_cases ht : t ∈ ks
    · have e : (normS ks ls st).get t = st.get t := lk_map_mem AV.any st.get ks t ht
      rw [e]
      exact hV (h.tmp t) (hok.1 t ht)
    · have e : (normS ks ls st).get t = .any := lk_map_not AV.any st.get ks t ht
      rw [e]; exact .pure (.any _)

/-- a slice that is nil becomes one of the frame's own, with no element -/
def nilV (i : Option Nat) (l : Nat) : AV → AV
  | .snil => match i with
    | none => .lsl l 0 0
    | some _ => .snil
  | .agg cs => match i with
    | some i => match cs[i]? with
      | some .snil => .agg (cs.set i (.lsl l 0 0))
      | _ => .agg cs
    | none => .agg cs
  | x => x
def nilS (t : Nat) (i : Option Nat) (l es : Nat) (st : St) : St := (st.setH l (some ⟨es, true, []⟩)).set t (nilV i l (st.get t))

theorem V.nilV {ρ ρ' : Nat → Option Nat} {h h' : Nat → Option Blk} {w : World} {Z Z' : Nat → Prop} {l : Nat} {b : Blk} (hm : ∀ {v : Value} {a : AV}, V ρ h w Z v a → V ρ' h' w Z' v a) (hl : ρ' l = none) (hb : h' l = some b) {v : Value} {a : AV} (i : Option Nat) (hv : V ρ h w Z v a) :
    V ρ' h' w Z' v (nilV i l a) := by
  have nil : ∀ {v : Value}, V ρ h w Z v .snil → V ρ' h' w Z' v (.lsl l 0 0) := by
    intro v hv
    cases hv with
    | pure h0 => cases h0; exact .lnil l b (.inl rfl) hl hb
  unfold Go.Ab.nilV
  split
  · split
    · exact nil hv
    · exact hm hv
  · rename_i cs
    split
    · rename_i i
      split
      · rename_i hi
        obtain ⟨vs, rfl, hlen, hd⟩ := agg_inv hv
        refine .agg vs _ (by simpa using hlen) fun j c d hc hd' => ?_
        by_cases e : j = i
        · subst e
          have hlt : j < cs.length := (List.getElem?_eq_some_iff.1 hi).1
          rw [List.getElem?_set_self hlt] at hd'
          cases hd'
          exact nil (hd j c _ hc hi)
        · rw [List.getElem?_set_ne (Ne.symm e)] at hd'
          exact hm (hd j c d hc hd')
      · exact hm hv
    · exact hm hv
  · exact hm hv

theorem wk_nil {t l es : Nat} {i : Option Nat} {st : St} (hn : ((st.hp l).isNone && decide (l < 1000000)) = true) : Wk st (nilS t i l es st) := by
  rintro cf a w ⟨ρ, h⟩
  simp only [Bool.and_eq_true, decide_eq_true_eq] at hn
  have hlow := hn.2
  have hn' : st.hp l = none := by simpa using hn.1
  let ρ' : Nat → Option Nat := fun m => if m = l then none else ρ m
  have hhp : (nilS t i l es st).hp l = some ⟨es, true, []⟩ := by simp [nilS, St.hp_set, St.hp_setH]
  have hhp' : ∀ m, m ≠ l → (nilS t i l es st).hp m = st.hp m := fun m hm => by
    simp only [nilS, St.hp_set, St.hp_setH]; rw [if_neg (Ne.symm hm)]
  have hρ' : ∀ m, m ≠ l → ρ' m = ρ m := fun m hm => if_neg hm
  have hρl : ρ' l = none := if_pos rfl
  have hz : ∀ b, Zf cf.Z0 cf.base ρ st.hp w b → Zf cf.Z0 cf.base ρ' (nilS t i l es st).hp w b := fun b hb => ⟨hb.1, hb.2.1, fun m hm => by
    by_cases e : m = l
    · subst e; rw [hρl]; simp
    · rw [hρ' m e]; exact hb.2.2 m (by rw [← hhp' m e]; exact hm)⟩
  have hV : ∀ {v : Value} {a : AV}, V ρ st.hp w (Zf cf.Z0 cf.base ρ st.hp w) v a → V ρ' (nilS t i l es st).hp w (Zf cf.Z0 cf.base ρ' (nilS t i l es st).hp w) v a := fun hv => by
    refine hv.mono (fun b hb => ⟨hz b hb, rfl⟩) fun m b hb => ?_
    have hm : m ≠ l := fun e => by subst e; rw [hn'] at hb; cases hb
    exact ⟨hρ' m hm, ⟨b, by rw [hhp' m hm]; exact hb, rfl, rfl⟩, fun _ _ => rfl⟩
  refine ⟨ρ', ⟨⟨fun m b B hb hB => ?_, fun m b hb hB => ?_, fun m m' B hm hm' hB hB' => ?_⟩, fun u => ?_, h.size, h.defers, h.fr, fun m B hm hB => ?_, h.z0, fun m hm => by rw [← h.pin m hm]; exact hρ' m (by omega), h.shp⟩⟩
  · by_cases e : m = l
    · subst e; rw [hρl] at hB; cases hB
    · rw [hhp' m e] at hb; rw [hρ' m e] at hB
      obtain ⟨c, ct, g1, g2, g3, g4, g5⟩ := h.hp.blk m b B hb hB
      exact ⟨c, ct, g1, g2, g3, fun i x j d v q1 q2 q3 => hV (g4 i x j d v q1 q2 q3), fun hp i x j d v q1 q2 q3 => (g5 hp i x j d v q1 q2 q3).widen hz⟩
  · by_cases e : m = l
    · subst e; rw [hhp] at hb; cases hb; rfl
    · rw [hhp' m e] at hb; rw [hρ' m e] at hB
      exact h.hp.nil m b hb hB
  · have e : m ≠ l := fun e => by subst e; rw [hρl] at hB; cases hB
    have e' : m' ≠ l := fun e => by subst e; rw [hρl] at hB'; cases hB'
    rw [hρ' m e] at hB; rw [hρ' m' e'] at hB'
    rw [hhp' m e] at hm; rw [hhp' m' e'] at hm'
    exact h.hp.inj m m' B hm hm' hB hB'
  · have hget : (nilS t i l es st).get u = if t = u then nilV i l (st.get t) else st.get u := rfl
    rw [hget]
    split
    · rename_i e; subst e
      exact V.nilV hV hρl hhp i (h.tmp t)
    · exact hV (h.tmp u)
  · have e : m ≠ l := fun e => by subst e; rw [hρl] at hB; cases hB
    rw [hρ' m e] at hB; rw [hhp' m e] at hm
    exact h.own m B hm hB
theorem Wk.trans {a b c : St} (h : Wk a b) (h' : Wk b c) : Wk a c := fun cf x w hs => h' cf x w (h cf x w hs)
end Go.Ab

namespace Go.Ab
open Go.RowKit Ieee

theorem V0.drewN {w : World} {Z : Nat → Prop} {v : Value} {a : AV} (h : V0 w Z v a) (n : Nat) : V0 (w.drewN n) Z v a := h.mono (w := w) (w' := w.drewN n) fun b hb => ⟨hb, rfl⟩
theorem says_ext {P : Program} {f : FuncId} {fn : Func} {e : Array Value → Sem Value} (hf : P.funcs[f]? = some fn) (hname : (fn.name == "runtime.NumGoroutine") = false) (hb : fn.body.isNone = true) (hn : Extern.findNext fn = none) (he : Extern.find fn = some e) {vs : List AV} {r : AV}
    (H : ∀ (w : World) (Z : Nat → Prop) (args : Array Value), args.size = vs.length → (∀ (i : Nat) c d, args[i]? = some c → vs[i]? = some d → V0 w Z c d) → ∃ v n, (e args).run P w = .ok v (w.drewN n) ∧ V0 w Z v r) : Says P f vs r := by
  intro w Z args hZ hsz hV
  obtain ⟨v, n, h1, h2⟩ := H w Z args hsz hV
  refine .inl ⟨v, w.drewN n, ?_, ⟨rfl, rfl, rfl, Nat.le_refl _, fun _ _ => rfl⟩, (h2.drewN n).widen fun b hb => .inl hb⟩
  rw [run_callFunc_extern hf hname hb hn he, h1]; rfl
theorem args1 {w : World} {Z : Nat → Prop} {args : Array Value} {a : AV} (hs : args.size = [a].length) (h : ∀ (i : Nat) c d, args[i]? = some c → [a][i]? = some d → V0 w Z c d) : ∃ v, args = #[v] ∧ V0 w Z v a := by
  obtain ⟨l⟩ := args
  match l, hs with
  | [v], _ => exact ⟨v, rfl, h 0 v a rfl rfl⟩
theorem V0.flt_inv {w : World} {Z : Nat → Prop} {v : Value} {k : FloatKind} {c : Nat} (h : V0 w Z v (.flt k c)) : ∃ b, v = .float k b ∧ FV k b c := by
  cases h; exact ⟨_, rfl, by assumption⟩
theorem V0.int_inv {w : World} {Z : Nat → Prop} {v : Value} {k : IntKind} {n : Int} (h : V0 w Z v (.int k n)) : v = .int k n ∧ (Lit.int k n).wf = true := by
  cases h; exact ⟨rfl, by assumption⟩

section
variable {P : Program} {f : FuncId} {fn : Func}
theorem sqrt_def (b : Nat) : Extern.MathSqrt.sqrt #[.float .f64 b] = (match FloatKind.f64.format.sqrt b with
    | some r => pure (.float .f64 r)
    | none => do pure (.float .f64 (← choose (.nanBits .f64 b b)))) := rfl
theorem integral_def (name : String) (way : Toward) (x : Nat) : Extern.MathFloor.toIntegral name way #[.float .f64 x] = (match FloatKind.f64.decode x with
    | .nan s t =>
      if FloatKind.f64.format.quiet t = t then pure (.float .f64 x) else do
      let kept ← choose (.extern "math.Floor,Ceil,Trunc,RoundToEven.signallingNaN kept" 2)
      pure (.float .f64 (if kept == 1 then x else FloatKind.f64.encode (.nan s (FloatKind.f64.format.quiet t))))
    | d => pure (.float .f64 (FloatKind.f64.encode (d.integral way)))) := rfl
theorem says_sqrt (hf : P.funcs[f]? = some fn) (hname : (fn.name == "runtime.NumGoroutine") = false) (hb : fn.body.isNone = true) (hn : Extern.findNext fn = none) (he : Extern.find fn = some Extern.MathSqrt.sqrt) (c : Nat) : Says P f [.flt .f64 c] (.flt .f64 (fsqrt c)) := by
  refine says_ext hf hname hb hn he fun w Z args hs hV => ?_
  obtain ⟨v, rfl, hv⟩ := args1 hs hV
  obtain ⟨b, rfl, hfv⟩ := hv.flt_inv
  cases hq : FloatKind.f64.format.sqrt b with
  | some r => exact ⟨.float .f64 r, 0, by rw [sqrt_def, hq]; rfl, .flt _ _ _ (hfv.sqrt hq)⟩
  | none =>
    obtain ⟨r, h1, h2⟩ := choose_nan (P := P) .f64 b b w
    exact ⟨.float .f64 r, 1, by rw [sqrt_def, hq]; simp only [Sem.run_bind, h1, Result.andThen, Sem.run_pure], .flt _ _ _ (by rw [hfv.sqrt_none hq]; exact h2)⟩
theorem quiet_nan (s : Bool) (t : Nat) : FV .f64 (FloatKind.f64.encode (.nan s (FloatKind.f64.format.quiet t))) (nan .f64) := by
  refine ⟨FloatKind.f64.format.write_lt _, cn_of_nan ?_⟩
  have e1 : FloatKind.f64.format.infRung = 9218868437227405312 := by decide
  have e2 : FloatKind.f64.format.binade = 4503599627370496 := by decide
  have e3 : FloatKind.f64.format.signWeight = 9223372036854775808 := by decide
  have e4 : FloatKind.f64.format.fractionBits = 52 := by decide
  rw [isNaN_rung, decide_eq_true_eq]
  show FloatKind.f64.format.infRung < FloatKind.f64.format.word s (FloatKind.f64.format.infRung + FloatKind.f64.format.quiet t % FloatKind.f64.format.binade) % FloatKind.f64.format.signWeight
  have h1 : 0 < FloatKind.f64.format.quiet t % FloatKind.f64.format.binade := by
    rw [e2]
    unfold Format.quiet
    rw [e4, show (4503599627370496 : Nat) = 2 ^ 52 by decide, Nat.or_mod_two_pow]
    have : (2 ^ (52 - 1)) % 2 ^ 52 = 2 ^ 51 := by decide
    rw [this]
    exact Nat.lt_of_lt_of_le (by decide) Nat.right_le_or
  have h2 : FloatKind.f64.format.quiet t % FloatKind.f64.format.binade < FloatKind.f64.format.binade := Nat.mod_lt _ (by rw [e2]; decide)
  generalize FloatKind.f64.format.quiet t % FloatKind.f64.format.binade = q at *
  unfold Format.word
  rw [e1, e3]; rw [e2] at h2
  split <;> omega
theorem says_integral {name : String} {way : Toward} (hf : P.funcs[f]? = some fn) (hname : (fn.name == "runtime.NumGoroutine") = false) (hb : fn.body.isNone = true) (hn : Extern.findNext fn = none) (he : Extern.find fn = some (Extern.MathFloor.toIntegral name way)) (c : Nat) : Says P f [.flt .f64 c] (.flt .f64 (integral way c)) := by
  refine says_ext hf hname hb hn he fun w Z args hs hV => ?_
  obtain ⟨v, rfl, hv⟩ := args1 hs hV
  obtain ⟨b, rfl, hfv⟩ := hv.flt_inv
  by_cases hN : isNaN .f64 b = true
  · obtain ⟨s, t, hd⟩ := decode_of_nan hN
    have hc : isNaN .f64 c = true := by rw [← hfv.nan]; exact hN
    have hi : integral way c = nan .f64 := by unfold integral; rw [if_pos hc]
    have hb' : FV .f64 b (nan .f64) := ⟨hfv.lt, cn_of_nan hN⟩
    rw [hi]
    by_cases hq : FloatKind.f64.format.quiet t = t
    · exact ⟨.float .f64 b, 0, by rw [integral_def, hd]; simp only [if_pos hq]; rfl, .flt _ _ _ hb'⟩
    · have hch : ∃ u, (choose (.extern "math.Floor,Ceil,Trunc,RoundToEven.signallingNaN kept" 2)).run P w = .ok u (w.drewN 1) := ⟨_, rfl⟩
      obtain ⟨u, hu⟩ := hch
      refine ⟨.float .f64 (if u == 1 then b else FloatKind.f64.encode (.nan s (FloatKind.f64.format.quiet t))), 1, ?_, .flt _ _ _ ?_⟩
      · rw [integral_def, hd]
        simp only [if_neg hq, Sem.run_bind, hu, Result.andThen, Sem.run_pure]
      · split
        · exact hb'
        · exact quiet_nan s t
  · have hN' : isNaN .f64 b = false := by simpa using hN
    have hbc := hfv.not (by rw [← hfv.nan]; exact hN')
    subst hbc
    have hi : integral way b = FloatKind.f64.encode ((FloatKind.f64.decode b).integral way) := by unfold integral; rw [if_neg hN]
    rw [hi]
    refine ⟨.float .f64 (FloatKind.f64.encode ((FloatKind.f64.decode b).integral way)), 0, ?_, .flt _ _ _ ⟨FloatKind.f64.format.write_lt _, cn_of_not (write_not_nan _ _ ?_)⟩⟩
    · cases hd : FloatKind.f64.decode b with
      | nan s t =>
        exfalso
        have : isNaN .f64 b = true := by unfold isNaN; show (FloatKind.f64.decode b).isNaN = true; rw [hd]; rfl
        rw [this] at hN'; cases hN'
      | number s m e => rw [integral_def, hd]; rfl
      | infinity s => rw [integral_def, hd]; rfl
    · cases hd : FloatKind.f64.decode b with
      | nan s t =>
        exfalso
        have : isNaN .f64 b = true := by unfold isNaN; show (FloatKind.f64.decode b).isNaN = true; rw [hd]; rfl
        rw [this] at hN'; cases hN'
      | number s m e => rfl
      | infinity s => rfl

theorem feq_self {k : FloatKind} {c : Nat} (h : feq k c c = true) : isNaN k c = false := by
  unfold feq at h
  cases ho : ford k c c with
  | none => rw [ho] at h; cases h
  | some o => exact (ford_some ho).1
def g_f64bits : List AV → Option AV
  | [.flt .f64 c] => if feq .f64 c c = true then some (.int .u64 c) else none
  | [.raw (.float .f64 b)] => if b < 2 ^ 64 then some (.int .u64 b) else none
  | _ => none
def g_f32bits : List AV → Option AV
  | [.flt .f32 c] => if feq .f32 c c = true then some (.int .u32 c) else none
  | _ => none
def g_f64from : List AV → Option AV
  | [.int .u64 n] => some (.flt .f64 (cn .f64 n.toNat))
  | _ => none
def g_f32from : List AV → Option AV
  | [.int .u32 n] => some (.flt .f32 (cn .f32 n.toNat))
  | _ => none
def g_sqrt : List AV → Option AV
  | [.flt .f64 c] => some (.flt .f64 (fsqrt c))
  | _ => none
def g_integral (way : Toward) : List AV → Option AV
  | [.flt .f64 c] => some (.flt .f64 (integral way c))
  | _ => none
theorem wf_bits {k : IntKind} {n : Nat} (h : (n : Int) ≤ k.max) (h0 : k.min = 0) : (Lit.int k n).wf = true := bounds_wf (by rw [h0]; omega) h
theorem t_f64bits (hf : P.funcs[f]? = some fn) (hname : (fn.name == "runtime.NumGoroutine") = false) (hb : fn.body.isNone = true) (hn : Extern.findNext fn = none) (he : Extern.find fn = some Extern.MathFloatBits.float64bits) : ∀ vs r, g_f64bits vs = some r → Says P f vs r := by
  intro vs r h
  unfold g_f64bits at h
  split at h
  · rename_i c
    split at h
    · rename_i hq
      cases h
      refine says_ext hf hname hb hn he fun w Z args hs hV => ?_
      obtain ⟨v, rfl, hv⟩ := args1 hs hV
      obtain ⟨b, rfl, hfv⟩ := hv.flt_inv
      have hbc := hfv.not (feq_self hq)
      subst hbc
      have hlt : b < 2 ^ 64 := hfv.lt
      exact ⟨.int .u64 b, 0, rfl, .int _ _ (wf_bits (by show (b : Int) ≤ 18446744073709551615; omega) rfl)⟩
    · cases h
  · rename_i b
    split at h
    · rename_i hlt
      cases h
      refine says_ext hf hname hb hn he fun w Z args hs hV => ?_
      obtain ⟨v, rfl, hv⟩ := args1 hs hV
      cases hv
      exact ⟨.int .u64 b, 0, rfl, .int _ _ (wf_bits (by show (b : Int) ≤ 18446744073709551615; omega) rfl)⟩
    · cases h
  · cases h
theorem t_f32bits (hf : P.funcs[f]? = some fn) (hname : (fn.name == "runtime.NumGoroutine") = false) (hb : fn.body.isNone = true) (hn : Extern.findNext fn = none) (he : Extern.find fn = some Extern.MathFloatBits.float32bits) : ∀ vs r, g_f32bits vs = some r → Says P f vs r := by
  intro vs r h
  unfold g_f32bits at h
  split at h
  · rename_i c
    split at h
    · rename_i hq
      cases h
      refine says_ext hf hname hb hn he fun w Z args hs hV => ?_
      obtain ⟨v, rfl, hv⟩ := args1 hs hV
      obtain ⟨b, rfl, hfv⟩ := hv.flt_inv
      have hbc := hfv.not (feq_self hq)
      subst hbc
      have hlt : b < 2 ^ 32 := hfv.lt
      exact ⟨.int .u32 b, 0, rfl, .int _ _ (wf_bits (by show (b : Int) ≤ 4294967295; omega) rfl)⟩
    · cases h
  · cases h
theorem t_f64from (hf : P.funcs[f]? = some fn) (hname : (fn.name == "runtime.NumGoroutine") = false) (hb : fn.body.isNone = true) (hn : Extern.findNext fn = none) (he : Extern.find fn = some Extern.MathFloatBits.float64frombits) : ∀ vs r, g_f64from vs = some r → Says P f vs r := by
  intro vs r h
  unfold g_f64from at h
  split at h
  · rename_i n
    cases h
    refine says_ext hf hname hb hn he fun w Z args hs hV => ?_
    obtain ⟨v, rfl, hv⟩ := args1 hs hV
    obtain ⟨rfl, hw⟩ := hv.int_inv
    have h2 := (wf_bounds hw)
    have h3 : (0 : Int) ≤ n ∧ n ≤ 18446744073709551615 := h2
    exact ⟨.float .f64 n.toNat, 0, rfl, .flt _ _ _ ⟨by show n.toNat < 18446744073709551616; omega, rfl⟩⟩
  · cases h
theorem t_f32from (hf : P.funcs[f]? = some fn) (hname : (fn.name == "runtime.NumGoroutine") = false) (hb : fn.body.isNone = true) (hn : Extern.findNext fn = none) (he : Extern.find fn = some Extern.MathFloatBits.float32frombits) : ∀ vs r, g_f32from vs = some r → Says P f vs r := by
  intro vs r h
  unfold g_f32from at h
  split at h
  · rename_i n
    cases h
    refine says_ext hf hname hb hn he fun w Z args hs hV => ?_
    obtain ⟨v, rfl, hv⟩ := args1 hs hV
    obtain ⟨rfl, hw⟩ := hv.int_inv
    have h2 := (wf_bounds hw)
    have h3 : (0 : Int) ≤ n ∧ n ≤ 4294967295 := h2
    exact ⟨.float .f32 n.toNat, 0, rfl, .flt _ _ _ ⟨by show n.toNat < 4294967296; omega, rfl⟩⟩
  · cases h
theorem t_sqrt (hf : P.funcs[f]? = some fn) (hname : (fn.name == "runtime.NumGoroutine") = false) (hb : fn.body.isNone = true) (hn : Extern.findNext fn = none) (he : Extern.find fn = some Extern.MathSqrt.sqrt) : ∀ vs r, g_sqrt vs = some r → Says P f vs r := by
  intro vs r h
  unfold g_sqrt at h
  split at h
  · cases h; exact says_sqrt hf hname hb hn he _
  · cases h
theorem t_integral {name : String} {way : Toward} (hf : P.funcs[f]? = some fn) (hname : (fn.name == "runtime.NumGoroutine") = false) (hb : fn.body.isNone = true) (hn : Extern.findNext fn = none) (he : Extern.find fn = some (Extern.MathFloor.toIntegral name way)) : ∀ vs r, g_integral way vs = some r → Says P f vs r := by
  intro vs r h
  unfold g_integral at h
  split at h
  · cases h; exact says_integral hf hname hb hn he _
  · cases h
/-- what is said of every float that the canonical bits stand for, is said of the canonical bits -/
theorem says_raw1 {k : FloatKind} {c : Nat} {r : AV} (H : ∀ b, FV k b c → Says P f [.raw (.float k b)] r) : Says P f [.flt k c] r := by
  intro w Z args hZ hsz hV
  obtain ⟨v, rfl, hv⟩ := args1 hsz hV
  obtain ⟨b, rfl, hfv⟩ := hv.flt_inv
  refine H b hfv w Z _ hZ rfl fun i c d hc hd => ?_
  match i with
  | 0 => cases hc; cases hd; exact .raw _
  | i + 1 => cases hc
end
end Go.Ab

namespace Go.Ab
open Ieee

/-- what is cut and rounded stays at or below a bound that is a whole number of units -/
theorem cut_le (neg : Bool) (n drop R : Nat) (h : n ≤ R * 2 ^ drop) : Toward.even.cut neg n drop ≤ R := by
  unfold Toward.cut
  dsimp only
  by_cases hd : drop ≤ n.log2 + 2
  · rw [Nat.min_eq_left hd, Nat.one_shiftLeft]
    have hg : 0 < 2 ^ drop := Nat.two_pow_pos _
    generalize 2 ^ drop = g at *
    have h1 : n / g ≤ R := (Nat.div_le_iff_le_mul_add_pred hg).2 (by rw [Nat.mul_comm]; omega)
    have h2 := Nat.div_add_mod n g
    by_cases hm : (decide (g < 2 * (n % g)) || g == 2 * (n % g) && n / g % 2 == 1) = true
    · rw [hm]
      have h3 : 0 < n % g := by
        simp only [Bool.or_eq_true, decide_eq_true_eq, Bool.and_eq_true, beq_iff_eq] at hm
        omega
      have h4 : n / g < R := by
        apply Nat.lt_of_not_le
        intro h5
        have h6 : R * g ≤ g * (n / g) := by rw [Nat.mul_comm]; exact Nat.mul_le_mul_left _ h5
        omega
      show n / g + 1 ≤ R
      omega
    · have : (decide (g < 2 * (n % g)) || g == 2 * (n % g) && n / g % 2 == 1) = false := by simpa using hm
      rw [this]
      exact h1
  · rw [Nat.min_eq_right (by omega), Nat.one_shiftLeft]
    have hlt : n < 2 ^ (n.log2 + 1) := Nat.lt_log2_self
    have h2 : 2 ^ (n.log2 + 2) = 2 * 2 ^ (n.log2 + 1) := by rw [Nat.pow_succ]; omega
    generalize 2 ^ (n.log2 + 2) = g at *
    have h0 : n / g = 0 := Nat.div_eq_of_lt (by omega)
    have h1 : n % g = n := Nat.mod_eq_of_lt (by omega)
    rw [h0, h1]
    have : (decide (g < 2 * n) || g == 2 * n && 0 % 2 == 1) = false := by
      simp; omega
    rw [this]
    exact Nat.zero_le _

/-- the value of a rung, in units of the least place -/
def rv (f : Format) (R : Nat) : Nat := if R < f.binade then R else (f.binade + R % f.binade) * 2 ^ (R / f.binade - 1)

theorem rv_small (f : Format) {R : Nat} (h : R < 2 * f.binade) : rv f R = R := by
  unfold rv
  split
  · rfl
  · have hb : 0 < f.binade := Nat.two_pow_pos _
    have h1 : R / f.binade = 1 := by
      apply Nat.div_eq_of_lt_le <;> omega
    have h2 := Nat.div_add_mod R f.binade
    rw [h1] at h2 ⊢
    simp; omega
/-- a value at most that of a rung is rounded to a rung at most that one -/
theorem nearest_le (f : Format) (neg : Bool) (mag : Nat) (place : Int) (R : Nat)
    (h : mag * 2 ^ (place - f.leastPlace).toNat ≤ rv f R * 2 ^ (f.leastPlace - place).toNat) :
    ∃ r, f.nearest neg mag place = f.word neg r ∧ r ≤ R := by
  unfold Format.nearest
  by_cases h0 : mag = 0
  · rw [if_pos h0]; exact ⟨0, rfl, Nat.zero_le _⟩
  rw [if_neg h0]
  refine ⟨_, rfl, Nat.le_trans (Nat.min_le_left _ _) ?_⟩
  have hb : 0 < f.binade := Nat.two_pow_pos _
  have hbd : f.binade = 2 ^ f.fractionBits := rfl
  have hlog : mag < 2 ^ (mag.log2 + 1) := Nat.lt_log2_self
  have hlog' : 2 ^ mag.log2 ≤ mag := Nat.log2_self_le h0
  generalize mag.log2 = lg at *
  generalize f.leastPlace = lp at *
  generalize f.fractionBits = fb at *
  have le2 : ∀ (i j : Nat), lg + 1 + i ≤ fb + 1 + j → mag * 2 ^ i ≤ 2 * f.binade * 2 ^ j := by
    intro i j hij
    have e1 : mag * 2 ^ i ≤ 2 ^ (lg + 1) * 2 ^ i := Nat.mul_le_mul_right _ (Nat.le_of_lt hlog)
    have e2 : 2 ^ (lg + 1) * 2 ^ i = 2 ^ (lg + 1 + i) := (Nat.pow_add 2 _ _).symm
    have e3 : 2 * f.binade * 2 ^ j = 2 ^ (fb + 1 + j) := by rw [hbd, Nat.pow_add 2 (fb + 1), Nat.pow_succ, Nat.mul_comm 2]
    rw [e3]
    exact Nat.le_trans e1 (by rw [e2]; exact Nat.pow_le_pow_right (by omega) hij)
  by_cases hA : place + lg - fb ≤ lp
  · have hl : max (place + (lg : Int) - fb) lp = lp := by omega
    rw [hl, Int.sub_self]
    simp only [Int.toNat_zero, Nat.zero_mul, Nat.zero_add, Nat.shiftLeft_eq]
    have k1 := cut_le neg _ _ _ h
    have k2 := cut_le neg _ _ _ (le2 (place - lp).toNat (lp - place).toNat (by omega))
    by_cases hR : R < 2 * f.binade
    · rw [rv_small f hR] at k1; exact k1
    · omega
  · have hl : max (place + (lg : Int) - fb) lp = place + lg - fb := by omega
    rw [hl]
    generalize hL : (place + (lg : Int) - fb - lp).toNat = L
    have hL1 : 1 ≤ L := by omega
    rw [show place - (place + (lg : Int) - fb) = (fb : Int) - lg by omega, show place + (lg : Int) - fb - place = (lg : Int) - fb by omega]
    simp only [Nat.shiftLeft_eq]
    have k2 := cut_le neg (mag * 2 ^ ((fb : Int) - lg).toNat) ((lg : Int) - fb).toNat (2 * f.binade) (le2 _ _ (by omega))
    -- the value is at least 'binade * 2 ^ L'
    have hge : f.binade * 2 ^ L * 2 ^ (lp - place).toNat ≤ mag * 2 ^ (place - lp).toNat := by
      have e1 : 2 ^ lg * 2 ^ (place - lp).toNat ≤ mag * 2 ^ (place - lp).toNat := Nat.mul_le_mul_right _ hlog'
      refine Nat.le_trans (Nat.le_of_eq ?_) e1
      rw [hbd, ← Nat.pow_add, ← Nat.pow_add, ← Nat.pow_add]
      congr 1; omega
    have hrv : f.binade * 2 ^ L ≤ rv f R := Nat.le_of_mul_le_mul_right (Nat.le_trans hge h) (Nat.two_pow_pos _)
    have hpow : 2 ≤ 2 ^ L := by
      have := Nat.pow_le_pow_right (n := 2) (by omega) hL1
      simpa using this
    by_cases hR : R < 2 * f.binade
    · rw [rv_small f hR] at hrv
      have : f.binade * 2 ≤ f.binade * 2 ^ L := Nat.mul_le_mul_left _ hpow
      omega
    · have hRv : rv f R = (f.binade + R % f.binade) * 2 ^ (R / f.binade - 1) := by unfold rv; rw [if_neg (by omega)]
      have hdm := Nat.div_add_mod R f.binade
      have hlt := Nat.mod_lt R hb
      have hq2 : 2 ≤ R / f.binade := (Nat.le_div_iff_mul_le hb).2 (by omega)
      generalize R / f.binade = D at *
      generalize R % f.binade = t at *
      have hRD : R = D * f.binade + t := by rw [Nat.mul_comm]; exact hdm.symm
      by_cases hc : L + 2 ≤ D
      · have : (L + 2) * f.binade ≤ D * f.binade := Nat.mul_le_mul_right _ hc
        rw [Nat.add_mul] at this
        omega
      · by_cases hc2 : L + 1 = D
        · subst hc2
          rw [hRv, show L + 1 - 1 = L by omega] at h
          have k3 : mag * 2 ^ ((fb : Int) - lg).toNat ≤ (f.binade + t) * 2 ^ ((lg : Int) - fb).toNat := by
            apply Nat.le_of_mul_le_mul_right (c := 2 ^ (L + (lp - place).toNat)) _ (Nat.two_pow_pos _)
            have e1 : mag * 2 ^ ((fb : Int) - lg).toNat * 2 ^ (L + (lp - place).toNat) = mag * 2 ^ (place - lp).toNat * 2 ^ ((lg : Int) - fb).toNat := by
              rw [Nat.mul_assoc, Nat.mul_assoc, ← Nat.pow_add, ← Nat.pow_add]
              congr 2; omega
            have e2 : (f.binade + t) * 2 ^ ((lg : Int) - fb).toNat * 2 ^ (L + (lp - place).toNat) = (f.binade + t) * 2 ^ L * 2 ^ (lp - place).toNat * 2 ^ ((lg : Int) - fb).toNat := by
              simp only [Nat.mul_assoc, ← Nat.pow_add]
              congr 2; omega
            rw [e1, e2]
            exact Nat.mul_le_mul_right _ h
          have k4 := cut_le neg _ _ _ k3
          rw [Nat.add_mul] at hRD
          omega
        · exfalso
          have h1 : D - 1 + 1 ≤ L := by omega
          have h2 : 2 ^ (D - 1) * 2 ≤ 2 ^ L := by
            rw [← Nat.pow_succ]; exact Nat.pow_le_pow_right (by omega) h1
          have h3 : (f.binade + t) * 2 ^ (D - 1) < 2 * f.binade * 2 ^ (D - 1) := Nat.mul_lt_mul_of_pos_right (by omega) (Nat.two_pow_pos _)
          have h4 : 2 * f.binade * 2 ^ (D - 1) = f.binade * (2 ^ (D - 1) * 2) := by
            rw [Nat.mul_comm 2 f.binade, Nat.mul_assoc, Nat.mul_comm 2]
          have h5 : f.binade * (2 ^ (D - 1) * 2) ≤ f.binade * 2 ^ L := Nat.mul_le_mul_left _ h2
          omega
end Go.Ab

namespace Go.Ab
open Ieee

theorem rv_big (f : Format) {R : Nat} (h : f.binade ≤ R) : rv f R = (f.binade + R % f.binade) * 2 ^ (R / f.binade - 1) := by unfold rv; rw [if_neg (by omega)]
theorem rv_succ (f : Format) (R : Nat) : rv f R ≤ rv f (R + 1) := by
  have hb : 0 < f.binade := Nat.two_pow_pos _
  by_cases h : R < f.binade
  · by_cases h2 : R + 1 < f.binade
    · unfold rv; rw [if_pos h, if_pos h2]; omega
    · rw [rv_small f (by omega), rv_small f (by omega)]; omega
  · rw [rv_big f (by omega), rv_big f (by omega)]
    have hdm := Nat.div_add_mod R f.binade
    have hlt := Nat.mod_lt R hb
    have hq : 1 ≤ R / f.binade := (Nat.le_div_iff_mul_le hb).2 (by omega)
    generalize hD : R / f.binade = D at *
    generalize ht : R % f.binade = t at *
    by_cases hc : t + 1 < f.binade
    · have e1 : (R + 1) / f.binade = D := by
        apply Nat.div_eq_of_lt_le
        · rw [Nat.mul_comm]; omega
        · rw [Nat.add_mul, Nat.mul_comm D]; omega
      have e2 : (R + 1) % f.binade = t + 1 := by
        have := Nat.div_add_mod (R + 1) f.binade
        rw [e1] at this; omega
      rw [e1, e2]
      exact Nat.mul_le_mul_right _ (by omega)
    · have e1 : (R + 1) / f.binade = D + 1 := by
        apply Nat.div_eq_of_lt_le
        · rw [Nat.add_mul, Nat.mul_comm D]; omega
        · rw [Nat.add_mul, Nat.add_mul, Nat.mul_comm D]; omega
      have e2 : (R + 1) % f.binade = 0 := by
        have := Nat.div_add_mod (R + 1) f.binade
        rw [e1, Nat.mul_add] at this; omega
      rw [e1, e2, show D + 1 - 1 = D - 1 + 1 by omega, Nat.pow_succ]
      have : (f.binade + t) * 2 ^ (D - 1) ≤ (2 * f.binade) * 2 ^ (D - 1) := Nat.mul_le_mul_right _ (by omega)
      refine Nat.le_trans this (Nat.le_of_eq ?_)
      rw [Nat.add_zero, Nat.mul_comm 2, Nat.mul_assoc, Nat.mul_comm 2]
theorem rv_mono (f : Format) {R S : Nat} (h : R ≤ S) : rv f R ≤ rv f S := by
  induction h with
  | refl => exact Nat.le_refl _
  | step _ ih => exact Nat.le_trans ih (rv_succ f _)

/-- a number at most so great, in units of the least place -/
def Mg (f : Format) (c B : Nat) : Prop := ∃ s m e, f.read c = .number s m e ∧ f.leastPlace ≤ e ∧ m * 2 ^ (e - f.leastPlace).toNat ≤ B
theorem Mg.mono {f : Format} {c B B' : Nat} (h : Mg f c B) (hb : B ≤ B') : Mg f c B' := by
  obtain ⟨s, m, e, h1, h2, h3⟩ := h
  exact ⟨s, m, e, h1, h2, Nat.le_trans h3 hb⟩

theorem read_word (f : Format) (neg : Bool) {r : Nat} (h : r < f.infRung) : ∃ m e, f.read (f.word neg r) = .number neg m e ∧ f.leastPlace ≤ e ∧ m * 2 ^ (e - f.leastPlace).toNat = rv f r := by
  have h1 := f.infRung_lt
  have h2 : (f.word neg r) % f.signWeight = r := by
    unfold Format.word
    split
    · rw [Nat.add_mod_left]; exact Nat.mod_eq_of_lt (by omega)
    · exact Nat.mod_eq_of_lt (by omega)
  have h3 : ((f.word neg r) / f.signWeight % 2 == 1) = neg := by
    have hs : 0 < f.signWeight := Nat.two_pow_pos _
    unfold Format.word
    cases neg
    · rw [if_neg (by decide), Nat.div_eq_of_lt (by omega)]; rfl
    · rw [if_pos rfl, Nat.add_div_left _ hs, Nat.div_eq_of_lt (by omega)]; rfl
  unfold Format.read
  simp only [h2, h3]
  by_cases hb : r < f.binade
  · rw [if_pos hb]
    refine ⟨_, _, rfl, Int.le_refl _, ?_⟩
    unfold rv; rw [if_pos hb, Int.sub_self]; simp
  · rw [if_neg hb, if_pos h]
    refine ⟨_, _, rfl, by omega, ?_⟩
    rw [rv_big f (by omega)]
    congr 2
    omega

theorem mg_nearest (f : Format) (neg : Bool) (mag : Nat) (place : Int) {R : Nat} (hR : R < f.infRung)
    (h : mag * 2 ^ (place - f.leastPlace).toNat ≤ rv f R * 2 ^ (f.leastPlace - place).toNat) : Mg f (f.nearest neg mag place) (rv f R) := by
  obtain ⟨r, e1, e2⟩ := nearest_le f neg mag place R h
  obtain ⟨m, e, g1, g2, g3⟩ := read_word f neg (Nat.lt_of_le_of_lt e2 hR)
  exact ⟨neg, m, e, by rw [e1]; exact g1, g2, by rw [g3]; exact rv_mono f e2⟩

theorem natAbs_signed (neg : Bool) (m up : Nat) : (signed neg m up).natAbs = m * 2 ^ up := by
  unfold signed
  rw [Nat.shiftLeft_eq]
  split <;> omega
theorem units (m : Nat) {i lp base : Int} (h1 : base ≤ i) (h2 : lp ≤ base) : m * 2 ^ (i - base).toNat * 2 ^ (base - lp).toNat = m * 2 ^ (i - lp).toNat := by
  rw [Nat.mul_assoc, ← Nat.pow_add]
  congr 2
  omega

theorem mg_sum {f : Format} {a b A B R : Nat} (ha : Mg f a A) (hb : Mg f b B) (h : A + B ≤ rv f R) (hR : R < f.infRung) : ∃ d, (f.read a).sum (f.read b) = some d ∧ Mg f (f.write d) (rv f R) := by
  obtain ⟨s, m, i, h1, h2, h3⟩ := ha
  obtain ⟨t, n, j, g1, g2, g3⟩ := hb
  rw [h1, g1]
  refine ⟨_, rfl, mg_nearest f _ _ _ hR ?_⟩
  have e0 : (f.leastPlace - min i j).toNat = 0 := by omega
  rw [e0, Nat.pow_zero, Nat.mul_one]
  have e1 : (signed s m (i - min i j).toNat + signed t n (j - min i j).toNat).natAbs ≤ m * 2 ^ (i - min i j).toNat + n * 2 ^ (j - min i j).toNat := by
    refine Nat.le_trans (Int.natAbs_add_le _ _) ?_
    rw [natAbs_signed, natAbs_signed]
    exact Nat.le_refl _
  refine Nat.le_trans (Nat.mul_le_mul_right _ e1) ?_
  rw [Nat.add_mul, units m (by omega) (by omega), units n (by omega) (by omega)]
  omega
theorem mg_op {k : FloatKind} {g : Datum → Datum → Option Datum} {a b R : Nat} (h : ∃ d, g (k.format.read a) (k.format.read b) = some d ∧ Mg k.format (k.format.write d) R) : Mg k.format (op2 k g a b) R := by
  obtain ⟨d, h1, h2⟩ := h
  unfold op2; rw [h1]; exact h2
theorem mg_add {k : FloatKind} {a b A B R : Nat} (ha : Mg k.format a A) (hb : Mg k.format b B) (h : A + B ≤ rv k.format R) (hR : R < k.format.infRung) : Mg k.format (fadd k a b) (rv k.format R) := mg_op (mg_sum ha hb h hR)
theorem mg_sub {k : FloatKind} {a b A B R : Nat} (ha : Mg k.format a A) (hb : Mg k.format b B) (h : A + B ≤ rv k.format R) (hR : R < k.format.infRung) : Mg k.format (fsub k a b) (rv k.format R) := by
  obtain ⟨s, m, i, h1, h2, h3⟩ := ha
  obtain ⟨t, n, j, g1, g2, g3⟩ := hb
  refine mg_op (g := subD) ?_
  unfold subD
  rw [h1, g1]
  refine ⟨_, rfl, mg_nearest _ _ _ _ hR ?_⟩
  have e0 : (k.format.leastPlace - min i j).toNat = 0 := by omega
  rw [e0, Nat.pow_zero, Nat.mul_one]
  have e1 : (signed s m (i - min i j).toNat + signed (!t) n (j - min i j).toNat).natAbs ≤ m * 2 ^ (i - min i j).toNat + n * 2 ^ (j - min i j).toNat := by
    refine Nat.le_trans (Int.natAbs_add_le _ _) ?_
    rw [natAbs_signed, natAbs_signed]
    exact Nat.le_refl _
  refine Nat.le_trans (Nat.mul_le_mul_right _ e1) ?_
  rw [Nat.add_mul, units m (by omega) (by omega), units n (by omega) (by omega)]
  omega
/-- the same with the sign told -/
def Ms (f : Format) (s : Bool) (c B : Nat) : Prop := ∃ m e, f.read c = .number s m e ∧ f.leastPlace ≤ e ∧ m * 2 ^ (e - f.leastPlace).toNat ≤ B
theorem Ms.mg {f : Format} {s : Bool} {c B : Nat} (h : Ms f s c B) : Mg f c B := by
  obtain ⟨m, e, h⟩ := h
  exact ⟨s, m, e, h⟩
theorem ms_nearest (f : Format) (neg : Bool) (mag : Nat) (place : Int) {R : Nat} (hR : R < f.infRung)
    (h : mag * 2 ^ (place - f.leastPlace).toNat ≤ rv f R * 2 ^ (f.leastPlace - place).toNat) : Ms f neg (f.nearest neg mag place) (rv f R) := by
  obtain ⟨r, e1, e2⟩ := nearest_le f neg mag place R h
  obtain ⟨m, e, g1, g2, g3⟩ := read_word f neg (Nat.lt_of_le_of_lt e2 hR)
  exact ⟨m, e, by rw [e1]; exact g1, g2, by rw [g3]; exact rv_mono f e2⟩
theorem ms_op {k : FloatKind} {g : Datum → Datum → Option Datum} {a b R : Nat} {s : Bool} (h : ∃ d, g (k.format.read a) (k.format.read b) = some d ∧ Ms k.format s (k.format.write d) R) : Ms k.format s (op2 k g a b) R := by
  obtain ⟨d, h1, h2⟩ := h
  unfold op2; rw [h1]; exact h2
theorem ms_mul {k : FloatKind} {a b A B R : Nat} {s t : Bool} (ha : Ms k.format s a A) (hb : Ms k.format t b B) (h : A * B ≤ rv k.format R * 2 ^ (-k.format.leastPlace).toNat) (hR : R < k.format.infRung) (hlp : k.format.leastPlace ≤ 0) : Ms k.format (s ^^ t) (fmul k a b) (rv k.format R) := by
  obtain ⟨m, i, h1, h2, h3⟩ := ha
  obtain ⟨n, j, g1, g2, g3⟩ := hb
  refine ms_op ?_
  rw [h1, g1]
  refine ⟨_, rfl, ms_nearest _ _ _ _ hR ?_⟩
  generalize k.format.leastPlace = lp at *
  have e1 : m * n * 2 ^ ((i - lp).toNat + (j - lp).toNat) ≤ rv k.format R * 2 ^ (-lp).toNat := by
    refine Nat.le_trans (Nat.le_of_eq ?_) (Nat.le_trans (Nat.mul_le_mul h3 g3) h)
    rw [Nat.pow_add, Nat.mul_mul_mul_comm]
  by_cases hc : lp ≤ i + j
  · have e2 : (lp - (i + j)).toNat = 0 := by omega
    rw [e2, Nat.pow_zero, Nat.mul_one]
    apply Nat.le_of_mul_le_mul_right (c := 2 ^ (-lp).toNat) _ (Nat.two_pow_pos _)
    rw [Nat.mul_assoc, ← Nat.pow_add, show (i + j - lp).toNat + (-lp).toNat = (i - lp).toNat + (j - lp).toNat by omega]
    exact e1
  · have e2 : (i + j - lp).toNat = 0 := by omega
    rw [e2, Nat.pow_zero, Nat.mul_one]
    apply Nat.le_of_mul_le_mul_right (c := 2 ^ ((i - lp).toNat + (j - lp).toNat)) _ (Nat.two_pow_pos _)
    rw [Nat.mul_assoc (rv k.format R), ← Nat.pow_add, show (lp - (i + j)).toNat + ((i - lp).toNat + (j - lp).toNat) = (-lp).toNat by omega]
    exact e1

theorem mg_mul {k : FloatKind} {a b A B R : Nat} (ha : Mg k.format a A) (hb : Mg k.format b B) (h : A * B ≤ rv k.format R * 2 ^ (-k.format.leastPlace).toNat) (hR : R < k.format.infRung) (hlp : k.format.leastPlace ≤ 0) : Mg k.format (fmul k a b) (rv k.format R) := by
  obtain ⟨s, m, i, h1⟩ := ha
  obtain ⟨t, n, j, g1⟩ := hb
  exact (ms_mul ⟨m, i, h1⟩ ⟨n, j, g1⟩ h hR hlp).mg

/-- a number at least so great -/
def Ml (f : Format) (c B : Nat) : Prop := ∃ s m e, f.read c = .number s m e ∧ f.leastPlace ≤ e ∧ B ≤ m * 2 ^ (e - f.leastPlace).toNat
def Mls (f : Format) (s : Bool) (c B : Nat) : Prop := ∃ m e, f.read c = .number s m e ∧ f.leastPlace ≤ e ∧ B ≤ m * 2 ^ (e - f.leastPlace).toNat

/-- a bound of a quotient: 'T' (a power of two of units) is at least 'A / B' -/
theorem ms_div {k : FloatKind} {a b A B N R : Nat} {s t : Bool} (ha : Ms k.format s a A) (hb : Mls k.format t b B) (hB : 0 < B) (h : A * 2 ^ (-k.format.leastPlace).toNat ≤ 2 ^ N * B) (hT : 2 ^ N ≤ rv k.format R) (hR : R < k.format.infRung) (hlp : k.format.leastPlace ≤ 0) : Ms k.format (s ^^ t) (fdiv k a b) (rv k.format R) := by
  obtain ⟨m, i, h1, h2, h3⟩ := ha
  obtain ⟨n, j, g1, g2, g3⟩ := hb
  refine ms_op ?_
  rw [h1, g1]
  have hn : n ≠ 0 := by rintro rfl; omega
  generalize hdig : k.format.fractionBits + 2 = digits
  have hd : 2 ≤ digits := by omega
  unfold Datum.quotient
  dsimp only
  rw [if_neg hn]
  refine ⟨_, rfl, ms_nearest _ _ _ _ hR (Nat.le_trans ?_ (Nat.mul_le_mul_right _ hT))⟩
  generalize k.format.leastPlace = lp at *
  generalize hmore : digits + n.log2 - m.log2 = more
  rw [Nat.shiftLeft_eq]
  -- the exact quotient
  have hq : m * 2 ^ (i - lp).toNat * 2 ^ (-lp).toNat ≤ 2 ^ N * (n * 2 ^ (j - lp).toNat) :=
    Nat.le_trans (Nat.mul_le_mul_right _ h3) (Nat.le_trans h (Nat.mul_le_mul_left _ g3))
  have hn0 : 0 < n := by omega
  generalize hQ : m * 2 ^ more / n = Q
  generalize hr : m * 2 ^ more % n = r
  have hdm := Nat.div_add_mod (m * 2 ^ more) n
  rw [hQ, hr] at hdm
  have hrl : r < n := by rw [← hr]; exact Nat.mod_lt _ hn0
  by_cases hm0 : m = 0
  · subst hm0
    rw [Nat.zero_mul] at hQ hr
    rw [Nat.zero_div] at hQ; rw [Nat.zero_mod] at hr
    subst hQ; subst hr
    simp
  have hm1 : 2 ^ m.log2 ≤ m := Nat.log2_self_le hm0
  have hn1 : n < 2 ^ (n.log2 + 1) := Nat.lt_log2_self
  have hQ1 : 1 ≤ Q := by
    rw [← hQ]
    refine (Nat.le_div_iff_mul_le hn0).2 ?_
    rw [Nat.one_mul]
    refine Nat.le_of_lt (Nat.lt_of_lt_of_le hn1 ?_)
    refine Nat.le_trans ?_ (Nat.mul_le_mul_right _ hm1)
    rw [← Nat.pow_add]
    exact Nat.pow_le_pow_right (by omega) (by omega)
  -- places: 'p' is the place of the quotient's last whole digit
  generalize hp : i - j - (more : Int) = p
  have hp' : i - j - (more : Int) - 1 = p - 1 := by omega
  -- m 2^more 2^p <= 2^(N+lp) n, as naturals
  have key : ∀ (u v : Nat), (u : Int) - v = p - lp - N → m * 2 ^ more * 2 ^ u ≤ n * 2 ^ v := by
    intro u v huv
    apply Nat.le_of_mul_le_mul_right (c := 2 ^ ((i - lp).toNat + (-lp).toNat + N + (j - lp).toNat)) _ (Nat.two_pow_pos _)
    have e1 : m * 2 ^ more * 2 ^ u * 2 ^ ((i - lp).toNat + (-lp).toNat + N + (j - lp).toNat) = (m * 2 ^ (i - lp).toNat * 2 ^ (-lp).toNat) * 2 ^ (more + u + N + (j - lp).toNat) := by
      simp only [Nat.mul_assoc, ← Nat.pow_add]
      congr 2; omega
    have e2 : n * 2 ^ v * 2 ^ ((i - lp).toNat + (-lp).toNat + N + (j - lp).toNat) = (2 ^ N * (n * 2 ^ (j - lp).toNat)) * 2 ^ (v + (i - lp).toNat + (-lp).toNat) := by
      have : 2 ^ N * (n * 2 ^ (j - lp).toNat) = n * (2 ^ N * 2 ^ (j - lp).toNat) := by rw [Nat.mul_left_comm]
      rw [this]
      simp only [Nat.mul_assoc, ← Nat.pow_add]
      congr 2; omega
    rw [e1, e2]
    have e3 : more + u + N + (j - lp).toNat = v + (i - lp).toNat + (-lp).toNat := by omega
    rw [e3]
    exact Nat.mul_le_mul_right _ hq
  have hple : p - lp - N ≤ 0 := by
    apply Int.not_lt.1
    intro hc
    have := key (p - lp - N).toNat 0 (by omega)
    rw [Nat.pow_zero, Nat.mul_one] at this
    have h2 : 2 ≤ 2 ^ (p - lp - N).toNat := by
      have := Nat.pow_le_pow_right (n := 2) (by omega) (show 1 ≤ (p - lp - (N : Int)).toNat by omega)
      simpa using this
    have h3 : n * 1 ≤ m * 2 ^ more := by
      rw [← hdm]
      exact Nat.le_trans (Nat.mul_le_mul_left _ hQ1) (Nat.le_add_right _ _)
    have h4 : m * 2 ^ more * 2 ≤ m * 2 ^ more * 2 ^ (p - lp - N).toNat := Nat.mul_le_mul_left _ h2
    omega
  have hle := key 0 (lp + N - p).toNat (by omega)
  rw [Nat.pow_zero, Nat.mul_one] at hle
  generalize hT' : 2 ^ (lp + (N : Int) - p).toNat = T at hle
  -- 2 Q + sticky <= 2 T
  have hst : 2 * Q + (r != 0).toNat ≤ 2 * T := by
    have hQT : Q ≤ T := by
      have h5 : n * Q ≤ n * T := by omega
      exact Nat.le_of_mul_le_mul_left h5 hn0
    by_cases hr0 : r = 0
    · subst hr0; simp; omega
    · have : Q < T := by
        apply Nat.lt_of_not_le
        intro hc
        have : n * T ≤ n * Q := Nat.mul_le_mul_left _ hc
        omega
      have e : (r != 0).toNat ≤ 1 := by cases (r != 0) <;> decide
      omega
  refine Nat.le_trans (Nat.mul_le_mul_right _ hst) (Nat.le_of_eq ?_)
  rw [← hT', Nat.mul_comm 2, ← Nat.pow_succ, ← Nat.pow_add, ← Nat.pow_add]
  congr 1
  omega
theorem mg_div {k : FloatKind} {a b A B N R : Nat} (ha : Mg k.format a A) (hb : Ml k.format b B) (hB : 0 < B) (h : A * 2 ^ (-k.format.leastPlace).toNat ≤ 2 ^ N * B) (hT : 2 ^ N ≤ rv k.format R) (hR : R < k.format.infRung) (hlp : k.format.leastPlace ≤ 0) : Mg k.format (fdiv k a b) (rv k.format R) := by
  obtain ⟨s, m, i, h1⟩ := ha
  obtain ⟨t, n, j, g1⟩ := hb
  exact (ms_div ⟨m, i, h1⟩ ⟨n, j, g1⟩ hB h hT hR hlp).mg
end Go.Ab

namespace Go.Ab
open Ieee

theorem cut_lt (neg : Bool) (n drop R : Nat) (h : 2 * n < (2 * R + 1) * 2 ^ drop) : Toward.even.cut neg n drop ≤ R := by
  unfold Toward.cut
  dsimp only
  by_cases hd : drop ≤ n.log2 + 2
  · rw [Nat.min_eq_left hd, Nat.one_shiftLeft]
    have hg : 0 < 2 ^ drop := Nat.two_pow_pos _
    generalize 2 ^ drop = g at *
    have h2 := Nat.div_add_mod n g
    have hm := Nat.mod_lt n hg
    have h1 : n / g ≤ R := by
      apply Nat.le_of_not_lt
      intro hc
      have : g * (R + 1) ≤ g * (n / g) := Nat.mul_le_mul_left _ hc
      rw [Nat.mul_add, Nat.mul_one] at this
      rw [Nat.add_mul, Nat.one_mul, Nat.mul_assoc, Nat.mul_comm R] at h
      omega
    by_cases he : n / g = R
    · have h3 : 2 * (n % g) < g := by
        rw [he] at h2
        rw [Nat.add_mul, Nat.one_mul, Nat.mul_assoc, Nat.mul_comm R] at h
        omega
      have : (decide (g < 2 * (n % g)) || g == 2 * (n % g) && n / g % 2 == 1) = false := by
        simp; omega
      rw [this]; exact h1
    · have : (decide (g < 2 * (n % g)) || g == 2 * (n % g) && n / g % 2 == 1).toNat ≤ 1 := by
        cases (decide (g < 2 * (n % g)) || g == 2 * (n % g) && n / g % 2 == 1) <;> decide
      omega
  · rw [Nat.min_eq_right (by omega), Nat.one_shiftLeft]
    have hlt : n < 2 ^ (n.log2 + 1) := Nat.lt_log2_self
    have h2 : 2 ^ (n.log2 + 2) = 2 * 2 ^ (n.log2 + 1) := by rw [Nat.pow_succ]; omega
    generalize 2 ^ (n.log2 + 2) = g at *
    have h0 : n / g = 0 := Nat.div_eq_of_lt (by omega)
    have h1 : n % g = n := Nat.mod_eq_of_lt (by omega)
    rw [h0, h1]
    have : (decide (g < 2 * n) || g == 2 * n && 0 % 2 == 1) = false := by
      simp; omega
    rw [this]
    exact Nat.zero_le _

theorem cut_up (neg : Bool) (n drop : Nat) : Toward.even.cut neg n drop * 2 ^ drop ≤ n + 2 ^ drop := by
  have h := cut_le neg n drop (n / 2 ^ drop + 1) (by
    have := Nat.div_add_mod n (2 ^ drop)
    have hm := Nat.mod_lt n (Nat.two_pow_pos drop)
    rw [Nat.add_mul, Nat.one_mul, Nat.mul_comm]; omega)
  refine Nat.le_trans (Nat.mul_le_mul_right _ h) ?_
  have := Nat.div_add_mod n (2 ^ drop)
  rw [Nat.add_mul, Nat.one_mul, Nat.mul_comm]; omega

/-- the value of a rung told by its binade -/
theorem rv_at (f : Format) (L kept : Nat) (h1 : kept ≤ 2 * f.binade) (h2 : L = 0 ∨ f.binade ≤ kept) : rv f (L * f.binade + kept) = kept * 2 ^ L := by
  have hb : 0 < f.binade := Nat.two_pow_pos _
  by_cases hk : kept = 2 * f.binade
  · subst hk
    have e : L * f.binade + 2 * f.binade = (L + 2) * f.binade := by rw [Nat.add_mul]
    rw [e]
    have h3 : f.binade ≤ (L + 2) * f.binade := Nat.le_mul_of_pos_left _ (by omega)
    rw [rv_big f h3, Nat.mul_mod_left, Nat.mul_div_cancel _ hb, show L + 2 - 1 = L + 1 by omega, Nat.pow_succ, Nat.add_zero]
    rw [Nat.mul_comm 2, Nat.mul_assoc, Nat.mul_comm 2]
  · by_cases hs : kept < f.binade
    · have hL : L = 0 := by omega
      subst hL
      rw [Nat.zero_mul, Nat.zero_add, rv_small f (by omega), Nat.pow_zero, Nat.mul_one]
    · have e1 : (L * f.binade + kept) / f.binade = L + 1 := by
        apply Nat.div_eq_of_lt_le
        · rw [Nat.add_mul]; omega
        · rw [Nat.add_mul, Nat.add_mul]; omega
      have e2 := Nat.div_add_mod (L * f.binade + kept) f.binade
      rw [e1, Nat.mul_add, Nat.mul_one, Nat.mul_comm] at e2
      have h3 : f.binade ≤ L * f.binade + kept := by omega
      rw [rv_big f h3, e1, Nat.add_sub_cancel]
      congr 1
      omega

/-- the rounded value is above the exact one by at most a unit of its last digit -/
theorem nearest_up (f : Format) (neg : Bool) (mag : Nat) (place : Int) (hp : f.leastPlace ≤ place) (N : Nat) (h : mag * 2 ^ (place - f.leastPlace).toNat < 2 ^ N) (hN : f.fractionBits < N) :
    ∃ r, f.nearest neg mag place = f.word neg (min r f.infRung) ∧ rv f r ≤ mag * 2 ^ (place - f.leastPlace).toNat + 2 ^ (N - 1 - f.fractionBits) := by
  unfold Format.nearest
  by_cases h0 : mag = 0
  · rw [if_pos h0]
    refine ⟨0, by rw [Nat.zero_min], ?_⟩
    have hb : 0 < f.binade := Nat.two_pow_pos _
    rw [rv_small f (by omega)]; exact Nat.zero_le _
  rw [if_neg h0]
  refine ⟨_, rfl, ?_⟩
  have hbd : f.binade = 2 ^ f.fractionBits := rfl
  have hlog : mag < 2 ^ (mag.log2 + 1) := Nat.lt_log2_self
  have hlog' : 2 ^ mag.log2 ≤ mag := Nat.log2_self_le h0
  generalize mag.log2 = lg at *
  generalize f.leastPlace = lp at *
  have hlg : lg + (place - lp).toNat < N := by
    apply (Nat.pow_lt_pow_iff_right (a := 2) (by omega)).1
    rw [Nat.pow_add]
    exact Nat.lt_of_le_of_lt (Nat.mul_le_mul_right _ hlog') h
  generalize hfb : f.fractionBits = fb at *
  generalize hlast : max (place + (lg : Int) - fb) lp = last
  have hl1 : lp ≤ last := by omega
  have hl2 : (last - lp).toNat ≤ N - 1 - fb := by omega
  generalize hk : Toward.even.cut neg (mag <<< (place - last).toNat) (last - place).toNat = kept
  have hup := cut_up neg (mag <<< (place - last).toNat) (last - place).toNat
  rw [hk, Nat.shiftLeft_eq] at hup
  have hk2 : kept ≤ 2 * f.binade := by
    rw [← hk]
    refine cut_le _ _ _ _ ?_
    rw [Nat.shiftLeft_eq, hbd]
    refine Nat.le_of_lt (Nat.lt_of_lt_of_le (Nat.mul_lt_mul_of_pos_right hlog (Nat.two_pow_pos _)) ?_)
    rw [Nat.mul_comm 2, ← Nat.pow_succ, ← Nat.pow_add, ← Nat.pow_add]
    exact Nat.pow_le_pow_right (by omega) (by omega)
  have hk3 : (last - lp).toNat = 0 ∨ f.binade ≤ kept := by
    by_cases hc : last = lp
    · left; omega
    · right
      rw [← hk]
      unfold Toward.cut
      dsimp only
      refine Nat.le_trans ?_ (Nat.le_add_right _ _)
      rw [Nat.shiftLeft_eq]
      have e1 : f.binade * 2 ^ (last - place).toNat ≤ mag * 2 ^ (place - last).toNat := by
        refine Nat.le_trans (Nat.le_of_eq ?_) (Nat.mul_le_mul_right _ hlog')
        rw [hbd, ← Nat.pow_add, ← Nat.pow_add]
        congr 1; omega
      have hpos : 0 < mag * 2 ^ (place - last).toNat := Nat.mul_pos (by omega) (Nat.two_pow_pos _)
      generalize mag * 2 ^ (place - last).toNat = n at *
      rw [Nat.one_shiftLeft]
      have hmin : min (last - place).toNat (n.log2 + 2) = (last - place).toNat := by
        apply Nat.min_eq_left
        have : 2 ^ (last - place).toNat ≤ n := Nat.le_trans (Nat.le_mul_of_pos_left _ (Nat.two_pow_pos _)) (by rw [hbd] at e1; exact e1)
        have := (Nat.le_log2 (by omega)).2 this
        omega
      rw [hmin]
      exact (Nat.le_div_iff_mul_le (Nat.two_pow_pos _)).2 e1
  rw [rv_at f _ _ hk2 hk3]
  -- scale
  have e1 : kept * 2 ^ (last - place).toNat * 2 ^ (place - lp).toNat ≤ (mag * 2 ^ (place - last).toNat + 2 ^ (last - place).toNat) * 2 ^ (place - lp).toNat := Nat.mul_le_mul_right _ hup
  by_cases hc : last ≤ place
  · have e0 : (last - place).toNat = 0 := by omega
    rw [e0, Nat.pow_zero, Nat.mul_one] at hup
    have hex : kept ≤ mag * 2 ^ (place - last).toNat := by
      rw [← hk]
      refine cut_le _ _ _ _ ?_
      rw [Nat.shiftLeft_eq, e0, Nat.pow_zero, Nat.mul_one]
      exact Nat.le_refl _
    refine Nat.le_trans (Nat.mul_le_mul_right _ hex) (Nat.le_trans (Nat.le_of_eq ?_) (Nat.le_add_right _ _))
    rw [Nat.mul_assoc, ← Nat.pow_add]
    congr 2; omega
  · have e0 : (place - last).toNat = 0 := by omega
    rw [e0, Nat.pow_zero, Nat.mul_one, Nat.mul_assoc, ← Nat.pow_add, show (last - place).toNat + (place - lp).toNat = (last - lp).toNat by omega, Nat.add_mul, ← Nat.pow_add, show (last - place).toNat + (place - lp).toNat = (last - lp).toNat by omega] at e1
    exact Nat.le_trans e1 (Nat.add_le_add_left (Nat.pow_le_pow_right (by omega) hl2) _)

/-- numbers a little above the greatest float32, and all below, narrow -/
theorem narrow_small {s : Bool} {m : Nat} {e : Int} (he : -1074 ≤ e) (h : m * 2 ^ (e + 1074).toNat ≤ (2 ^ 128 - 2 ^ 104 + 2 ^ 76) * 2 ^ 1074) : (FloatKind.f32.decode (FloatKind.f32.encode (.number s m e))).isInfinity = false := by
  show (FloatKind.f32.format.read (FloatKind.f32.format.nearest s m e)).isInfinity = false
  have e1 : FloatKind.f32.format.infRung = 2139095040 := by decide
  have e2 : FloatKind.f32.format.binade = 8388608 := by decide
  have e3 : FloatKind.f32.format.leastPlace = -149 := by decide
  have e4 : FloatKind.f32.format.fractionBits = 23 := by decide
  unfold Format.nearest
  rw [e2, e3, e4]
  split
  · exact read_word_number _ _ (by rw [e1]; decide)
  · rename_i h0
    have hlog : m < 2 ^ (m.log2 + 1) := Nat.lt_log2_self
    have hlog' : 2 ^ m.log2 ≤ m := Nat.log2_self_le h0
    dsimp only
    generalize m.log2 = lg at *
    obtain ⟨K, hK⟩ : ∃ K : Nat, K = 1074 := ⟨_, rfl⟩
    have h' : m * 2 ^ (e + 1074).toNat ≤ (2 ^ 128 - 2 ^ 104 + 2 ^ 76) * 2 ^ K := by subst hK; exact h
    have hlg : lg + (e + 1074).toNat < 128 + K := by
      apply (Nat.pow_lt_pow_iff_right (a := 2) (by omega)).1
      rw [Nat.pow_add, Nat.pow_add 2 128 K]
      refine Nat.lt_of_le_of_lt (Nat.mul_le_mul_right _ hlog') (Nat.lt_of_le_of_lt h' ?_)
      exact Nat.mul_lt_mul_of_pos_right (by decide) (Nat.two_pow_pos _)
    generalize hlast : max (e + (lg : Int) - ((23 : Nat) : Int)) (-149) = last
    have hl : last ≤ 104 := by omega
    have hk2 : Toward.even.cut s (m <<< (e - last).toNat) (last - e).toNat ≤ 2 ^ 24 := by
      refine cut_le _ _ _ _ ?_
      rw [Nat.shiftLeft_eq]
      refine Nat.le_of_lt (Nat.lt_of_lt_of_le (Nat.mul_lt_mul_of_pos_right hlog (Nat.two_pow_pos _)) ?_)
      rw [← Nat.pow_add, ← Nat.pow_add]
      exact Nat.pow_le_pow_right (by omega) (by omega)
    refine read_word_number _ _ ?_
    rw [e1]
    refine Nat.lt_of_le_of_lt (Nat.min_le_left _ _) ?_
    by_cases hc : last = 104
    · subst hc
      have : Toward.even.cut s (m <<< (e - 104).toNat) (104 - e).toNat ≤ 2 ^ 24 - 1 := by
        refine cut_lt _ _ _ _ ?_
        rw [Nat.shiftLeft_eq]
        by_cases h5 : e ≤ 104
        · apply Nat.lt_of_mul_lt_mul_right (a := 2 ^ (e + 1074).toNat)
          rw [show (e - 104).toNat = 0 by omega, Nat.pow_zero, Nat.mul_one, Nat.mul_assoc, Nat.mul_assoc, ← Nat.pow_add, show (104 - e).toNat + (e + 1074).toNat = 104 + K by omega, Nat.pow_add 2 104 K]
          refine Nat.lt_of_le_of_lt (Nat.mul_le_mul_left 2 h') ?_
          rw [← Nat.mul_assoc, ← Nat.mul_assoc]
          exact Nat.mul_lt_mul_of_pos_right (by decide) (Nat.two_pow_pos _)
        · apply Nat.lt_of_mul_lt_mul_right (a := 2 ^ (104 + K))
          rw [show (104 - e).toNat = 0 by omega, Nat.pow_zero, Nat.mul_one, Nat.mul_assoc, Nat.mul_assoc, ← Nat.pow_add, show (e - 104).toNat + (104 + K) = (e + 1074).toNat by omega, Nat.pow_add 2 104 K]
          refine Nat.lt_of_le_of_lt (Nat.mul_le_mul_left 2 h') ?_
          rw [← Nat.mul_assoc, ← Nat.mul_assoc]
          exact Nat.mul_lt_mul_of_pos_right (by decide) (Nat.two_pow_pos _)
      have h6 : (104 - -149 : Int).toNat = 253 := by decide
      rw [h6]
      omega
    · have h6 : (last - -149).toNat ≤ 252 := by omega
      have h7 : (last - -149).toNat * 8388608 ≤ 252 * 8388608 := Nat.mul_le_mul_right _ h6
      have h8 : (2 : Nat) ^ 24 = 16777216 := by decide
      omega
end Go.Ab

namespace Go.Ab
open Ieee

/-- exactly so many units -/
def Ex (f : Format) (s : Bool) (c v : Nat) : Prop := ∃ m e, f.read c = .number s m e ∧ f.leastPlace ≤ e ∧ m * 2 ^ (e - f.leastPlace).toNat = v
theorem Ex.ms {f : Format} {s : Bool} {c v : Nat} (h : Ex f s c v) : Ms f s c v := by
  obtain ⟨m, e, h1, h2, h3⟩ := h
  exact ⟨m, e, h1, h2, Nat.le_of_eq h3⟩
theorem Ex.mls {f : Format} {s : Bool} {c v : Nat} (h : Ex f s c v) : Mls f s c v := by
  obtain ⟨m, e, h1, h2, h3⟩ := h
  exact ⟨m, e, h1, h2, Nat.le_of_eq h3.symm⟩
theorem Ms.ex {f : Format} {s : Bool} {c B : Nat} (h : Ms f s c B) : ∃ v, Ex f s c v ∧ v ≤ B := by
  obtain ⟨m, e, h1, h2, h3⟩ := h
  exact ⟨_, ⟨m, e, h1, h2, rfl⟩, h3⟩
def sg (s : Bool) (v : Nat) : Int := if s then -(v : Int) else v
theorem sg_true (v : Nat) : sg true v = -(v : Int) := rfl
theorem mix_bound {sl sh S2 : Bool} {L H q D X W v R : Nat} (bl : L ≤ X) (bh : H ≤ X) (dv : (D : Int) = sg sh H - sg sl L) (r2 : R ≤ D + W) (q1 : q ≤ R) (t3 : sg S2 v = sg sl L + q) : v ≤ X + W := by
  unfold sg at *
  cases S2 <;> cases sl <;> cases sh <;> simp at dv t3 <;> omega
theorem signed_sg (s : Bool) (m up : Nat) : signed s m up = sg s (m * 2 ^ up) := by
  unfold signed sg
  rw [Nat.shiftLeft_eq]
theorem sg_mul (s : Bool) (v w : Nat) : sg s (v * w) = sg s v * w := by
  unfold sg; split <;> simp [Int.neg_mul]

/-- a number that fits is written as it is -/
theorem nearest_exact (f : Format) (neg : Bool) (mag : Nat) (place : Int) (hp : f.leastPlace ≤ place) (hm : mag < 2 ^ (f.fractionBits + 1)) (hfit : mag * 2 ^ (place - f.leastPlace).toNat < rv f f.infRung) :
    Ex f neg (f.nearest neg mag place) (mag * 2 ^ (place - f.leastPlace).toNat) := by
  have hb : 0 < f.binade := Nat.two_pow_pos _
  have key : ∃ r, f.nearest neg mag place = f.word neg (min r f.infRung) ∧ rv f r = mag * 2 ^ (place - f.leastPlace).toNat := by
    unfold Format.nearest
    by_cases h0 : mag = 0
    · rw [if_pos h0]
      exact ⟨0, by rw [Nat.zero_min], by rw [rv_small f (by omega), h0]; simp⟩
    rw [if_neg h0]
    refine ⟨_, rfl, ?_⟩
    have hbd : f.binade = 2 ^ f.fractionBits := rfl
    have hlog : mag < 2 ^ (mag.log2 + 1) := Nat.lt_log2_self
    have hlog' : 2 ^ mag.log2 ≤ mag := Nat.log2_self_le h0
    have hlg : mag.log2 ≤ f.fractionBits := by
      have := (Nat.pow_lt_pow_iff_right (a := 2) (by omega)).1 (Nat.lt_of_le_of_lt hlog' hm)
      omega
    generalize mag.log2 = lg at *
    generalize f.leastPlace = lp at *
    generalize hfb : f.fractionBits = fb at *
    generalize hlast : max (place + (lg : Int) - fb) lp = last
    have e0 : (last - place).toNat = 0 := by omega
    rw [e0, cut_zero _ _ _ rfl, Nat.shiftLeft_eq, rv_at f]
    · rw [Nat.mul_assoc, ← Nat.pow_add]
      congr 2; omega
    · rw [hbd]
      refine Nat.le_of_lt (Nat.lt_of_lt_of_le (Nat.mul_lt_mul_of_pos_right hlog (Nat.two_pow_pos _)) ?_)
      rw [Nat.mul_comm 2, ← Nat.pow_succ, ← Nat.pow_add]
      exact Nat.pow_le_pow_right (by omega) (by omega)
    · by_cases hc : last = lp
      · left; omega
      · right
        refine Nat.le_trans (Nat.le_of_eq ?_) (Nat.mul_le_mul_right _ hlog')
        rw [hbd, ← Nat.pow_add]
        congr 1; omega
  obtain ⟨r, e1, e2⟩ := key
  have hr : r < f.infRung := by
    apply Nat.lt_of_not_le
    intro hc
    have := rv_mono f hc
    omega
  rw [Nat.min_eq_left (by omega)] at e1
  obtain ⟨m, e, g1, g2, g3⟩ := read_word f neg hr
  exact ⟨m, e, by rw [e1]; exact g1, g2, by rw [g3, e2]⟩

theorem sum_ex {f : Format} {a b v w : Nat} {s t : Bool} (ha : Ex f s a v) (hb : Ex f t b w) : ∃ S M base, (f.read a).sum (f.read b) = some (.number S M base) ∧ f.leastPlace ≤ base ∧ sg S (M * 2 ^ (base - f.leastPlace).toNat) = sg s v + sg t w := by
  obtain ⟨m, i, h1, h2, rfl⟩ := ha
  obtain ⟨n, j, g1, g2, rfl⟩ := hb
  rw [h1, g1]
  refine ⟨_, _, _, rfl, by omega, ?_⟩
  generalize f.leastPlace = lp at *
  rw [sg_mul]
  have e1 : sg s (m * 2 ^ (i - lp).toNat) + sg t (n * 2 ^ (j - lp).toNat) = (signed s m (i - min i j).toNat + signed t n (j - min i j).toNat) * (2 ^ (min i j - lp).toNat : Nat) := by
    rw [Int.add_mul, signed_sg, signed_sg, ← sg_mul, ← sg_mul, units m (by omega) (by omega), units n (by omega) (by omega)]
  rw [e1]
  congr 1
  generalize signed s m (i - min i j).toNat + signed t n (j - min i j).toNat = T
  by_cases h0 : T = 0
  · subst h0; unfold sg; simp
  · rw [if_neg h0]
    unfold sg
    by_cases hneg : T < 0
    · rw [if_pos (by simpa using hneg)]; omega
    · rw [if_neg (by simpa using hneg)]; omega
theorem Ex.opposite {f : Format} {s : Bool} {c v : Nat} (h : Ex f s c v) : ∃ m e, (f.read c).opposite = .number (!s) m e ∧ f.leastPlace ≤ e ∧ m * 2 ^ (e - f.leastPlace).toNat = v := by
  obtain ⟨m, e, h1, h2, h3⟩ := h
  exact ⟨m, e, by rw [h1]; rfl, h2, h3⟩
theorem sub_ex {f : Format} {a b v w : Nat} {s t : Bool} (ha : Ex f s a v) (hb : Ex f t b w) : ∃ S M base, subD (f.read a) (f.read b) = some (.number S M base) ∧ f.leastPlace ≤ base ∧ sg S (M * 2 ^ (base - f.leastPlace).toNat) = sg s v - sg t w := by
  obtain ⟨m, i, h1, h2, rfl⟩ := ha
  obtain ⟨n, j, g1, g2, rfl⟩ := hb.opposite
  unfold subD
  rw [h1, g1]
  refine ⟨_, _, _, rfl, by omega, ?_⟩
  generalize f.leastPlace = lp at *
  rw [sg_mul]
  have e0 : - sg t (n * 2 ^ (j - lp).toNat) = sg (!t) (n * 2 ^ (j - lp).toNat) := by unfold sg; cases t <;> simp
  have e1 : sg s (m * 2 ^ (i - lp).toNat) - sg t (n * 2 ^ (j - lp).toNat) = (signed s m (i - min i j).toNat + signed (!t) n (j - min i j).toNat) * (2 ^ (min i j - lp).toNat : Nat) := by
    rw [Int.sub_eq_add_neg, e0, Int.add_mul, signed_sg, signed_sg, ← sg_mul, ← sg_mul, units m (by omega) (by omega), units n (by omega) (by omega)]
  rw [e1]
  congr 1
  generalize signed s m (i - min i j).toNat + signed (!t) n (j - min i j).toNat = T
  by_cases h0 : T = 0
  · subst h0; unfold sg; simp
  · rw [if_neg h0]
    unfold sg
    by_cases hneg : T < 0
    · rw [if_pos (by simpa using hneg)]; omega
    · rw [if_neg (by simpa using hneg)]; omega
theorem order_ex {f : Format} {a b v w : Nat} {s t : Bool} (ha : Ex f s a v) (hb : Ex f t b w) : (f.read a).order (f.read b) = some (compare (sg s v) (sg t w)) := by
  obtain ⟨m, i, h1, h2, rfl⟩ := ha
  obtain ⟨n, j, g1, g2, rfl⟩ := hb
  rw [h1, g1]
  generalize f.leastPlace = lp at *
  show some (compare (signed s m (i - min i j).toNat) (signed t n (j - min i j).toNat)) = _
  rw [signed_sg, signed_sg, ← units m (show min i j ≤ i by omega) (show lp ≤ min i j by omega), ← units n (show min i j ≤ j by omega) (show lp ≤ min i j by omega), sg_mul s (m * 2 ^ (i - min i j).toNat), sg_mul t (n * 2 ^ (j - min i j).toNat)]
  generalize sg s (m * 2 ^ (i - min i j).toNat) = A
  generalize sg t (n * 2 ^ (j - min i j).toNat) = B
  have hpos : (0 : Int) < ((2 ^ (min i j - lp).toNat : Nat) : Int) := by exact_mod_cast Nat.two_pow_pos _
  generalize ((2 ^ (min i j - lp).toNat : Nat) : Int) = q at *
  congr 1
  rcases Int.lt_trichotomy A B with h | h | h
  · rw [Int.compare_eq_lt.2 h, Int.compare_eq_lt.2 (Int.mul_lt_mul_of_pos_right h hpos)]
  · subst h; rw [Int.compare_eq_eq.2 rfl, Int.compare_eq_eq.2 rfl]
  · rw [Int.compare_eq_gt.2 h, Int.compare_eq_gt.2 (Int.mul_lt_mul_of_pos_right h hpos)]

/-- a finite float32 -/
theorem fin32 {x : Nat} (h : feq .f32 (fsub .f32 x x) 0 = true) : ∃ s m e, FloatKind.f32.decode x = .number s m e := by
  cases hd : FloatKind.f32.decode x with
  | number s m e => exact ⟨s, m, e, rfl⟩
  | infinity s =>
    exfalso
    have : fsub .f32 x x = nan .f32 := by
      have hd' : FloatKind.f32.format.read x = .infinity s := hd
      unfold fsub op2
      rw [hd']
      cases s <;> rfl
    rw [this] at h
    revert h; decide
  | nan s t =>
    exfalso
    have : fsub .f32 x x = nan .f32 := by
      have hd' : FloatKind.f32.format.read x = .nan s t := hd
      unfold fsub op2
      rw [hd']
      rfl
    rw [this] at h
    revert h; decide
theorem ex32 {x : Nat} {s : Bool} {m : Nat} {e : Int} (h : FloatKind.f32.decode x = .number s m e) : Ex FloatKind.f32.format s x (m * 2 ^ (e + 149).toNat) := by
  obtain ⟨h1, h2, h3⟩ := read_f32_number h
  have e1 : FloatKind.f32.format.leastPlace = -149 := by decide
  exact ⟨m, e, h, by rw [e1]; exact h2, by rw [e1, show e - -149 = e + 149 by omega]⟩
theorem rv64_inf {K : Nat} (hK : K = 2098) : rv FloatKind.f64.format FloatKind.f64.format.infRung = 2 ^ K := by
  have e1 : FloatKind.f64.format.infRung = 9218868437227405312 := by decide
  have e2 : FloatKind.f64.format.binade = 4503599627370496 := by decide
  obtain ⟨J, hJ⟩ : ∃ J : Nat, J = 2046 := ⟨_, rfl⟩
  rw [rv_big _ (by rw [e1, e2]; decide), e1, e2]
  rw [show (4503599627370496 + 9218868437227405312 % 4503599627370496 : Nat) = 2 ^ 52 by decide, show (9218868437227405312 / 4503599627370496 - 1 : Nat) = J by rw [hJ], ← Nat.pow_add]
  exact congrArg (2 ^ ·) (by omega)
theorem widen_ex {x : Nat} {s : Bool} {m : Nat} {e : Int} (h : FloatKind.f32.decode x = .number s m e) : Ex FloatKind.f64.format s (widen x) (m * 2 ^ (e + 1074).toNat) := by
  obtain ⟨h1, h2, h3⟩ := read_f32_number h
  have hn : isNaN .f32 x = false := by unfold isNaN; show (FloatKind.f32.decode x).isNaN = false; rw [h]; rfl
  have hw : widen x = FloatKind.f64.format.nearest s m e := by
    show (if isNaN .f32 x = true then nan .f64 else FloatKind.f64.encode (FloatKind.f32.decode x)) = _
    rw [hn, h]
    exact if_neg (by decide)
  have e3 : FloatKind.f64.format.leastPlace = -1074 := by decide
  have e4 : FloatKind.f64.format.fractionBits = 52 := by decide
  rw [hw]
  have := nearest_exact FloatKind.f64.format s m e (by rw [e3]; omega) (by rw [e4]; exact Nat.lt_trans h1 (by decide)) (by
    obtain ⟨K, hK⟩ : ∃ K : Nat, K = 2098 := ⟨_, rfl⟩
    rw [rv64_inf hK, e3, show e - -1074 = e + 1074 by omega]
    refine Nat.lt_of_lt_of_le (Nat.mul_lt_mul_of_pos_right h1 (Nat.two_pow_pos _)) ?_
    rw [← Nat.pow_add]
    exact Nat.pow_le_pow_right (by omega) (by omega))
  rw [e3, show e - -1074 = e + 1074 by omega] at this
  exact this
theorem ofInt_ex {n W : Nat} (hW : W = 1074) (h : n < 2 ^ 53) : Ex FloatKind.f64.format false (ofInt .f64 n) (n * 2 ^ W) := by
  have hw : ofInt .f64 n = FloatKind.f64.format.nearest false n 0 := by
    unfold ofInt FloatKind.nearest FloatKind.encode
    have e1 : decide ((n : Int) < 0) = false := by simp
    rw [e1]; simp [Format.write]
  have e3 : FloatKind.f64.format.leastPlace = -1074 := by decide
  have e4 : FloatKind.f64.format.fractionBits = 52 := by decide
  rw [hw]
  have := nearest_exact FloatKind.f64.format false n 0 (by rw [e3]; omega) (by rw [e4]; exact h) (by
    obtain ⟨K, hK⟩ : ∃ K : Nat, K = 2098 := ⟨_, rfl⟩
    rw [rv64_inf hK, e3]
    refine Nat.lt_of_lt_of_le (Nat.mul_lt_mul_of_pos_right h (Nat.two_pow_pos _)) ?_
    rw [← Nat.pow_add]
    exact Nat.pow_le_pow_right (by omega) (by omega))
  rw [e3, show (0 - -1074 : Int).toNat = W by omega] at this
  exact this
theorem ms64_lt {r B K : Nat} (hK : K = 2098) (h : rv FloatKind.f64.format r ≤ B) (hB : B < 2 ^ K) : r < FloatKind.f64.format.infRung := by
  apply Nat.lt_of_not_le
  intro hc
  have := rv_mono FloatKind.f64.format hc
  rw [rv64_inf hK] at this
  omega

theorem number_narrow {low high code most : Nat} (hl : feq .f32 (fsub .f32 low low) 0 = true) (hh : feq .f32 (fsub .f32 high high) 0 = true) (hlt : flt .f32 low high = true) (hc : code ≤ most) (hm : most < 2 ^ 53) (hm0 : 0 < most) :
    narrowOk (fadd .f64 (widen low) (fmul .f64 (fsub .f64 (widen high) (widen low)) (fdiv .f64 (ofInt .f64 code) (ofInt .f64 most)))) = true := by
  obtain ⟨sl, ml, el, dl⟩ := fin32 hl
  obtain ⟨sh, mh, eh, dh⟩ := fin32 hh
  obtain ⟨l1, l2, l3⟩ := read_f32_number dl
  obtain ⟨h1, h2, h3⟩ := read_f32_number dh
  have xl := widen_ex dl
  have xh := widen_ex dh
  have e3 : FloatKind.f64.format.leastPlace = -1074 := by decide
  have e4 : FloatKind.f64.format.fractionBits = 52 := by decide
  obtain ⟨W, hW⟩ : ∃ W : Nat, W = 1074 := ⟨_, rfl⟩
  -- bounds of the two
  have bnd : ∀ {m : Nat} {e : Int}, m < 2 ^ 24 → -149 ≤ e → e ≤ 104 → m * 2 ^ (e + 1074).toNat ≤ (2 ^ 128 - 2 ^ 104) * 2 ^ W := by
    intro m e q1 q2 q3
    have : m * 2 ^ (e + 1074).toNat ≤ (2 ^ 24 - 1) * 2 ^ (104 + W) := Nat.mul_le_mul (by omega) (Nat.pow_le_pow_right (by omega) (by omega))
    refine Nat.le_trans this (Nat.le_of_eq ?_)
    have e9 : (2 ^ 24 - 1) * 2 ^ 104 = 2 ^ 128 - 2 ^ 104 := by decide
    rw [Nat.pow_add 2 104, ← Nat.mul_assoc, e9]
  have bl := bnd l1 l2 l3
  have bh := bnd h1 h2 h3
  -- the order
  have hord : sg sl (ml * 2 ^ (el + 1074).toNat) < sg sh (mh * 2 ^ (eh + 1074).toNat) := by
    have ho := order_ex (ex32 dl) (ex32 dh)
    have hlt' : FloatKind.f32.format.order low high == some .lt := hlt
    unfold Format.order at hlt'
    rw [ho] at hlt'
    have h5 : compare (sg sl (ml * 2 ^ (el + 149).toNat)) (sg sh (mh * 2 ^ (eh + 149).toNat)) = .lt := by simpa using hlt'
    have h6 := Int.compare_eq_lt.1 h5
    obtain ⟨K, hK⟩ : ∃ K : Nat, K = 925 := ⟨_, rfl⟩
    have sc : ∀ (s : Bool) (m : Nat) (e : Int), -149 ≤ e → sg s (m * 2 ^ (e + 1074).toNat) = sg s (m * 2 ^ (e + 149).toNat) * (2 ^ K : Nat) := by
      intro s m e he
      rw [← sg_mul, Nat.mul_assoc, ← Nat.pow_add]
      congr 3; omega
    rw [sc _ _ _ l2, sc _ _ _ h2]
    exact Int.mul_lt_mul_of_pos_right h6 (by exact_mod_cast Nat.two_pow_pos K)
  generalize hL : ml * 2 ^ (el + 1074).toNat = L at *
  generalize hH : mh * 2 ^ (eh + 1074).toNat = H at *
  generalize hU : (2 : Nat) ^ W = U at *
  have hUp : 0 < U := Nat.lt_of_lt_of_eq (Nat.two_pow_pos W) hU
  -- the difference
  obtain ⟨S, M, base, d1, d2, d3⟩ := sub_ex xh xl
  rw [e3] at d2 d3
  have hT : 0 < sg sh H - sg sl L := by omega
  have hS : S = false := by
    cases S with
    | false => rfl
    | true => rw [← d3, sg_true] at hT; omega
  subst hS
  have dv : ((M * 2 ^ (base - -1074).toNat : Nat) : Int) = sg sh H - sg sl L := by rw [← d3]; rfl
  have sgle : ∀ (s : Bool) (v : Nat), sg s v ≤ v ∧ -(v : Int) ≤ sg s v := by intro s v; unfold sg; cases s <;> simp <;> omega
  have s1 := sgle sh H
  have s2 := sgle sl L
  have hMX : (2 ^ 128 - 2 ^ 104) * U < 2 ^ 128 * U := Nat.mul_lt_mul_of_pos_right (by decide) hUp
  obtain ⟨N, hN⟩ : ∃ N : Nat, N = 1203 := ⟨_, rfl⟩
  have hDN : M * 2 ^ (base - FloatKind.f64.format.leastPlace).toNat < 2 ^ N := by
    rw [e3]
    have e9 : (2 : Nat) ^ N = 2 * (2 ^ 128 * U) := by
      rw [← hU, ← Nat.pow_add, Nat.mul_comm, ← Nat.pow_succ]
      exact congrArg (2 ^ ·) (by omega)
    rw [e9]
    generalize 2 ^ 128 * U = X at *
    omega
  obtain ⟨r, r1, r2⟩ := nearest_up FloatKind.f64.format false M base (by rw [e3]; exact d2) N hDN (by rw [e4]; omega)
  rw [e3, e4, show N - 1 - 52 = 76 + W by omega, Nat.pow_add 2 76 W, hU] at r2
  obtain ⟨K, hK⟩ : ∃ K : Nat, K = 2098 := ⟨_, rfl⟩
  have hrB : rv FloatKind.f64.format r < 2 ^ K := by
    have q1 : 2 ^ 76 * U ≤ 2 ^ 128 * U := Nat.mul_le_mul_right _ (by decide)
    have q2 : 4 * (2 ^ 128 * U) < 2 ^ K := by
      rw [← hU, ← Nat.pow_add, show (4 : Nat) = 2 ^ 2 by rfl, ← Nat.pow_add]
      exact Nat.pow_lt_pow_right (by omega) (by omega)
    generalize (2 : Nat) ^ K = Y at *
    generalize 2 ^ 128 * U = X at *
    generalize 2 ^ 76 * U = W at *
    omega
  have hr : r < FloatKind.f64.format.infRung := by
    apply Nat.lt_of_not_le
    intro hc
    have := rv_mono FloatKind.f64.format hc
    rw [rv64_inf hK] at this
    omega
  rw [Nat.min_eq_left (by omega)] at r1
  have hD : Ms FloatKind.f64.format false (fsub .f64 (widen high) (widen low)) (rv FloatKind.f64.format r) := by
    refine ms_op (g := subD) ⟨_, d1, ?_⟩
    show Ms FloatKind.f64.format false (FloatKind.f64.format.nearest false M base) _
    rw [r1]
    obtain ⟨m, e, g1, g2, g3⟩ := read_word FloatKind.f64.format false hr
    exact ⟨m, e, g1, g2, Nat.le_of_eq g3⟩
  -- the part
  have rv1 : rv FloatKind.f64.format 4607182418800017408 = 2 ^ W := by
    have e1 : FloatKind.f64.format.infRung = 9218868437227405312 := by decide
    have e2 : FloatKind.f64.format.binade = 4503599627370496 := by decide
    obtain ⟨J, hJ⟩ : ∃ J : Nat, J = 1022 := ⟨_, rfl⟩
    rw [rv_big _ (by rw [e2]; decide), e2]
    rw [show (4503599627370496 + 4607182418800017408 % 4503599627370496 : Nat) = 2 ^ 52 by decide, show (4607182418800017408 / 4503599627370496 - 1 : Nat) = J by rw [hJ], ← Nat.pow_add]
    exact congrArg (2 ^ ·) (by omega)
  have hP : Ms FloatKind.f64.format false (fdiv .f64 (ofInt .f64 code) (ofInt .f64 most)) (rv FloatKind.f64.format 4607182418800017408) := by
    refine ms_div (N := W) (ofInt_ex hW (by omega)).ms (ofInt_ex hW hm).mls (Nat.mul_pos hm0 (Nat.two_pow_pos _)) ?_ (by rw [rv1]; exact Nat.le_refl _) (by decide) (by decide)
    rw [e3, show (- -1074 : Int).toNat = W by omega, hU, Nat.mul_comm U]
    exact Nat.mul_le_mul_right _ (Nat.mul_le_mul_right _ hc)
  rw [rv1, hU] at hP
  have hQ : Ms FloatKind.f64.format false (fmul .f64 (fsub .f64 (widen high) (widen low)) (fdiv .f64 (ofInt .f64 code) (ofInt .f64 most))) (rv FloatKind.f64.format r) := by
    refine ms_mul hD hP ?_ hr (by decide)
    rw [e3, show (- -1074 : Int).toNat = W by omega, hU]
    exact Nat.le_refl _
  obtain ⟨q, xq, q1⟩ := hQ.ex
  -- the sum
  obtain ⟨S2, M2, b2, t1, t2, t3⟩ := sum_ex xl xq
  rw [e3] at t2 t3
  have hq0 : sg false q = q := rfl
  rw [hq0] at t3
  have hle : M2 * 2 ^ (b2 - -1074).toNat ≤ (2 ^ 128 - 2 ^ 104 + 2 ^ 76) * U := by
    rw [Nat.add_mul]
    exact mix_bound bl bh dv r2 q1 t3
  have hRv : rv FloatKind.f64.format (1150 * 4503599627370496 + (2 ^ 52 - 2 ^ 29 + 2)) = (2 ^ 128 - 2 ^ 104 + 2 ^ 76) * 2 ^ W := by
    have e2 : FloatKind.f64.format.binade = 4503599627370496 := by decide
    rw [rv_big _ (by rw [e2]; decide), e2]
    rw [show (4503599627370496 + (1150 * 4503599627370496 + (2 ^ 52 - 2 ^ 29 + 2)) % 4503599627370496 : Nat) = 2 ^ 53 - 2 ^ 29 + 2 by decide, show ((1150 * 4503599627370496 + (2 ^ 52 - 2 ^ 29 + 2)) / 4503599627370496 - 1 : Nat) = 75 + W by rw [hW], Nat.pow_add 2 75 W, ← Nat.mul_assoc]
  have hV : Mg FloatKind.f64.format (fadd .f64 (widen low) (fmul .f64 (fsub .f64 (widen high) (widen low)) (fdiv .f64 (ofInt .f64 code) (ofInt .f64 most)))) (rv FloatKind.f64.format (1150 * 4503599627370496 + (2 ^ 52 - 2 ^ 29 + 2))) := by
    refine mg_op ⟨_, t1, mg_nearest _ _ _ _ (by decide) ?_⟩
    rw [e3, hRv, hU, show (-1074 - b2).toNat = 0 by omega, Nat.pow_zero, Nat.mul_one]
    exact hle
  obtain ⟨s, m, e, v1, v2, v3⟩ := hV
  rw [e3] at v2
  rw [e3, hRv, show e - -1074 = e + 1074 by omega] at v3
  unfold narrowOk
  have v1' : FloatKind.f64.decode (fadd .f64 (widen low) (fmul .f64 (fsub .f64 (widen high) (widen low)) (fdiv .f64 (ofInt .f64 code) (ofInt .f64 most)))) = .number s m e := v1
  rw [v1']
  dsimp only
  rw [narrow_small v2 (by subst hW; exact v3)]
  rfl
end Go.Ab

namespace Go.Ab
open Ieee

theorem narrowOk_of_nan {c : Nat} (h : isNaN .f64 c = true) : narrowOk c = true := by
  obtain ⟨s, t, e⟩ := decode_of_nan h
  unfold narrowOk; rw [e]
theorem narrowOk_of_inf {c : Nat} {s : Bool} (h : FloatKind.f64.decode c = .infinity s) : narrowOk c = true := by
  unfold narrowOk; rw [h]
theorem narrowOk_of_mg {c B W : Nat} (hW : W = 1074) (h : Mg FloatKind.f64.format c B) (hB : B ≤ (2 ^ 128 - 2 ^ 104 + 2 ^ 76) * 2 ^ W) : narrowOk c = true := by
  obtain ⟨s, m, e, v1, v2, v3⟩ := h
  have e3 : FloatKind.f64.format.leastPlace = -1074 := by decide
  rw [e3] at v2 v3
  rw [show e - -1074 = e + 1074 by omega] at v3
  unfold narrowOk
  have v1' : FloatKind.f64.decode c = .number s m e := v1
  rw [v1']
  dsimp only
  rw [narrow_small v2 (by subst hW; exact Nat.le_trans v3 hB)]
  rfl
theorem read_write_inf (s : Bool) : FloatKind.f64.format.read (FloatKind.f64.format.write (.infinity s)) = .infinity s := by cases s <;> decide
theorem read_inf32 {c : Nat} {s : Bool} (h : FloatKind.f32.decode c = .infinity s) : FloatKind.f64.format.read (widen c) = .infinity s := by
  have hn : isNaN .f32 c = false := by unfold isNaN; show (FloatKind.f32.decode c).isNaN = false; rw [h]; rfl
  have hw : widen c = FloatKind.f64.format.write (.infinity s) := by
    show (if isNaN .f32 c = true then nan .f64 else FloatKind.f64.encode (FloatKind.f32.decode c)) = _
    rw [hn, h]
    exact if_neg (by decide)
  rw [hw, read_write_inf]

theorem rootFrom_le (n : Nat) : ∀ (todo root : Nat), root * root ≤ n → Datum.rootFrom n todo root * Datum.rootFrom n todo root ≤ n
  | 0, root, h => h
  | todo + 1, root, h => by
    unfold Datum.rootFrom
    dsimp only
    split
    · exact rootFrom_le n todo _ (by assumption)
    · exact rootFrom_le n todo _ h

theorem sqrt_narrow (c : Nat) : narrowOk (fsqrt (widen c)) = true := by
  unfold fsqrt
  unfold Format.sqrt
  cases hd : FloatKind.f32.decode c with
  | nan s t =>
    have hn : isNaN .f32 c = true := by unfold isNaN; show (FloatKind.f32.decode c).isNaN = true; rw [hd]; rfl
    have hw : widen c = nan .f64 := by unfold widen; rw [if_pos hn]
    rw [hw]
    decide
  | infinity s =>
    rw [read_inf32 hd]
    cases s <;> decide
  | number s m e =>
    obtain ⟨q1, q2, q3⟩ := read_f32_number hd
    obtain ⟨m', i, h1, h2, h3⟩ := widen_ex hd
    have e3 : FloatKind.f64.format.leastPlace = -1074 := by decide
    rw [e3] at h2 h3
    rw [h1]
    generalize FloatKind.f64.format.fractionBits + 2 = dg
    unfold Datum.root
    by_cases hm0 : m' = 0
    · subst hm0
      dsimp only
      rw [if_pos rfl]
      show narrowOk (FloatKind.f64.format.nearest s 0 i) = true
      cases s <;> (unfold Format.nearest; rw [if_pos rfl]; decide)
    dsimp only
    rw [if_neg hm0]
    cases s with
    | true => show narrowOk (nan .f64) = true; decide
    | false =>
      rw [if_neg (by decide)]
      show narrowOk (FloatKind.f64.format.nearest false _ _) = true
      generalize hmore : 2 * dg - m'.log2 + ((i - ((2 * dg - m'.log2 : Nat) : Int)) % 2).toNat = more
      have hpar : ∃ h : Int, i - (more : Int) = 2 * h := ⟨(i - (more : Int)) / 2, by omega⟩
      obtain ⟨h, hh⟩ := hpar
      rw [Nat.shiftLeft_eq]
      generalize hn : m' * 2 ^ more = n
      have hw := rootFrom_le n (n.log2 / 2 + 1) 0 (by omega)
      generalize Datum.rootFrom n (n.log2 / 2 + 1) 0 = w at *
      have hdiv : (i - (more : Int)) / 2 = h := by omega
      rw [hdiv]
      obtain ⟨W, hW⟩ : ∃ W : Nat, W = 1074 := ⟨_, rfl⟩
      -- the value of the argument
      have hval : m' * 2 ^ (i + 1074).toNat < 2 ^ (128 + W) := by
        rw [show i - -1074 = i + 1074 by omega] at h3
        rw [h3]
        refine Nat.lt_of_lt_of_le (Nat.mul_lt_mul_of_pos_right q1 (Nat.two_pow_pos _)) ?_
        rw [← Nat.pow_add]
        exact Nat.pow_le_pow_right (by omega) (by omega)
      -- w < 2 ^ b with n < 2 ^ (2 b)
      have hnpos : 0 < n := by rw [← hn]; exact Nat.mul_pos (by omega) (Nat.two_pow_pos _)
      -- n * 2 ^ (2 h + 1074) < 2 ^ 1202
      have hn2 : ∀ (u v : Nat), (u : Int) - v = 2 * h + 1074 → n * 2 ^ u < 2 ^ (128 + W + v) := by
        intro u v huv
        rw [← hn, Nat.mul_assoc, ← Nat.pow_add, show more + u = (i + 1074).toNat + v by omega, Nat.pow_add, ← Nat.mul_assoc, Nat.pow_add 2 (128 + W) v]
        exact Nat.mul_lt_mul_of_pos_right hval (Nat.two_pow_pos _)
      have hRv : rv FloatKind.f64.format (1091 * 4503599627370496) = 2 ^ (68 + W) := by
        have e2 : FloatKind.f64.format.binade = 4503599627370496 := by decide
        rw [rv_big _ (by rw [e2]; decide), e2]
        rw [show (4503599627370496 + 1091 * 4503599627370496 % 4503599627370496 : Nat) = 2 ^ 52 by decide, show (1091 * 4503599627370496 / 4503599627370496 - 1 : Nat) = 16 + W by rw [hW], ← Nat.pow_add]
        exact congrArg (2 ^ ·) (by omega)
      refine narrowOk_of_mg hW (mg_nearest FloatKind.f64.format false (2 * w + (w * w != n).toNat) (h - 1) (R := 1091 * 4503599627370496) (by decide) ?_) ?_
      · rw [hRv, e3]
        generalize hmag : 2 * w + (w * w != n).toNat = mag
        have hmag2 : mag * mag ≤ 16 * n := by
          have hb : (w * w != n).toNat ≤ 1 := by cases (w * w != n) <;> decide
          have h6 : mag ≤ 2 * w + 1 := by omega
          have h7 : mag * mag ≤ (2 * w + 1) * (2 * w + 1) := Nat.mul_le_mul h6 h6
          have h8 : (2 * w + 1) * (2 * w + 1) = 4 * (w * w) + 4 * w + 1 := by
            rw [Nat.add_mul, Nat.mul_add, Nat.mul_mul_mul_comm]; omega
          have h9 : w ≤ w * w := by
            cases w with
            | zero => exact Nat.le_refl _
            | succ w => exact Nat.le_mul_of_pos_left _ (by omega)
          omega
        generalize ha : (h - 1 - -1074).toNat = a
        generalize hb : (-1074 - (h - 1)).toNat = b
        rw [← Nat.pow_add]
        apply Nat.le_of_lt
        apply Nat.mul_self_lt_mul_self_iff.1
        have h10 := hn2 (2 * a) (2 * b + 1072) (by omega)
        calc mag * 2 ^ a * (mag * 2 ^ a) = mag * mag * 2 ^ (2 * a) := by rw [Nat.mul_mul_mul_comm, ← Nat.pow_add, show a + a = 2 * a by omega]
          _ ≤ 16 * n * 2 ^ (2 * a) := Nat.mul_le_mul_right _ hmag2
          _ = 16 * (n * 2 ^ (2 * a)) := Nat.mul_assoc _ _ _
          _ < 16 * 2 ^ (128 + W + (2 * b + 1072)) := Nat.mul_lt_mul_of_pos_left h10 (by decide)
          _ = 2 ^ (4 + (128 + W + (2 * b + 1072))) := by rw [Nat.pow_add 2 4]
          _ ≤ 2 ^ (68 + W + b) * 2 ^ (68 + W + b) := by rw [← Nat.pow_add]; exact Nat.pow_le_pow_right (by omega) (by omega)
      · rw [hRv, Nat.pow_add]
        exact Nat.mul_le_mul_right _ (by decide)
theorem read_inf_word (k : FloatKind) (neg : Bool) : k.format.read (k.format.word neg k.format.infRung) = .infinity neg := by cases k <;> cases neg <;> decide
theorem infRung_pos (k : FloatKind) : 0 < k.format.infRung := by cases k <;> decide
/-- a word that is written keeps its sign -/
theorem read_nearest (k : FloatKind) (neg : Bool) (mag : Nat) (place : Int) : (∃ m e, k.format.read (k.format.nearest neg mag place) = .number neg m e ∧ (mag = 0 → m = 0)) ∨ k.format.read (k.format.nearest neg mag place) = .infinity neg := by
  by_cases h0 : mag = 0
  · subst h0
    unfold Format.nearest
    rw [if_pos rfl]
    obtain ⟨m, e, h1, h2, h3⟩ := read_word k.format neg (infRung_pos k)
    left
    refine ⟨m, e, h1, fun _ => ?_⟩
    have hb : 0 < k.format.binade := Nat.two_pow_pos _
    rw [rv_small k.format (by omega)] at h3
    rcases Nat.mul_eq_zero.1 h3 with h | h
    · exact h
    · have := Nat.two_pow_pos (e - k.format.leastPlace).toNat; omega
  · unfold Format.nearest
    rw [if_neg h0]
    dsimp only
    generalize (max (place + (mag.log2 : Int) - (k.format.fractionBits : Int)) k.format.leastPlace - k.format.leastPlace).toNat * k.format.binade + _ = r
    by_cases hr : r < k.format.infRung
    · rw [Nat.min_eq_left (by omega)]
      obtain ⟨m, e, h1, h2, h3⟩ := read_word k.format neg hr
      exact .inl ⟨m, e, h1, fun h => absurd h h0⟩
    · rw [Nat.min_eq_right (by omega)]
      right
      exact read_inf_word k neg
theorem narrow_number {c : Nat} {s : Bool} {m : Nat} {e : Int} (h : FloatKind.f64.decode c = .number s m e) : narrow c = FloatKind.f32.format.nearest s m e := by
  have hn : isNaN .f64 c = false := by unfold isNaN; show (FloatKind.f64.decode c).isNaN = false; rw [h]; rfl
  show (if isNaN .f64 c = true then nan .f32 else FloatKind.f32.encode (FloatKind.f64.decode c)) = _
  rw [hn, h]
  exact if_neg (by decide)
/-- a square root that is narrowed is not below zero -/
theorem root_sign (x : Nat) {s : Bool} {m : Nat} {e : Int} (h : FloatKind.f32.decode (narrow (fsqrt x)) = .number s m e) : s = false ∨ m = 0 := by
  have nn : ∀ {s' : Bool} {m' : Nat} {e' : Int}, FloatKind.f64.decode (fsqrt x) = .number s' m' e' → (s' = false ∨ m' = 0) → s = false ∨ m = 0 := by
    intro s' m' e' hq hs
    rw [narrow_number hq] at h
    rcases read_nearest .f32 s' m' e' with ⟨m2, e2, g1, g2⟩ | g1
    · have h' : FloatKind.f32.format.read (FloatKind.f32.format.nearest s' m' e') = .number s m e := h
      rw [g1] at h'
      cases h'
      rcases hs with hs | hs
      · exact .inl hs
      · exact .inr (g2 hs)
    · have h' : FloatKind.f32.format.read (FloatKind.f32.format.nearest s' m' e') = .number s m e := h
      rw [g1] at h'
      cases h'
  cases hq : FloatKind.f64.decode (fsqrt x) with
  | nan s' t =>
    exfalso
    have hn : isNaN .f64 (fsqrt x) = true := by unfold isNaN; show (FloatKind.f64.decode (fsqrt x)).isNaN = true; rw [hq]; rfl
    have : narrow (fsqrt x) = nan .f32 := by unfold narrow; rw [if_pos hn]
    rw [this] at h
    revert h
    have : FloatKind.f32.decode (nan .f32) = .nan false 4194304 := by decide
    rw [this]; exact fun h => by cases h
  | infinity s' =>
    exfalso
    have hn : isNaN .f64 (fsqrt x) = false := by unfold isNaN; show (FloatKind.f64.decode (fsqrt x)).isNaN = false; rw [hq]; rfl
    have hw : narrow (fsqrt x) = FloatKind.f32.format.word s' FloatKind.f32.format.infRung := by
      show (if isNaN .f64 (fsqrt x) = true then nan .f32 else FloatKind.f32.encode (FloatKind.f64.decode (fsqrt x))) = _
      rw [hn, hq]
      exact if_neg (by decide)
    rw [hw] at h
    have h' : FloatKind.f32.format.read (FloatKind.f32.format.word s' FloatKind.f32.format.infRung) = .number s m e := h
    rw [read_inf_word .f32 s'] at h'
    cases h'
  | number s' m' e' =>
    refine nn hq ?_
    -- the root's own sign
    have hq' : FloatKind.f64.format.read (fsqrt x) = .number s' m' e' := hq
    unfold fsqrt Format.sqrt at hq'
    generalize FloatKind.f64.format.fractionBits + 2 = dg at hq'
    cases hx : FloatKind.f64.format.read x with
    | nan a b =>
      exfalso
      rw [hx] at hq'
      revert hq'
      have : FloatKind.f64.format.read (nan .f64) = .nan false 2251799813685248 := by decide
      show FloatKind.f64.format.read (nan .f64) = _ → _
      rw [this]; exact fun h => by cases h
    | infinity a =>
      exfalso
      rw [hx] at hq'
      cases a
      · have h5 : FloatKind.f64.format.read (FloatKind.f64.format.word false FloatKind.f64.format.infRung) = .number s' m' e' := hq'
        rw [read_inf_word .f64 false] at h5; cases h5
      · have h5 : FloatKind.f64.format.read (nan .f64) = .number s' m' e' := hq'
        have : FloatKind.f64.format.read (nan .f64) = .nan false 2251799813685248 := by decide
        rw [this] at h5; cases h5
    | number a mm i =>
      rw [hx] at hq'
      unfold Datum.root at hq'
      dsimp only at hq'
      by_cases hm0 : mm = 0
      · rw [if_pos hm0] at hq'
        have h5 : FloatKind.f64.format.read (FloatKind.f64.format.nearest a mm i) = .number s' m' e' := hq'
        rcases read_nearest .f64 a mm i with ⟨m2, e2, g1, g2⟩ | g1
        · rw [g1] at h5; cases h5; exact .inr (g2 hm0)
        · rw [g1] at h5; cases h5
      · rw [if_neg hm0] at hq'
        cases a
        · rw [if_neg (by decide)] at hq'
          simp only [Option.map_some, Option.getD_some] at hq'
          change FloatKind.f64.format.read (FloatKind.f64.format.nearest false _ _) = _ at hq'
          rcases read_nearest .f64 false _ _ with ⟨m2, e2, g1, g2⟩ | g1
          · rw [g1] at hq'; cases hq'; exact .inl rfl
          · rw [g1] at hq'; cases hq'
        · rw [if_pos rfl] at hq'
          exfalso
          have h5 : FloatKind.f64.format.read (nan .f64) = .number s' m' e' := hq'
          have : FloatKind.f64.format.read (nan .f64) = .nan false 2251799813685248 := by decide
          rw [this] at h5; cases h5
theorem decode_zero32 : FloatKind.f32.format.read 0 = .number false 0 (-149) := by decide
/-- a finite number that is not below zero is above zero or zero -/
theorem root_pos {x : Nat} (hf : feq .f32 (fsub .f32 (narrow (fsqrt x)) (narrow (fsqrt x))) 0 = true) : flt .f32 0 (narrow (fsqrt x)) = !(feq .f32 (narrow (fsqrt x)) 0) := by
  obtain ⟨s, m, e, h⟩ := fin32 hf
  have hs := root_sign x h
  generalize narrow (fsqrt x) = n at *
  have h0 : Ex FloatKind.f32.format false 0 0 := ⟨0, -149, decode_zero32, by decide, by decide⟩
  have o1 := order_ex h0 (ex32 h)
  have o2 := order_ex (ex32 h) h0
  unfold flt feq ford Format.order
  rw [o1, o2]
  have hz : sg false 0 = 0 := rfl
  rw [hz]
  have hv : sg s (m * 2 ^ (e + 149).toNat) = ((m * 2 ^ (e + 149).toNat : Nat) : Int) := by
    rcases hs with hs | hs
    · subst hs; rfl
    · subst hs; rw [Nat.zero_mul]; cases s <;> rfl
  rw [hv]
  generalize m * 2 ^ (e + 149).toNat = v
  rcases Nat.eq_zero_or_pos v with h5 | h5
  · subst h5; decide
  · have g1 : compare (0 : Int) (v : Int) = .lt := Int.compare_eq_lt.2 (by omega)
    have g2 : compare (v : Int) (0 : Int) = .gt := Int.compare_eq_gt.2 (by omega)
    rw [g1, g2]; rfl
end Go.Ab

namespace Go.Ab
open Ieee

theorem read_neg (k : FloatKind) (b : Nat) : k.format.read (Op.negFloat k b) = (k.format.read b).opposite := by
  have h1 := neg_rung k b
  have h2 : (Op.negFloat k b / k.format.signWeight % 2 == 1) = !(b / k.format.signWeight % 2 == 1) := by
    have e : ∀ x : Nat, (x / k.format.signWeight % 2 == 1) = x.testBit (k.format.exponentBits + k.format.fractionBits) := by
      intro x
      rw [Nat.testBit_eq_decide_div_mod_eq]
      unfold Format.signWeight
      by_cases h : x / 2 ^ (k.format.exponentBits + k.format.fractionBits) % 2 = 1 <;> simp [h]
    rw [e, e]
    unfold Op.negFloat
    rw [Nat.testBit_xor, Nat.testBit_two_pow_self]
    cases b.testBit (k.format.exponentBits + k.format.fractionBits) <;> rfl
  unfold Format.read
  simp only [h1, h2]
  split
  · rfl
  · split
    · rfl
    · split <;> rfl
theorem fneg_number {k : FloatKind} {x : Nat} {s : Bool} {m : Nat} {e : Int} (h : k.format.read x = .number s m e) : k.format.read (fneg k x) = .number (!s) m e := by
  have h1 : k.format.read (Op.negFloat k x) = .number (!s) m e := by rw [read_neg, h]; rfl
  unfold fneg
  rw [cn_of_not (by unfold isNaN; rw [h1]; rfl)]
  exact h1
theorem fin_of_number {x : Nat} {s : Bool} {m : Nat} {e : Int} (h : FloatKind.f32.decode x = .number s m e) : feq .f32 (fsub .f32 x x) 0 = true := by
  obtain ⟨S, M, base, h1, h2, h3⟩ := sub_ex (ex32 h) (ex32 h)
  have hM : M = 0 := by
    rw [Int.sub_self] at h3
    have : M * 2 ^ (base - FloatKind.f32.format.leastPlace).toNat = 0 := by
      unfold sg at h3; split at h3 <;> omega
    rcases Nat.mul_eq_zero.1 this with h | h
    · exact h
    · have := Nat.two_pow_pos (base - FloatKind.f32.format.leastPlace).toNat; omega
  subst hM
  have hw : fsub .f32 x x = FloatKind.f32.format.nearest S 0 base := by
    unfold fsub op2; rw [h1]; rfl
  rw [hw]
  unfold Format.nearest
  rw [if_pos rfl]
  cases S <;> decide
/-- a range about zero -/
theorem neg_range {r : Nat} (hf : feq .f32 (fsub .f32 r r) 0 = true) (hp : flt .f32 0 r = true) : feq .f32 (fsub .f32 (fneg .f32 r) (fneg .f32 r)) 0 = true ∧ flt .f32 (fneg .f32 r) r = true := by
  obtain ⟨s, m, e, h⟩ := fin32 hf
  have hn : FloatKind.f32.decode (fneg .f32 r) = .number (!s) m e := fneg_number h
  refine ⟨fin_of_number hn, ?_⟩
  have h0 : Ex FloatKind.f32.format false 0 0 := ⟨0, -149, decode_zero32, by decide, by decide⟩
  have o1 := order_ex h0 (ex32 h)
  have o2 := order_ex (ex32 hn) (ex32 h)
  have hp' : FloatKind.f32.format.order 0 r == some .lt := hp
  unfold Format.order at hp'
  rw [o1] at hp'
  have h5 : compare (sg false 0) (sg s (m * 2 ^ (e + 149).toNat)) = .lt := by simpa using hp'
  have h6 := Int.compare_eq_lt.1 h5
  have h7 : sg (!s) (m * 2 ^ (e + 149).toNat) < sg s (m * 2 ^ (e + 149).toNat) := by
    revert h6
    generalize m * 2 ^ (e + 149).toNat = v
    unfold sg
    cases s <;> simp <;> omega
  show (FloatKind.f32.format.order (fneg .f32 r) r == some .lt) = true
  unfold Format.order
  rw [o2, Int.compare_eq_lt.2 h7]; rfl

theorem wrapN {n : Nat} (h : n < 2 ^ 63) : IntKind.wrap .i64 (n : Int) = n := by
  unfold IntKind.wrap
  simp only [IntKind.bits, IntKind.signed]
  simp
  omega
theorem bit_and_mask {n k : Nat} (hn : n < 2 ^ 63) (hk : k < 63) : bitop .and .i64 (n : Int) ((2 ^ k - 1 : Nat) : Int) = ((n % 2 ^ k : Nat) : Int) := by
  have hpk : 2 ^ k < 2 ^ 63 := Nat.pow_lt_pow_right (by omega) hk
  have hp0 := Nat.two_pow_pos k
  have e2 : ∀ v : Nat, v < 2 ^ 63 → (BitVec.ofInt (IntKind.bits .i64) (v : Int)) = BitVec.ofNat 64 v := by
    intro v hv
    apply BitVec.eq_of_toNat_eq
    show (BitVec.ofInt 64 (v : Int)).toNat = (BitVec.ofNat 64 v).toNat
    rw [BitVec.toNat_ofInt, BitVec.toNat_ofNat]
    omega
  unfold bitop
  show IntKind.wrap .i64 ((BitVec.ofInt (IntKind.bits .i64) (n : Int) &&& BitVec.ofInt (IntKind.bits .i64) ((2 ^ k - 1 : Nat) : Int)).toNat : Int) = _
  rw [e2 n hn, e2 (2 ^ k - 1) (by omega)]
  have e3 : ((BitVec.ofNat 64 n &&& BitVec.ofNat 64 (2 ^ k - 1)).toNat) = n % 2 ^ k := by
    rw [BitVec.toNat_and, BitVec.toNat_ofNat, BitVec.toNat_ofNat, Nat.mod_eq_of_lt (by omega), Nat.mod_eq_of_lt (by omega), Nat.and_two_pow_sub_one_eq_mod]
  show IntKind.wrap .i64 (((BitVec.ofNat 64 n &&& BitVec.ofNat 64 (2 ^ k - 1)).toNat : Nat) : Int) = _
  rw [e3]
  have h5 : n % 2 ^ k < 2 ^ 63 := Nat.lt_of_lt_of_le (Nat.mod_lt _ hp0) (Nat.le_of_lt hpk)
  exact wrapN h5
end Go.Ab

namespace Go.Ab
open Ieee

theorem nearest_pos (f : Format) (neg : Bool) (mag : Nat) (place : Int) (hp : f.leastPlace ≤ place) (hm : mag ≠ 0) : ∃ r, f.nearest neg mag place = f.word neg (min r f.infRung) ∧ 0 < r := by
  unfold Format.nearest
  rw [if_neg hm]
  refine ⟨_, rfl, ?_⟩
  have hb : 0 < f.binade := Nat.two_pow_pos _
  generalize hlast : max (place + (mag.log2 : Int) - (f.fractionBits : Int)) f.leastPlace = last
  by_cases hc : last = f.leastPlace
  · have e0 : (last - place).toNat = 0 := by omega
    rw [e0, cut_zero _ _ _ rfl, Nat.shiftLeft_eq]
    have := Nat.mul_pos (show 0 < mag by omega) (Nat.two_pow_pos (place - last).toNat)
    omega
  · have : 0 < (last - f.leastPlace).toNat * f.binade := Nat.mul_pos (by omega) hb
    omega
theorem den_ok {low high : Nat} (hl : feq .f32 (fsub .f32 low low) 0 = true) (hh : feq .f32 (fsub .f32 high high) 0 = true) (hlt : flt .f32 low high = true) :
    ∃ m e, FloatKind.f64.format.read (fsub .f64 (widen high) (widen low)) = .number false m e ∧ m ≠ 0 := by
  obtain ⟨sl, ml, el, dl⟩ := fin32 hl
  obtain ⟨sh, mh, eh, dh⟩ := fin32 hh
  obtain ⟨l1, l2, l3⟩ := read_f32_number dl
  obtain ⟨h1, h2, h3⟩ := read_f32_number dh
  have xl := widen_ex dl
  have xh := widen_ex dh
  have e3 : FloatKind.f64.format.leastPlace = -1074 := by decide
  have e4 : FloatKind.f64.format.fractionBits = 52 := by decide
  obtain ⟨W, hW⟩ : ∃ W : Nat, W = 1074 := ⟨_, rfl⟩
  have bnd : ∀ {m : Nat} {e : Int}, m < 2 ^ 24 → -149 ≤ e → e ≤ 104 → m * 2 ^ (e + 1074).toNat < 2 ^ (128 + W) := by
    intro m e q1 q2 q3
    refine Nat.lt_of_lt_of_le (Nat.mul_lt_mul_of_pos_right q1 (Nat.two_pow_pos _)) ?_
    rw [← Nat.pow_add]
    exact Nat.pow_le_pow_right (by omega) (by omega)
  have bl := bnd l1 l2 l3
  have bh := bnd h1 h2 h3
  have hord : sg sl (ml * 2 ^ (el + 1074).toNat) < sg sh (mh * 2 ^ (eh + 1074).toNat) := by
    have ho := order_ex (ex32 dl) (ex32 dh)
    have hlt' : FloatKind.f32.format.order low high == some .lt := hlt
    unfold Format.order at hlt'
    rw [ho] at hlt'
    have h5 : compare (sg sl (ml * 2 ^ (el + 149).toNat)) (sg sh (mh * 2 ^ (eh + 149).toNat)) = .lt := by simpa using hlt'
    have h6 := Int.compare_eq_lt.1 h5
    obtain ⟨K, hK⟩ : ∃ K : Nat, K = 925 := ⟨_, rfl⟩
    have sc : ∀ (s : Bool) (m : Nat) (e : Int), -149 ≤ e → sg s (m * 2 ^ (e + 1074).toNat) = sg s (m * 2 ^ (e + 149).toNat) * (2 ^ K : Nat) := by
      intro s m e he
      rw [← sg_mul, Nat.mul_assoc, ← Nat.pow_add]
      congr 3; omega
    rw [sc _ _ _ l2, sc _ _ _ h2]
    exact Int.mul_lt_mul_of_pos_right h6 (by exact_mod_cast Nat.two_pow_pos K)
  generalize hL : ml * 2 ^ (el + 1074).toNat = L at *
  generalize hH : mh * 2 ^ (eh + 1074).toNat = H at *
  obtain ⟨S, M, base, d1, d2, d3⟩ := sub_ex xh xl
  have hT : 0 < sg sh H - sg sl L := by omega
  have hS : S = false := by
    cases S with
    | false => rfl
    | true => rw [← d3, sg_true] at hT; omega
  subst hS
  have dv : ((M * 2 ^ (base - FloatKind.f64.format.leastPlace).toNat : Nat) : Int) = sg sh H - sg sl L := by rw [← d3]; rfl
  have hM : M ≠ 0 := by rintro rfl; rw [Nat.zero_mul] at dv; omega
  obtain ⟨r, r1, r2⟩ := nearest_pos FloatKind.f64.format false M base d2 hM
  have sgle : ∀ (s : Bool) (v : Nat), sg s v ≤ v ∧ -(v : Int) ≤ sg s v := by intro s v; unfold sg; cases s <;> simp <;> omega
  have s1 := sgle sh H
  have s2 := sgle sl L
  have hN : M * 2 ^ (base - FloatKind.f64.format.leastPlace).toNat < 2 ^ (129 + W) := by
    have : (2 : Nat) ^ (129 + W) = 2 * 2 ^ (128 + W) := by rw [Nat.mul_comm, ← Nat.pow_succ]; exact congrArg (2 ^ ·) (by omega)
    rw [this]
    generalize M * 2 ^ (base - FloatKind.f64.format.leastPlace).toNat = D at *
    generalize 2 ^ (128 + W) = X at *
    omega
  obtain ⟨r', q1, q2⟩ := nearest_up FloatKind.f64.format false M base d2 (129 + W) hN (by rw [e4]; omega)
  obtain ⟨K, hK⟩ : ∃ K : Nat, K = 2098 := ⟨_, rfl⟩
  have hr' : r' < FloatKind.f64.format.infRung := by
    refine ms64_lt hK q2 ?_
    refine Nat.lt_of_lt_of_le (Nat.add_lt_add_of_lt_of_le hN (show 2 ^ (129 + W - 1 - FloatKind.f64.format.fractionBits) ≤ 2 ^ (129 + W) from Nat.pow_le_pow_right (by omega) (by omega))) ?_
    rw [show 2 ^ (129 + W) + 2 ^ (129 + W) = 2 ^ (130 + W) by rw [show 130 + W = (129 + W) + 1 by omega, Nat.pow_succ]; omega]
    exact Nat.pow_le_pow_right (by omega) (by omega)
  rw [Nat.min_eq_left (by omega)] at q1
  obtain ⟨m, e, g1, g2, g3⟩ := read_word FloatKind.f64.format false hr'
  have hw : fsub .f64 (widen high) (widen low) = FloatKind.f64.format.nearest false M base := by
    unfold fsub op2; rw [d1]; rfl
  refine ⟨m, e, by rw [hw, q1]; exact g1, ?_⟩
  rintro rfl
  rw [Nat.zero_mul] at g3
  -- a rung above 0 has a value above 0
  have hr0 : 0 < r' := by
    apply Nat.pos_of_ne_zero
    rintro rfl
    rw [r1] at q1
    have w1 := FloatKind.f64.format.infRung_lt
    have w2 : 0 < FloatKind.f64.format.infRung := by decide
    unfold Format.word at q1
    simp only [Bool.false_eq_true, if_false] at q1
    omega
  have := rv_mono FloatKind.f64.format (show 1 ≤ r' by omega)
  rw [rv_small _ (by decide)] at this
  omega

/-- not a not-a-number -/
def Nn (c : Nat) : Prop := (∃ s m e, FloatKind.f64.format.read c = .number s m e) ∨ ∃ s, FloatKind.f64.format.read c = .infinity s
theorem nn_nearest (s : Bool) (m : Nat) (e : Int) : Nn (FloatKind.f64.format.nearest s m e) := by
  rcases read_nearest .f64 s m e with ⟨m', e', h, _⟩ | h
  · exact .inl ⟨_, _, _, h⟩
  · exact .inr ⟨_, h⟩
theorem nn_inf (s : Bool) : Nn (FloatKind.f64.format.write (.infinity s)) := .inr ⟨s, read_write_inf s⟩
theorem nn_of {g : Datum → Datum → Option Datum} {a b : Nat} (h : (∃ s m e, g (FloatKind.f64.format.read a) (FloatKind.f64.format.read b) = some (.number s m e)) ∨ ∃ s, g (FloatKind.f64.format.read a) (FloatKind.f64.format.read b) = some (.infinity s)) : Nn (op2 .f64 g a b) := by
  unfold op2
  rcases h with ⟨s, m, e, h⟩ | ⟨s, h⟩
  · rw [h]; exact nn_nearest s m e
  · rw [h]; exact nn_inf s
theorem feq_self' {k : FloatKind} {c : Nat} (h : feq k c c = true) : isNaN k c = false := by
  unfold feq at h
  cases ho : ford k c c with
  | none => rw [ho] at h; cases h
  | some o => exact (ford_some ho).1
theorem nn_widen {x : Nat} (h : feq .f32 x x = true) : Nn (widen x) := by
  have hn := feq_self' h
  cases hd : FloatKind.f32.decode x with
  | number s m e =>
    obtain ⟨m', e', h1, _⟩ := widen_ex hd
    exact .inl ⟨_, _, _, h1⟩
  | infinity s => exact .inr ⟨s, read_inf32 hd⟩
  | nan s t =>
    exfalso
    have : isNaN .f32 x = true := by unfold isNaN; show (FloatKind.f32.decode x).isNaN = true; rw [hd]; rfl
    rw [this] at hn; cases hn
theorem nn_sub {a b : Nat} (ha : Nn a) {s : Bool} {m : Nat} {e : Int} (hb : FloatKind.f64.format.read b = .number s m e) : Nn (fsub .f64 a b) := by
  refine nn_of (g := subD) ?_
  unfold subD
  rw [hb]
  rcases ha with ⟨t, n, i, ha⟩ | ⟨t, ha⟩
  · rw [ha]; exact .inl ⟨_, _, _, rfl⟩
  · rw [ha]; exact .inr ⟨_, rfl⟩
theorem nn_div {a b : Nat} (ha : Nn a) {s : Bool} {m : Nat} {e : Int} (hb : FloatKind.f64.format.read b = .number s m e) (hm : m ≠ 0) : Nn (fdiv .f64 a b) := by
  refine nn_of ?_
  rw [hb]
  rcases ha with ⟨t, n, i, ha⟩ | ⟨t, ha⟩
  · rw [ha]
    unfold Datum.quotient
    dsimp only
    rw [if_neg hm]
    exact .inl ⟨_, _, _, rfl⟩
  · rw [ha]; exact .inr ⟨_, rfl⟩
theorem nn_mul {a b : Nat} (ha : Nn a) {s : Bool} {m : Nat} {e : Int} (hb : FloatKind.f64.format.read b = .number s m e) (hm : m ≠ 0) : Nn (fmul .f64 a b) := by
  refine nn_of ?_
  rw [hb]
  rcases ha with ⟨t, n, i, ha⟩ | ⟨t, ha⟩
  · rw [ha]; exact .inl ⟨_, _, _, rfl⟩
  · rw [ha]
    unfold Datum.product
    dsimp only
    rw [if_neg hm]
    exact .inr ⟨_, rfl⟩
theorem nn_integral {a : Nat} {way : Toward} (ha : Nn a) : Nn (integral way a) := by
  have hn : isNaN .f64 a = false := by
    unfold isNaN
    rcases ha with ⟨s, m, e, h⟩ | ⟨s, h⟩ <;> rw [h] <;> rfl
  have hi : integral way a = FloatKind.f64.format.write ((FloatKind.f64.format.read a).integral way) := by
    show (if isNaN .f64 a = true then nan .f64 else FloatKind.f64.encode ((FloatKind.f64.decode a).integral way)) = _
    rw [hn]; exact if_neg (by decide)
  rw [hi]
  rcases ha with ⟨s, m, e, h⟩ | ⟨s, h⟩
  · rw [h]; exact nn_nearest _ _ _
  · rw [h]; exact nn_inf s

theorem cut_zero_way (neg : Bool) (n drop : Nat) : Toward.zero.cut neg n drop = n / 2 ^ drop := by
  unfold Toward.cut
  dsimp only
  rw [Nat.one_shiftLeft]
  show n / 2 ^ min drop (n.log2 + 2) + 0 = _
  rw [Nat.add_zero]
  by_cases hd : drop ≤ n.log2 + 2
  · rw [Nat.min_eq_left hd]
  · rw [Nat.min_eq_right (by omega)]
    have hlt : n < 2 ^ (n.log2 + 1) := Nat.lt_log2_self
    rw [Nat.div_eq_of_lt (Nat.lt_of_lt_of_le hlt (Nat.pow_le_pow_right (by omega) (by omega))), Nat.div_eq_of_lt (Nat.lt_of_lt_of_le hlt (Nat.pow_le_pow_right (by omega) (by omega)))]
theorem f2i_ex {c v W : Nat} {s : Bool} (hW : W = 1074) (h : Ex FloatKind.f64.format s c v) : f2i .f64 c = some (sg s (v / 2 ^ W)) := by
  obtain ⟨m, e, h1, h2, rfl⟩ := h
  have e3 : FloatKind.f64.format.leastPlace = -1074 := by decide
  rw [e3] at h2
  unfold f2i
  show (FloatKind.f64.format.read c).toInt .zero = _
  rw [h1]
  show some (signed s (Toward.zero.cut s (m <<< e.toNat) (-e).toNat) 0) = _
  rw [cut_zero_way, signed_sg, Nat.pow_zero, Nat.mul_one, Nat.shiftLeft_eq, e3]
  congr 2
  by_cases hc : 0 ≤ e
  · rw [show (-e).toNat = 0 by omega, Nat.pow_zero, Nat.div_one, show (e - -1074).toNat = e.toNat + W by omega, Nat.pow_add, ← Nat.mul_assoc, Nat.mul_div_cancel _ (Nat.two_pow_pos _)]
  · rw [show e.toNat = 0 by omega, Nat.pow_zero, Nat.mul_one, show W = (-e).toNat + (e - -1074).toNat by omega, Nat.pow_add, Nat.mul_div_mul_right _ _ (Nat.two_pow_pos _)]

theorem ford_ex {a b v w : Nat} {s t : Bool} (ha : Ex FloatKind.f64.format s a v) (hb : Ex FloatKind.f64.format t b w) : ford .f64 a b = some (compare (sg s v) (sg t w)) := order_ex ha hb
theorem ex_zero64 : Ex FloatKind.f64.format false 0 0 := ⟨0, -1074, by decide, by decide, by decide⟩

/-- both ways to a code are one -/
theorem code_same {C M : Nat} (hC : Nn C) (hM : 0 < M) (hM2 : M < 2 ^ 53) :
    (flt .f64 C 0 || (flt .f64 (ofInt .f64 M) C || f2iOk .i64 .f64 C)) = true ∧ f2iOk .i64 .f64 (fmin .f64 (fmax .f64 C 0) (ofInt .f64 M)) = true ∧
    (if flt .f64 C 0 = true then (0 : Int) else if flt .f64 (ofInt .f64 M) C = true then (M : Int) else f2iV .f64 C) = f2iV .f64 (fmin .f64 (fmax .f64 C 0) (ofInt .f64 M)) := by
  obtain ⟨W, hW⟩ : ∃ W : Nat, W = 1074 := ⟨_, rfl⟩
  have hU : 0 < 2 ^ W := Nat.two_pow_pos W
  have xF := ofInt_ex hW hM2
  have x0 := ex_zero64
  have z0 : sg false 0 = 0 := rfl
  have zF : sg false (M * 2 ^ W) = ((M * 2 ^ W : Nat) : Int) := rfl
  have hMU : 0 < M * 2 ^ W := Nat.mul_pos hM hU
  have iF : f2i .f64 (ofInt .f64 M) = some (M : Int) := by rw [f2i_ex hW xF, Nat.mul_div_cancel _ hU]; rfl
  have i0 : f2i .f64 0 = some 0 := by rw [f2i_ex hW x0, Nat.zero_div]; rfl
  have okF : f2iOk .i64 .f64 (ofInt .f64 M) = true := by
    unfold f2iOk; rw [iF]
    simp only [Bool.and_eq_true, decide_eq_true_eq]
    constructor
    · show (-9223372036854775808 : Int) ≤ M; omega
    · show (M : Int) ≤ 9223372036854775807; omega
  have ok0 : f2iOk .i64 .f64 0 = true := by
    unfold f2iOk; rw [i0]; rfl
  have o0F : ford .f64 0 (ofInt .f64 M) = some .lt := by
    rw [ford_ex x0 xF, z0, zF, Int.compare_eq_lt.2 (by omega)]
  rcases hC with ⟨s, m, e, hC⟩ | ⟨s, hC⟩
  · -- a number
    have hlp : ∃ v, Ex FloatKind.f64.format s C v := by
      have hle : FloatKind.f64.format.leastPlace ≤ e := by
        unfold Format.read at hC
        dsimp only at hC
        split at hC
        · cases hC; exact Int.le_refl _
        · split at hC
          · cases hC; omega
          · split at hC <;> cases hC
      exact ⟨_, m, e, hC, hle, rfl⟩
    obtain ⟨v, xC⟩ := hlp
    have oC0 := ford_ex xC x0
    have oFC := ford_ex xF xC
    have oCF := ford_ex xC xF
    rw [z0] at oC0
    rw [zF] at oFC oCF
    have iC := f2i_ex hW xC
    have neg : (FloatKind.f64.decode C).neg = s := by show (FloatKind.f64.format.read C).neg = s; rw [hC]; rfl
    rcases Int.lt_trichotomy (sg s v) 0 with h | h | h
    · rw [Int.compare_eq_lt.2 h] at oC0
      have f1 : flt .f64 C 0 = true := by unfold flt; rw [oC0]; rfl
      have g1 : fmax .f64 C 0 = 0 := by unfold fmax; rw [oC0]
      have g2 : fmin .f64 0 (ofInt .f64 M) = 0 := by unfold fmin; rw [o0F]
      rw [f1, g1, g2]
      refine ⟨rfl, ok0, ?_⟩
      rw [if_pos rfl]; unfold f2iV; rw [i0]; rfl
    · -- zero
      have hv : v = 0 := by unfold sg at h; split at h <;> omega
      subst hv
      rw [h, Int.compare_eq_eq.2 rfl] at oC0
      rw [h, Int.compare_eq_gt.2 (by omega)] at oFC
      rw [h, Int.compare_eq_lt.2 (by omega)] at oCF
      have f1 : flt .f64 C 0 = false := by unfold flt; rw [oC0]; rfl
      have f2 : flt .f64 (ofInt .f64 M) C = false := by unfold flt; rw [oFC]; rfl
      have iC' : f2i .f64 C = some 0 := by rw [iC, Nat.zero_div]; cases s <;> rfl
      have okC : f2iOk .i64 .f64 C = true := by unfold f2iOk; rw [iC']; rfl
      have g1 : fmax .f64 C 0 = 0 ∨ fmax .f64 C 0 = C := by
        unfold fmax; rw [oC0]; dsimp only
        split
        · exact .inl rfl
        · exact .inr rfl
      rw [f1, f2, okC]
      rcases g1 with g1 | g1
      · have g2 : fmin .f64 0 (ofInt .f64 M) = 0 := by unfold fmin; rw [o0F]
        rw [g1, g2]
        refine ⟨rfl, ok0, ?_⟩
        rw [if_neg (by decide), if_neg (by decide)]; unfold f2iV; rw [iC', i0]
      · have g2 : fmin .f64 C (ofInt .f64 M) = C := by unfold fmin; rw [oCF]
        rw [g1, g2]
        refine ⟨rfl, okC, ?_⟩
        rw [if_neg (by decide), if_neg (by decide)]
    · have hs : s = false := by
        cases s with
        | false => rfl
        | true => rw [sg_true] at h; omega
      subst hs
      have hsg : sg false v = (v : Int) := rfl
      rw [hsg] at h oC0 oFC oCF
      rw [Int.compare_eq_gt.2 h] at oC0
      have f1 : flt .f64 C 0 = false := by unfold flt; rw [oC0]; rfl
      have g1 : fmax .f64 C 0 = C := by unfold fmax; rw [oC0]
      rw [f1, g1]
      rcases Int.lt_trichotomy ((M * 2 ^ W : Nat) : Int) (v : Int) with k | k | k
      · rw [Int.compare_eq_lt.2 k] at oFC
        rw [Int.compare_eq_gt.2 k] at oCF
        have f2 : flt .f64 (ofInt .f64 M) C = true := by unfold flt; rw [oFC]; rfl
        have g2 : fmin .f64 C (ofInt .f64 M) = ofInt .f64 M := by unfold fmin; rw [oCF]
        rw [f2, g2]
        refine ⟨rfl, okF, ?_⟩
        rw [if_neg (by decide), if_pos rfl]; unfold f2iV; rw [iF]; rfl
      · rw [k, Int.compare_eq_eq.2 rfl] at oFC oCF
        have f2 : flt .f64 (ofInt .f64 M) C = false := by unfold flt; rw [oFC]; rfl
        have hvM : v = M * 2 ^ W := by omega
        have iC' : f2i .f64 C = some (M : Int) := by
          rw [iC, hvM, Nat.mul_div_cancel _ hU]; rfl
        have okC : f2iOk .i64 .f64 C = true := by
          unfold f2iOk; rw [iC']
          unfold f2iOk at okF; rw [iF] at okF; exact okF
        have g2 : fmin .f64 C (ofInt .f64 M) = ofInt .f64 M := by
          unfold fmin; rw [oCF]; dsimp only; rw [neg]; exact if_neg (by decide)
        rw [f2, g2, okC]
        refine ⟨rfl, okF, ?_⟩
        rw [if_neg (by decide), if_neg (by decide)]; unfold f2iV; rw [iC', iF]
      · rw [Int.compare_eq_gt.2 k] at oFC
        rw [Int.compare_eq_lt.2 k] at oCF
        have f2 : flt .f64 (ofInt .f64 M) C = false := by unfold flt; rw [oFC]; rfl
        have g2 : fmin .f64 C (ofInt .f64 M) = C := by unfold fmin; rw [oCF]
        have hq : v / 2 ^ W < M := by
          refine (Nat.div_lt_iff_lt_mul hU).2 ?_
          omega
        have okC : f2iOk .i64 .f64 C = true := by
          unfold f2iOk; rw [iC]
          simp only [Bool.and_eq_true, decide_eq_true_eq]
          generalize v / 2 ^ W = q at *
          have : sg false q = (q : Int) := rfl
          rw [this]
          constructor
          · show (-9223372036854775808 : Int) ≤ q; omega
          · show (q : Int) ≤ 9223372036854775807; omega
        rw [f2, g2, okC]
        refine ⟨rfl, rfl, ?_⟩
        rw [if_neg (by decide), if_neg (by decide)]
  · -- an infinity
    obtain ⟨mF, eF, rF, _, _⟩ := xF
    have r0 : FloatKind.f64.format.read 0 = .number false 0 (-1074) := by decide
    have oC0 : ford .f64 C 0 = some (if s then .lt else .gt) := by unfold ford Format.order; rw [hC, r0]; rfl
    have oFC : ford .f64 (ofInt .f64 M) C = some (if s then .gt else .lt) := by unfold ford Format.order; rw [hC, rF]; cases s <;> rfl
    have oCF : ford .f64 C (ofInt .f64 M) = some (if s then .lt else .gt) := by unfold ford Format.order; rw [hC, rF]; rfl
    cases s with
    | true =>
      have f1 : flt .f64 C 0 = true := by unfold flt; rw [oC0]; rfl
      have g1 : fmax .f64 C 0 = 0 := by unfold fmax; rw [oC0]; rfl
      have g2 : fmin .f64 0 (ofInt .f64 M) = 0 := by unfold fmin; rw [o0F]
      rw [f1, g1, g2]
      refine ⟨rfl, ok0, ?_⟩
      rw [if_pos rfl]; unfold f2iV; rw [i0]; rfl
    | false =>
      have f1 : flt .f64 C 0 = false := by unfold flt; rw [oC0]; rfl
      have f2 : flt .f64 (ofInt .f64 M) C = true := by unfold flt; rw [oFC]; rfl
      have g1 : fmax .f64 C 0 = C := by unfold fmax; rw [oC0]; rfl
      have g2 : fmin .f64 C (ofInt .f64 M) = ofInt .f64 M := by unfold fmin; rw [oCF]; rfl
      rw [f1, f2, g1, g2]
      refine ⟨rfl, okF, ?_⟩
      rw [if_neg (by decide), if_pos rfl]; unfold f2iV; rw [iF]; rfl
end Go.Ab

namespace Go.Ab
open Ieee

/-- at most 2 ^ n -/
def Bd (c n : Nat) : Prop := ∀ W : Nat, W = 1074 → Mg FloatKind.f64.format c (2 ^ (n + W))
theorem rv_pow (n : Nat) : ∀ W : Nat, W = 1074 → rv FloatKind.f64.format ((n + 1023) * 4503599627370496) = 2 ^ (n + W) := by
  intro W hW
  have e2 : FloatKind.f64.format.binade = 4503599627370496 := by decide
  have h1 : (n + 1023) * 4503599627370496 / 4503599627370496 = n + 1023 := Nat.mul_div_cancel _ (by decide)
  have h2 : (n + 1023) * 4503599627370496 % 4503599627370496 = 0 := Nat.mul_mod_left _ _
  rw [rv_big _ (by rw [e2]; omega), e2, h1, h2, Nat.add_zero, show (4503599627370496 : Nat) = 2 ^ 52 by decide, ← Nat.pow_add]
  exact congrArg (2 ^ ·) (by omega)
theorem pow_lt_inf {n : Nat} (h : n ≤ 1000) : (n + 1023) * 4503599627370496 < FloatKind.f64.format.infRung := by
  have e1 : FloatKind.f64.format.infRung = 9218868437227405312 := by decide
  rw [e1]; omega
theorem Bd.mono {c n m : Nat} (h : Bd c n) (hm : n ≤ m) : Bd c m := fun W hW => (h W hW).mono (Nat.pow_le_pow_right (by omega) (by omega))
theorem lp64 : FloatKind.f64.format.leastPlace = -1074 := by decide
theorem bd_add {a b n : Nat} (ha : Bd a n) (hb : Bd b n) (hn : n + 1 ≤ 1000) : Bd (fadd .f64 a b) (n + 1) := by
  intro W hW
  rw [← rv_pow (n + 1) W hW]
  refine mg_add (k := .f64) (ha W hW) (hb W hW) ?_ (pow_lt_inf hn)
  show _ ≤ rv FloatKind.f64.format _
  rw [rv_pow (n + 1) W hW, show n + 1 + W = n + W + 1 by omega, Nat.pow_succ]
  omega
theorem bd_sub {a b n : Nat} (ha : Bd a n) (hb : Bd b n) (hn : n + 1 ≤ 1000) : Bd (fsub .f64 a b) (n + 1) := by
  intro W hW
  rw [← rv_pow (n + 1) W hW]
  refine mg_sub (k := .f64) (ha W hW) (hb W hW) ?_ (pow_lt_inf hn)
  show _ ≤ rv FloatKind.f64.format _
  rw [rv_pow (n + 1) W hW, show n + 1 + W = n + W + 1 by omega, Nat.pow_succ]
  omega
theorem bd_mul {a b n m : Nat} (ha : Bd a n) (hb : Bd b m) (hn : n + m ≤ 1000) : Bd (fmul .f64 a b) (n + m) := by
  intro W hW
  rw [← rv_pow (n + m) W hW]
  refine mg_mul (k := .f64) (ha W hW) (hb W hW) ?_ (pow_lt_inf hn) (by decide)
  show _ ≤ rv FloatKind.f64.format _ * 2 ^ (-FloatKind.f64.format.leastPlace).toNat
  rw [rv_pow (n + m) W hW, lp64, show (- -1074 : Int).toNat = W by omega, ← Nat.pow_add, ← Nat.pow_add]
  exact Nat.pow_le_pow_right (by omega) (by omega)
/-- at least 1 -/
def Ge1 (c : Nat) : Prop := ∀ W : Nat, W = 1074 → Ml FloatKind.f64.format c (2 ^ W)
theorem bd_div {a b n : Nat} (ha : Bd a n) (hb : Ge1 b) (hn : n ≤ 1000) : Bd (fdiv .f64 a b) n := by
  intro W hW
  rw [← rv_pow n W hW]
  refine mg_div (k := .f64) (N := n + W) (ha W hW) (hb W hW) (Nat.two_pow_pos _) ?_ ?_ (pow_lt_inf hn) (by decide)
  · show _ * 2 ^ (-FloatKind.f64.format.leastPlace).toNat ≤ _
    rw [lp64, show (- -1074 : Int).toNat = W by omega]
    exact Nat.le_refl _
  · show _ ≤ rv FloatKind.f64.format _
    rw [rv_pow n W hW]
    exact Nat.le_refl _
theorem narrowOk_of_bd {c n : Nat} (h : Bd c n) (hn : n ≤ 127) : narrowOk c = true := by
  obtain ⟨W, hW⟩ : ∃ W : Nat, W = 1074 := ⟨_, rfl⟩
  refine narrowOk_of_mg hW (h W hW) ?_
  rw [Nat.pow_add]
  refine Nat.mul_le_mul_right _ (Nat.le_trans (Nat.pow_le_pow_right (by omega) hn) (by decide))
/-- a constant's bound -/
theorem bd_const {c n : Nat} {s : Bool} {m : Nat} {e : Int} (h : FloatKind.f64.format.read c = .number s m e) (he : -1074 ≤ e) (hm : m ≤ 2 ^ (53 : Nat)) (hn : e + 53 ≤ n) : Bd c n := by
  intro W hW
  refine ⟨s, m, e, h, by rw [lp64]; exact he, ?_⟩
  rw [lp64]
  refine Nat.le_trans (Nat.mul_le_mul_right _ hm) ?_
  rw [← Nat.pow_add]
  exact Nat.pow_le_pow_right (by omega) (by omega)
theorem bd_neg {c n : Nat} (h : Bd c n) : Bd (fneg .f64 c) n := by
  intro W hW
  obtain ⟨s, m, e, h1, h2, h3⟩ := h W hW
  exact ⟨!s, m, e, fneg_number (k := .f64) h1, h2, h3⟩
theorem bd_ofInt {i n : Nat} (h : i ≤ 2 ^ n) (hn : n < 53) : Bd (ofInt .f64 (i : Int)) n := by
  intro W hW
  have := (ofInt_ex (n := i) hW (Nat.lt_of_le_of_lt h (Nat.pow_lt_pow_right (by omega) hn))).ms.mg
  refine this.mono ?_
  rw [Nat.pow_add]
  exact Nat.mul_le_mul_right _ h
theorem ge1_ofInt {i : Nat} (h : 1 ≤ i) (hn : i < 2 ^ 53) : Ge1 (ofInt .f64 (i : Int)) := by
  intro W hW
  obtain ⟨m, e, h1, h2, h3⟩ := ofInt_ex (n := i) hW hn
  exact ⟨false, m, e, h1, h2, by rw [h3]; exact Nat.le_mul_of_pos_left _ h⟩
/-- a value of 1 or more is rounded to 1 or more -/
theorem nearest_ge1 (neg : Bool) (mag : Nat) (place : Int) {W : Nat} (hW : W = 1074) (hp : -1074 ≤ place) (h : 2 ^ W ≤ mag * 2 ^ (place + 1074).toNat) :
    ∃ r, FloatKind.f64.format.nearest neg mag place = FloatKind.f64.format.word neg (min r FloatKind.f64.format.infRung) ∧ 1023 * 4503599627370496 ≤ r := by
  have e2 : FloatKind.f64.format.binade = 4503599627370496 := by decide
  have e4 : FloatKind.f64.format.fractionBits = 52 := by decide
  have h0 : mag ≠ 0 := by
    rintro rfl
    rw [Nat.zero_mul] at h
    have := Nat.two_pow_pos W; omega
  unfold Format.nearest
  rw [if_neg h0]
  refine ⟨_, rfl, ?_⟩
  rw [e2, e4, lp64]
  have hlog : mag < 2 ^ (mag.log2 + 1) := Nat.lt_log2_self
  have hlog' : 2 ^ mag.log2 ≤ mag := Nat.log2_self_le h0
  generalize mag.log2 = lg at *
  have hge : W ≤ lg + (place + 1074).toNat := by
    have : 2 ^ W < 2 ^ (lg + 1 + (place + 1074).toNat) := by
      refine Nat.lt_of_le_of_lt h ?_
      rw [Nat.pow_add 2 (lg + 1)]
      exact Nat.mul_lt_mul_of_pos_right hlog (Nat.two_pow_pos _)
    have := (Nat.pow_lt_pow_iff_right (a := 2) (by omega)).1 this
    omega
  generalize hlast : max (place + (lg : Int) - ((52 : Nat) : Int)) (-1074) = last
  have hl : 1022 ≤ (last - -1074).toNat := by omega
  have hk : 4503599627370496 ≤ Toward.even.cut neg (mag <<< (place - last).toNat) (last - place).toNat := by
    unfold Toward.cut
    dsimp only
    refine Nat.le_trans ?_ (Nat.le_add_right _ _)
    rw [Nat.shiftLeft_eq]
    have e1 : 4503599627370496 * 2 ^ (last - place).toNat ≤ mag * 2 ^ (place - last).toNat := by
      refine Nat.le_trans (Nat.le_of_eq ?_) (Nat.mul_le_mul_right _ hlog')
      rw [show (4503599627370496 : Nat) = 2 ^ 52 by decide, ← Nat.pow_add, ← Nat.pow_add]
      congr 1; omega
    have hpos : 0 < mag * 2 ^ (place - last).toNat := Nat.mul_pos (by omega) (Nat.two_pow_pos _)
    generalize mag * 2 ^ (place - last).toNat = n at *
    rw [Nat.one_shiftLeft]
    have hmin : min (last - place).toNat (n.log2 + 2) = (last - place).toNat := by
      apply Nat.min_eq_left
      have h5 : 2 ^ (last - place).toNat ≤ n := Nat.le_trans (Nat.le_mul_of_pos_left _ (by decide)) e1
      have := (Nat.le_log2 (by omega)).2 h5
      omega
    rw [hmin]
    exact (Nat.le_div_iff_mul_le (Nat.two_pow_pos _)).2 e1
  have : 1022 * 4503599627370496 ≤ (last - -1074).toNat * 4503599627370496 := Nat.mul_le_mul_right _ hl
  omega
/-- 1 and something not below zero -/
theorem ge1_add {b : Nat} {one : Nat} (h1 : ∀ W : Nat, W = 1074 → Ex FloatKind.f64.format false one (2 ^ W)) {n : Nat} (hb : Bd b n) (hn : n + 1 ≤ 1000) (hs : ∀ s m e, FloatKind.f64.format.read b = .number s m e → s = false ∨ m = 0) : Ge1 (fadd .f64 one b) := by
  intro W hW
  obtain ⟨s, m, e, r1, r2, r3⟩ := hb W hW
  have xb : Ex FloatKind.f64.format s b (m * 2 ^ (e - FloatKind.f64.format.leastPlace).toNat) := ⟨m, e, r1, r2, rfl⟩
  obtain ⟨S, M, base, t1, t2, t3⟩ := sum_ex (h1 W hW) xb
  have hsg : sg s (m * 2 ^ (e - FloatKind.f64.format.leastPlace).toNat) = ((m * 2 ^ (e - FloatKind.f64.format.leastPlace).toNat : Nat) : Int) := by
    rcases hs s m e r1 with h | h
    · subst h; rfl
    · subst h; rw [Nat.zero_mul]; cases s <;> rfl
  have ho : sg false (2 ^ W) = ((2 ^ W : Nat) : Int) := rfl
  rw [hsg, ho] at t3
  rw [lp64] at t2 t3
  have hM : 2 ^ W ≤ M * 2 ^ (base + 1074).toNat := by
    rw [show base - -1074 = base + 1074 by omega] at t3
    have hU := Nat.two_pow_pos W
    generalize M * 2 ^ (base + 1074).toNat = v at *
    generalize m * 2 ^ (e - -1074).toNat = w at *
    generalize 2 ^ W = U at *
    unfold sg at t3
    split at t3 <;> omega
  obtain ⟨r, q1, q2⟩ := nearest_ge1 S M base hW t2 hM
  have hw : fadd .f64 one b = FloatKind.f64.format.nearest S M base := by
    unfold fadd op2; rw [t1]; rfl
  -- it is finite
  have hfin : Bd (fadd .f64 one b) (n + 1) := by
    refine bd_add (n := n) (fun W hW => ?_) hb hn
    exact (h1 W hW).ms.mg.mono (Nat.pow_le_pow_right (by omega) (by omega))
  have hr : r < FloatKind.f64.format.infRung := by
    apply Nat.lt_of_not_le
    intro hc
    rw [Nat.min_eq_right hc] at q1
    obtain ⟨s', m', e', g1, _⟩ := hfin W hW
    rw [hw, q1, read_inf_word .f64 S] at g1
    cases g1
  rw [Nat.min_eq_left (by omega)] at q1
  obtain ⟨m', e', g1, g2, g3⟩ := read_word FloatKind.f64.format S hr
  refine ⟨S, m', e', by rw [hw, q1]; exact g1, g2, ?_⟩
  rw [g3]
  have := rv_mono FloatKind.f64.format q2
  have h6 := rv_pow 0 W hW
  rw [Nat.zero_add, Nat.zero_add] at h6
  rw [h6] at this
  exact this
end Go.Ab

namespace Go.Ab
open Ieee

/-- not below zero, where it is a number -/
def Nng (c : Nat) : Prop := ∀ s m e, FloatKind.f64.format.read c = .number s m e → s = false ∨ m = 0
theorem nng_nearest (m : Nat) (e : Int) : Nng (FloatKind.f64.format.nearest false m e) := by
  intro s' m' e' h
  rcases read_nearest .f64 false m e with ⟨m2, e2, g1, g2⟩ | g1
  · have h' := g1.symm.trans h
    cases h'; exact .inl rfl
  · have h' := g1.symm.trans h
    cases h'
theorem nng_nan : Nng (nan .f64) := by
  intro s m e h
  have : FloatKind.f64.format.read (nan .f64) = .nan false 2251799813685248 := by decide
  rw [this] at h; cases h
theorem nng_inf (s : Bool) : Nng (FloatKind.f64.format.write (.infinity s)) := by
  intro s' m e h
  rw [read_write_inf] at h; cases h
theorem nng_zero (s : Bool) (e : Int) : Nng (FloatKind.f64.format.nearest s 0 e) := by
  intro s' m' e' h
  rcases read_nearest .f64 s 0 e with ⟨m2, e2, g1, g2⟩ | g1
  · have h' := g1.symm.trans h
    cases h'; exact .inr (g2 rfl)
  · have h' := g1.symm.trans h
    cases h'
theorem nng_sqrt (x : Nat) : Nng (fsqrt x) := by
  unfold fsqrt Format.sqrt
  generalize FloatKind.f64.format.fractionBits + 2 = dg
  cases hx : FloatKind.f64.format.read x with
  | nan a b => exact nng_nan
  | infinity a => cases a; exact nng_inf false; exact nng_nan
  | number a mm i =>
    unfold Datum.root
    dsimp only
    by_cases hm0 : mm = 0
    · rw [if_pos hm0, hm0]; exact nng_zero a i
    · rw [if_neg hm0]
      cases a
      · rw [if_neg (by decide)]; exact nng_nearest _ _
      · rw [if_pos rfl]; exact nng_nan
theorem nng_square (x : Nat) : Nng (fmul .f64 x x) := by
  unfold fmul op2
  show Nng (((FloatKind.f64.format.read x).product (FloatKind.f64.format.read x)).map FloatKind.f64.format.write |>.getD (nan .f64))
  cases hx : FloatKind.f64.format.read x with
  | nan a b => exact nng_nan
  | infinity a => exact nng_inf (a ^^ a)
  | number a mm i =>
    show Nng (FloatKind.f64.format.nearest (a ^^ a) (mm * mm) (i + i))
    rw [Bool.xor_self]; exact nng_nearest _ _

theorem bd_sqrt {c : Nat} (h : Bd c 128) (hs : Nng c) : Bd (fsqrt c) 68 := by
  intro W hW
  obtain ⟨s, m', i, h1, h2, h3⟩ := h W hW
  rw [lp64] at h2 h3
  unfold fsqrt Format.sqrt
  rw [h1]
  generalize FloatKind.f64.format.fractionBits + 2 = dg
  unfold Datum.root
  by_cases hm0 : m' = 0
  · subst hm0
    dsimp only
    rw [if_pos rfl]
    have : Mg FloatKind.f64.format (FloatKind.f64.format.nearest s 0 i) (rv FloatKind.f64.format ((68 + 1023) * 4503599627370496)) := mg_nearest _ _ _ _ (by decide) (by rw [Nat.zero_mul]; exact Nat.zero_le _)
    rw [rv_pow 68 W hW] at this
    exact this
  have hs' : s = false := by
    rcases hs s m' i h1 with h | h
    · exact h
    · exact absurd h hm0
  subst hs'
  dsimp only
  rw [if_neg hm0, if_neg (by decide)]
  show Mg FloatKind.f64.format (FloatKind.f64.format.nearest false _ _) _
  generalize hmore : 2 * dg - m'.log2 + ((i - ((2 * dg - m'.log2 : Nat) : Int)) % 2).toNat = more
  obtain ⟨h, hh⟩ : ∃ h : Int, i - (more : Int) = 2 * h := ⟨(i - (more : Int)) / 2, by omega⟩
  rw [Nat.shiftLeft_eq]
  generalize hn : m' * 2 ^ more = n
  have hw := rootFrom_le n (n.log2 / 2 + 1) 0 (by omega)
  generalize Datum.rootFrom n (n.log2 / 2 + 1) 0 = w at *
  have hdiv : (i - (more : Int)) / 2 = h := by omega
  rw [hdiv]
  have hval : m' * 2 ^ (i + 1074).toNat < 2 ^ (129 + W) := by
    rw [show i - -1074 = i + 1074 by omega] at h3
    exact Nat.lt_of_le_of_lt h3 (Nat.pow_lt_pow_right (by omega) (by omega))
  have hnpos : 0 < n := by rw [← hn]; exact Nat.mul_pos (by omega) (Nat.two_pow_pos _)
  have hn2 : ∀ (u v : Nat), (u : Int) - v = 2 * h + 1074 → n * 2 ^ u < 2 ^ (129 + W + v) := by
    intro u v huv
    rw [← hn, Nat.mul_assoc, ← Nat.pow_add, show more + u = (i + 1074).toNat + v by omega, Nat.pow_add, ← Nat.mul_assoc, Nat.pow_add 2 (129 + W) v]
    exact Nat.mul_lt_mul_of_pos_right hval (Nat.two_pow_pos _)
  rw [← rv_pow 68 W hW]
  refine mg_nearest FloatKind.f64.format false (2 * w + (w * w != n).toNat) (h - 1) (pow_lt_inf (by omega)) ?_
  rw [rv_pow 68 W hW, lp64]
  generalize hmag : 2 * w + (w * w != n).toNat = mag
  have hmag2 : mag * mag ≤ 16 * n := by
    have hb : (w * w != n).toNat ≤ 1 := by cases (w * w != n) <;> decide
    have h6 : mag ≤ 2 * w + 1 := by omega
    have h7 : mag * mag ≤ (2 * w + 1) * (2 * w + 1) := Nat.mul_le_mul h6 h6
    have h8 : (2 * w + 1) * (2 * w + 1) = 4 * (w * w) + 4 * w + 1 := by
      rw [Nat.add_mul, Nat.mul_add, Nat.mul_mul_mul_comm]; omega
    have h9 : w ≤ w * w := by
      cases w with
      | zero => exact Nat.le_refl _
      | succ w => exact Nat.le_mul_of_pos_left _ (by omega)
    omega
  generalize ha : (h - 1 - -1074).toNat = a
  generalize hb : (-1074 - (h - 1)).toNat = b
  rw [← Nat.pow_add]
  apply Nat.le_of_lt
  apply Nat.mul_self_lt_mul_self_iff.1
  have h10 := hn2 (2 * a) (2 * b + 1072) (by omega)
  calc mag * 2 ^ a * (mag * 2 ^ a) = mag * mag * 2 ^ (2 * a) := by rw [Nat.mul_mul_mul_comm, ← Nat.pow_add, show a + a = 2 * a by omega]
    _ ≤ 16 * n * 2 ^ (2 * a) := Nat.mul_le_mul_right _ hmag2
    _ = 16 * (n * 2 ^ (2 * a)) := Nat.mul_assoc _ _ _
    _ < 16 * 2 ^ (129 + W + (2 * b + 1072)) := Nat.mul_lt_mul_of_pos_left h10 (by decide)
    _ = 2 ^ (4 + (129 + W + (2 * b + 1072))) := by rw [Nat.pow_add 2 4]
    _ ≤ 2 ^ (68 + W + b) * 2 ^ (68 + W + b) := by rw [← Nat.pow_add]; exact Nat.pow_le_pow_right (by omega) (by omega)

def one64 : Nat := 4607182418800017408
theorem ex_one : ∀ W : Nat, W = 1074 → Ex FloatKind.f64.format false 4607182418800017408 (2 ^ W) := by
  intro W hW
  refine ⟨2 ^ 52, -52, by decide, by decide, ?_⟩
  rw [lp64, ← Nat.pow_add]
  exact congrArg (2 ^ ·) (by omega)
theorem bd_one : Bd 4607182418800017408 0 := fun W hW => (ex_one W hW).ms.mg.mono (Nat.pow_le_pow_right (by omega) (by omega))
theorem nng_one_add {b n : Nat} (hb : Bd b n) (hs : Nng b) : Nng (fadd .f64 4607182418800017408 b) := by
  obtain ⟨W, hW⟩ : ∃ W : Nat, W = 1074 := ⟨_, rfl⟩
  obtain ⟨s, m, e, r1, r2, r3⟩ := hb W hW
  have xb : Ex FloatKind.f64.format s b (m * 2 ^ (e - FloatKind.f64.format.leastPlace).toNat) := ⟨m, e, r1, r2, rfl⟩
  obtain ⟨S, M, base, t1, t2, t3⟩ := sum_ex (ex_one W hW) xb
  have hsg : sg s (m * 2 ^ (e - FloatKind.f64.format.leastPlace).toNat) = ((m * 2 ^ (e - FloatKind.f64.format.leastPlace).toNat : Nat) : Int) := by
    rcases hs s m e r1 with h | h
    · subst h; rfl
    · subst h; rw [Nat.zero_mul]; cases s <;> rfl
  have ho : sg false (2 ^ W) = ((2 ^ W : Nat) : Int) := rfl
  rw [hsg, ho] at t3
  have hS : S = false := by
    cases S with
    | false => rfl
    | true =>
      rw [sg_true] at t3
      have hU := Nat.two_pow_pos W
      generalize 2 ^ W = U at *
      omega
  subst hS
  have hw : fadd .f64 4607182418800017408 b = FloatKind.f64.format.nearest false M base := by
    unfold fadd op2; rw [t1]; rfl
  rw [hw]; exact nng_nearest _ _
/-- the step t / (1 + sqrt (1 + t * t)) stays at most 1 -/
theorem bd_half {t : Nat} (h : Bd t 0) : Bd (fdiv .f64 t (fadd .f64 4607182418800017408 (fsqrt (fadd .f64 4607182418800017408 (fmul .f64 t t))))) 0 := by
  have h1 := bd_mul h h (by omega)
  have h2 := bd_add bd_one h1 (by omega)
  have h3 := bd_sqrt (h2.mono (by omega)) (nng_one_add h1 (nng_square t))
  exact bd_div h (ge1_add ex_one h3 (by omega) (nng_sqrt _)) (by omega)
theorem bd_zero : Bd 0 0 := by
  intro W hW
  exact ⟨false, 0, -1074, by decide, by decide, by rw [Nat.zero_mul]; exact Nat.zero_le _⟩
/-- the step 1 / k - u * p -/
theorem bd_term {u p n k : Nat} (hu : Bd u 0) (hp : Bd p n) (hk : 1 ≤ k) (hk2 : k < 2 ^ 53) (hn : n + 1 ≤ 1000) : Bd (fsub .f64 (fdiv .f64 4607182418800017408 (ofInt .f64 (k : Int))) (fmul .f64 u p)) (n + 1) := by
  have h1 := bd_div bd_one (ge1_ofInt hk hk2) (by omega)
  have h2 := bd_mul hu hp (by omega)
  rw [Nat.zero_add] at h2
  exact bd_sub (h1.mono (Nat.zero_le _)) h2 hn

theorem fabs_number {c : Nat} {s : Bool} {m : Nat} {e : Int} (h : FloatKind.f64.format.read c = .number s m e) : FloatKind.f64.format.read (if isNaN .f64 c then nan .f64 else c % 2 ^ 63) = .number false m e := by
  have hn : isNaN .f64 c = false := by unfold isNaN; rw [h]; rfl
  rw [if_neg (by rw [hn]; decide)]
  have hs : FloatKind.f64.format.signWeight = 2 ^ 63 := by decide
  unfold Format.read at h ⊢
  rw [hs] at h ⊢
  rw [Nat.mod_mod]
  have hneg : (c % 2 ^ 63 / 2 ^ 63 % 2 == 1) = false := by
    rw [Nat.div_eq_of_lt (Nat.mod_lt _ (by decide))]; rfl
  rw [hneg]
  dsimp only at h ⊢
  split at h
  · rename_i h5; rw [if_pos h5]; cases h; rfl
  · rename_i h5
    rw [if_neg h5]
    split at h
    · rename_i h6; rw [if_pos h6]; cases h; rfl
    · split at h <;> cases h
/-- the lesser by the greater of two that are not below zero -/
theorem bd_ratio {a b va vb : Nat} {s t : Bool} (ha : Ex FloatKind.f64.format s a va) (hb : Ex FloatKind.f64.format t b vb) (h : va ≤ vb) (h0 : 0 < vb) : Bd (fdiv .f64 a b) 0 := by
  intro W hW
  obtain ⟨m, e, g1, g2, g3⟩ := hb
  have hT := rv_pow 0 W hW
  rw [Nat.zero_add, Nat.zero_add] at hT
  rw [Nat.zero_add, ← hT]
  refine mg_div (k := .f64) (N := W) (A := va) (B := vb) ha.ms.mg ⟨t, m, e, g1, g2, Nat.le_of_eq g3.symm⟩ h0 ?_ ?_ (by decide) (by decide)
  · show va * 2 ^ (-FloatKind.f64.format.leastPlace).toNat ≤ _
    rw [lp64, show (- -1074 : Int).toNat = W by omega, Nat.mul_comm]
    exact Nat.mul_le_mul_left _ h
  · show _ ≤ rv FloatKind.f64.format _
    rw [hT]; exact Nat.le_refl _
end Go.Ab

namespace Go.Ab
open Ieee

theorem fin64_of_number {x : Nat} {s : Bool} {m : Nat} {e : Int} (h : FloatKind.f64.format.read x = .number s m e) (hx : ∃ v, Ex FloatKind.f64.format s x v) : feq .f64 (fsub .f64 x x) 0 = true := by
  obtain ⟨v, hx⟩ := hx
  obtain ⟨S, M, base, h1, h2, h3⟩ := sub_ex hx hx
  have hM : M = 0 := by
    rw [Int.sub_self] at h3
    have : M * 2 ^ (base - FloatKind.f64.format.leastPlace).toNat = 0 := by
      unfold sg at h3; split at h3 <;> omega
    rcases Nat.mul_eq_zero.1 this with h | h
    · exact h
    · have := Nat.two_pow_pos (base - FloatKind.f64.format.leastPlace).toNat; omega
  subst hM
  have hw : fsub .f64 x x = FloatKind.f64.format.nearest S 0 base := by
    unfold fsub op2; rw [h1]; rfl
  rw [hw]
  unfold Format.nearest
  rw [if_pos rfl]
  cases S <;> decide
theorem nan_sub_self {k : FloatKind} {x : Nat} (h : (k.format.read x).isNaN = true ∨ ∃ s, k.format.read x = .infinity s) : fsub k x x = nan k := by
  unfold fsub op2
  rcases h with h | ⟨s, h⟩
  · cases hd : k.format.read x with
    | nan s t => rfl
    | number => rw [hd] at h; cases h
    | infinity => rw [hd] at h; cases h
  · rw [h]; cases s <;> rfl
theorem feq_nan (k : FloatKind) : feq k (nan k) 0 = false := by cases k <;> decide
theorem widen_nan {x : Nat} {s : Bool} {t : Nat} (h : FloatKind.f32.decode x = .nan s t) : widen x = nan .f64 := by
  have hn : isNaN .f32 x = true := by unfold isNaN; show (FloatKind.f32.decode x).isNaN = true; rw [h]; rfl
  unfold widen; rw [if_pos hn]
theorem fin_widen (x : Nat) : feq .f64 (fsub .f64 (widen x) (widen x)) 0 = feq .f32 (fsub .f32 x x) 0 := by
  cases h : FloatKind.f32.decode x with
  | number s m e =>
    obtain ⟨m', e', h1, h2, h3⟩ := widen_ex h
    rw [fin_of_number h, fin64_of_number h1 ⟨_, m', e', h1, h2, h3⟩]
  | infinity s =>
    rw [nan_sub_self (k := .f32) (.inr ⟨s, h⟩), nan_sub_self (k := .f64) (.inr ⟨s, read_inf32 h⟩), feq_nan, feq_nan]
  | nan s t =>
    rw [widen_nan h, nan_sub_self (k := .f32) (.inl (by show (FloatKind.f32.decode x).isNaN = true; rw [h]; rfl)), feq_nan]
    decide
theorem zero_widen (x : Nat) : feq .f64 (widen x) 0 = feq .f32 x 0 := by
  cases h : FloatKind.f32.decode x with
  | number s m e =>
    have o1 := order_ex (widen_ex h) ex_zero64
    have h0 : Ex FloatKind.f32.format false 0 0 := ⟨0, -149, decode_zero32, by decide, by decide⟩
    have o2 := order_ex (ex32 h) h0
    unfold feq ford Format.order
    rw [o1, o2]
    have z : sg false 0 = 0 := rfl
    rw [z]
    have hz : ∀ n : Nat, (compare (sg s (m * 2 ^ n)) 0 == .eq) = (m == 0) := by
      intro n
      by_cases hm : m = 0
      · subst hm; rw [Nat.zero_mul]; cases s <;> rfl
      · have hp : 0 < m * 2 ^ n := Nat.mul_pos (by omega) (Nat.two_pow_pos _)
        generalize m * 2 ^ n = v at *
        have : sg s v ≠ 0 := by unfold sg; split <;> omega
        have h1 : compare (sg s v) 0 ≠ .eq := fun h => this (Int.compare_eq_eq.1 h)
        cases hc : compare (sg s v) 0 with
        | eq => exact absurd hc h1
        | lt => simp [hm]
        | gt => simp [hm]
    have e1 := hz (e + 1074).toNat
    have e2 := hz (e + 149).toNat
    show (some (compare (sg s (m * 2 ^ (e + 1074).toNat)) 0) == some .eq) = (some (compare (sg s (m * 2 ^ (e + 149).toNat)) 0) == some .eq)
    have e3 : ∀ o : Ordering, (some o == some Ordering.eq) = (o == .eq) := by intro o; cases o <;> rfl
    rw [e3, e3, e1, e2]
  | infinity s =>
    have h64 := read_inf32 h
    have r0 : FloatKind.f64.format.read 0 = .number false 0 (-1074) := by decide
    unfold feq ford Format.order
    rw [h64, r0]
    have h' : FloatKind.f32.format.read x = .infinity s := h
    rw [h', decode_zero32]
    cases s <;> rfl
  | nan s t =>
    rw [widen_nan h, feq_nan]
    unfold feq ford Format.order
    have h' : FloatKind.f32.format.read x = .nan s t := h
    rw [h']; rfl

/-- what is above 1/2 and is lessened by 1 is not below -1/2 -/
theorem hinge_step {a : Nat} (h : flt .f32 1056964608 a = true) : flt .f32 (fsub .f32 a 1065353216) 3204448256 = false := by
  have xh : Ex FloatKind.f32.format false 1056964608 (2 ^ 148) := ⟨2 ^ 23, -24, by decide, by decide, by decide⟩
  have xn : Ex FloatKind.f32.format true 3204448256 (2 ^ 148) := ⟨2 ^ 23, -24, by decide, by decide, by decide⟩
  have x1 : Ex FloatKind.f32.format false 1065353216 (2 ^ 149) := ⟨2 ^ 23, -23, by decide, by decide, by decide⟩
  cases hd : FloatKind.f32.decode a with
  | number s m e =>
    have xa := ex32 hd
    have ho := order_ex xh xa
    have h' : FloatKind.f32.format.order 1056964608 a == some .lt := h
    unfold Format.order at h'
    rw [ho] at h'
    have h5 : compare (sg false (2 ^ 148)) (sg s (m * 2 ^ (e + 149).toNat)) = .lt := by simpa using h'
    have h6 := Int.compare_eq_lt.1 h5
    have z1 : sg false (2 ^ 148) = (2 ^ 148 : Int) := rfl
    have z2 : sg false (2 ^ 149) = (2 ^ 149 : Int) := rfl
    rw [z1] at h6
    obtain ⟨S, M, base, t1, t2, t3⟩ := sub_ex xa x1
    rw [z2] at t3
    have hw : fsub .f32 a 1065353216 = FloatKind.f32.format.nearest S M base := by
      unfold fsub op2; rw [t1]; rfl
    rw [hw]
    generalize sg s (m * 2 ^ (e + 149).toNat) = A at *
    cases S with
    | false =>
      rcases read_nearest .f32 false M base with ⟨m2, e2, g1, _⟩ | g1
      · have xr : Ex FloatKind.f32.format false (FloatKind.f32.format.nearest false M base) (m2 * 2 ^ (e2 + 149).toNat) := ex32 g1
        have o2 := order_ex xr xn
        unfold flt ford Format.order
        rw [o2]
        have : sg true (2 ^ 148) < sg false (m2 * 2 ^ (e2 + 149).toNat) := by
          have : sg true (2 ^ 148) = -(2 ^ 148 : Int) := rfl
          rw [this]
          have : (0 : Int) ≤ sg false (m2 * 2 ^ (e2 + 149).toNat) := Int.natCast_nonneg _
          omega
        rw [Int.compare_eq_gt.2 this]; rfl
      · have rn : FloatKind.f32.format.read 3204448256 = .number true (2 ^ 23) (-24) := by decide
        unfold flt ford Format.order
        rw [g1, rn]; rfl
    | true =>
      rw [sg_true] at t3
      have hle : M * 2 ^ (base - FloatKind.f32.format.leastPlace).toNat ≤ 2 ^ 148 := by
        generalize M * 2 ^ (base - FloatKind.f32.format.leastPlace).toNat = v at *
        omega
      have hR : rv FloatKind.f32.format 1056964608 = 2 ^ 148 := by decide
      obtain ⟨m2, e2, g1, g2, g3⟩ := ms_nearest FloatKind.f32.format true M base (R := 1056964608) (by decide) (by
        rw [hR, show (FloatKind.f32.format.leastPlace - base).toNat = 0 by omega, Nat.pow_zero, Nat.mul_one]; exact hle)
      rw [hR] at g3
      have xr : Ex FloatKind.f32.format true (FloatKind.f32.format.nearest true M base) (m2 * 2 ^ (e2 - FloatKind.f32.format.leastPlace).toNat) := ⟨m2, e2, g1, g2, rfl⟩
      have o2 := order_ex xr xn
      unfold flt ford Format.order
      rw [o2]
      generalize m2 * 2 ^ (e2 - FloatKind.f32.format.leastPlace).toNat = w at *
      rw [sg_true, sg_true]
      rcases Nat.lt_or_ge w (2 ^ 148) with hl | hl
      · rw [Int.compare_eq_gt.2 (by omega)]; rfl
      · have : w = 2 ^ 148 := by omega
        subst this
        rw [Int.compare_eq_eq.2 rfl]; rfl
  | infinity s =>
    have h' : FloatKind.f32.format.order 1056964608 a == some .lt := h
    unfold Format.order at h'
    have hd' : FloatKind.f32.format.read a = .infinity s := hd
    have rh : FloatKind.f32.format.read 1056964608 = .number false (2 ^ 23) (-24) := by decide
    rw [hd', rh] at h'
    cases s with
    | true => cases h'
    | false =>
      have r1 : FloatKind.f32.format.read 1065353216 = .number false (2 ^ 23) (-23) := by decide
      have hw : fsub .f32 a 1065353216 = FloatKind.f32.format.write (.infinity false) := by
        unfold fsub op2 subD; rw [hd', r1]; rfl
      rw [hw]; decide
  | nan s t =>
    have h' : FloatKind.f32.format.order 1056964608 a == some .lt := h
    unfold Format.order at h'
    have hd' : FloatKind.f32.format.read a = .nan s t := hd
    have rh : FloatKind.f32.format.read 1056964608 = .number false (2 ^ 23) (-24) := by decide
    rw [hd', rh] at h'
    cases h'
end Go.Ab

namespace Go.Ab
open Ieee

theorem fin64 {x : Nat} (h : feq .f64 (fsub .f64 x x) 0 = true) : ∃ s m e, FloatKind.f64.format.read x = .number s m e := by
  cases hd : FloatKind.f64.format.read x with
  | number s m e => exact ⟨s, m, e, rfl⟩
  | infinity s =>
    exfalso
    rw [nan_sub_self (k := .f64) (.inr ⟨s, hd⟩), feq_nan] at h
    cases h
  | nan s t =>
    exfalso
    rw [nan_sub_self (k := .f64) (.inl (by rw [hd]; rfl)), feq_nan] at h
    cases h
theorem read_ex {x : Nat} {s : Bool} {m : Nat} {e : Int} (h : FloatKind.f64.format.read x = .number s m e) : ∃ v, Ex FloatKind.f64.format s x v := by
  have hle : FloatKind.f64.format.leastPlace ≤ e := by
    unfold Format.read at h
    dsimp only at h
    split at h
    · cases h; exact Int.le_refl _
    · split at h
      · cases h; omega
      · split at h <;> cases h
  exact ⟨_, m, e, h, hle, rfl⟩
theorem rv_lt_succ (f : Format) (R : Nat) : rv f R < rv f (R + 1) := by
  have hb : 0 < f.binade := Nat.two_pow_pos _
  by_cases h : R < f.binade
  · rw [rv_small f (by omega), rv_small f (by omega)]; omega
  · rw [rv_big f (by omega), rv_big f (by omega)]
    have hdm := Nat.div_add_mod R f.binade
    have hlt := Nat.mod_lt R hb
    have hq : 1 ≤ R / f.binade := (Nat.le_div_iff_mul_le hb).2 (by omega)
    generalize hD : R / f.binade = D at *
    generalize ht : R % f.binade = t at *
    by_cases hc : t + 1 < f.binade
    · have e1 : (R + 1) / f.binade = D := by
        apply Nat.div_eq_of_lt_le
        · rw [Nat.mul_comm]; omega
        · rw [Nat.add_mul, Nat.mul_comm D]; omega
      have e2 : (R + 1) % f.binade = t + 1 := by
        have := Nat.div_add_mod (R + 1) f.binade
        rw [e1] at this; omega
      rw [e1, e2]
      exact Nat.mul_lt_mul_of_pos_right (by omega) (Nat.two_pow_pos _)
    · have e1 : (R + 1) / f.binade = D + 1 := by
        apply Nat.div_eq_of_lt_le
        · rw [Nat.add_mul, Nat.mul_comm D]; omega
        · rw [Nat.add_mul, Nat.add_mul, Nat.mul_comm D]; omega
      have e2 : (R + 1) % f.binade = 0 := by
        have := Nat.div_add_mod (R + 1) f.binade
        rw [e1, Nat.mul_add] at this; omega
      rw [e1, e2, show D + 1 - 1 = D - 1 + 1 by omega, Nat.pow_succ]
      have : (f.binade + t) * 2 ^ (D - 1) < (2 * f.binade) * 2 ^ (D - 1) := Nat.mul_lt_mul_of_pos_right (by omega) (Nat.two_pow_pos _)
      refine Nat.lt_of_lt_of_eq this ?_
      rw [Nat.add_zero, Nat.mul_comm 2, Nat.mul_assoc, Nat.mul_comm 2]
theorem rv_inj (f : Format) {R S : Nat} (h : rv f R = rv f S) : R = S := by
  rcases Nat.lt_trichotomy R S with h1 | h1 | h1
  · have h2 := rv_mono f h1
    have h3 := rv_lt_succ f R
    have h4 : rv f (R + 1) ≤ rv f S := h2
    omega
  · exact h1
  · have h2 := rv_mono f h1
    have h3 := rv_lt_succ f S
    have h4 : rv f (S + 1) ≤ rv f R := h2
    omega
/-- two words of one sign and value are one -/
theorem ex_unique {x y v : Nat} {s : Bool} (hx : Ex FloatKind.f64.format s x v) (hy : Ex FloatKind.f64.format s y v) (hx2 : x < 2 ^ 64) (hy2 : y < 2 ^ 64) : x = y := by
  have sw : FloatKind.f64.format.signWeight = 2 ^ 63 := by decide
  have e1 : FloatKind.f64.format.infRung = 9218868437227405312 := by decide
  have e2 : FloatKind.f64.format.binade = 4503599627370496 := by decide
  have key : ∀ {z : Nat}, z < 2 ^ 64 → Ex FloatKind.f64.format s z v → z = (if s then 2 ^ 63 else 0) + z % 2 ^ 63 ∧ rv FloatKind.f64.format (z % 2 ^ 63) = v := by
    intro z hz hex
    obtain ⟨m, e, h1, h2, h3⟩ := hex
    unfold Format.read at h1
    rw [sw, e1, e2, lp64] at h1
    rw [lp64] at h3
    dsimp only at h1
    have hsign : ∀ b : Bool, (z / 2 ^ 63 % 2 == 1) = b → z = (if b then 2 ^ 63 else 0) + z % 2 ^ 63 := by
      intro b hb
      have := Nat.div_add_mod z (2 ^ 63)
      cases b
      · have h5 : z / 2 ^ 63 % 2 ≠ 1 := by simpa using hb
        simp only [Bool.false_eq_true, if_false]; omega
      · have h5 : z / 2 ^ 63 % 2 = 1 := by simpa using hb
        simp only [if_true]; omega
    split at h1
    · rename_i hlt
      cases h1
      refine ⟨hsign _ rfl, ?_⟩
      rw [rv_small _ (by rw [e2]; omega)]
      simpa using h3
    · rename_i hlt
      split at h1
      · cases h1
        refine ⟨hsign _ rfl, ?_⟩
        rw [rv_big _ (by rw [e2]; omega), e2, ← h3]
        congr 2
        omega
      · split at h1 <;> cases h1
  obtain ⟨a1, a2⟩ := key hx2 hx
  obtain ⟨b1, b2⟩ := key hy2 hy
  have := rv_inj FloatKind.f64.format (a2.trans b2.symm)
  rw [a1, b1, this]

theorem cut_exact (neg : Bool) (n d : Nat) : Toward.even.cut neg (n * 2 ^ d) d = n := by
  by_cases hn : n = 0
  · subst hn
    rw [Nat.zero_mul]
    have := cut_le neg 0 d 0 (by omega)
    omega
  · have h1 := cut_le neg (n * 2 ^ d) d n (Nat.le_refl _)
    refine Nat.le_antisymm h1 ?_
    unfold Toward.cut
    dsimp only
    refine Nat.le_trans ?_ (Nat.le_add_right _ _)
    rw [Nat.one_shiftLeft]
    have hge : 2 ^ d ≤ n * 2 ^ d := Nat.le_mul_of_pos_left _ (by omega)
    have hpos : n * 2 ^ d ≠ 0 := by have := Nat.two_pow_pos d; omega
    have hl := (Nat.le_log2 hpos).2 hge
    rw [Nat.min_eq_left (by omega), Nat.mul_div_cancel _ (Nat.two_pow_pos _)]
    exact Nat.le_refl _
/-- a number of 53 digits, however it is shifted, is written as it is -/
theorem nearest_scaled (s : Bool) (m k : Nat) (hm : m < 2 ^ 53) (hfit : m * 2 ^ k < rv FloatKind.f64.format FloatKind.f64.format.infRung) : Ex FloatKind.f64.format s (FloatKind.f64.format.nearest s (m * 2 ^ k) (-1074)) (m * 2 ^ k) := by
  have e2 : FloatKind.f64.format.binade = 4503599627370496 := by decide
  have e4 : FloatKind.f64.format.fractionBits = 52 := by decide
  have key : ∃ r, FloatKind.f64.format.nearest s (m * 2 ^ k) (-1074) = FloatKind.f64.format.word s (min r FloatKind.f64.format.infRung) ∧ rv FloatKind.f64.format r = m * 2 ^ k := by
    unfold Format.nearest
    by_cases h0 : m * 2 ^ k = 0
    · rw [if_pos h0]
      exact ⟨0, by rw [Nat.zero_min], by rw [rv_small _ (by rw [e2]; decide), h0]⟩
    rw [if_neg h0]
    have hm0 : m ≠ 0 := by rintro rfl; exact h0 (Nat.zero_mul _)
    refine ⟨_, rfl, ?_⟩
    rw [e4, lp64]
    have hlog : m < 2 ^ (m.log2 + 1) := Nat.lt_log2_self
    have hlog' : 2 ^ m.log2 ≤ m := Nat.log2_self_le hm0
    have hlg : m.log2 ≤ 52 := by
      have := (Nat.pow_lt_pow_iff_right (a := 2) (by omega)).1 (Nat.lt_of_le_of_lt hlog' hm)
      omega
    have hL : (m * 2 ^ k).log2 = m.log2 + k := by
      refine (Nat.log2_eq_iff h0).2 ⟨?_, ?_⟩
      · rw [Nat.pow_add]; exact Nat.mul_le_mul_right _ hlog'
      · rw [show m.log2 + k + 1 = m.log2 + 1 + k by omega, Nat.pow_add]
        exact Nat.mul_lt_mul_of_pos_right hlog (Nat.two_pow_pos _)
    rw [hL]
    generalize m.log2 = lg at *
    generalize hlast : max ((-1074 : Int) + ((lg + k : Nat) : Int) - ((52 : Nat) : Int)) (-1074) = last
    rw [show ((-1074 : Int) - last).toNat = 0 by omega, Nat.shiftLeft_zero]
    generalize hd : (last - -1074).toNat = d
    have hdk : d ≤ k := by omega
    have hsplit : m * 2 ^ k = m * 2 ^ (k - d) * 2 ^ d := by
      rw [Nat.mul_assoc, ← Nat.pow_add]; congr 2; omega
    rw [hsplit, cut_exact, rv_at]
    · rw [e2]
      refine Nat.le_of_lt (Nat.lt_of_lt_of_le (Nat.mul_lt_mul_of_pos_right hlog (Nat.two_pow_pos _)) ?_)
      rw [show (2 * 4503599627370496 : Nat) = 2 ^ 53 by decide, ← Nat.pow_add]
      exact Nat.pow_le_pow_right (by omega) (by omega)
    · by_cases hc : d = 0
      · exact .inl hc
      · right
        rw [e2]
        refine Nat.le_trans (Nat.le_of_eq ?_) (Nat.mul_le_mul_right _ hlog')
        rw [show (4503599627370496 : Nat) = 2 ^ 52 by decide, ← Nat.pow_add]
        congr 1; omega
  obtain ⟨r, e1, e3⟩ := key
  have hr : r < FloatKind.f64.format.infRung := by
    apply Nat.lt_of_not_le
    intro hc
    have := rv_mono FloatKind.f64.format hc
    omega
  rw [Nat.min_eq_left (by omega)] at e1
  obtain ⟨m', e', g1, g2, g3⟩ := read_word FloatKind.f64.format s hr
  exact ⟨m', e', by rw [e1]; exact g1, g2, by rw [g3, e3]⟩

/-- a number less nothing -/
theorem sub_zero {x : Nat} {s : Bool} {v : Nat} (h : Ex FloatKind.f64.format s x v) (hx : x < 2 ^ 64) : fsub .f64 x 0 = x := by
  obtain ⟨m, e, h1, h2, h3⟩ := h
  have r0 : FloatKind.f64.format.read 0 = .number false 0 (-1074) := by decide
  have hw : fsub .f64 x 0 = FloatKind.f64.format.write (.number s (m * 2 ^ (e + 1074).toNat) (-1074)) := by
    unfold fsub op2 subD
    rw [h1, r0]
    rw [lp64] at h2
    show ((Datum.sum (.number s m e) (.number true 0 (-1074))).map FloatKind.f64.format.write).getD _ = _
    unfold Datum.sum
    dsimp only
    rw [show min e (-1074) = -1074 by omega]
    have e5 : signed true 0 ((-1074 : Int) - -1074).toNat = 0 := by decide
    rw [e5, Int.add_zero, show e - -1074 = e + 1074 by omega]
    have e6 : (signed s m (e + 1074).toNat).natAbs = m * 2 ^ (e + 1074).toNat := natAbs_signed _ _ _
    rw [e6]
    have e7 : (if signed s m (e + 1074).toNat = 0 then (s && true) else decide (signed s m (e + 1074).toNat < 0)) = s := by
      rw [signed_sg]
      generalize m * 2 ^ (e + 1074).toNat = w
      by_cases hz : sg s w = 0
      · rw [if_pos hz, Bool.and_true]
      · rw [if_neg hz]
        cases s
        · have : ¬ sg false w < 0 := by
            have : (0 : Int) ≤ sg false w := Int.natCast_nonneg _
            omega
          simpa using this
        · have : sg true w < 0 := by rw [sg_true] at hz ⊢; omega
          simpa using this
    rw [e7]
    rfl
  rw [hw]
  refine ex_unique (s := s) (v := v) ?_ ⟨m, e, h1, h2, h3⟩ (FloatKind.f64.format.write_lt _) hx
  -- the same value written again
  show Ex FloatKind.f64.format s (FloatKind.f64.format.nearest s (m * 2 ^ (e + 1074).toNat) (-1074)) v
  have hm : m < 2 ^ 53 := by
    have e1 : FloatKind.f64.format.infRung = 9218868437227405312 := by decide
    have e2 : FloatKind.f64.format.binade = 4503599627370496 := by decide
    unfold Format.read at h1
    dsimp only at h1
    rw [e1, e2] at h1
    split at h1
    · cases h1; omega
    · split at h1
      · cases h1; omega
      · split at h1 <;> cases h1
  rw [lp64] at h2 h3
  rw [show e - -1074 = e + 1074 by omega] at h3
  have hv : v < rv FloatKind.f64.format FloatKind.f64.format.infRung := by
    obtain ⟨K, hK⟩ : ∃ K : Nat, K = 2098 := ⟨_, rfl⟩
    rw [rv64_inf hK, ← h3]
    have he : e ≤ 971 := by
      have e1 : FloatKind.f64.format.infRung = 9218868437227405312 := by decide
      have e2 : FloatKind.f64.format.binade = 4503599627370496 := by decide
      unfold Format.read at h1
      dsimp only at h1
      rw [e1, e2, lp64] at h1
      split at h1
      · cases h1; omega
      · split at h1
        · rename_i q1 q2
          cases h1
          generalize x % FloatKind.f64.format.signWeight = r at *
          omega
        · split at h1 <;> cases h1
    refine Nat.lt_of_lt_of_le (Nat.mul_lt_mul_of_pos_right hm (Nat.two_pow_pos _)) ?_
    rw [← Nat.pow_add]
    exact Nat.pow_le_pow_right (by omega) (by omega)
  have := nearest_scaled s m (e + 1074).toNat hm (by rw [h3]; exact hv)
  rw [h3] at this
  rw [h3]
  exact this

/-- what is cut to a whole number -/
theorem trunc_ex {x v W : Nat} {s : Bool} (hW : W = 1074) (h : Ex FloatKind.f64.format s x v) (hv : v < 2 ^ (52 + W)) : Ex FloatKind.f64.format s (integral .zero x) (v / 2 ^ W * 2 ^ W) ∧ integral .zero x = FloatKind.f64.format.nearest s (v / 2 ^ W) 0 := by
  have hq : v / 2 ^ W < 2 ^ 52 := by
    refine (Nat.div_lt_iff_lt_mul (Nat.two_pow_pos _)).2 ?_
    rw [← Nat.pow_add]; exact hv
  obtain ⟨m, e, h1, h2, rfl⟩ := h
  have hn : isNaN .f64 x = false := by unfold isNaN; rw [h1]; rfl
  rw [lp64] at h2
  have hi : integral .zero x = FloatKind.f64.format.nearest s (m * 2 ^ (e - FloatKind.f64.format.leastPlace).toNat / 2 ^ W) 0 := by
    show (if isNaN .f64 x = true then nan .f64 else FloatKind.f64.encode ((FloatKind.f64.decode x).integral .zero)) = _
    rw [hn, if_neg (by decide)]
    show FloatKind.f64.format.write ((FloatKind.f64.format.read x).integral .zero) = _
    rw [h1]
    show FloatKind.f64.format.nearest s (Toward.zero.cut s (m <<< e.toNat) (-e).toNat) 0 = _
    rw [cut_zero_way, Nat.shiftLeft_eq, lp64]
    congr 1
    by_cases hc : 0 ≤ e
    · rw [show (-e).toNat = 0 by omega, Nat.pow_zero, Nat.div_one, show (e - -1074).toNat = e.toNat + W by omega, Nat.pow_add, ← Nat.mul_assoc, Nat.mul_div_cancel _ (Nat.two_pow_pos _)]
    · rw [show e.toNat = 0 by omega, Nat.pow_zero, Nat.mul_one, show W = (-e).toNat + (e - -1074).toNat by omega, Nat.pow_add, Nat.mul_div_mul_right _ _ (Nat.two_pow_pos _)]
  generalize m * 2 ^ (e - FloatKind.f64.format.leastPlace).toNat = v at *
  refine ⟨?_, hi⟩
  rw [hi]
  obtain ⟨K, hK⟩ : ∃ K : Nat, K = 2098 := ⟨_, rfl⟩
  have := nearest_exact FloatKind.f64.format s (v / 2 ^ W) 0 (by rw [lp64]; decide) (by rw [show FloatKind.f64.format.fractionBits = 52 by decide]; exact Nat.lt_trans hq (by decide)) (by
    rw [rv64_inf hK, lp64, show (0 - -1074 : Int).toNat = W by omega]
    refine Nat.lt_of_lt_of_le (Nat.mul_lt_mul_of_pos_right hq (Nat.two_pow_pos _)) ?_
    rw [← Nat.pow_add]
    exact Nat.pow_le_pow_right (by omega) (by omega))
  rw [lp64, show (0 - -1074 : Int).toNat = W by omega] at this
  exact this
theorem sg_abs (s : Bool) (q : Nat) : (sg s q).natAbs = q := by unfold sg; split <;> omega
theorem sg_neg {s : Bool} {q : Nat} (h : q ≠ 0) : decide (sg s q < 0) = s := by
  cases s
  · have : ¬ sg false q < 0 := by
      have : (0 : Int) ≤ sg false q := Int.natCast_nonneg _
      omega
    simpa using this
  · have : sg true q < 0 := by rw [sg_true]; omega
    simpa using this
/-- two ways to what is behind the point, and its bound -/
theorem frac_same {x v W : Nat} {s : Bool} (hW : W = 1074) (h : Ex FloatKind.f64.format s x v) (hx : x < 2 ^ 64) (hv : v < 2 ^ (52 + W)) :
    (if feq .f64 (integral .zero x) 0 = true then x else fsub .f64 x (integral .zero x)) = fsub .f64 x (ofInt .f64 (f2iV .f64 x)) ∧ f2iOk .i64 .f64 x = true ∧ Bd (fsub .f64 x (ofInt .f64 (f2iV .f64 x))) 0 := by
  obtain ⟨t1, t2⟩ := trunc_ex hW h hv
  have hi := f2i_ex hW h
  have hU := Nat.two_pow_pos W
  have hq : v / 2 ^ W < 2 ^ 52 := by
    refine (Nat.div_lt_iff_lt_mul hU).2 ?_
    rw [← Nat.pow_add]; exact hv
  have hV : f2iV .f64 x = sg s (v / 2 ^ W) := by unfold f2iV; rw [hi]; rfl
  have hok : f2iOk .i64 .f64 x = true := by
    unfold f2iOk; rw [hi]
    simp only [Bool.and_eq_true, decide_eq_true_eq]
    generalize v / 2 ^ W = q at *
    constructor
    · show (-9223372036854775808 : Int) ≤ sg s q
      unfold sg; split <;> omega
    · show sg s q ≤ (9223372036854775807 : Int)
      unfold sg; split <;> omega
  have hdm := Nat.div_add_mod v (2 ^ W)
  have hml := Nat.mod_lt v hU
  refine ⟨?_, hok, ?_⟩
  · have oz := ford_ex t1 ex_zero64
    have z0 : sg false 0 = 0 := rfl
    rw [z0] at oz
    by_cases hz : v / 2 ^ W = 0
    · rw [hz, Nat.zero_mul] at oz
      have hf : feq .f64 (integral .zero x) 0 = true := by
        unfold feq; rw [oz]; cases s <;> rfl
      rw [if_pos hf, hV, hz]
      have : ofInt .f64 (sg s 0) = 0 := by cases s <;> decide
      rw [this, sub_zero h hx]
    · have hpos : 0 < v / 2 ^ W * 2 ^ W := Nat.mul_pos (Nat.pos_of_ne_zero hz) hU
      have hf : feq .f64 (integral .zero x) 0 = false := by
        unfold feq; rw [oz]
        generalize v / 2 ^ W * 2 ^ W = w at *
        have : sg s w ≠ 0 := by unfold sg; split <;> omega
        have h1 : compare (sg s w) 0 ≠ .eq := fun h => this (Int.compare_eq_eq.1 h)
        cases hc : compare (sg s w) 0 with
        | eq => exact absurd hc h1
        | lt => rfl
        | gt => rfl
      rw [if_neg (by rw [hf]; decide), hV]
      congr 1
      rw [t2]
      show _ = FloatKind.f64.format.nearest (decide (sg s (v / 2 ^ W) < 0)) (sg s (v / 2 ^ W)).natAbs 0
      rw [sg_abs, sg_neg hz]
  · rw [hV]
    have hx2 : ∃ t, Ex FloatKind.f64.format t (ofInt .f64 (sg s (v / 2 ^ W))) (v / 2 ^ W * 2 ^ W) ∧ (t = s ∨ v / 2 ^ W = 0) := by
      by_cases hz : v / 2 ^ W = 0
      · refine ⟨false, ?_, .inr hz⟩
        rw [hz, Nat.zero_mul]
        have : ofInt .f64 (sg s 0) = 0 := by cases s <;> decide
        rw [this]; exact ex_zero64
      · refine ⟨s, ?_, .inl rfl⟩
        have h5 : ofInt .f64 (sg s (v / 2 ^ W)) = FloatKind.f64.format.nearest s (v / 2 ^ W) 0 := by
          show FloatKind.f64.format.nearest (decide (sg s (v / 2 ^ W) < 0)) (sg s (v / 2 ^ W)).natAbs 0 = _
          rw [sg_abs, sg_neg hz]
        rw [h5, ← t2]; exact t1
    obtain ⟨t, hx2, ht⟩ := hx2
    obtain ⟨S, M, base, d1, d2, d3⟩ := sub_ex h hx2
    intro W' hW'
    have hWW : W' = W := by omega
    subst hWW
    have hT := rv_pow 0 W' hW
    rw [Nat.zero_add, Nat.zero_add] at hT
    have hw : fsub .f64 x (ofInt .f64 (sg s (v / 2 ^ W'))) = FloatKind.f64.format.nearest S M base := by
      unfold fsub op2; rw [d1]; rfl
    have key : M * 2 ^ (base - FloatKind.f64.format.leastPlace).toNat ≤ rv FloatKind.f64.format (1023 * 4503599627370496) * 2 ^ (FloatKind.f64.format.leastPlace - base).toNat → Mg FloatKind.f64.format (FloatKind.f64.format.nearest S M base) (rv FloatKind.f64.format (1023 * 4503599627370496)) := mg_nearest FloatKind.f64.format S M base (by decide)
    rw [hw, Nat.zero_add]
    rw [hT] at key
    refine key ?_
    rw [ show (FloatKind.f64.format.leastPlace - base).toNat = 0 by omega, Nat.pow_zero, Nat.mul_one]
    show M * 2 ^ (base - FloatKind.f64.format.leastPlace).toNat ≤ _
    generalize M * 2 ^ (base - FloatKind.f64.format.leastPlace).toNat = D at *
    rw [Nat.mul_comm] at hdm
    generalize hq2 : v / 2 ^ W' * 2 ^ W' = Q at *
    rcases ht with ht | ht
    · subst ht
      generalize 2 ^ W' = U at *
      unfold sg at d3
      cases S <;> cases t <;> simp at d3 <;> omega
    · rw [ht, Nat.zero_mul] at hq2
      subst hq2
      generalize 2 ^ W' = U at *
      unfold sg at d3
      cases S <;> cases s <;> cases t <;> simp at d3 <;> omega
end Go.Ab

namespace Go.Ab
open Ieee

theorem ex_unique32 {x y v : Nat} {s : Bool} (hx : Ex FloatKind.f32.format s x v) (hy : Ex FloatKind.f32.format s y v) (hx2 : x < 2 ^ 32) (hy2 : y < 2 ^ 32) : x = y := by
  have sw : FloatKind.f32.format.signWeight = 2 ^ 31 := by decide
  have e1 : FloatKind.f32.format.infRung = 2139095040 := by decide
  have e2 : FloatKind.f32.format.binade = 8388608 := by decide
  have e3 : FloatKind.f32.format.leastPlace = -149 := by decide
  have key : ∀ {z : Nat}, z < 2 ^ 32 → Ex FloatKind.f32.format s z v → z = (if s then 2 ^ 31 else 0) + z % 2 ^ 31 ∧ rv FloatKind.f32.format (z % 2 ^ 31) = v := by
    intro z hz hex
    obtain ⟨m, e, h1, h2, h3⟩ := hex
    unfold Format.read at h1
    rw [sw, e1, e2, e3] at h1
    rw [e3] at h3
    dsimp only at h1
    have hsign : ∀ b : Bool, (z / 2 ^ 31 % 2 == 1) = b → z = (if b then 2 ^ 31 else 0) + z % 2 ^ 31 := by
      intro b hb
      have := Nat.div_add_mod z (2 ^ 31)
      cases b
      · have h5 : z / 2 ^ 31 % 2 ≠ 1 := by simpa using hb
        simp only [Bool.false_eq_true, if_false]; omega
      · have h5 : z / 2 ^ 31 % 2 = 1 := by simpa using hb
        simp only [if_true]; omega
    split at h1
    · rename_i hlt
      cases h1
      refine ⟨hsign _ rfl, ?_⟩
      rw [rv_small _ (by rw [e2]; omega)]
      simpa using h3
    · rename_i hlt
      split at h1
      · cases h1
        refine ⟨hsign _ rfl, ?_⟩
        rw [rv_big _ (by rw [e2]; omega), e2, ← h3]
        congr 2
        omega
      · split at h1 <;> cases h1
  obtain ⟨a1, a2⟩ := key hx2 hx
  obtain ⟨b1, b2⟩ := key hy2 hy
  have := rv_inj FloatKind.f32.format (a2.trans b2.symm)
  rw [a1, b1, this]

/-- digits that are nought at the end change nothing -/
theorem nearest_shift (f : Format) (s : Bool) (m j : Nat) (e : Int) (hm0 : m ≠ 0) (hm : m < 2 ^ (f.fractionBits + 1)) (he : f.leastPlace ≤ e) : f.nearest s (m * 2 ^ j) (e - j) = f.nearest s m e := by
  have hlog : m < 2 ^ (m.log2 + 1) := Nat.lt_log2_self
  have hlog' : 2 ^ m.log2 ≤ m := Nat.log2_self_le hm0
  have h0 : m * 2 ^ j ≠ 0 := by
    have := Nat.mul_pos (show 0 < m by omega) (Nat.two_pow_pos j); omega
  have hL : (m * 2 ^ j).log2 = m.log2 + j := by
    refine (Nat.log2_eq_iff h0).2 ⟨?_, ?_⟩
    · rw [Nat.pow_add]; exact Nat.mul_le_mul_right _ hlog'
    · rw [show m.log2 + j + 1 = m.log2 + 1 + j by omega, Nat.pow_add]
      exact Nat.mul_lt_mul_of_pos_right hlog (Nat.two_pow_pos _)
  have hlg : m.log2 ≤ f.fractionBits := by
    have := (Nat.pow_lt_pow_iff_right (a := 2) (by omega)).1 (Nat.lt_of_le_of_lt hlog' hm)
    omega
  unfold Format.nearest
  rw [if_neg h0, if_neg hm0, hL]
  generalize m.log2 = lg at *
  have hlast : max (e - (j : Int) + ((lg + j : Nat) : Int) - (f.fractionBits : Int)) f.leastPlace = max (e + (lg : Int) - (f.fractionBits : Int)) f.leastPlace := by
    congr 1; omega
  dsimp only
  rw [hlast]
  generalize hl : max (e + (lg : Int) - (f.fractionBits : Int)) f.leastPlace = last
  have hle : last ≤ e := by omega
  have k2 : Toward.even.cut s (m <<< (e - last).toNat) (last - e).toNat = m * 2 ^ (e - last).toNat := by
    rw [show (last - e).toNat = 0 by omega, cut_zero _ _ _ rfl, Nat.shiftLeft_eq]
  have k1 : Toward.even.cut s ((m * 2 ^ j) <<< (e - (j : Int) - last).toNat) (last - (e - (j : Int))).toNat = m * 2 ^ (e - last).toNat := by
    rw [Nat.shiftLeft_eq]
    by_cases hj : (j : Int) ≤ e - last
    · rw [show (last - (e - (j : Int))).toNat = 0 by omega, cut_zero _ _ _ rfl, Nat.mul_assoc, ← Nat.pow_add]
      congr 2; omega
    · rw [show (e - (j : Int) - last).toNat = 0 by omega, Nat.pow_zero, Nat.mul_one]
      have : m * 2 ^ j = m * 2 ^ (e - last).toNat * 2 ^ (last - (e - (j : Int))).toNat := by
        rw [Nat.mul_assoc, ← Nat.pow_add]; congr 2; omega
      rw [this, cut_exact]
  rw [k1, k2]
/-- the nearest word depends on the value -/
theorem nearest_value (f : Format) (s : Bool) {m m' : Nat} {e e' : Int} (hm0 : m ≠ 0) (hm : m < 2 ^ (f.fractionBits + 1)) (he : f.leastPlace ≤ e) {K : Nat} (hK : -(K : Int) ≤ e) (hK' : -(K : Int) ≤ e') (h : m' * 2 ^ (e' + K).toNat = m * 2 ^ (e + K).toNat) : f.nearest s m' e' = f.nearest s m e := by
  by_cases hc : e' ≤ e
  · have : m' = m * 2 ^ (e - e').toNat := by
      apply Nat.eq_of_mul_eq_mul_right (Nat.two_pow_pos (e' + K).toNat)
      rw [h, Nat.mul_assoc, ← Nat.pow_add]
      congr 2; omega
    rw [this]
    have := nearest_shift f s m (e - e').toNat e hm0 hm he
    rw [show e - ((e - e').toNat : Int) = e' by omega] at this
    exact this
  · have hmm : m = m' * 2 ^ (e' - e).toNat := by
      apply Nat.eq_of_mul_eq_mul_right (Nat.two_pow_pos (e + K).toNat)
      rw [← h, Nat.mul_assoc, ← Nat.pow_add]
      congr 2; omega
    have hm0' : m' ≠ 0 := by rintro rfl; rw [Nat.zero_mul] at hmm; exact hm0 hmm
    have hm' : m' < 2 ^ (f.fractionBits + 1) := Nat.lt_of_le_of_lt (by rw [hmm]; exact Nat.le_mul_of_pos_right _ (Nat.two_pow_pos _)) hm
    have := nearest_shift f s m' (e' - e).toNat e' hm0' hm' (by omega)
    rw [show e' - ((e' - e).toNat : Int) = e by omega, ← hmm] at this
    exact this.symm

theorem read_abs32 {c : Nat} {s : Bool} {m : Nat} {e : Int} (h : FloatKind.f32.format.read c = .number s m e) : FloatKind.f32.format.read (c % 2 ^ 31) = .number false m e := by
  have hs : FloatKind.f32.format.signWeight = 2 ^ 31 := by decide
  unfold Format.read at h ⊢
  rw [hs] at h ⊢
  rw [Nat.mod_mod]
  have hneg : (c % 2 ^ 31 / 2 ^ 31 % 2 == 1) = false := by
    rw [Nat.div_eq_of_lt (Nat.mod_lt _ (by decide))]; rfl
  rw [hneg]
  dsimp only at h ⊢
  split at h
  · rename_i h5; rw [if_pos h5]; cases h; rfl
  · rename_i h5
    rw [if_neg h5]
    split at h
    · rename_i h6; rw [if_pos h6]; cases h; rfl
    · split at h <;> cases h

/-- by 64 bits -/
def abs64 (x : Nat) : Nat := if isNaN .f64 (widen x) then nan .f64 else widen x % 2 ^ 63
/-- by its own bits -/
def abs32 (x : Nat) : Nat := if isNaN .f32 x then nan .f32 else x % 2 ^ 31
theorem abs_same {x : Nat} (hx : x < 2 ^ 32) : narrowOk (abs64 x) = true ∧ narrow (abs64 x) = abs32 x := by
  cases h : FloatKind.f32.decode x with
  | number s m e =>
    obtain ⟨q1, q2, q3⟩ := read_f32_number h
    obtain ⟨m', e', h1, h2, h3⟩ := widen_ex h
    rw [lp64] at h2 h3
    have ha : FloatKind.f64.format.read (abs64 x) = .number false m' e' := fabs_number h1
    have hn : isNaN .f32 x = false := by unfold isNaN; show (FloatKind.f32.decode x).isNaN = false; rw [h]; rfl
    have h32 : abs32 x = x % 2 ^ 31 := by unfold abs32; rw [hn]; rfl
    obtain ⟨W, hW⟩ : ∃ W : Nat, W = 1074 := ⟨_, rfl⟩
    refine ⟨?_, ?_⟩
    · refine narrowOk_of_mg hW ⟨false, m', e', ha, by rw [lp64]; exact h2, Nat.le_refl _⟩ ?_
      rw [lp64, h3]
      have : m * 2 ^ (e + 1074).toNat ≤ (2 ^ 24 - 1) * 2 ^ (104 + W) := Nat.mul_le_mul (by omega) (Nat.pow_le_pow_right (by omega) (by omega))
      refine Nat.le_trans this ?_
      rw [Nat.pow_add 2 104, ← Nat.mul_assoc]
      exact Nat.mul_le_mul_right _ (by decide)
    · rw [narrow_number ha, h32]
      have hr := read_abs32 h
      have xr : Ex FloatKind.f32.format false (x % 2 ^ 31) (m * 2 ^ (e + 149).toNat) := ex32 hr
      have e3 : FloatKind.f32.format.leastPlace = -149 := by decide
      have e4 : FloatKind.f32.format.fractionBits = 23 := by decide
      have hlt : x % 2 ^ 31 < 2 ^ 32 := Nat.lt_of_lt_of_le (Nat.mod_lt _ (by decide)) (by decide)
      by_cases hm0 : m = 0
      · subst hm0
        have hm' : m' = 0 := by
          rw [Nat.zero_mul] at h3
          rcases Nat.mul_eq_zero.1 h3 with h | h
          · exact h
          · have := Nat.two_pow_pos (e' - -1074).toNat; omega
        subst hm'
        have hz : FloatKind.f32.format.nearest false 0 e' = 0 := by unfold Format.nearest; rw [if_pos rfl]; rfl
        rw [hz]
        rw [Nat.zero_mul] at xr
        exact ex_unique32 ⟨0, -149, decode_zero32, by decide, by decide⟩ xr (by decide) hlt
      · have hv := nearest_value FloatKind.f32.format false (m := m) (m' := m') (e := e) (e' := e') hm0 (by rw [e4]; exact q1) (by rw [e3]; exact q2) (K := 1074) (by omega) (by omega) (by
          rw [show e' + ((1074 : Nat) : Int) = e' - -1074 by omega, h3]; rfl)
        rw [hv]
        have := nearest_exact FloatKind.f32.format false m e (by rw [e3]; exact q2) (by rw [e4]; exact q1) (by
          rw [e3, show e - -149 = e + 149 by omega]
          obtain ⟨K, hK⟩ : ∃ K : Nat, K = 277 := ⟨_, rfl⟩
          have e9 : rv FloatKind.f32.format FloatKind.f32.format.infRung = 2 ^ K := by
            have g1 : FloatKind.f32.format.infRung = 2139095040 := by decide
            have g2 : FloatKind.f32.format.binade = 8388608 := by decide
            obtain ⟨J, hJ⟩ : ∃ J : Nat, J = 254 := ⟨_, rfl⟩
            rw [rv_big _ (by rw [g1, g2]; decide), g1, g2, show (8388608 + 2139095040 % 8388608 : Nat) = 2 ^ 23 by decide, show (2139095040 / 8388608 - 1 : Nat) = J by rw [hJ], ← Nat.pow_add]
            exact congrArg (2 ^ ·) (by omega)
          rw [e9]
          refine Nat.lt_of_lt_of_le (Nat.mul_lt_mul_of_pos_right q1 (Nat.two_pow_pos _)) ?_
          rw [← Nat.pow_add]
          exact Nat.pow_le_pow_right (by omega) (by omega))
        rw [e3, show e - -149 = e + 149 by omega] at this
        exact ex_unique32 this xr (FloatKind.f32.format.write_lt (.number false m e)) hlt
  | infinity s =>
    have h64 := read_inf32 h
    have hxv : x = 2139095040 ∨ x = 4286578688 := by
      have hs : FloatKind.f32.format.signWeight = 2 ^ 31 := by decide
      have e1 : FloatKind.f32.format.infRung = 2139095040 := by decide
      have e2 : FloatKind.f32.format.binade = 8388608 := by decide
      have h' : FloatKind.f32.format.read x = .infinity s := h
      unfold Format.read at h'
      rw [hs, e1, e2] at h'
      dsimp only at h'
      split at h'
      · cases h'
      · split at h'
        · cases h'
        · split at h'
          · omega
          · cases h'
    rcases hxv with rfl | rfl <;> decide
  | nan s t =>
    have hn : isNaN .f32 x = true := by unfold isNaN; show (FloatKind.f32.decode x).isNaN = true; rw [h]; rfl
    have h1 : abs64 x = nan .f64 := by unfold abs64; rw [widen_nan h]; decide
    have h2 : abs32 x = nan .f32 := by unfold abs32; rw [hn]; rfl
    rw [h1, h2]; decide
theorem andNot31 {b : Nat} (h : b < 2 ^ 32) : bitop .andNot .i64 (b : Int) 2147483648 = ((b % 2 ^ 31 : Nat) : Int) := by
  unfold bitop
  have e1 : (BitVec.ofInt (IntKind.bits .i64) 2147483648) = BitVec.twoPow 64 31 := by
    show BitVec.ofInt 64 2147483648 = BitVec.twoPow 64 31
    decide
  have e2 : BitVec.ofInt (IntKind.bits .i64) (b : Int) = BitVec.ofNat 64 b := by
    apply BitVec.eq_of_toNat_eq
    show (BitVec.ofInt 64 (b : Int)).toNat = (BitVec.ofNat 64 b).toNat
    rw [BitVec.toNat_ofInt, BitVec.toNat_ofNat]
    omega
  show IntKind.wrap .i64 ((BitVec.ofInt (IntKind.bits .i64) (b : Int) &&& ~~~BitVec.ofInt (IntKind.bits .i64) 2147483648).toNat : Int) = _
  rw [e1, e2]
  have e3 : (BitVec.ofNat 64 b &&& ~~~BitVec.twoPow 64 31) = BitVec.ofNat 64 (b % 2 ^ 31) := by
    apply BitVec.eq_of_getLsbD_eq
    intro i hi
    rw [BitVec.getLsbD_and, BitVec.getLsbD_not, BitVec.getLsbD_twoPow, BitVec.getLsbD_ofNat, BitVec.getLsbD_ofNat, Nat.testBit_mod_two_pow]
    by_cases h31 : i < 31
    · simp [hi, h31, show ¬ 31 = i by omega]
    · by_cases h32 : i = 31
      · subst h32; simp
      · have hb : b.testBit i = false := Nat.testBit_lt_two_pow (Nat.lt_of_lt_of_le h (Nat.pow_le_pow_right (by omega) (by omega)))
        simp [hb]
  show IntKind.wrap .i64 (((BitVec.ofNat 64 b &&& ~~~BitVec.twoPow 64 31).toNat : Nat) : Int) = _
  rw [e3, BitVec.toNat_ofNat]
  have h5 : b % 2 ^ 31 < 2 ^ 31 := Nat.mod_lt _ (by decide)
  rw [Nat.mod_eq_of_lt (Nat.lt_trans h5 (by decide))]
  exact wrapN (Nat.lt_trans h5 (by decide))
theorem wrapU32 {n : Nat} (h : n < 2 ^ 32) : IntKind.wrap .u32 (n : Int) = n := by
  unfold IntKind.wrap
  simp only [IntKind.bits, IntKind.signed]
  simp
  omega
theorem feq_self_iff {x : Nat} : feq .f32 x x = !(isNaN .f32 x) := by
  cases h : FloatKind.f32.decode x with
  | number s m e =>
    have hn : isNaN .f32 x = false := by unfold isNaN; show (FloatKind.f32.decode x).isNaN = false; rw [h]; rfl
    have o := order_ex (ex32 h) (ex32 h)
    unfold feq ford Format.order
    rw [o, hn, Int.compare_eq_eq.2 rfl]; rfl
  | infinity s =>
    have hn : isNaN .f32 x = false := by unfold isNaN; show (FloatKind.f32.decode x).isNaN = false; rw [h]; rfl
    have h' : FloatKind.f32.format.read x = .infinity s := h
    unfold feq ford Format.order
    rw [h', hn]; cases s <;> rfl
  | nan s t =>
    have hn : isNaN .f32 x = true := by unfold isNaN; show (FloatKind.f32.decode x).isNaN = true; rw [h]; rfl
    have h' : FloatKind.f32.format.read x = .nan s t := h
    unfold feq ford Format.order
    rw [h', hn]; rfl
/-- the absolute value by whole numbers -/
theorem abs_bits {x : Nat} (hx : Canon .f32 x) : cn .f32 (Int.toNat (IntKind.wrap .u32 (bitop .andNot .i64 (if (feq .f32 x x) = true then (IntKind.wrap .i64 ((x : Nat) : Int)) else 2143289344) 2147483648))) = abs32 x := by
  have hlt : x < 2 ^ 32 := hx.lt
  rw [feq_self_iff]
  cases hn : isNaN .f32 x with
  | true =>
    have : abs32 x = nan .f32 := by unfold abs32; rw [hn]; rfl
    rw [this]
    show cn .f32 (Int.toNat (IntKind.wrap .u32 (bitop .andNot .i64 ((2143289344 : Nat) : Int) 2147483648))) = _
    rw [andNot31 (by decide), wrapU32 (by decide)]
    decide
  | false =>
    have h2 : abs32 x = x % 2 ^ 31 := by unfold abs32; rw [hn]; rfl
    have hm : x % 2 ^ 31 < 2 ^ 32 := Nat.lt_of_lt_of_le (Nat.mod_lt _ (by decide)) (by decide)
    rw [h2]
    show cn .f32 (Int.toNat (IntKind.wrap .u32 (bitop .andNot .i64 (IntKind.wrap .i64 ((x : Nat) : Int)) 2147483648))) = _
    rw [wrapN (Nat.lt_trans hlt (by decide)), andNot31 hlt, wrapU32 hm, Int.toNat_natCast]
    refine cn_of_not ?_
    rw [isNaN_rung] at hn ⊢
    rw [show FloatKind.f32.format.signWeight = 2 ^ 31 by decide] at hn ⊢
    rw [Nat.mod_mod]; exact hn
end Go.Ab

namespace Go.Ab
open Go.RowKit Ieee

theorem and_of {a b : Bool} (h : (if a = true then b else false) = true) : a = true ∧ b = true := by cases a <;> simp_all
def fabs (c : Nat) : Nat := if isNaN .f64 c then nan .f64 else c % 2 ^ 63
def g_abs : List AV → Option AV
  | [.flt .f64 c] => some (.flt .f64 (fabs c))
  | _ => none
theorem andNot63 (b : Nat) (h : b < 2 ^ 64) : bitop .andNot .u64 (b : Int) 9223372036854775808 = ((b % 2 ^ 63 : Nat) : Int) := by
  unfold bitop
  have e1 : (~~~BitVec.ofInt (IntKind.bits .u64) 9223372036854775808) = BitVec.ofNat 64 (2 ^ 63 - 1) := by
    show (~~~BitVec.ofInt 64 9223372036854775808) = BitVec.ofNat 64 (2 ^ 63 - 1)
    decide
  have e2 : BitVec.ofInt (IntKind.bits .u64) (b : Int) = BitVec.ofNat 64 b := by
    apply BitVec.eq_of_toNat_eq
    show (BitVec.ofInt 64 (b : Int)).toNat = (BitVec.ofNat 64 b).toNat
    rw [BitVec.toNat_ofInt, BitVec.toNat_ofNat]
    omega
  show IntKind.wrap .u64 ((BitVec.ofInt (IntKind.bits .u64) (b : Int) &&& ~~~BitVec.ofInt (IntKind.bits .u64) 9223372036854775808).toNat : Int) = _
  rw [e1, e2]
  have e3 : ((BitVec.ofNat 64 b &&& BitVec.ofNat 64 (2 ^ 63 - 1)).toNat) = b % 2 ^ 63 := by
    rw [BitVec.toNat_and, BitVec.toNat_ofNat, BitVec.toNat_ofNat, Nat.mod_eq_of_lt h, Nat.mod_eq_of_lt (by decide : 2 ^ 63 - 1 < 2 ^ 64), Nat.and_two_pow_sub_one_eq_mod]
  show IntKind.wrap .u64 (((BitVec.ofNat 64 b &&& BitVec.ofNat 64 (2 ^ 63 - 1)).toNat : Nat) : Int) = _
  rw [e3]
  have : b % 2 ^ 63 < 2 ^ 63 := Nat.mod_lt _ (by decide)
  unfold IntKind.wrap
  simp only [IntKind.bits, IntKind.signed]
  simp
  omega
theorem isNaN_abs (b : Nat) : isNaN .f64 (b % 2 ^ 63) = isNaN .f64 b := by
  rw [isNaN_rung, isNaN_rung, show FloatKind.f64.format.signWeight = 2 ^ 63 by decide, Nat.mod_mod]
theorem fabs_fv {b c : Nat} (h : FV .f64 b c) : fabs c = cn .f64 (bitop .andNot .u64 (b : Int) 9223372036854775808).toNat := by
  rw [andNot63 b h.lt, Int.toNat_natCast]
  unfold fabs cn
  rw [isNaN_abs, h.nan]
  split
  · rfl
  · rename_i hn
    rw [h.not (by simpa using hn)]
end Go.Ab

