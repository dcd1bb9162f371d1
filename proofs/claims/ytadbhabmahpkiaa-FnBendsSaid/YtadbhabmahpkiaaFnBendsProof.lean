/- The program's FnBends returns what the reference returns, for all arguments. No conditions. -/
import Derived.Test.YtadbhabmahpkiaaFnBendsX
import Derived.Test.YtadbhabmahpkiaaRows
import Derived.WalkKit
import Derived.ProofKit
import Derived.OpenShut
import Derived.ChangeOld
import Derived.Below
import Derived.SizedLaws
namespace Go.Proofs.Ytadbhabmahpkiaa.fnBends
open Go.ChangeShapes Go.WideShapes Go.ChangeAt Go.RowKit Go.Ab
set_option linter.all false
theorem own : ownKnob Try.prog.godebug = none := by kernel_rfl
theorem laidOut : laidOutB Try.prog = true := by kernel_rfl
set_option maxRecDepth 100000 in
theorem has22 {x : AV} (h : HasV Try.prog 9 22 x) : ∃ a0, (a0.length ≤ maxLen) ∧ (∀ q ∈ a0, (Lit.int .u8 q).wf = true) ∧ x = .sl (List.map (AV.int .u8) a0) := by
  obtain ⟨cs, h, rfl⟩ := h
  simp only [HasC, wrapT, Try.underlying22, Try.underlying5, List.map, HasF] at h ⊢
  obtain ⟨y0, rfl, hl0, he0⟩ := h
  obtain ⟨a0, rfl, hf0⟩ := list_enc (e := (AV.int .u8)) (F := fun q => (Lit.int .u8 q).wf = true) (fun y hy => by
    obtain ⟨cs, hc, rfl⟩ := hy
    (try simp only [HasC, wrapT, Try.underlying5, List.map, HasF] at hc ⊢)
    obtain ⟨a101, rfl, ha101⟩ := hc
    exact ⟨a101, rfl, ha101⟩) he0
  exact ⟨a0, by simpa using hl0, hf0, rfl⟩
set_option maxRecDepth 100000 in
theorem lifted (os : Os) (started : os.Started) (H : Type) (enc : TypeId × Value → H) :
    ReturnsInHanded {} Try.checked os 4 .any (Rows.fnBendsSpec.pre6 enc Try.prog Try.f4 Rows.fnBendsRow.domain false) (Rows.fnBendsSpec.post enc Try.prog Try.f4 false true false false) := by
  refine returnsInHanded_of_change_sized (C := Try.checked) own started (by kernel_rfl) Try.func4
    (ChangeSpec.witness6 (enc := enc) (C := Try.checked) false ⟨#[], #[.slice none 0 0, .slice none 0 0], []⟩ 8 (by kernel_rfl) (by kernel_rfl) (by kernel_rfl) (by kernel_rfl)) ?_
  intro W base args ds gs before hval0 hW hcnd _ _
  have hval : ∀ (j : Nat) t v, Try.f4.params[j]? = some t → args[j]? = some v → Value.okWide Try.prog W .any base t v := hval0
  have hW' := hW
  obtain ⟨p, q, hA0, hV, rfl, hfz, hnd⟩ := hW
  have hA : DataW.TrodAll enc Try.prog W 0 (fun _ => true) true Try.f4.params.toList args.toList ds p := hA0
  rw [Try.params4] at hA hval
  obtain ⟨v0, vs0, d0, ds0, p0, q0, hargs, rfl, rfl, h0, r0⟩ := trodAll_cons hA
  obtain ⟨v1, vs1, d1, ds1, p1, q1, rfl, rfl, rfl, h1, r1⟩ := trodAll_cons r0
  obtain ⟨rfl, rfl, rfl⟩ := trodAll_nil r1
  obtain rfl : args = #[v0, v1] := by cases args; simp_all
  obtain ⟨rfl, rfl⟩ := trodVars_none hV
  have lt0 : ∀ x ∈ p0, x.block < W.heap.size := by obtain ⟨m, hm⟩ := h0; exact DataW.trod_lt m _ _ _ hm
  obtain ⟨x0, z0, y0⟩ := imp_arg (n := 9) (by kernel_rfl) (hval 0 22 v0 rfl rfl) h0
  obtain ⟨a0_0, f0_0, f0_1, rfl⟩ := has22 y0
  have lt1 : ∀ x ∈ p1, x.block < W.heap.size := by obtain ⟨m, hm⟩ := h1; exact DataW.trod_lt m _ _ _ hm
  obtain ⟨x1, z1, y1⟩ := imp_arg (n := 9) (by kernel_rfl) (hval 1 22 v1 rfl rfl) h1
  obtain ⟨a1_0, f1_0, f1_1, rfl⟩ := has22 y1
  clear hA0 hval0
  refine (law_calls (vs := [.sl (List.map (AV.int .u8) a0_0), .sl (List.map (AV.int .u8) a1_0)]) (s4 _ _ (law_FnBends a0_0 f0_0 f0_1 a1_0 f1_0 f1_1)) Try.func4 rfl rfl rfl (fun i c d e1 e2 => ?_)).mono fun e W' ⟨he, bel⟩ => ?_
  · match i with
    | 0 => cases e1; cases e2; exact z0
    | 1 => cases e1; cases e2; exact z1
    | i + 2 => simp at e1
  · subst he
    exact ⟨_, rfl, _, _, _, [], _, [], hW', trodAll_mk1 (shut_bool Try.underlying4 _), (trodAll_cons_mk (Below.trod laidOut (by kernel_rfl) (of_decide_eq_true (by kernel_rfl)) h0 bel lt0) (trodAll_cons_mk (Below.trod laidOut (by kernel_rfl) (of_decide_eq_true (by kernel_rfl)) h1 bel lt1) trodAll_mk0)), rfl, bel.frame _, fun h => by cases h⟩
theorem over : Rows.fnBendsRow.holds Try.pinned (OpenSpec.ofChange Rows.fnBendsSpec) :=
  OpenClaim.holds_of_wide 4 Try.f4 rfl rfl rfl rfl rfl rfl rfl ⟨rfl, rfl, rfl, rfl, rfl⟩ rfl rfl rfl rfl rfl (by kernel_rfl) Try.func4 (by kernel_rfl)
    (of_decide_eq_true (by kernel_rfl)) (by unfold Func.isWrapper; first | (rw [if_pos (by decide +kernel)]; kernel_rfl) | (rw [if_neg (by decide +kernel)]; exact ⟨rfl, rfl⟩))
    (fun os started H enc _ => lifted os started H enc)
end Go.Proofs.Ytadbhabmahpkiaa.fnBends
namespace Go.Proofs.Ytadbhabmahpkiaa
/-- The row, under a short name, for the claim. -/
theorem fnBends_holds : Rows.FnBendsSaid := fnBends.over
#print axioms fnBends_holds
end Go.Proofs.Ytadbhabmahpkiaa
