/- The program's WordsOfBytes returns what the reference returns, for all arguments. No conditions. -/
import Derived.Test.YtlpbpdjledpfbaaWordsOfBytesX
import Derived.Test.YtlpbpdjledpfbaaRows
import Derived.WalkKit
import Derived.ProofKit
import Derived.OpenShut
import Derived.ChangeOld
import Derived.Below
import Derived.SizedLaws
namespace Go.Proofs.Ytlpbpdjledpfbaa.fnExactWordsOfBytes
open Go.ChangeShapes Go.WideShapes Go.ChangeAt Go.RowKit Go.Ab
set_option linter.all false
theorem own : ownKnob Try.prog.godebug = none := by kernel_rfl
theorem laidOut : laidOutB Try.prog = true := by kernel_rfl
set_option maxRecDepth 100000 in
theorem has9 {x : AV} (h : HasV Try.prog 9 9 x) : ∃ a0, (a0.length ≤ maxLen) ∧ x = .str a0 := by
  obtain ⟨cs, h, rfl⟩ := h
  simp only [HasC, wrapT, Try.underlying9, List.map, HasF] at h ⊢
  obtain ⟨a0, rfl, ha0⟩ := h
  exact ⟨a0, ha0, rfl⟩
set_option maxRecDepth 100000 in
theorem has24 {x : AV} (h : HasV Try.prog 9 24 x) : ∃ a0, (a0.length ≤ maxLen) ∧ (∀ q ∈ a0, (Lit.int .i64 q).wf = true) ∧ x = .sl (List.map (AV.int .i64) a0) := by
  obtain ⟨cs, h, rfl⟩ := h
  simp only [HasC, wrapT, Try.underlying24, Try.underlying2, List.map, HasF] at h ⊢
  obtain ⟨y0, rfl, hl0, he0⟩ := h
  obtain ⟨a0, rfl, hf0⟩ := list_enc (e := (AV.int .i64)) (F := fun q => (Lit.int .i64 q).wf = true) (fun y hy => by
    obtain ⟨cs, hc, rfl⟩ := hy
    (try simp only [HasC, wrapT, Try.underlying2, List.map, HasF] at hc ⊢)
    obtain ⟨a101, rfl, ha101⟩ := hc
    exact ⟨a101, rfl, ha101⟩) he0
  exact ⟨a0, by simpa using hl0, hf0, rfl⟩
set_option maxRecDepth 100000 in
theorem lifted (os : Os) (started : os.Started) (H : Type) (enc : TypeId × Value → H) :
    ReturnsInHanded {} Try.checked os 5 .any (Rows.fnExactWordsOfBytesSpec.pre6 enc Try.prog Try.f5 Rows.fnExactWordsOfBytesRow.domain false) (Rows.fnExactWordsOfBytesSpec.post enc Try.prog Try.f5 false true false false) := by
  refine returnsInHanded_of_change_sized (C := Try.checked) own started (by kernel_rfl) Try.func5
    (ChangeSpec.witness6 (enc := enc) (C := Try.checked) false ⟨#[], #[.string ⟨#[]⟩, .slice none 0 0], []⟩ 8 (by kernel_rfl) (by kernel_rfl) (by kernel_rfl) (by kernel_rfl)) ?_
  intro W base args ds gs before hval0 hW hcnd _ _
  have hval : ∀ (j : Nat) t v, Try.f5.params[j]? = some t → args[j]? = some v → Value.okWide Try.prog W .any base t v := hval0
  have hW' := hW
  obtain ⟨p, q, hA0, hV, rfl, hfz, hnd⟩ := hW
  have hA : DataW.TrodAll enc Try.prog W 0 (fun _ => true) true Try.f5.params.toList args.toList ds p := hA0
  rw [Try.params5] at hA hval
  obtain ⟨v0, vs0, d0, ds0, p0, q0, hargs, rfl, rfl, h0, r0⟩ := trodAll_cons hA
  obtain ⟨v1, vs1, d1, ds1, p1, q1, rfl, rfl, rfl, h1, r1⟩ := trodAll_cons r0
  obtain ⟨rfl, rfl, rfl⟩ := trodAll_nil r1
  obtain rfl : args = #[v0, v1] := by cases args; simp_all
  obtain ⟨rfl, rfl⟩ := trodVars_none hV
  have lt0 : ∀ x ∈ p0, x.block < W.heap.size := by obtain ⟨m, hm⟩ := h0; exact DataW.trod_lt m _ _ _ hm
  obtain ⟨x0, z0, y0⟩ := imp_arg (n := 9) (by kernel_rfl) (hval 0 9 v0 rfl rfl) h0
  obtain ⟨a0_0, f0_0, rfl⟩ := has9 y0
  have lt1 : ∀ x ∈ p1, x.block < W.heap.size := by obtain ⟨m, hm⟩ := h1; exact DataW.trod_lt m _ _ _ hm
  obtain ⟨x1, z1, y1⟩ := imp_arg (n := 9) (by kernel_rfl) (hval 1 24 v1 rfl rfl) h1
  obtain ⟨a1_0, f1_0, f1_1, rfl⟩ := has24 y1
  clear hA0 hval0
  refine (law_calls (vs := [.str a0_0, .sl (List.map (AV.int .i64) a1_0)]) (s5 _ _ (law_WordsOfBytes a0_0 f0_0 a1_0 f1_0 f1_1)) Try.func5 rfl rfl rfl (fun i c d e1 e2 => ?_)).mono fun e W' ⟨he, bel⟩ => ?_
  · match i with
    | 0 => cases e1; cases e2; exact z0
    | 1 => cases e1; cases e2; exact z1
    | i + 2 => simp at e1
  · subst he
    exact ⟨_, rfl, _, _, _, [], _, [], hW', trodAll_mk1 (shut_bool Try.underlying4 _), (trodAll_cons_mk (Below.trod laidOut (by kernel_rfl) (of_decide_eq_true (by kernel_rfl)) h0 bel lt0) (trodAll_cons_mk (Below.trod laidOut (by kernel_rfl) (of_decide_eq_true (by kernel_rfl)) h1 bel lt1) trodAll_mk0)), rfl, bel.frame _, fun h => by cases h⟩
theorem over : Rows.fnExactWordsOfBytesRow.holds Try.pinned (OpenSpec.ofChange Rows.fnExactWordsOfBytesSpec) :=
  OpenClaim.holds_of_wide 5 Try.f5 rfl rfl rfl rfl rfl rfl rfl ⟨rfl, rfl, rfl, rfl, rfl⟩ rfl rfl rfl rfl rfl (by kernel_rfl) Try.func5 (by kernel_rfl)
    (of_decide_eq_true (by kernel_rfl)) (by unfold Func.isWrapper; first | (rw [if_pos (by decide +kernel)]; kernel_rfl) | (rw [if_neg (by decide +kernel)]; exact ⟨rfl, rfl⟩))
    (fun os started H enc _ => lifted os started H enc)
end Go.Proofs.Ytlpbpdjledpfbaa.fnExactWordsOfBytes
namespace Go.Proofs.Ytlpbpdjledpfbaa
/-- The row, under a short name, for the claim. -/
theorem fnExactWordsOfBytes_holds : Rows.FnExactWordsOfBytesSaid := fnExactWordsOfBytes.over
#print axioms fnExactWordsOfBytes_holds
end Go.Proofs.Ytlpbpdjledpfbaa
