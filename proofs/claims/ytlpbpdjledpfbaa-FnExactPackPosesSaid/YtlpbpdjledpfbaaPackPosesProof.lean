/- The program's PackPoses returns what the reference returns, for all arguments. No conditions. -/
import Derived.Test.YtlpbpdjledpfbaaPackPosesX
import Derived.Test.YtlpbpdjledpfbaaRows
import Derived.WalkKit
import Derived.ProofKit
import Derived.OpenShut
import Derived.ChangeOld
import Derived.Below
import Derived.SizedLaws
namespace Go.Proofs.Ytlpbpdjledpfbaa.fnExactPackPoses
open Go.ChangeShapes Go.WideShapes Go.ChangeAt Go.RowKit Go.Ab
set_option linter.all false
theorem own : ownKnob Try.prog.godebug = none := by kernel_rfl
theorem laidOut : laidOutB Try.prog = true := by kernel_rfl
set_option maxRecDepth 100000 in
theorem has48 {x : AV} (h : HasV Try.prog 9 48 x) : ∃ a0 a1 a2, ((Lit.int .i64 a0).wf = true) ∧ ((Lit.int .i64 a1).wf = true) ∧ (Canon .f32 a2) ∧ x = .agg [.int .i64 a0, .int .i64 a1, .flt .f32 a2] := by
  obtain ⟨cs, h, rfl⟩ := h
  simp only [HasC, wrapT, Try.underlying48, Try.underlying2, Try.underlying35, List.map, HasF] at h ⊢
  obtain ⟨_, _, rfl, ⟨a0, rfl, ha0⟩, _, _, rfl, ⟨a1, rfl, ha1⟩, _, _, rfl, ⟨_, a2, rfl, ha2⟩, rfl⟩ := h
  exact ⟨a0, a1, a2, ha0, ha1, ha2.canon, rfl⟩
set_option maxRecDepth 100000 in
theorem has69 {x : AV} (h : HasV Try.prog 9 69 x) : ∃ a0, (a0.length ≤ maxLen) ∧ (∀ q ∈ a0, Canon .f32 q.1 ∧ Canon .f32 q.2.1 ∧ Canon .f32 q.2.2.1 ∧ List.length q.2.2.2 ≤ maxLen ∧ (∀ qq ∈ q.2.2.2, Canon .f32 qq.1 ∧ Canon .f32 qq.2.1 ∧ Canon .f32 qq.2.2.1 ∧ Canon .f32 qq.2.2.2)) ∧ x = .sl (List.map en1 a0) := by
  obtain ⟨cs, h, rfl⟩ := h
  simp only [HasC, wrapT, Try.underlying69, Try.underlying64, Try.underlying61, Try.underlying35, Try.underlying62, Try.underlying42, List.map, HasF] at h ⊢
  obtain ⟨y0, rfl, hl0, he0⟩ := h
  obtain ⟨a0, rfl, hf0⟩ := list_enc (e := en1) (F := fun q => Canon .f32 q.1 ∧ Canon .f32 q.2.1 ∧ Canon .f32 q.2.2.1 ∧ List.length q.2.2.2 ≤ maxLen ∧ (∀ qq ∈ q.2.2.2, Canon .f32 qq.1 ∧ Canon .f32 qq.2.1 ∧ Canon .f32 qq.2.2.1 ∧ Canon .f32 qq.2.2.2)) (fun y hy => by
    obtain ⟨cs, hc, rfl⟩ := hy
    (try simp only [HasC, wrapT, Try.underlying64, Try.underlying61, Try.underlying35, Try.underlying62, Try.underlying42, List.map, HasF] at hc ⊢)
    obtain ⟨_, _, rfl, ⟨_, _, rfl, ⟨_, a101, rfl, ha101⟩, _, _, rfl, ⟨_, a102, rfl, ha102⟩, _, _, rfl, ⟨_, a103, rfl, ha103⟩, rfl⟩, _, _, rfl, ⟨y104, rfl, hl104, he104⟩, rfl⟩ := hc
    obtain ⟨a104, rfl, hf104⟩ := list_enc (e := en0) (F := fun q => Canon .f32 q.1 ∧ Canon .f32 q.2.1 ∧ Canon .f32 q.2.2.1 ∧ Canon .f32 q.2.2.2) (fun y hy => by
      obtain ⟨cs, hc, rfl⟩ := hy
      (try simp only [HasC, wrapT, Try.underlying42, Try.underlying35, List.map, HasF] at hc ⊢)
      obtain ⟨_, _, rfl, ⟨_, a205, rfl, ha205⟩, _, _, rfl, ⟨_, a206, rfl, ha206⟩, _, _, rfl, ⟨_, a207, rfl, ha207⟩, _, _, rfl, ⟨_, a208, rfl, ha208⟩, rfl⟩ := hc
      exact ⟨(a205, a206, a207, a208), rfl, ha205.canon, ha206.canon, ha207.canon, ha208.canon⟩) he104
    exact ⟨(a101, a102, a103, a104), rfl, ha101.canon, ha102.canon, ha103.canon, by simpa using hl104, hf104⟩) he0
  exact ⟨a0, by simpa using hl0, hf0, rfl⟩
set_option maxRecDepth 100000 in
theorem lifted (os : Os) (started : os.Started) (H : Type) (enc : TypeId × Value → H) :
    ReturnsInHanded {} Try.checked os 10 .any (Rows.fnExactPackPosesSpec.pre6 enc Try.prog Try.f10 Rows.fnExactPackPosesRow.domain false) (Rows.fnExactPackPosesSpec.post enc Try.prog Try.f10 false true false false) := by
  refine returnsInHanded_of_change_sized (C := Try.checked) own started (by kernel_rfl) Try.func10
    (ChangeSpec.witness6 (enc := enc) (C := Try.checked) false ⟨#[], #[.agg #[.int .i64 0, .int .i64 0, .float .f32 0], .slice none 0 0], []⟩ 8 (by kernel_rfl) (by kernel_rfl) (by kernel_rfl) (by kernel_rfl)) ?_
  intro W base args ds gs before hval0 hW hcnd _ _
  have hval : ∀ (j : Nat) t v, Try.f10.params[j]? = some t → args[j]? = some v → Value.okWide Try.prog W .any base t v := hval0
  have hW' := hW
  obtain ⟨p, q, hA0, hV, rfl, hfz, hnd⟩ := hW
  have hA : DataW.TrodAll enc Try.prog W 0 (fun _ => true) true Try.f10.params.toList args.toList ds p := hA0
  rw [Try.params10] at hA hval
  obtain ⟨v0, vs0, d0, ds0, p0, q0, hargs, rfl, rfl, h0, r0⟩ := trodAll_cons hA
  obtain ⟨v1, vs1, d1, ds1, p1, q1, rfl, rfl, rfl, h1, r1⟩ := trodAll_cons r0
  obtain ⟨rfl, rfl, rfl⟩ := trodAll_nil r1
  obtain rfl : args = #[v0, v1] := by cases args; simp_all
  obtain ⟨rfl, rfl⟩ := trodVars_none hV
  have lt0 : ∀ x ∈ p0, x.block < W.heap.size := by obtain ⟨m, hm⟩ := h0; exact DataW.trod_lt m _ _ _ hm
  obtain ⟨x0, z0, y0⟩ := imp_arg (n := 9) (by kernel_rfl) (hval 0 48 v0 rfl rfl) h0
  obtain ⟨a0_0, a0_1, a0_2, f0_0, f0_1, f0_2, rfl⟩ := has48 y0
  have lt1 : ∀ x ∈ p1, x.block < W.heap.size := by obtain ⟨m, hm⟩ := h1; exact DataW.trod_lt m _ _ _ hm
  obtain ⟨x1, z1, y1⟩ := imp_arg (n := 9) (by kernel_rfl) (hval 1 69 v1 rfl rfl) h1
  obtain ⟨a1_0, f1_0, f1_1, rfl⟩ := has69 y1
  clear hA0 hval0
  refine (law_calls (vs := [.agg [.int .i64 a0_0, .int .i64 a0_1, .flt .f32 a0_2], .sl (List.map en1 a1_0)]) (s10 _ _ (law_PackPoses a0_0 a0_1 a0_2 f0_0 f0_1 f0_2 a1_0 f1_0 f1_1)) Try.func10 rfl rfl rfl (fun i c d e1 e2 => ?_)).mono fun e W' ⟨he, bel⟩ => ?_
  · match i with
    | 0 => cases e1; cases e2; exact z0
    | 1 => cases e1; cases e2; exact z1
    | i + 2 => simp at e1
  · subst he
    exact ⟨_, rfl, _, _, _, [], _, [], hW', trodAll_mk1 (shut_bool Try.underlying4 _), (trodAll_cons_mk (Below.trod laidOut (by kernel_rfl) (of_decide_eq_true (by kernel_rfl)) h0 bel lt0) (trodAll_cons_mk (Below.trod laidOut (by kernel_rfl) (of_decide_eq_true (by kernel_rfl)) h1 bel lt1) trodAll_mk0)), rfl, bel.frame _, fun h => by cases h⟩
theorem over : Rows.fnExactPackPosesRow.holds Try.pinned (OpenSpec.ofChange Rows.fnExactPackPosesSpec) :=
  OpenClaim.holds_of_wide 10 Try.f10 rfl rfl rfl rfl rfl rfl rfl ⟨rfl, rfl, rfl, rfl, rfl⟩ rfl rfl rfl rfl rfl (by kernel_rfl) Try.func10 (by kernel_rfl)
    (of_decide_eq_true (by kernel_rfl)) (by unfold Func.isWrapper; first | (rw [if_pos (by decide +kernel)]; kernel_rfl) | (rw [if_neg (by decide +kernel)]; exact ⟨rfl, rfl⟩))
    (fun os started H enc _ => lifted os started H enc)
end Go.Proofs.Ytlpbpdjledpfbaa.fnExactPackPoses
namespace Go.Proofs.Ytlpbpdjledpfbaa
/-- The row, under a short name, for the claim. -/
theorem fnExactPackPoses_holds : Rows.FnExactPackPosesSaid := fnExactPackPoses.over
#print axioms fnExactPackPoses_holds
end Go.Proofs.Ytlpbpdjledpfbaa
