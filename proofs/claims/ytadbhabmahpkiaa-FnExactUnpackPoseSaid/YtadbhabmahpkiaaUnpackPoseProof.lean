/- The program's UnpackPose returns what the reference returns, for all arguments. No conditions. -/
import Derived.Test.YtadbhabmahpkiaaUnpackPoseX
import Derived.Test.YtadbhabmahpkiaaRows
import Derived.WalkKit
import Derived.ProofKit
import Derived.OpenShut
import Derived.ChangeOld
import Derived.Below
import Derived.SizedLaws
namespace Go.Proofs.Ytadbhabmahpkiaa.fnExactUnpackPose
open Go.ChangeShapes Go.WideShapes Go.ChangeAt Go.RowKit Go.Ab
set_option linter.all false
theorem own : ownKnob Try.prog.godebug = none := by kernel_rfl
theorem laidOut : laidOutB Try.prog = true := by kernel_rfl
set_option maxRecDepth 100000 in
theorem has40 {x : AV} (h : HasV Try.prog 9 40 x) : ∃ a0 a1 a2, ((Lit.int .i64 a0).wf = true) ∧ ((Lit.int .i64 a1).wf = true) ∧ (Canon .f32 a2) ∧ x = .agg [.int .i64 a0, .int .i64 a1, .flt .f32 a2] := by
  obtain ⟨cs, h, rfl⟩ := h
  simp only [HasC, wrapT, Try.underlying40, Try.underlying2, Try.underlying31, List.map, HasF] at h ⊢
  obtain ⟨_, _, rfl, ⟨a0, rfl, ha0⟩, _, _, rfl, ⟨a1, rfl, ha1⟩, _, _, rfl, ⟨_, a2, rfl, ha2⟩, rfl⟩ := h
  exact ⟨a0, a1, a2, ha0, ha1, ha2.canon, rfl⟩
set_option maxRecDepth 100000 in
theorem has2 {x : AV} (h : HasV Try.prog 9 2 x) : ∃ a0, ((Lit.int .i64 a0).wf = true) ∧ x = .int .i64 a0 := by
  obtain ⟨cs, h, rfl⟩ := h
  simp only [HasC, wrapT, Try.underlying2, List.map, HasF] at h ⊢
  obtain ⟨a0, rfl, ha0⟩ := h
  exact ⟨a0, ha0, rfl⟩
set_option maxRecDepth 100000 in
theorem has9 {x : AV} (h : HasV Try.prog 9 9 x) : ∃ a0, (a0.length ≤ maxLen) ∧ x = .str a0 := by
  obtain ⟨cs, h, rfl⟩ := h
  simp only [HasC, wrapT, Try.underlying9, List.map, HasF] at h ⊢
  obtain ⟨a0, rfl, ha0⟩ := h
  exact ⟨a0, ha0, rfl⟩
set_option maxRecDepth 100000 in
theorem lifted (os : Os) (started : os.Started) (H : Type) (enc : TypeId × Value → H) :
    ReturnsInHanded {} Try.checked os 5 .any (Rows.fnExactUnpackPoseSpec.pre6 enc Try.prog Try.f5 Rows.fnExactUnpackPoseRow.domain false) (Rows.fnExactUnpackPoseSpec.post enc Try.prog Try.f5 false true false false) := by
  refine returnsInHanded_of_change_sized (C := Try.checked) own started (by kernel_rfl) Try.func5
    (ChangeSpec.witness6 (enc := enc) (C := Try.checked) false ⟨#[], #[.agg #[.int .i64 0, .int .i64 0, .float .f32 0], .int .i64 0, .string ⟨#[]⟩], []⟩ 8 (by kernel_rfl) (by kernel_rfl) (by kernel_rfl) (by kernel_rfl)) ?_
  intro W base args ds gs before hval0 hW hcnd _ _
  have hval : ∀ (j : Nat) t v, Try.f5.params[j]? = some t → args[j]? = some v → Value.okWide Try.prog W .any base t v := hval0
  have hW' := hW
  obtain ⟨p, q, hA0, hV, rfl, hfz, hnd⟩ := hW
  have hA : DataW.TrodAll enc Try.prog W 0 (fun _ => true) true Try.f5.params.toList args.toList ds p := hA0
  rw [Try.params5] at hA hval
  obtain ⟨v0, vs0, d0, ds0, p0, q0, hargs, rfl, rfl, h0, r0⟩ := trodAll_cons hA
  obtain ⟨v1, vs1, d1, ds1, p1, q1, rfl, rfl, rfl, h1, r1⟩ := trodAll_cons r0
  obtain ⟨v2, vs2, d2, ds2, p2, q2, rfl, rfl, rfl, h2, r2⟩ := trodAll_cons r1
  obtain ⟨rfl, rfl, rfl⟩ := trodAll_nil r2
  obtain rfl : args = #[v0, v1, v2] := by cases args; simp_all
  obtain ⟨rfl, rfl⟩ := trodVars_none hV
  have lt0 : ∀ x ∈ p0, x.block < W.heap.size := by obtain ⟨m, hm⟩ := h0; exact DataW.trod_lt m _ _ _ hm
  obtain ⟨x0, z0, y0⟩ := imp_arg (n := 9) (by kernel_rfl) (hval 0 40 v0 rfl rfl) h0
  obtain ⟨a0_0, a0_1, a0_2, f0_0, f0_1, f0_2, rfl⟩ := has40 y0
  have lt1 : ∀ x ∈ p1, x.block < W.heap.size := by obtain ⟨m, hm⟩ := h1; exact DataW.trod_lt m _ _ _ hm
  obtain ⟨x1, z1, y1⟩ := imp_arg (n := 9) (by kernel_rfl) (hval 1 2 v1 rfl rfl) h1
  obtain ⟨a1_0, f1_0, rfl⟩ := has2 y1
  have lt2 : ∀ x ∈ p2, x.block < W.heap.size := by obtain ⟨m, hm⟩ := h2; exact DataW.trod_lt m _ _ _ hm
  obtain ⟨x2, z2, y2⟩ := imp_arg (n := 9) (by kernel_rfl) (hval 2 9 v2 rfl rfl) h2
  obtain ⟨a2_0, f2_0, rfl⟩ := has9 y2
  clear hA0 hval0
  refine (law_calls (vs := [.agg [.int .i64 a0_0, .int .i64 a0_1, .flt .f32 a0_2], .int .i64 a1_0, .str a2_0]) (s5 _ _ (law_UnpackPose a0_0 a0_1 a0_2 f0_0 f0_1 f0_2 a1_0 f1_0 a2_0 f2_0)) Try.func5 rfl rfl rfl (fun i c d e1 e2 => ?_)).mono fun e W' ⟨he, bel⟩ => ?_
  · match i with
    | 0 => cases e1; cases e2; exact z0
    | 1 => cases e1; cases e2; exact z1
    | 2 => cases e1; cases e2; exact z2
    | i + 3 => simp at e1
  · subst he
    exact ⟨_, rfl, _, _, _, [], _, [], hW', trodAll_mk1 (shut_bool Try.underlying4 _), (trodAll_cons_mk (Below.trod laidOut (by kernel_rfl) (of_decide_eq_true (by kernel_rfl)) h0 bel lt0) (trodAll_cons_mk (Below.trod laidOut (by kernel_rfl) (of_decide_eq_true (by kernel_rfl)) h1 bel lt1) (trodAll_cons_mk (Below.trod laidOut (by kernel_rfl) (of_decide_eq_true (by kernel_rfl)) h2 bel lt2) trodAll_mk0))), rfl, bel.frame _, fun h => by cases h⟩
theorem over : Rows.fnExactUnpackPoseRow.holds Try.pinned (OpenSpec.ofChange Rows.fnExactUnpackPoseSpec) :=
  OpenClaim.holds_of_wide 5 Try.f5 rfl rfl rfl rfl rfl rfl rfl ⟨rfl, rfl, rfl, rfl, rfl⟩ rfl rfl rfl rfl rfl (by kernel_rfl) Try.func5 (by kernel_rfl)
    (of_decide_eq_true (by kernel_rfl)) (by unfold Func.isWrapper; first | (rw [if_pos (by decide +kernel)]; kernel_rfl) | (rw [if_neg (by decide +kernel)]; exact ⟨rfl, rfl⟩))
    (fun os started H enc _ => lifted os started H enc)
end Go.Proofs.Ytadbhabmahpkiaa.fnExactUnpackPose
namespace Go.Proofs.Ytadbhabmahpkiaa
/-- The row, under a short name, for the claim. -/
theorem fnExactUnpackPose_holds : Rows.FnExactUnpackPoseSaid := fnExactUnpackPose.over
#print axioms fnExactUnpackPose_holds
end Go.Proofs.Ytadbhabmahpkiaa
