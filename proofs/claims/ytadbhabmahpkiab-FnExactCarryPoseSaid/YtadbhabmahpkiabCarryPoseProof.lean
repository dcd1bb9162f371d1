/- The program's CarryPose returns what the reference returns, for all arguments. No conditions. -/
import Derived.Test.YtadbhabmahpkiabCarryPoseX
import Derived.Test.YtadbhabmahpkiabRows
import Derived.WalkKit
import Derived.ProofKit
import Derived.OpenShut
import Derived.ChangeOld
import Derived.Below
import Derived.SizedLaws
namespace Go.Proofs.Ytadbhabmahpkiab.fnExactCarryPose
open Go.ChangeShapes Go.WideShapes Go.ChangeAt Go.RowKit Go.Ab
set_option linter.all false
theorem own : ownKnob Try.prog.godebug = none := by kernel_rfl
theorem laidOut : laidOutB Try.prog = true := by kernel_rfl
set_option maxRecDepth 100000 in
theorem has27 {x : AV} (h : HasV Try.prog 9 27 x) : ∃ a0 a1 a2 a3, (Canon .f32 a0) ∧ (Canon .f32 a1) ∧ (Canon .f32 a2) ∧ (a3.length ≤ maxLen) ∧ (∀ q ∈ a3, Canon .f32 q.1 ∧ Canon .f32 q.2.1 ∧ Canon .f32 q.2.2.1 ∧ Canon .f32 q.2.2.2) ∧ x = .agg [.flt .f32 a0, .flt .f32 a1, .flt .f32 a2, .sl (List.map en0 a3)] := by
  obtain ⟨cs, h, rfl⟩ := h
  simp only [HasC, wrapT, Try.underlying27, Try.underlying24, Try.underlying22, Try.underlying25, Try.underlying105, List.map, HasF] at h ⊢
  obtain ⟨_, _, rfl, ⟨_, _, rfl, ⟨_, a0, rfl, ha0⟩, _, _, rfl, ⟨_, a1, rfl, ha1⟩, _, _, rfl, ⟨_, a2, rfl, ha2⟩, rfl⟩, _, _, rfl, ⟨y3, rfl, hl3, he3⟩, rfl⟩ := h
  obtain ⟨a3, rfl, hf3⟩ := list_enc (e := en0) (F := fun q => Canon .f32 q.1 ∧ Canon .f32 q.2.1 ∧ Canon .f32 q.2.2.1 ∧ Canon .f32 q.2.2.2) (fun y hy => by
    obtain ⟨cs, hc, rfl⟩ := hy
    (try simp only [HasC, wrapT, Try.underlying105, Try.underlying22, List.map, HasF] at hc ⊢)
    obtain ⟨_, _, rfl, ⟨_, a104, rfl, ha104⟩, _, _, rfl, ⟨_, a105, rfl, ha105⟩, _, _, rfl, ⟨_, a106, rfl, ha106⟩, _, _, rfl, ⟨_, a107, rfl, ha107⟩, rfl⟩ := hc
    exact ⟨(a104, a105, a106, a107), rfl, ha104.canon, ha105.canon, ha106.canon, ha107.canon⟩) he3
  exact ⟨a0, a1, a2, a3, ha0.canon, ha1.canon, ha2.canon, by simpa using hl3, hf3, rfl⟩
set_option maxRecDepth 100000 in
theorem has28 {x : AV} (h : HasV Try.prog 9 28 x) : ∃ a0, (a0.length ≤ maxLen) ∧ (∀ q ∈ a0, (Lit.int .i64 q).wf = true) ∧ x = .sl (List.map (AV.int .i64) a0) := by
  obtain ⟨cs, h, rfl⟩ := h
  simp only [HasC, wrapT, Try.underlying28, Try.underlying2, List.map, HasF] at h ⊢
  obtain ⟨y0, rfl, hl0, he0⟩ := h
  obtain ⟨a0, rfl, hf0⟩ := list_enc (e := (AV.int .i64)) (F := fun q => (Lit.int .i64 q).wf = true) (fun y hy => by
    obtain ⟨cs, hc, rfl⟩ := hy
    (try simp only [HasC, wrapT, Try.underlying2, List.map, HasF] at hc ⊢)
    obtain ⟨a101, rfl, ha101⟩ := hc
    exact ⟨a101, rfl, ha101⟩) he0
  exact ⟨a0, by simpa using hl0, hf0, rfl⟩
set_option maxRecDepth 100000 in
theorem has22 {x : AV} (h : HasV Try.prog 9 22 x) : ∃ a0, (Canon .f32 a0) ∧ x = .flt .f32 a0 := by
  obtain ⟨cs, h, rfl⟩ := h
  simp only [HasC, wrapT, Try.underlying22, List.map, HasF] at h ⊢
  obtain ⟨_, a0, rfl, ha0⟩ := h
  exact ⟨a0, ha0.canon, rfl⟩
set_option maxRecDepth 100000 in
theorem lifted (os : Os) (started : os.Started) (H : Type) (enc : TypeId × Value → H) :
    ReturnsInHanded {} Try.checked os 3 .any (Rows.fnExactCarryPoseSpec.pre6 enc Try.prog Try.f3 Rows.fnExactCarryPoseRow.domain false) (Rows.fnExactCarryPoseSpec.post enc Try.prog Try.f3 false true false false) := by
  refine returnsInHanded_of_change_sized (C := Try.checked) own started (by kernel_rfl) Try.func3
    (ChangeSpec.witness6 (enc := enc) (C := Try.checked) false ⟨#[], #[.agg #[.float .f32 0, .float .f32 0, .float .f32 0, .slice none 0 0], .slice none 0 0, .float .f32 0], []⟩ 8 (by kernel_rfl) (by kernel_rfl) (by kernel_rfl) (by kernel_rfl)) ?_
  intro W base args ds gs before hval0 hW hcnd _ _
  have hval : ∀ (j : Nat) t v, Try.f3.params[j]? = some t → args[j]? = some v → Value.okWide Try.prog W .any base t v := hval0
  have hW' := hW
  obtain ⟨p, q, hA0, hV, rfl, hfz, hnd⟩ := hW
  have hA : DataW.TrodAll enc Try.prog W 0 (fun _ => true) true Try.f3.params.toList args.toList ds p := hA0
  rw [Try.params3] at hA hval
  obtain ⟨v0, vs0, d0, ds0, p0, q0, hargs, rfl, rfl, h0, r0⟩ := trodAll_cons hA
  obtain ⟨v1, vs1, d1, ds1, p1, q1, rfl, rfl, rfl, h1, r1⟩ := trodAll_cons r0
  obtain ⟨v2, vs2, d2, ds2, p2, q2, rfl, rfl, rfl, h2, r2⟩ := trodAll_cons r1
  obtain ⟨rfl, rfl, rfl⟩ := trodAll_nil r2
  obtain rfl : args = #[v0, v1, v2] := by cases args; simp_all
  obtain ⟨rfl, rfl⟩ := trodVars_none hV
  have lt0 : ∀ x ∈ p0, x.block < W.heap.size := by obtain ⟨m, hm⟩ := h0; exact DataW.trod_lt m _ _ _ hm
  obtain ⟨x0, z0, y0⟩ := imp_arg (n := 9) (by kernel_rfl) (hval 0 27 v0 rfl rfl) h0
  obtain ⟨a0_0, a0_1, a0_2, a0_3, f0_0, f0_1, f0_2, f0_3, f0_4, rfl⟩ := has27 y0
  have lt1 : ∀ x ∈ p1, x.block < W.heap.size := by obtain ⟨m, hm⟩ := h1; exact DataW.trod_lt m _ _ _ hm
  obtain ⟨x1, z1, y1⟩ := imp_arg (n := 9) (by kernel_rfl) (hval 1 28 v1 rfl rfl) h1
  obtain ⟨a1_0, f1_0, f1_1, rfl⟩ := has28 y1
  have lt2 : ∀ x ∈ p2, x.block < W.heap.size := by obtain ⟨m, hm⟩ := h2; exact DataW.trod_lt m _ _ _ hm
  obtain ⟨x2, z2, y2⟩ := imp_arg (n := 9) (by kernel_rfl) (hval 2 22 v2 rfl rfl) h2
  obtain ⟨a2_0, f2_0, rfl⟩ := has22 y2
  clear hA0 hval0
  refine (law_calls (vs := [.agg [.flt .f32 a0_0, .flt .f32 a0_1, .flt .f32 a0_2, .sl (List.map en0 a0_3)], .sl (List.map (AV.int .i64) a1_0), .flt .f32 a2_0]) (s3 _ _ (law_CarryPose a0_0 a0_1 a0_2 a0_3 f0_0 f0_1 f0_2 f0_3 f0_4 a1_0 f1_0 f1_1 a2_0 f2_0)) Try.func3 rfl rfl rfl (fun i c d e1 e2 => ?_)).mono fun e W' ⟨he, bel⟩ => ?_
  · match i with
    | 0 => cases e1; cases e2; exact z0
    | 1 => cases e1; cases e2; exact z1
    | 2 => cases e1; cases e2; exact z2
    | i + 3 => simp at e1
  · subst he
    exact ⟨_, rfl, _, _, _, [], _, [], hW', trodAll_mk1 (shut_bool Try.underlying4 _), (trodAll_cons_mk (Below.trod laidOut (by kernel_rfl) (of_decide_eq_true (by kernel_rfl)) h0 bel lt0) (trodAll_cons_mk (Below.trod laidOut (by kernel_rfl) (of_decide_eq_true (by kernel_rfl)) h1 bel lt1) (trodAll_cons_mk (Below.trod laidOut (by kernel_rfl) (of_decide_eq_true (by kernel_rfl)) h2 bel lt2) trodAll_mk0))), rfl, bel.frame _, fun h => by cases h⟩
theorem over : Rows.fnExactCarryPoseRow.holds Try.pinned (OpenSpec.ofChange Rows.fnExactCarryPoseSpec) :=
  OpenClaim.holds_of_wide 3 Try.f3 rfl rfl rfl rfl rfl rfl rfl ⟨rfl, rfl, rfl, rfl, rfl⟩ rfl rfl rfl rfl rfl (by kernel_rfl) Try.func3 (by kernel_rfl)
    (of_decide_eq_true (by kernel_rfl)) (by unfold Func.isWrapper; first | (rw [if_pos (by decide +kernel)]; kernel_rfl) | (rw [if_neg (by decide +kernel)]; exact ⟨rfl, rfl⟩))
    (fun os started H enc _ => lifted os started H enc)
end Go.Proofs.Ytadbhabmahpkiab.fnExactCarryPose
namespace Go.Proofs.Ytadbhabmahpkiab
/-- The row, under a short name, for the claim. -/
theorem fnExactCarryPose_holds : Rows.FnExactCarryPoseSaid := fnExactCarryPose.over
#print axioms fnExactCarryPose_holds
end Go.Proofs.Ytadbhabmahpkiab
