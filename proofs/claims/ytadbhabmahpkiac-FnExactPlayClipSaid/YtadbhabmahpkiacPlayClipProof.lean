/- The program's PlayClip returns what the reference returns, for all arguments. No conditions. -/
import Derived.Test.YtadbhabmahpkiacPlayClipX
import Derived.Test.YtadbhabmahpkiacRows
import Derived.WalkKit
import Derived.ProofKit
import Derived.OpenShut
import Derived.ChangeOld
import Derived.Below
import Derived.SizedLaws
namespace Go.Proofs.Ytadbhabmahpkiac.fnExactPlayClip
open Go.ChangeShapes Go.WideShapes Go.ChangeAt Go.RowKit Go.Ab
set_option linter.all false
theorem own : ownKnob Try.prog.godebug = none := by kernel_rfl
theorem laidOut : laidOutB Try.prog = true := by kernel_rfl
set_option maxRecDepth 100000 in
theorem has25 {x : AV} (h : HasV Try.prog 9 25 x) : ∃ a0 a1 a2 a3, ((Lit.int .i64 a0).wf = true) ∧ ((Lit.int .i64 a1).wf = true) ∧ (a2.length ≤ maxLen) ∧ (∀ q ∈ a2, List.length q ≤ maxLen ∧ (∀ qq ∈ q, (Lit.int .i64 qq.1).wf = true ∧ Canon .f32 qq.2.1 ∧ Canon .f32 qq.2.2.1 ∧ Canon .f32 qq.2.2.2.1 ∧ Canon .f32 qq.2.2.2.2)) ∧ (a3.length ≤ maxLen) ∧ (∀ q ∈ a3, (Lit.int .i64 q.1).wf = true ∧ Canon .f32 q.2.1 ∧ Canon .f32 q.2.2.1 ∧ Canon .f32 q.2.2.2) ∧ x = .agg [.int .i64 a0, .int .i64 a1, .sl (List.map en1 a2), .sl (List.map en2 a3)] := by
  obtain ⟨cs, h, rfl⟩ := h
  simp only [HasC, wrapT, Try.underlying25, Try.underlying2, Try.underlying22, Try.underlying86, Try.underlying130, Try.underlying128, Try.underlying27, Try.underlying23, Try.underlying96, Try.underlying94, List.map, HasF] at h ⊢
  obtain ⟨_, _, rfl, ⟨a0, rfl, ha0⟩, _, _, rfl, ⟨a1, rfl, ha1⟩, _, _, rfl, ⟨y2, rfl, hl2, he2⟩, _, _, rfl, ⟨y3, rfl, hl3, he3⟩, rfl⟩ := h
  obtain ⟨a2, rfl, hf2⟩ := list_enc (e := en1) (F := fun q => List.length q ≤ maxLen ∧ (∀ qq ∈ q, (Lit.int .i64 qq.1).wf = true ∧ Canon .f32 qq.2.1 ∧ Canon .f32 qq.2.2.1 ∧ Canon .f32 qq.2.2.2.1 ∧ Canon .f32 qq.2.2.2.2)) (fun y hy => by
    obtain ⟨cs, hc, rfl⟩ := hy
    (try simp only [HasC, wrapT, Try.underlying86, Try.underlying130, Try.underlying2, Try.underlying128, Try.underlying27, List.map, HasF] at hc ⊢)
    obtain ⟨y103, rfl, hl103, he103⟩ := hc
    obtain ⟨a103, rfl, hf103⟩ := list_enc (e := en0) (F := fun q => (Lit.int .i64 q.1).wf = true ∧ Canon .f32 q.2.1 ∧ Canon .f32 q.2.2.1 ∧ Canon .f32 q.2.2.2.1 ∧ Canon .f32 q.2.2.2.2) (fun y hy => by
      obtain ⟨cs, hc, rfl⟩ := hy
      (try simp only [HasC, wrapT, Try.underlying130, Try.underlying2, Try.underlying128, Try.underlying27, List.map, HasF] at hc ⊢)
      obtain ⟨_, _, rfl, ⟨a204, rfl, ha204⟩, _, _, rfl, ⟨_, _, rfl, ⟨_, a205, rfl, ha205⟩, _, _, rfl, ⟨_, a206, rfl, ha206⟩, _, _, rfl, ⟨_, a207, rfl, ha207⟩, _, _, rfl, ⟨_, a208, rfl, ha208⟩, rfl⟩, rfl⟩ := hc
      exact ⟨(a204, a205, a206, a207, a208), rfl, ha204, ha205.canon, ha206.canon, ha207.canon, ha208.canon⟩) he103
    exact ⟨a103, rfl, by simpa using hl103, hf103⟩) he2
  obtain ⟨a3, rfl, hf3⟩ := list_enc (e := en2) (F := fun q => (Lit.int .i64 q.1).wf = true ∧ Canon .f32 q.2.1 ∧ Canon .f32 q.2.2.1 ∧ Canon .f32 q.2.2.2) (fun y hy => by
    obtain ⟨cs, hc, rfl⟩ := hy
    (try simp only [HasC, wrapT, Try.underlying96, Try.underlying2, Try.underlying94, Try.underlying27, List.map, HasF] at hc ⊢)
    obtain ⟨_, _, rfl, ⟨a104, rfl, ha104⟩, _, _, rfl, ⟨_, _, rfl, ⟨_, a105, rfl, ha105⟩, _, _, rfl, ⟨_, a106, rfl, ha106⟩, _, _, rfl, ⟨_, a107, rfl, ha107⟩, rfl⟩, rfl⟩ := hc
    exact ⟨(a104, a105, a106, a107), rfl, ha104, ha105.canon, ha106.canon, ha107.canon⟩) he3
  exact ⟨a0, a1, a2, a3, ha0, ha1, by simpa using hl2, hf2, by simpa using hl3, hf3, rfl⟩
set_option maxRecDepth 100000 in
theorem has2 {x : AV} (h : HasV Try.prog 9 2 x) : ∃ a0, ((Lit.int .i64 a0).wf = true) ∧ x = .int .i64 a0 := by
  obtain ⟨cs, h, rfl⟩ := h
  simp only [HasC, wrapT, Try.underlying2, List.map, HasF] at h ⊢
  obtain ⟨a0, rfl, ha0⟩ := h
  exact ⟨a0, ha0, rfl⟩
set_option maxRecDepth 100000 in
theorem lifted (os : Os) (started : os.Started) (H : Type) (enc : TypeId × Value → H) :
    ReturnsInHanded {} Try.checked os 4 .any (Rows.fnExactPlayClipSpec.pre6 enc Try.prog Try.f4 Rows.fnExactPlayClipRow.domain false) (Rows.fnExactPlayClipSpec.post enc Try.prog Try.f4 false true false false) := by
  refine returnsInHanded_of_change_sized (C := Try.checked) own started (by kernel_rfl) Try.func4
    (ChangeSpec.witness6 (enc := enc) (C := Try.checked) false ⟨#[], #[.agg #[.int .i64 0, .int .i64 0, .slice none 0 0, .slice none 0 0], .int .i64 0, .int .i64 0, .int .i64 0], []⟩ 8 (by kernel_rfl) (by kernel_rfl) (by kernel_rfl) (by kernel_rfl)) ?_
  intro W base args ds gs before hval0 hW hcnd _ _
  have hval : ∀ (j : Nat) t v, Try.f4.params[j]? = some t → args[j]? = some v → Value.okWide Try.prog W .any base t v := hval0
  have hW' := hW
  obtain ⟨p, q, hA0, hV, rfl, hfz, hnd⟩ := hW
  have hA : DataW.TrodAll enc Try.prog W 0 (fun _ => true) true Try.f4.params.toList args.toList ds p := hA0
  rw [Try.params4] at hA hval
  obtain ⟨v0, vs0, d0, ds0, p0, q0, hargs, rfl, rfl, h0, r0⟩ := trodAll_cons hA
  obtain ⟨v1, vs1, d1, ds1, p1, q1, rfl, rfl, rfl, h1, r1⟩ := trodAll_cons r0
  obtain ⟨v2, vs2, d2, ds2, p2, q2, rfl, rfl, rfl, h2, r2⟩ := trodAll_cons r1
  obtain ⟨v3, vs3, d3, ds3, p3, q3, rfl, rfl, rfl, h3, r3⟩ := trodAll_cons r2
  obtain ⟨rfl, rfl, rfl⟩ := trodAll_nil r3
  obtain rfl : args = #[v0, v1, v2, v3] := by cases args; simp_all
  obtain ⟨rfl, rfl⟩ := trodVars_none hV
  have lt0 : ∀ x ∈ p0, x.block < W.heap.size := by obtain ⟨m, hm⟩ := h0; exact DataW.trod_lt m _ _ _ hm
  obtain ⟨x0, z0, y0⟩ := imp_arg (n := 9) (by kernel_rfl) (hval 0 25 v0 rfl rfl) h0
  obtain ⟨a0_0, a0_1, a0_2, a0_3, f0_0, f0_1, f0_2, f0_3, f0_4, f0_5, rfl⟩ := has25 y0
  have lt1 : ∀ x ∈ p1, x.block < W.heap.size := by obtain ⟨m, hm⟩ := h1; exact DataW.trod_lt m _ _ _ hm
  obtain ⟨x1, z1, y1⟩ := imp_arg (n := 9) (by kernel_rfl) (hval 1 2 v1 rfl rfl) h1
  obtain ⟨a1_0, f1_0, rfl⟩ := has2 y1
  have lt2 : ∀ x ∈ p2, x.block < W.heap.size := by obtain ⟨m, hm⟩ := h2; exact DataW.trod_lt m _ _ _ hm
  obtain ⟨x2, z2, y2⟩ := imp_arg (n := 9) (by kernel_rfl) (hval 2 2 v2 rfl rfl) h2
  obtain ⟨a2_0, f2_0, rfl⟩ := has2 y2
  have lt3 : ∀ x ∈ p3, x.block < W.heap.size := by obtain ⟨m, hm⟩ := h3; exact DataW.trod_lt m _ _ _ hm
  obtain ⟨x3, z3, y3⟩ := imp_arg (n := 9) (by kernel_rfl) (hval 3 2 v3 rfl rfl) h3
  obtain ⟨a3_0, f3_0, rfl⟩ := has2 y3
  clear hA0 hval0
  refine (law_calls (vs := [.agg [.int .i64 a0_0, .int .i64 a0_1, .sl (List.map en1 a0_2), .sl (List.map en2 a0_3)], .int .i64 a1_0, .int .i64 a2_0, .int .i64 a3_0]) (s4 _ _ (law_PlayClip a0_0 a0_1 a0_2 a0_3 f0_0 f0_1 f0_2 f0_3 f0_4 f0_5 a1_0 f1_0 a2_0 f2_0 a3_0 f3_0)) Try.func4 rfl rfl rfl (fun i c d e1 e2 => ?_)).mono fun e W' ⟨he, bel⟩ => ?_
  · match i with
    | 0 => cases e1; cases e2; exact z0
    | 1 => cases e1; cases e2; exact z1
    | 2 => cases e1; cases e2; exact z2
    | 3 => cases e1; cases e2; exact z3
    | i + 4 => simp at e1
  · subst he
    exact ⟨_, rfl, _, _, _, [], _, [], hW', trodAll_mk1 (shut_bool Try.underlying4 _), (trodAll_cons_mk (Below.trod laidOut (by kernel_rfl) (of_decide_eq_true (by kernel_rfl)) h0 bel lt0) (trodAll_cons_mk (Below.trod laidOut (by kernel_rfl) (of_decide_eq_true (by kernel_rfl)) h1 bel lt1) (trodAll_cons_mk (Below.trod laidOut (by kernel_rfl) (of_decide_eq_true (by kernel_rfl)) h2 bel lt2) (trodAll_cons_mk (Below.trod laidOut (by kernel_rfl) (of_decide_eq_true (by kernel_rfl)) h3 bel lt3) trodAll_mk0)))), rfl, bel.frame _, fun h => by cases h⟩
theorem over : Rows.fnExactPlayClipRow.holds Try.pinned (OpenSpec.ofChange Rows.fnExactPlayClipSpec) :=
  OpenClaim.holds_of_wide 4 Try.f4 rfl rfl rfl rfl rfl rfl rfl ⟨rfl, rfl, rfl, rfl, rfl⟩ rfl rfl rfl rfl rfl (by kernel_rfl) Try.func4 (by kernel_rfl)
    (of_decide_eq_true (by kernel_rfl)) (by unfold Func.isWrapper; first | (rw [if_pos (by decide +kernel)]; kernel_rfl) | (rw [if_neg (by decide +kernel)]; exact ⟨rfl, rfl⟩))
    (fun os started H enc _ => lifted os started H enc)
end Go.Proofs.Ytadbhabmahpkiac.fnExactPlayClip
namespace Go.Proofs.Ytadbhabmahpkiac
/-- The row, under a short name, for the claim. -/
theorem fnExactPlayClip_holds : Rows.FnExactPlayClipSaid := fnExactPlayClip.over
#print axioms fnExactPlayClip_holds
end Go.Proofs.Ytadbhabmahpkiac
