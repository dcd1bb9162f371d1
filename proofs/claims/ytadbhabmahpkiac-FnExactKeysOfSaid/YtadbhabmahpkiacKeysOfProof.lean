/- The program's KeysOf returns what the reference returns, for all arguments. No conditions. -/
import Derived.Test.YtadbhabmahpkiacKeysOfX
import Derived.Test.YtadbhabmahpkiacRows
import Derived.WalkKit
import Derived.ProofKit
import Derived.OpenShut
import Derived.ChangeOld
import Derived.Below
import Derived.SizedLaws
namespace Go.Proofs.Ytadbhabmahpkiac.fnExactKeysOf
open Go.ChangeShapes Go.WideShapes Go.ChangeAt Go.RowKit Go.Ab
set_option linter.all false
theorem own : ownKnob Try.prog.godebug = none := by kernel_rfl
theorem laidOut : laidOutB Try.prog = true := by kernel_rfl
set_option maxRecDepth 100000 in
theorem has25 {x : AV} (h : HasV Try.prog 9 25 x) : ∃ a0 a1 a2 a3, ((Lit.int .i64 a0).wf = true) ∧ ((Lit.int .i64 a1).wf = true) ∧ (a2.length ≤ maxLen) ∧ (∀ q ∈ a2, List.length q ≤ maxLen ∧ (∀ qq ∈ q, (Lit.int .i64 qq.1).wf = true ∧ Canon .f32 qq.2.1 ∧ Canon .f32 qq.2.2.1 ∧ Canon .f32 qq.2.2.2.1 ∧ Canon .f32 qq.2.2.2.2)) ∧ (a3.length ≤ maxLen) ∧ (∀ q ∈ a3, (Lit.int .i64 q.1).wf = true ∧ Canon .f32 q.2.1 ∧ Canon .f32 q.2.2.1 ∧ Canon .f32 q.2.2.2) ∧ x = .agg [.int .i64 a0, .int .i64 a1, .sl (List.map en1 a2), .sl (List.map en2 a3)] := by
  obtain ⟨cs, h, rfl⟩ := h
  simp only [HasC, wrapT, Try.underlying25, Try.underlying2, Try.underlying22, Try.underlying86, Try.underlying130, Try.underlying128, Try.underlying27, Try.underlying23, Try.underlying96, Try.underlying94, List.map, HasF] at h ⊢
  obtain ⟨_, _, rfl, ⟨a0, rfl, ha0⟩, _, _, rfl, ⟨a1, rfl, ha1⟩, _, _, rfl, ⟨y2, rfl, hl2, he2⟩, _, _, rfl, ⟨y3, rfl, hl3, he3⟩, rfl⟩ := h
  obtain ⟨a2, rfl, hf2⟩ := list_enc (e := en1) (F := fun q => List.length q ≤ maxLen ∧ (∀ qq ∈ q, (Lit.int .i64 qq.1).wf = true ∧ Canon .f32 qq.2.1 ∧ Canon .f32 qq.2.2.1 ∧ Canon .f32 qq.2.2.2.1 ∧ Canon .f32 qq.2.2.2.2)) (fun y hy => by
    obtain ⟨cs, hc, rfl⟩ := hy
    (try simp only [HasC, wrapT, Try.underlying86, Try.underlying130, Try.underlying2, Try.underlying128, Try.underlying27, List.map, HasF] at hc ⊢)
    obtain ⟨y103, rfl, hl103, he103⟩ := hc
    obtain ⟨a103, rfl, hf103⟩ := list_enc (e := en0) (F := fun q => (Lit.int .i64 q.1).wf = true ∧ Canon .f32 q.2.1 ∧ Canon .f32 q.2.2.1 ∧ Canon .f32 q.2.2.2.1 ∧ Canon .f32 q.2.2.2.2) (fun y hy => by
      obtain ⟨cs, hc, rfl⟩ := hy
      (try simp only [HasC, wrapT, Try.underlying130, Try.underlying2, Try.underlying128, Try.underlying27, List.map, HasF] at hc ⊢)
      obtain ⟨_, _, rfl, ⟨a204, rfl, ha204⟩, _, _, rfl, ⟨_, _, rfl, ⟨_, a205, rfl, ha205⟩, _, _, rfl, ⟨_, a206, rfl, ha206⟩, _, _, rfl, ⟨_, a207, rfl, ha207⟩, _, _, rfl, ⟨_, a208, rfl, ha208⟩, rfl⟩, rfl⟩ := hc
      exact ⟨(a204, a205, a206, a207, a208), rfl, ha204, ha205.canon, ha206.canon, ha207.canon, ha208.canon⟩) he103
    exact ⟨a103, rfl, by simpa using hl103, hf103⟩) he2
  obtain ⟨a3, rfl, hf3⟩ := list_enc (e := en2) (F := fun q => (Lit.int .i64 q.1).wf = true ∧ Canon .f32 q.2.1 ∧ Canon .f32 q.2.2.1 ∧ Canon .f32 q.2.2.2) (fun y hy => by
    obtain ⟨cs, hc, rfl⟩ := hy
    (try simp only [HasC, wrapT, Try.underlying96, Try.underlying2, Try.underlying94, Try.underlying27, List.map, HasF] at hc ⊢)
    obtain ⟨_, _, rfl, ⟨a104, rfl, ha104⟩, _, _, rfl, ⟨_, _, rfl, ⟨_, a105, rfl, ha105⟩, _, _, rfl, ⟨_, a106, rfl, ha106⟩, _, _, rfl, ⟨_, a107, rfl, ha107⟩, rfl⟩, rfl⟩ := hc
    exact ⟨(a104, a105, a106, a107), rfl, ha104, ha105.canon, ha106.canon, ha107.canon⟩) he3
  exact ⟨a0, a1, a2, a3, ha0, ha1, by simpa using hl2, hf2, by simpa using hl3, hf3, rfl⟩
set_option maxRecDepth 100000 in
theorem lifted (os : Os) (started : os.Started) (H : Type) (enc : TypeId × Value → H) :
    ReturnsInHanded {} Try.checked os 5 .any (Rows.fnExactKeysOfSpec.pre6 enc Try.prog Try.f5 Rows.fnExactKeysOfRow.domain false) (Rows.fnExactKeysOfSpec.post enc Try.prog Try.f5 false true false false) := by
  refine returnsInHanded_of_change_sized (C := Try.checked) own started (by kernel_rfl) Try.func5
    (ChangeSpec.witness6 (enc := enc) (C := Try.checked) false ⟨#[], #[.agg #[.int .i64 0, .int .i64 0, .slice none 0 0, .slice none 0 0]], []⟩ 8 (by kernel_rfl) (by kernel_rfl) (by kernel_rfl) (by kernel_rfl)) ?_
  intro W base args ds gs before hval0 hW hcnd _ _
  have hval : ∀ (j : Nat) t v, Try.f5.params[j]? = some t → args[j]? = some v → Value.okWide Try.prog W .any base t v := hval0
  have hW' := hW
  obtain ⟨p, q, hA0, hV, rfl, hfz, hnd⟩ := hW
  have hA : DataW.TrodAll enc Try.prog W 0 (fun _ => true) true Try.f5.params.toList args.toList ds p := hA0
  rw [Try.params5] at hA hval
  obtain ⟨v0, vs0, d0, ds0, p0, q0, hargs, rfl, rfl, h0, r0⟩ := trodAll_cons hA
  obtain ⟨rfl, rfl, rfl⟩ := trodAll_nil r0
  obtain rfl : args = #[v0] := by cases args; simp_all
  obtain ⟨rfl, rfl⟩ := trodVars_none hV
  have lt0 : ∀ x ∈ p0, x.block < W.heap.size := by obtain ⟨m, hm⟩ := h0; exact DataW.trod_lt m _ _ _ hm
  obtain ⟨x0, z0, y0⟩ := imp_arg (n := 9) (by kernel_rfl) (hval 0 25 v0 rfl rfl) h0
  obtain ⟨a0_0, a0_1, a0_2, a0_3, f0_0, f0_1, f0_2, f0_3, f0_4, f0_5, rfl⟩ := has25 y0
  clear hA0 hval0
  refine (law_calls (vs := [.agg [.int .i64 a0_0, .int .i64 a0_1, .sl (List.map en1 a0_2), .sl (List.map en2 a0_3)]]) (s5 _ _ (law_KeysOf a0_0 a0_1 a0_2 a0_3 f0_0 f0_1 f0_2 f0_3 f0_4 f0_5)) Try.func5 rfl rfl rfl (fun i c d e1 e2 => ?_)).mono fun e W' ⟨he, bel⟩ => ?_
  · match i with
    | 0 => cases e1; cases e2; exact z0
    | i + 1 => simp at e1
  · subst he
    exact ⟨_, rfl, _, _, _, [], _, [], hW', trodAll_mk1 (shut_bool Try.underlying4 _), (trodAll_cons_mk (Below.trod laidOut (by kernel_rfl) (of_decide_eq_true (by kernel_rfl)) h0 bel lt0) trodAll_mk0), rfl, bel.frame _, fun h => by cases h⟩
theorem over : Rows.fnExactKeysOfRow.holds Try.pinned (OpenSpec.ofChange Rows.fnExactKeysOfSpec) :=
  OpenClaim.holds_of_wide 5 Try.f5 rfl rfl rfl rfl rfl rfl rfl ⟨rfl, rfl, rfl, rfl, rfl⟩ rfl rfl rfl rfl rfl (by kernel_rfl) Try.func5 (by kernel_rfl)
    (of_decide_eq_true (by kernel_rfl)) (by unfold Func.isWrapper; first | (rw [if_pos (by decide +kernel)]; kernel_rfl) | (rw [if_neg (by decide +kernel)]; exact ⟨rfl, rfl⟩))
    (fun os started H enc _ => lifted os started H enc)
end Go.Proofs.Ytadbhabmahpkiac.fnExactKeysOf
namespace Go.Proofs.Ytadbhabmahpkiac
/-- The row, under a short name, for the claim. -/
theorem fnExactKeysOf_holds : Rows.FnExactKeysOfSaid := fnExactKeysOf.over
#print axioms fnExactKeysOf_holds
end Go.Proofs.Ytadbhabmahpkiac
