/-
  No cell of these rows narrows 'for every input' (looked for: loops, veiled, ifaces, maps, wideKeys, modest, calm, conditions, laid).
  DERIVED. THE GIVEN ROWS OF THIS SEAT. 8 by the template 'for every input the law returns true; each argument reads behind the call as it read before'; 0 by the template 'total and deterministic' (their statements: YtlpbpdjledpfbacTotals.lean).
  GIVEN WITH THE SEED: the statements are not yours to turn. If you find one false, say at which input.
  Laid BY PROGRAM, IN A SANDBOX (cutbox-rows.mjs): the forced cells as the released guide's own fill.sh prints them over the translation e4ffab3a50085df9… (all of the seat's roots in one cut). By AI agents, Wed Nov 11 2026. No macro, syntax, notation, axiom, sorry.
-/
import Derived.Test.YtlpbpdjledpfbacChecked
import GoSem.Claim
import GoSem.ClaimJoined
import GoSem.ClaimMapViews
import Derived.JoinedTies
import Derived.KernelRfl
namespace Go.Proofs.Ytlpbpdjledpfbac
/- THE CELL 'sum', in the pinned program and in every row, IS THE sha256 OF THE DUMP (.gsa) THAT YtlpbpdjledpfbacProg.lean LOADS. Nothing in Lean hashes anything: it is a label: what it is worth is what the hold of that sum in a sandbox is worth. -/
noncomputable def Try.pinned : Pinned := { name := "ytlpbpdjledpfbac", sum := "e4ffab3a50085df9e088b18d6ad33d7b6517b7f357a22166c28e787477703a40", checked := Try.checked }
namespace Rows
def none {H : Type} : Left H := { results := [], args := [] }

/-- 'laws.FnExactCarryPose': WHATEVER THE INPUT: true; the input reads as it did. -/
def fnExactCarryPoseSpec : ChangeSpec := { name := "fnExactCarryPose", fn := fun _ => fun
  | [d1, d2, d3] => { results := [.lit (.bool true)], args := [d1, d2, d3] }
  | _ => none }
def fnExactCarryPoseRow : OpenClaim := { program := "ytlpbpdjledpfbac", sum := "e4ffab3a50085df9e088b18d6ad33d7b6517b7f357a22166c28e787477703a40", func := "loop.example/g01180/laws.FnExactCarryPose", spec := "fnExactCarryPose", apart := false }
def FnExactCarryPoseSaid : Prop := fnExactCarryPoseRow.holds Try.pinned (OpenSpec.ofChange fnExactCarryPoseSpec)

/-- ITS FALSE NEIGHBOUR: 'it returns false'. Refute it at one input. -/
def fnExactCarryPoseWrong : ChangeSpec := { name := "fnExactCarryPose", fn := fun _ => fun
  | [d1, d2, d3] => { results := [.lit (.bool false)], args := [d1, d2, d3] }
  | _ => none }
def FnExactCarryPoseWrongFalsely : Prop := fnExactCarryPoseRow.holds Try.pinned (OpenSpec.ofChange fnExactCarryPoseWrong)

/-- 'laws.FnExactRestPose': WHATEVER THE INPUT: true; the input reads as it did. -/
def fnExactRestPoseSpec : ChangeSpec := { name := "fnExactRestPose", fn := fun _ => fun
  | [d] => { results := [.lit (.bool true)], args := [d] }
  | _ => none }
def fnExactRestPoseRow : OpenClaim := { program := "ytlpbpdjledpfbac", sum := "e4ffab3a50085df9e088b18d6ad33d7b6517b7f357a22166c28e787477703a40", func := "loop.example/g01180/laws.FnExactRestPose", spec := "fnExactRestPose", apart := false }
def FnExactRestPoseSaid : Prop := fnExactRestPoseRow.holds Try.pinned (OpenSpec.ofChange fnExactRestPoseSpec)

/-- ITS FALSE NEIGHBOUR: 'it returns false'. Refute it at one input. -/
def fnExactRestPoseWrong : ChangeSpec := { name := "fnExactRestPose", fn := fun _ => fun
  | [d] => { results := [.lit (.bool false)], args := [d] }
  | _ => none }
def FnExactRestPoseWrongFalsely : Prop := fnExactRestPoseRow.holds Try.pinned (OpenSpec.ofChange fnExactRestPoseWrong)

/-- 'laws.FnBends': WHATEVER THE INPUT: true; the input reads as it did. -/
def fnBendsSpec : ChangeSpec := { name := "fnBends", fn := fun _ => fun
  | [d1, d2] => { results := [.lit (.bool true)], args := [d1, d2] }
  | _ => none }
def fnBendsRow : OpenClaim := { program := "ytlpbpdjledpfbac", sum := "e4ffab3a50085df9e088b18d6ad33d7b6517b7f357a22166c28e787477703a40", func := "loop.example/g01180/laws.FnBends", spec := "fnBends", inPlace := ["math.sqrt", "math.Float64bits", "math.Float64frombits", "math.archTrunc"], apart := false }
def FnBendsSaid : Prop := fnBendsRow.holds Try.pinned (OpenSpec.ofChange fnBendsSpec)

/-- ITS FALSE NEIGHBOUR: 'it returns false'. Refute it at one input. -/
def fnBendsWrong : ChangeSpec := { name := "fnBends", fn := fun _ => fun
  | [d1, d2] => { results := [.lit (.bool false)], args := [d1, d2] }
  | _ => none }
def FnBendsWrongFalsely : Prop := fnBendsRow.holds Try.pinned (OpenSpec.ofChange fnBendsWrong)

/-- 'laws.FnExactLimitCone': WHATEVER THE INPUT: true; the input reads as it did. -/
def fnExactLimitConeSpec : ChangeSpec := { name := "fnExactLimitCone", fn := fun _ => fun
  | [d1, d2, d3] => { results := [.lit (.bool true)], args := [d1, d2, d3] }
  | _ => none }
def fnExactLimitConeRow : OpenClaim := { program := "ytlpbpdjledpfbac", sum := "e4ffab3a50085df9e088b18d6ad33d7b6517b7f357a22166c28e787477703a40", func := "loop.example/g01180/laws.FnExactLimitCone", spec := "fnExactLimitCone", inPlace := ["math.sqrt", "math.Float32bits", "math.Float32frombits", "math.Float64frombits", "math.Float64bits", "math.archTrunc"], apart := false }
def FnExactLimitConeSaid : Prop := fnExactLimitConeRow.holds Try.pinned (OpenSpec.ofChange fnExactLimitConeSpec)

/-- ITS FALSE NEIGHBOUR: 'it returns false'. Refute it at one input. -/
def fnExactLimitConeWrong : ChangeSpec := { name := "fnExactLimitCone", fn := fun _ => fun
  | [d1, d2, d3] => { results := [.lit (.bool false)], args := [d1, d2, d3] }
  | _ => none }
def FnExactLimitConeWrongFalsely : Prop := fnExactLimitConeRow.holds Try.pinned (OpenSpec.ofChange fnExactLimitConeWrong)

/-- 'laws.FnExactSameClip': WHATEVER THE INPUT: true; the input reads as it did. -/
def fnExactSameClipSpec : ChangeSpec := { name := "fnExactSameClip", fn := fun _ => fun
  | [d1, d2] => { results := [.lit (.bool true)], args := [d1, d2] }
  | _ => none }
def fnExactSameClipRow : OpenClaim := { program := "ytlpbpdjledpfbac", sum := "e4ffab3a50085df9e088b18d6ad33d7b6517b7f357a22166c28e787477703a40", func := "loop.example/g01180/laws.FnExactSameClip", spec := "fnExactSameClip", inPlace := ["math.Float32bits", "math.Float64bits"], unfollowed := true, recurses := true, apart := false }
def FnExactSameClipSaid : Prop := fnExactSameClipRow.holds Try.pinned (OpenSpec.ofChange fnExactSameClipSpec)

/-- ITS FALSE NEIGHBOUR: 'it returns false'. Refute it at one input. -/
def fnExactSameClipWrong : ChangeSpec := { name := "fnExactSameClip", fn := fun _ => fun
  | [d1, d2] => { results := [.lit (.bool false)], args := [d1, d2] }
  | _ => none }
def FnExactSameClipWrongFalsely : Prop := fnExactSameClipRow.holds Try.pinned (OpenSpec.ofChange fnExactSameClipWrong)

/-- 'laws.FnExactValidClip': WHATEVER THE INPUT: true; the input reads as it did. -/
def fnExactValidClipSpec : ChangeSpec := { name := "fnExactValidClip", fn := fun _ => fun
  | [d] => { results := [.lit (.bool true)], args := [d] }
  | _ => none }
def fnExactValidClipRow : OpenClaim := { program := "ytlpbpdjledpfbac", sum := "e4ffab3a50085df9e088b18d6ad33d7b6517b7f357a22166c28e787477703a40", func := "loop.example/g01180/laws.FnExactValidClip", spec := "fnExactValidClip", inPlace := ["math.sqrt"], unfollowed := true, recurses := true, apart := false }
def FnExactValidClipSaid : Prop := fnExactValidClipRow.holds Try.pinned (OpenSpec.ofChange fnExactValidClipSpec)

/-- ITS FALSE NEIGHBOUR: 'it returns false'. Refute it at one input. -/
def fnExactValidClipWrong : ChangeSpec := { name := "fnExactValidClip", fn := fun _ => fun
  | [d] => { results := [.lit (.bool false)], args := [d] }
  | _ => none }
def FnExactValidClipWrongFalsely : Prop := fnExactValidClipRow.holds Try.pinned (OpenSpec.ofChange fnExactValidClipWrong)

/-- 'laws.FnExactTravelOf': WHATEVER THE INPUT: true; the input reads as it did. -/
def fnExactTravelOfSpec : ChangeSpec := { name := "fnExactTravelOf", fn := fun _ => fun
  | [d1, d2, d3] => { results := [.lit (.bool true)], args := [d1, d2, d3] }
  | _ => none }
def fnExactTravelOfRow : OpenClaim := { program := "ytlpbpdjledpfbac", sum := "e4ffab3a50085df9e088b18d6ad33d7b6517b7f357a22166c28e787477703a40", func := "loop.example/g01180/laws.FnExactTravelOf", spec := "fnExactTravelOf", inPlace := ["math.sqrt"], unfollowed := true, recurses := true, apart := false }
def FnExactTravelOfSaid : Prop := fnExactTravelOfRow.holds Try.pinned (OpenSpec.ofChange fnExactTravelOfSpec)

/-- ITS FALSE NEIGHBOUR: 'it returns false'. Refute it at one input. -/
def fnExactTravelOfWrong : ChangeSpec := { name := "fnExactTravelOf", fn := fun _ => fun
  | [d1, d2, d3] => { results := [.lit (.bool false)], args := [d1, d2, d3] }
  | _ => none }
def FnExactTravelOfWrongFalsely : Prop := fnExactTravelOfRow.holds Try.pinned (OpenSpec.ofChange fnExactTravelOfWrong)

/-- 'laws.FnExactSampleClip': WHATEVER THE INPUT: true; the input reads as it did. -/
def fnExactSampleClipSpec : ChangeSpec := { name := "fnExactSampleClip", fn := fun _ => fun
  | [d1, d2] => { results := [.lit (.bool true)], args := [d1, d2] }
  | _ => none }
def fnExactSampleClipRow : OpenClaim := { program := "ytlpbpdjledpfbac", sum := "e4ffab3a50085df9e088b18d6ad33d7b6517b7f357a22166c28e787477703a40", func := "loop.example/g01180/laws.FnExactSampleClip", spec := "fnExactSampleClip", inPlace := ["math.sqrt"], unfollowed := true, recurses := true, apart := false }
def FnExactSampleClipSaid : Prop := fnExactSampleClipRow.holds Try.pinned (OpenSpec.ofChange fnExactSampleClipSpec)

/-- ITS FALSE NEIGHBOUR: 'it returns false'. Refute it at one input. -/
def fnExactSampleClipWrong : ChangeSpec := { name := "fnExactSampleClip", fn := fun _ => fun
  | [d1, d2] => { results := [.lit (.bool false)], args := [d1, d2] }
  | _ => none }
def FnExactSampleClipWrongFalsely : Prop := fnExactSampleClipRow.holds Try.pinned (OpenSpec.ofChange fnExactSampleClipWrong)

/- THE SECOND FORM. 'bulk': how many values and letters a reading holds, each counted each time it is reached (what is shared counts as often as it is met; a slice's spare places count too). A statement '..UptoSaid' is the law's where the arguments, and the package variables that the reading takes, are together of bulk at most 1048576: NARROWER than '..Said'. Prove '..Said' where nothing that the law and all that it calls make is longer than what came in: it says more and counts as full. Else prove '..UptoSaid'. A law counts once. -/
mutual
def uptoBulk {H : Type} : DataW H → Nat
  | .lit (.string bytes) => bytes.length + 1
  | .lit _ => 1
  | .nil => 1
  | .ptr d => uptoBulk d + 1
  | .slice elems spare => uptoBulkAll elems + uptoBulkAll spare + 1
  | .agg parts => uptoBulkAll parts + 1
  | .iface _ d => uptoBulk d + 1
  | .map entries => uptoBulkEntries entries + 1
  | .held _ => 1
def uptoBulkAll {H : Type} : List (DataW H) → Nat
  | [] => 0
  | d :: r => uptoBulk d + uptoBulkAll r
def uptoBulkEntries {H : Type} : List (Lit × DataW H) → Nat
  | [] => 0
  | x :: r => uptoBulkEntry x + uptoBulkEntries r
def uptoBulkEntry {H : Type} : Lit × DataW H → Nat
  | (.string bytes, d) => bytes.length + uptoBulk d + 1
  | (_, d) => uptoBulk d + 1
 end
def uptoSmall : (H : Type) → List (DataW H) → Bool := fun _ ds => decide (uptoBulkAll ds ≤ 1048576)
def OpenSpec.upto (s : _root_.Go.ChangeSpec) : _root_.Go.OpenSpec := { _root_.Go.OpenSpec.ofChange s with cond := some uptoSmall }

/-- 'laws.FnExactCarryPose', WHERE WHAT IT READS IS OF BULK AT MOST 1048576: true; the input reads as it did. -/
def fnExactCarryPoseUptoRow : OpenClaim := { program := "ytlpbpdjledpfbac", sum := "e4ffab3a50085df9e088b18d6ad33d7b6517b7f357a22166c28e787477703a40", func := "loop.example/g01180/laws.FnExactCarryPose", spec := "fnExactCarryPose", apart := false, narrowed := true }
def FnExactCarryPoseUptoSaid : Prop := fnExactCarryPoseUptoRow.holds Try.pinned (OpenSpec.upto fnExactCarryPoseSpec)

/-- 'laws.FnExactRestPose', WHERE WHAT IT READS IS OF BULK AT MOST 1048576: true; the input reads as it did. -/
def fnExactRestPoseUptoRow : OpenClaim := { program := "ytlpbpdjledpfbac", sum := "e4ffab3a50085df9e088b18d6ad33d7b6517b7f357a22166c28e787477703a40", func := "loop.example/g01180/laws.FnExactRestPose", spec := "fnExactRestPose", apart := false, narrowed := true }
def FnExactRestPoseUptoSaid : Prop := fnExactRestPoseUptoRow.holds Try.pinned (OpenSpec.upto fnExactRestPoseSpec)

/-- 'laws.FnBends', WHERE WHAT IT READS IS OF BULK AT MOST 1048576: true; the input reads as it did. -/
def fnBendsUptoRow : OpenClaim := { program := "ytlpbpdjledpfbac", sum := "e4ffab3a50085df9e088b18d6ad33d7b6517b7f357a22166c28e787477703a40", func := "loop.example/g01180/laws.FnBends", spec := "fnBends", inPlace := ["math.sqrt", "math.Float64bits", "math.Float64frombits", "math.archTrunc"], apart := false, narrowed := true }
def FnBendsUptoSaid : Prop := fnBendsUptoRow.holds Try.pinned (OpenSpec.upto fnBendsSpec)

/-- 'laws.FnExactLimitCone', WHERE WHAT IT READS IS OF BULK AT MOST 1048576: true; the input reads as it did. -/
def fnExactLimitConeUptoRow : OpenClaim := { program := "ytlpbpdjledpfbac", sum := "e4ffab3a50085df9e088b18d6ad33d7b6517b7f357a22166c28e787477703a40", func := "loop.example/g01180/laws.FnExactLimitCone", spec := "fnExactLimitCone", inPlace := ["math.sqrt", "math.Float32bits", "math.Float32frombits", "math.Float64frombits", "math.Float64bits", "math.archTrunc"], apart := false, narrowed := true }
def FnExactLimitConeUptoSaid : Prop := fnExactLimitConeUptoRow.holds Try.pinned (OpenSpec.upto fnExactLimitConeSpec)

/-- 'laws.FnExactSameClip', WHERE WHAT IT READS IS OF BULK AT MOST 1048576: true; the input reads as it did. -/
def fnExactSameClipUptoRow : OpenClaim := { program := "ytlpbpdjledpfbac", sum := "e4ffab3a50085df9e088b18d6ad33d7b6517b7f357a22166c28e787477703a40", func := "loop.example/g01180/laws.FnExactSameClip", spec := "fnExactSameClip", inPlace := ["math.Float32bits", "math.Float64bits"], unfollowed := true, recurses := true, apart := false, narrowed := true }
def FnExactSameClipUptoSaid : Prop := fnExactSameClipUptoRow.holds Try.pinned (OpenSpec.upto fnExactSameClipSpec)

/-- 'laws.FnExactValidClip', WHERE WHAT IT READS IS OF BULK AT MOST 1048576: true; the input reads as it did. -/
def fnExactValidClipUptoRow : OpenClaim := { program := "ytlpbpdjledpfbac", sum := "e4ffab3a50085df9e088b18d6ad33d7b6517b7f357a22166c28e787477703a40", func := "loop.example/g01180/laws.FnExactValidClip", spec := "fnExactValidClip", inPlace := ["math.sqrt"], unfollowed := true, recurses := true, apart := false, narrowed := true }
def FnExactValidClipUptoSaid : Prop := fnExactValidClipUptoRow.holds Try.pinned (OpenSpec.upto fnExactValidClipSpec)

/-- 'laws.FnExactTravelOf', WHERE WHAT IT READS IS OF BULK AT MOST 1048576: true; the input reads as it did. -/
def fnExactTravelOfUptoRow : OpenClaim := { program := "ytlpbpdjledpfbac", sum := "e4ffab3a50085df9e088b18d6ad33d7b6517b7f357a22166c28e787477703a40", func := "loop.example/g01180/laws.FnExactTravelOf", spec := "fnExactTravelOf", inPlace := ["math.sqrt"], unfollowed := true, recurses := true, apart := false, narrowed := true }
def FnExactTravelOfUptoSaid : Prop := fnExactTravelOfUptoRow.holds Try.pinned (OpenSpec.upto fnExactTravelOfSpec)

/-- 'laws.FnExactSampleClip', WHERE WHAT IT READS IS OF BULK AT MOST 1048576: true; the input reads as it did. -/
def fnExactSampleClipUptoRow : OpenClaim := { program := "ytlpbpdjledpfbac", sum := "e4ffab3a50085df9e088b18d6ad33d7b6517b7f357a22166c28e787477703a40", func := "loop.example/g01180/laws.FnExactSampleClip", spec := "fnExactSampleClip", inPlace := ["math.sqrt"], unfollowed := true, recurses := true, apart := false, narrowed := true }
def FnExactSampleClipUptoSaid : Prop := fnExactSampleClipUptoRow.holds Try.pinned (OpenSpec.upto fnExactSampleClipSpec)

end Rows
end Go.Proofs.Ytlpbpdjledpfbac
