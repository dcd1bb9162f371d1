/-
  No cell of these rows narrows 'for every input' (looked for: loops, veiled, ifaces, maps, wideKeys, modest, calm, conditions, laid).
  DERIVED. THE GIVEN ROWS OF THIS SEAT. 8 by the template 'for every input the law returns true; each argument reads behind the call as it read before'; 0 by the template 'total and deterministic' (their statements: YtpoghajdcdfhbacTotals.lean).
  GIVEN WITH THE SEED: the statements are not yours to turn. If you find one false, say at which input.
  Laid BY PROGRAM, IN A SANDBOX (cutbox-rows.mjs): the forced cells as the released guide's own fill.sh prints them over the translation d1c046689d10dd05… (all of the seat's roots in one cut). By AI agents, Wed Nov 11 2026. No macro, syntax, notation, axiom, sorry.
-/
import Derived.Test.YtpoghajdcdfhbacChecked
import GoSem.Claim
import GoSem.ClaimJoined
import GoSem.ClaimMapViews
import Derived.JoinedTies
import Derived.KernelRfl
namespace Go.Proofs.Ytpoghajdcdfhbac
/- THE CELL 'sum', in the pinned program and in every row, IS THE sha256 OF THE DUMP (.gsa) THAT YtpoghajdcdfhbacProg.lean LOADS. Nothing in Lean hashes anything: it is a label: what it is worth is what the hold of that sum in a sandbox is worth. -/
noncomputable def Try.pinned : Pinned := { name := "ytpoghajdcdfhbac", sum := "d1c046689d10dd058afd47d381d3f4dbaa3a71ddc4fef9da93e7ae2b4e5104f1", checked := Try.checked }
namespace Rows
def none {H : Type} : Left H := { results := [], args := [] }

/-- 'laws.FnExactCarryPose': WHATEVER THE INPUT: true; the input reads as it did. -/
def fnExactCarryPoseSpec : ChangeSpec := { name := "fnExactCarryPose", fn := fun _ => fun
  | [d1, d2, d3] => { results := [.lit (.bool true)], args := [d1, d2, d3] }
  | _ => none }
def fnExactCarryPoseRow : OpenClaim := { program := "ytpoghajdcdfhbac", sum := "d1c046689d10dd058afd47d381d3f4dbaa3a71ddc4fef9da93e7ae2b4e5104f1", func := "loop.example/g01180/laws.FnExactCarryPose", spec := "fnExactCarryPose", apart := false }
def FnExactCarryPoseSaid : Prop := fnExactCarryPoseRow.holds Try.pinned (OpenSpec.ofChange fnExactCarryPoseSpec)

/-- ITS FALSE NEIGHBOUR: 'it returns false'. Refute it at one input. -/
def fnExactCarryPoseWrong : ChangeSpec := { name := "fnExactCarryPose", fn := fun _ => fun
  | [d1, d2, d3] => { results := [.lit (.bool false)], args := [d1, d2, d3] }
  | _ => none }
def FnExactCarryPoseWrongFalsely : Prop := fnExactCarryPoseRow.holds Try.pinned (OpenSpec.ofChange fnExactCarryPoseWrong)

/-- 'laws.FnExactBoneLengths': WHATEVER THE INPUT: true; the input reads as it did. -/
def fnExactBoneLengthsSpec : ChangeSpec := { name := "fnExactBoneLengths", fn := fun _ => fun
  | [d] => { results := [.lit (.bool true)], args := [d] }
  | _ => none }
def fnExactBoneLengthsRow : OpenClaim := { program := "ytpoghajdcdfhbac", sum := "d1c046689d10dd058afd47d381d3f4dbaa3a71ddc4fef9da93e7ae2b4e5104f1", func := "loop.example/g01180/laws.FnExactBoneLengths", spec := "fnExactBoneLengths", inPlace := ["math.sqrt"], apart := false }
def FnExactBoneLengthsSaid : Prop := fnExactBoneLengthsRow.holds Try.pinned (OpenSpec.ofChange fnExactBoneLengthsSpec)

/-- ITS FALSE NEIGHBOUR: 'it returns false'. Refute it at one input. -/
def fnExactBoneLengthsWrong : ChangeSpec := { name := "fnExactBoneLengths", fn := fun _ => fun
  | [d] => { results := [.lit (.bool false)], args := [d] }
  | _ => none }
def FnExactBoneLengthsWrongFalsely : Prop := fnExactBoneLengthsRow.holds Try.pinned (OpenSpec.ofChange fnExactBoneLengthsWrong)

/-- 'laws.FnExactRestPose': WHATEVER THE INPUT: true; the input reads as it did. -/
def fnExactRestPoseSpec : ChangeSpec := { name := "fnExactRestPose", fn := fun _ => fun
  | [d] => { results := [.lit (.bool true)], args := [d] }
  | _ => none }
def fnExactRestPoseRow : OpenClaim := { program := "ytpoghajdcdfhbac", sum := "d1c046689d10dd058afd47d381d3f4dbaa3a71ddc4fef9da93e7ae2b4e5104f1", func := "loop.example/g01180/laws.FnExactRestPose", spec := "fnExactRestPose", apart := false }
def FnExactRestPoseSaid : Prop := fnExactRestPoseRow.holds Try.pinned (OpenSpec.ofChange fnExactRestPoseSpec)

/-- ITS FALSE NEIGHBOUR: 'it returns false'. Refute it at one input. -/
def fnExactRestPoseWrong : ChangeSpec := { name := "fnExactRestPose", fn := fun _ => fun
  | [d] => { results := [.lit (.bool false)], args := [d] }
  | _ => none }
def FnExactRestPoseWrongFalsely : Prop := fnExactRestPoseRow.holds Try.pinned (OpenSpec.ofChange fnExactRestPoseWrong)

/-- 'laws.FnExactLocalOf': WHATEVER THE INPUT: true; the input reads as it did. -/
def fnExactLocalOfSpec : ChangeSpec := { name := "fnExactLocalOf", fn := fun _ => fun
  | [d1, d2, d3] => { results := [.lit (.bool true)], args := [d1, d2, d3] }
  | _ => none }
def fnExactLocalOfRow : OpenClaim := { program := "ytpoghajdcdfhbac", sum := "d1c046689d10dd058afd47d381d3f4dbaa3a71ddc4fef9da93e7ae2b4e5104f1", func := "loop.example/g01180/laws.FnExactLocalOf", spec := "fnExactLocalOf", apart := false }
def FnExactLocalOfSaid : Prop := fnExactLocalOfRow.holds Try.pinned (OpenSpec.ofChange fnExactLocalOfSpec)

/-- ITS FALSE NEIGHBOUR: 'it returns false'. Refute it at one input. -/
def fnExactLocalOfWrong : ChangeSpec := { name := "fnExactLocalOf", fn := fun _ => fun
  | [d1, d2, d3] => { results := [.lit (.bool false)], args := [d1, d2, d3] }
  | _ => none }
def FnExactLocalOfWrongFalsely : Prop := fnExactLocalOfRow.holds Try.pinned (OpenSpec.ofChange fnExactLocalOfWrong)

/-- 'laws.FnExactAddDifference': WHATEVER THE INPUT: true; the input reads as it did. -/
def fnExactAddDifferenceSpec : ChangeSpec := { name := "fnExactAddDifference", fn := fun _ => fun
  | [d1, d2] => { results := [.lit (.bool true)], args := [d1, d2] }
  | _ => none }
def fnExactAddDifferenceRow : OpenClaim := { program := "ytpoghajdcdfhbac", sum := "d1c046689d10dd058afd47d381d3f4dbaa3a71ddc4fef9da93e7ae2b4e5104f1", func := "loop.example/g01180/laws.FnExactAddDifference", spec := "fnExactAddDifference", apart := false }
def FnExactAddDifferenceSaid : Prop := fnExactAddDifferenceRow.holds Try.pinned (OpenSpec.ofChange fnExactAddDifferenceSpec)

/-- ITS FALSE NEIGHBOUR: 'it returns false'. Refute it at one input. -/
def fnExactAddDifferenceWrong : ChangeSpec := { name := "fnExactAddDifference", fn := fun _ => fun
  | [d1, d2] => { results := [.lit (.bool false)], args := [d1, d2] }
  | _ => none }
def FnExactAddDifferenceWrongFalsely : Prop := fnExactAddDifferenceRow.holds Try.pinned (OpenSpec.ofChange fnExactAddDifferenceWrong)

/-- 'laws.FnExactDifferenceOf': WHATEVER THE INPUT: true; the input reads as it did. -/
def fnExactDifferenceOfSpec : ChangeSpec := { name := "fnExactDifferenceOf", fn := fun _ => fun
  | [d1, d2] => { results := [.lit (.bool true)], args := [d1, d2] }
  | _ => none }
def fnExactDifferenceOfRow : OpenClaim := { program := "ytpoghajdcdfhbac", sum := "d1c046689d10dd058afd47d381d3f4dbaa3a71ddc4fef9da93e7ae2b4e5104f1", func := "loop.example/g01180/laws.FnExactDifferenceOf", spec := "fnExactDifferenceOf", apart := false }
def FnExactDifferenceOfSaid : Prop := fnExactDifferenceOfRow.holds Try.pinned (OpenSpec.ofChange fnExactDifferenceOfSpec)

/-- ITS FALSE NEIGHBOUR: 'it returns false'. Refute it at one input. -/
def fnExactDifferenceOfWrong : ChangeSpec := { name := "fnExactDifferenceOf", fn := fun _ => fun
  | [d1, d2] => { results := [.lit (.bool false)], args := [d1, d2] }
  | _ => none }
def FnExactDifferenceOfWrongFalsely : Prop := fnExactDifferenceOfRow.holds Try.pinned (OpenSpec.ofChange fnExactDifferenceOfWrong)

/-- 'laws.FnExactMirrorPose': WHATEVER THE INPUT: true; the input reads as it did. -/
def fnExactMirrorPoseSpec : ChangeSpec := { name := "fnExactMirrorPose", fn := fun _ => fun
  | [d1, d2, d3] => { results := [.lit (.bool true)], args := [d1, d2, d3] }
  | _ => none }
def fnExactMirrorPoseRow : OpenClaim := { program := "ytpoghajdcdfhbac", sum := "d1c046689d10dd058afd47d381d3f4dbaa3a71ddc4fef9da93e7ae2b4e5104f1", func := "loop.example/g01180/laws.FnExactMirrorPose", spec := "fnExactMirrorPose", unfollowed := true, recurses := true, apart := false }
def FnExactMirrorPoseSaid : Prop := fnExactMirrorPoseRow.holds Try.pinned (OpenSpec.ofChange fnExactMirrorPoseSpec)

/-- ITS FALSE NEIGHBOUR: 'it returns false'. Refute it at one input. -/
def fnExactMirrorPoseWrong : ChangeSpec := { name := "fnExactMirrorPose", fn := fun _ => fun
  | [d1, d2, d3] => { results := [.lit (.bool false)], args := [d1, d2, d3] }
  | _ => none }
def FnExactMirrorPoseWrongFalsely : Prop := fnExactMirrorPoseRow.holds Try.pinned (OpenSpec.ofChange fnExactMirrorPoseWrong)

/-- 'laws.FnExactBlendPoses': WHATEVER THE INPUT: true; the input reads as it did. -/
def fnExactBlendPosesSpec : ChangeSpec := { name := "fnExactBlendPoses", fn := fun _ => fun
  | [d1, d2, d3, d4] => { results := [.lit (.bool true)], args := [d1, d2, d3, d4] }
  | _ => none }
def fnExactBlendPosesRow : OpenClaim := { program := "ytpoghajdcdfhbac", sum := "d1c046689d10dd058afd47d381d3f4dbaa3a71ddc4fef9da93e7ae2b4e5104f1", func := "loop.example/g01180/laws.FnExactBlendPoses", spec := "fnExactBlendPoses", inPlace := ["math.sqrt"], apart := false }
def FnExactBlendPosesSaid : Prop := fnExactBlendPosesRow.holds Try.pinned (OpenSpec.ofChange fnExactBlendPosesSpec)

/-- ITS FALSE NEIGHBOUR: 'it returns false'. Refute it at one input. -/
def fnExactBlendPosesWrong : ChangeSpec := { name := "fnExactBlendPoses", fn := fun _ => fun
  | [d1, d2, d3, d4] => { results := [.lit (.bool false)], args := [d1, d2, d3, d4] }
  | _ => none }
def FnExactBlendPosesWrongFalsely : Prop := fnExactBlendPosesRow.holds Try.pinned (OpenSpec.ofChange fnExactBlendPosesWrong)

/- THE SECOND FORM. 'bulk': how many values and letters a reading holds, each counted each time it is reached (what is shared counts as often as it is met; a slice's spare places count too). A statement '..UptoSaid' is the law's where the arguments, and the package variables that the reading takes, are together of bulk at most 1048576: NARROWER than '..Said'. Prove '..Said' where nothing that the law and all that it calls make is longer than what came in: it says more and counts as full. Else prove '..UptoSaid'. A law counts once. -/
mutual
def uptoBulk {H : Type} : DataW H → Nat
  | .lit (.string bytes) => bytes.length + 1
  | .lit _ => 1
  | .nil => 1
  | .ptr d => uptoBulk d + 1
  | .slice elems spare => uptoBulkAll elems + uptoBulkAll spare + 1
  | .agg parts => uptoBulkAll parts + 1
  | .iface _ d => uptoBulk d + 1
  | .map entries => uptoBulkEntries entries + 1
  | .held _ => 1
def uptoBulkAll {H : Type} : List (DataW H) → Nat
  | [] => 0
  | d :: r => uptoBulk d + uptoBulkAll r
def uptoBulkEntries {H : Type} : List (Lit × DataW H) → Nat
  | [] => 0
  | x :: r => uptoBulkEntry x + uptoBulkEntries r
def uptoBulkEntry {H : Type} : Lit × DataW H → Nat
  | (.string bytes, d) => bytes.length + uptoBulk d + 1
  | (_, d) => uptoBulk d + 1
 end
def uptoSmall : (H : Type) → List (DataW H) → Bool := fun _ ds => decide (uptoBulkAll ds ≤ 1048576)
def OpenSpec.upto (s : _root_.Go.ChangeSpec) : _root_.Go.OpenSpec := { _root_.Go.OpenSpec.ofChange s with cond := some uptoSmall }

/-- 'laws.FnExactCarryPose', WHERE WHAT IT READS IS OF BULK AT MOST 1048576: true; the input reads as it did. -/
def fnExactCarryPoseUptoRow : OpenClaim := { program := "ytpoghajdcdfhbac", sum := "d1c046689d10dd058afd47d381d3f4dbaa3a71ddc4fef9da93e7ae2b4e5104f1", func := "loop.example/g01180/laws.FnExactCarryPose", spec := "fnExactCarryPose", apart := false, narrowed := true }
def FnExactCarryPoseUptoSaid : Prop := fnExactCarryPoseUptoRow.holds Try.pinned (OpenSpec.upto fnExactCarryPoseSpec)

/-- 'laws.FnExactBoneLengths', WHERE WHAT IT READS IS OF BULK AT MOST 1048576: true; the input reads as it did. -/
def fnExactBoneLengthsUptoRow : OpenClaim := { program := "ytpoghajdcdfhbac", sum := "d1c046689d10dd058afd47d381d3f4dbaa3a71ddc4fef9da93e7ae2b4e5104f1", func := "loop.example/g01180/laws.FnExactBoneLengths", spec := "fnExactBoneLengths", inPlace := ["math.sqrt"], apart := false, narrowed := true }
def FnExactBoneLengthsUptoSaid : Prop := fnExactBoneLengthsUptoRow.holds Try.pinned (OpenSpec.upto fnExactBoneLengthsSpec)

/-- 'laws.FnExactRestPose', WHERE WHAT IT READS IS OF BULK AT MOST 1048576: true; the input reads as it did. -/
def fnExactRestPoseUptoRow : OpenClaim := { program := "ytpoghajdcdfhbac", sum := "d1c046689d10dd058afd47d381d3f4dbaa3a71ddc4fef9da93e7ae2b4e5104f1", func := "loop.example/g01180/laws.FnExactRestPose", spec := "fnExactRestPose", apart := false, narrowed := true }
def FnExactRestPoseUptoSaid : Prop := fnExactRestPoseUptoRow.holds Try.pinned (OpenSpec.upto fnExactRestPoseSpec)

/-- 'laws.FnExactLocalOf', WHERE WHAT IT READS IS OF BULK AT MOST 1048576: true; the input reads as it did. -/
def fnExactLocalOfUptoRow : OpenClaim := { program := "ytpoghajdcdfhbac", sum := "d1c046689d10dd058afd47d381d3f4dbaa3a71ddc4fef9da93e7ae2b4e5104f1", func := "loop.example/g01180/laws.FnExactLocalOf", spec := "fnExactLocalOf", apart := false, narrowed := true }
def FnExactLocalOfUptoSaid : Prop := fnExactLocalOfUptoRow.holds Try.pinned (OpenSpec.upto fnExactLocalOfSpec)

/-- 'laws.FnExactAddDifference', WHERE WHAT IT READS IS OF BULK AT MOST 1048576: true; the input reads as it did. -/
def fnExactAddDifferenceUptoRow : OpenClaim := { program := "ytpoghajdcdfhbac", sum := "d1c046689d10dd058afd47d381d3f4dbaa3a71ddc4fef9da93e7ae2b4e5104f1", func := "loop.example/g01180/laws.FnExactAddDifference", spec := "fnExactAddDifference", apart := false, narrowed := true }
def FnExactAddDifferenceUptoSaid : Prop := fnExactAddDifferenceUptoRow.holds Try.pinned (OpenSpec.upto fnExactAddDifferenceSpec)

/-- 'laws.FnExactDifferenceOf', WHERE WHAT IT READS IS OF BULK AT MOST 1048576: true; the input reads as it did. -/
def fnExactDifferenceOfUptoRow : OpenClaim := { program := "ytpoghajdcdfhbac", sum := "d1c046689d10dd058afd47d381d3f4dbaa3a71ddc4fef9da93e7ae2b4e5104f1", func := "loop.example/g01180/laws.FnExactDifferenceOf", spec := "fnExactDifferenceOf", apart := false, narrowed := true }
def FnExactDifferenceOfUptoSaid : Prop := fnExactDifferenceOfUptoRow.holds Try.pinned (OpenSpec.upto fnExactDifferenceOfSpec)

/-- 'laws.FnExactMirrorPose', WHERE WHAT IT READS IS OF BULK AT MOST 1048576: true; the input reads as it did. -/
def fnExactMirrorPoseUptoRow : OpenClaim := { program := "ytpoghajdcdfhbac", sum := "d1c046689d10dd058afd47d381d3f4dbaa3a71ddc4fef9da93e7ae2b4e5104f1", func := "loop.example/g01180/laws.FnExactMirrorPose", spec := "fnExactMirrorPose", unfollowed := true, recurses := true, apart := false, narrowed := true }
def FnExactMirrorPoseUptoSaid : Prop := fnExactMirrorPoseUptoRow.holds Try.pinned (OpenSpec.upto fnExactMirrorPoseSpec)

/-- 'laws.FnExactBlendPoses', WHERE WHAT IT READS IS OF BULK AT MOST 1048576: true; the input reads as it did. -/
def fnExactBlendPosesUptoRow : OpenClaim := { program := "ytpoghajdcdfhbac", sum := "d1c046689d10dd058afd47d381d3f4dbaa3a71ddc4fef9da93e7ae2b4e5104f1", func := "loop.example/g01180/laws.FnExactBlendPoses", spec := "fnExactBlendPoses", inPlace := ["math.sqrt"], apart := false, narrowed := true }
def FnExactBlendPosesUptoSaid : Prop := fnExactBlendPosesUptoRow.holds Try.pinned (OpenSpec.upto fnExactBlendPosesSpec)

end Rows
end Go.Proofs.Ytpoghajdcdfhbac
