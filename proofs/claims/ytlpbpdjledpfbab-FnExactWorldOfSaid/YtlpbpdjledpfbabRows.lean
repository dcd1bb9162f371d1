/-
  No cell of these rows narrows 'for every input' (looked for: loops, veiled, ifaces, maps, wideKeys, modest, calm, conditions, laid).
  DERIVED. THE GIVEN ROWS OF THIS SEAT. 8 by the template 'for every input the law returns true; each argument reads behind the call as it read before'; 0 by the template 'total and deterministic' (their statements: YtlpbpdjledpfbabTotals.lean).
  GIVEN WITH THE SEED: the statements are not yours to turn. If you find one false, say at which input.
  Laid BY PROGRAM, IN A SANDBOX (cutbox-rows.mjs): the forced cells as the released guide's own fill.sh prints them over the translation 3b1a399df27bee43… (all of the seat's roots in one cut). By AI agents, Wed Nov 11 2026. No macro, syntax, notation, axiom, sorry.
-/
import Derived.Test.YtlpbpdjledpfbabChecked
import GoSem.Claim
import GoSem.ClaimJoined
import GoSem.ClaimMapViews
import Derived.JoinedTies
import Derived.KernelRfl
namespace Go.Proofs.Ytlpbpdjledpfbab
/- THE CELL 'sum', in the pinned program and in every row, IS THE sha256 OF THE DUMP (.gsa) THAT YtlpbpdjledpfbabProg.lean LOADS. Nothing in Lean hashes anything: it is a label: what it is worth is what the hold of that sum in a sandbox is worth. -/
noncomputable def Try.pinned : Pinned := { name := "ytlpbpdjledpfbab", sum := "3b1a399df27bee435fe98835eeab7c61697fd888d5125ee9ae3915d733388813", checked := Try.checked }
namespace Rows
def none {H : Type} : Left H := { results := [], args := [] }

/-- 'laws.FnExactIsPairing': WHATEVER THE INPUT: true; the input reads as it did. -/
def fnExactIsPairingSpec : ChangeSpec := { name := "fnExactIsPairing", fn := fun _ => fun
  | [d1, d2] => { results := [.lit (.bool true)], args := [d1, d2] }
  | _ => none }
def fnExactIsPairingRow : OpenClaim := { program := "ytlpbpdjledpfbab", sum := "3b1a399df27bee435fe98835eeab7c61697fd888d5125ee9ae3915d733388813", func := "loop.example/g01180/laws.FnExactIsPairing", spec := "fnExactIsPairing", unfollowed := true, recurses := true, apart := false }
def FnExactIsPairingSaid : Prop := fnExactIsPairingRow.holds Try.pinned (OpenSpec.ofChange fnExactIsPairingSpec)

/-- ITS FALSE NEIGHBOUR: 'it returns false'. Refute it at one input. -/
def fnExactIsPairingWrong : ChangeSpec := { name := "fnExactIsPairing", fn := fun _ => fun
  | [d1, d2] => { results := [.lit (.bool false)], args := [d1, d2] }
  | _ => none }
def FnExactIsPairingWrongFalsely : Prop := fnExactIsPairingRow.holds Try.pinned (OpenSpec.ofChange fnExactIsPairingWrong)

/-- 'laws.FnExactMirrorSkeleton': WHATEVER THE INPUT: true; the input reads as it did. -/
def fnExactMirrorSkeletonSpec : ChangeSpec := { name := "fnExactMirrorSkeleton", fn := fun _ => fun
  | [d1, d2] => { results := [.lit (.bool true)], args := [d1, d2] }
  | _ => none }
def fnExactMirrorSkeletonRow : OpenClaim := { program := "ytlpbpdjledpfbab", sum := "3b1a399df27bee435fe98835eeab7c61697fd888d5125ee9ae3915d733388813", func := "loop.example/g01180/laws.FnExactMirrorSkeleton", spec := "fnExactMirrorSkeleton", unfollowed := true, recurses := true, apart := false }
def FnExactMirrorSkeletonSaid : Prop := fnExactMirrorSkeletonRow.holds Try.pinned (OpenSpec.ofChange fnExactMirrorSkeletonSpec)

/-- ITS FALSE NEIGHBOUR: 'it returns false'. Refute it at one input. -/
def fnExactMirrorSkeletonWrong : ChangeSpec := { name := "fnExactMirrorSkeleton", fn := fun _ => fun
  | [d1, d2] => { results := [.lit (.bool false)], args := [d1, d2] }
  | _ => none }
def FnExactMirrorSkeletonWrongFalsely : Prop := fnExactMirrorSkeletonRow.holds Try.pinned (OpenSpec.ofChange fnExactMirrorSkeletonWrong)

/-- 'laws.FnExactAddDifference': WHATEVER THE INPUT: true; the input reads as it did. -/
def fnExactAddDifferenceSpec : ChangeSpec := { name := "fnExactAddDifference", fn := fun _ => fun
  | [d1, d2] => { results := [.lit (.bool true)], args := [d1, d2] }
  | _ => none }
def fnExactAddDifferenceRow : OpenClaim := { program := "ytlpbpdjledpfbab", sum := "3b1a399df27bee435fe98835eeab7c61697fd888d5125ee9ae3915d733388813", func := "loop.example/g01180/laws.FnExactAddDifference", spec := "fnExactAddDifference", apart := false }
def FnExactAddDifferenceSaid : Prop := fnExactAddDifferenceRow.holds Try.pinned (OpenSpec.ofChange fnExactAddDifferenceSpec)

/-- ITS FALSE NEIGHBOUR: 'it returns false'. Refute it at one input. -/
def fnExactAddDifferenceWrong : ChangeSpec := { name := "fnExactAddDifference", fn := fun _ => fun
  | [d1, d2] => { results := [.lit (.bool false)], args := [d1, d2] }
  | _ => none }
def FnExactAddDifferenceWrongFalsely : Prop := fnExactAddDifferenceRow.holds Try.pinned (OpenSpec.ofChange fnExactAddDifferenceWrong)

/-- 'laws.FnExactDifferenceOf': WHATEVER THE INPUT: true; the input reads as it did. -/
def fnExactDifferenceOfSpec : ChangeSpec := { name := "fnExactDifferenceOf", fn := fun _ => fun
  | [d1, d2] => { results := [.lit (.bool true)], args := [d1, d2] }
  | _ => none }
def fnExactDifferenceOfRow : OpenClaim := { program := "ytlpbpdjledpfbab", sum := "3b1a399df27bee435fe98835eeab7c61697fd888d5125ee9ae3915d733388813", func := "loop.example/g01180/laws.FnExactDifferenceOf", spec := "fnExactDifferenceOf", apart := false }
def FnExactDifferenceOfSaid : Prop := fnExactDifferenceOfRow.holds Try.pinned (OpenSpec.ofChange fnExactDifferenceOfSpec)

/-- ITS FALSE NEIGHBOUR: 'it returns false'. Refute it at one input. -/
def fnExactDifferenceOfWrong : ChangeSpec := { name := "fnExactDifferenceOf", fn := fun _ => fun
  | [d1, d2] => { results := [.lit (.bool false)], args := [d1, d2] }
  | _ => none }
def FnExactDifferenceOfWrongFalsely : Prop := fnExactDifferenceOfRow.holds Try.pinned (OpenSpec.ofChange fnExactDifferenceOfWrong)

/-- 'laws.FnExactLocalOf': WHATEVER THE INPUT: true; the input reads as it did. -/
def fnExactLocalOfSpec : ChangeSpec := { name := "fnExactLocalOf", fn := fun _ => fun
  | [d1, d2, d3] => { results := [.lit (.bool true)], args := [d1, d2, d3] }
  | _ => none }
def fnExactLocalOfRow : OpenClaim := { program := "ytlpbpdjledpfbab", sum := "3b1a399df27bee435fe98835eeab7c61697fd888d5125ee9ae3915d733388813", func := "loop.example/g01180/laws.FnExactLocalOf", spec := "fnExactLocalOf", apart := false }
def FnExactLocalOfSaid : Prop := fnExactLocalOfRow.holds Try.pinned (OpenSpec.ofChange fnExactLocalOfSpec)

/-- ITS FALSE NEIGHBOUR: 'it returns false'. Refute it at one input. -/
def fnExactLocalOfWrong : ChangeSpec := { name := "fnExactLocalOf", fn := fun _ => fun
  | [d1, d2, d3] => { results := [.lit (.bool false)], args := [d1, d2, d3] }
  | _ => none }
def FnExactLocalOfWrongFalsely : Prop := fnExactLocalOfRow.holds Try.pinned (OpenSpec.ofChange fnExactLocalOfWrong)

/-- 'laws.FnExactMirrorPose': WHATEVER THE INPUT: true; the input reads as it did. -/
def fnExactMirrorPoseSpec : ChangeSpec := { name := "fnExactMirrorPose", fn := fun _ => fun
  | [d1, d2, d3] => { results := [.lit (.bool true)], args := [d1, d2, d3] }
  | _ => none }
def fnExactMirrorPoseRow : OpenClaim := { program := "ytlpbpdjledpfbab", sum := "3b1a399df27bee435fe98835eeab7c61697fd888d5125ee9ae3915d733388813", func := "loop.example/g01180/laws.FnExactMirrorPose", spec := "fnExactMirrorPose", unfollowed := true, recurses := true, apart := false }
def FnExactMirrorPoseSaid : Prop := fnExactMirrorPoseRow.holds Try.pinned (OpenSpec.ofChange fnExactMirrorPoseSpec)

/-- ITS FALSE NEIGHBOUR: 'it returns false'. Refute it at one input. -/
def fnExactMirrorPoseWrong : ChangeSpec := { name := "fnExactMirrorPose", fn := fun _ => fun
  | [d1, d2, d3] => { results := [.lit (.bool false)], args := [d1, d2, d3] }
  | _ => none }
def FnExactMirrorPoseWrongFalsely : Prop := fnExactMirrorPoseRow.holds Try.pinned (OpenSpec.ofChange fnExactMirrorPoseWrong)

/-- 'laws.FnExactBlendPoses': WHATEVER THE INPUT: true; the input reads as it did. -/
def fnExactBlendPosesSpec : ChangeSpec := { name := "fnExactBlendPoses", fn := fun _ => fun
  | [d1, d2, d3, d4] => { results := [.lit (.bool true)], args := [d1, d2, d3, d4] }
  | _ => none }
def fnExactBlendPosesRow : OpenClaim := { program := "ytlpbpdjledpfbab", sum := "3b1a399df27bee435fe98835eeab7c61697fd888d5125ee9ae3915d733388813", func := "loop.example/g01180/laws.FnExactBlendPoses", spec := "fnExactBlendPoses", inPlace := ["math.sqrt"], apart := false }
def FnExactBlendPosesSaid : Prop := fnExactBlendPosesRow.holds Try.pinned (OpenSpec.ofChange fnExactBlendPosesSpec)

/-- ITS FALSE NEIGHBOUR: 'it returns false'. Refute it at one input. -/
def fnExactBlendPosesWrong : ChangeSpec := { name := "fnExactBlendPoses", fn := fun _ => fun
  | [d1, d2, d3, d4] => { results := [.lit (.bool false)], args := [d1, d2, d3, d4] }
  | _ => none }
def FnExactBlendPosesWrongFalsely : Prop := fnExactBlendPosesRow.holds Try.pinned (OpenSpec.ofChange fnExactBlendPosesWrong)

/-- 'laws.FnExactWorldOf': WHATEVER THE INPUT: true; the input reads as it did. -/
def fnExactWorldOfSpec : ChangeSpec := { name := "fnExactWorldOf", fn := fun _ => fun
  | [d1, d2] => { results := [.lit (.bool true)], args := [d1, d2] }
  | _ => none }
def fnExactWorldOfRow : OpenClaim := { program := "ytlpbpdjledpfbab", sum := "3b1a399df27bee435fe98835eeab7c61697fd888d5125ee9ae3915d733388813", func := "loop.example/g01180/laws.FnExactWorldOf", spec := "fnExactWorldOf", apart := false }
def FnExactWorldOfSaid : Prop := fnExactWorldOfRow.holds Try.pinned (OpenSpec.ofChange fnExactWorldOfSpec)

/-- ITS FALSE NEIGHBOUR: 'it returns false'. Refute it at one input. -/
def fnExactWorldOfWrong : ChangeSpec := { name := "fnExactWorldOf", fn := fun _ => fun
  | [d1, d2] => { results := [.lit (.bool false)], args := [d1, d2] }
  | _ => none }
def FnExactWorldOfWrongFalsely : Prop := fnExactWorldOfRow.holds Try.pinned (OpenSpec.ofChange fnExactWorldOfWrong)

/- THE SECOND FORM. 'bulk': how many values and letters a reading holds, each counted each time it is reached (what is shared counts as often as it is met; a slice's spare places count too). A statement '..UptoSaid' is the law's where the arguments, and the package variables that the reading takes, are together of bulk at most 1048576: NARROWER than '..Said'. Prove '..Said' where nothing that the law and all that it calls make is longer than what came in: it says more and counts as full. Else prove '..UptoSaid'. A law counts once. -/
mutual
def uptoBulk {H : Type} : DataW H → Nat
  | .lit (.string bytes) => bytes.length + 1
  | .lit _ => 1
  | .nil => 1
  | .ptr d => uptoBulk d + 1
  | .slice elems spare => uptoBulkAll elems + uptoBulkAll spare + 1
  | .agg parts => uptoBulkAll parts + 1
  | .iface _ d => uptoBulk d + 1
  | .map entries => uptoBulkEntries entries + 1
  | .held _ => 1
def uptoBulkAll {H : Type} : List (DataW H) → Nat
  | [] => 0
  | d :: r => uptoBulk d + uptoBulkAll r
def uptoBulkEntries {H : Type} : List (Lit × DataW H) → Nat
  | [] => 0
  | x :: r => uptoBulkEntry x + uptoBulkEntries r
def uptoBulkEntry {H : Type} : Lit × DataW H → Nat
  | (.string bytes, d) => bytes.length + uptoBulk d + 1
  | (_, d) => uptoBulk d + 1
 end
def uptoSmall : (H : Type) → List (DataW H) → Bool := fun _ ds => decide (uptoBulkAll ds ≤ 1048576)
def OpenSpec.upto (s : _root_.Go.ChangeSpec) : _root_.Go.OpenSpec := { _root_.Go.OpenSpec.ofChange s with cond := some uptoSmall }

/-- 'laws.FnExactIsPairing', WHERE WHAT IT READS IS OF BULK AT MOST 1048576: true; the input reads as it did. -/
def fnExactIsPairingUptoRow : OpenClaim := { program := "ytlpbpdjledpfbab", sum := "3b1a399df27bee435fe98835eeab7c61697fd888d5125ee9ae3915d733388813", func := "loop.example/g01180/laws.FnExactIsPairing", spec := "fnExactIsPairing", unfollowed := true, recurses := true, apart := false, narrowed := true }
def FnExactIsPairingUptoSaid : Prop := fnExactIsPairingUptoRow.holds Try.pinned (OpenSpec.upto fnExactIsPairingSpec)

/-- 'laws.FnExactMirrorSkeleton', WHERE WHAT IT READS IS OF BULK AT MOST 1048576: true; the input reads as it did. -/
def fnExactMirrorSkeletonUptoRow : OpenClaim := { program := "ytlpbpdjledpfbab", sum := "3b1a399df27bee435fe98835eeab7c61697fd888d5125ee9ae3915d733388813", func := "loop.example/g01180/laws.FnExactMirrorSkeleton", spec := "fnExactMirrorSkeleton", unfollowed := true, recurses := true, apart := false, narrowed := true }
def FnExactMirrorSkeletonUptoSaid : Prop := fnExactMirrorSkeletonUptoRow.holds Try.pinned (OpenSpec.upto fnExactMirrorSkeletonSpec)

/-- 'laws.FnExactAddDifference', WHERE WHAT IT READS IS OF BULK AT MOST 1048576: true; the input reads as it did. -/
def fnExactAddDifferenceUptoRow : OpenClaim := { program := "ytlpbpdjledpfbab", sum := "3b1a399df27bee435fe98835eeab7c61697fd888d5125ee9ae3915d733388813", func := "loop.example/g01180/laws.FnExactAddDifference", spec := "fnExactAddDifference", apart := false, narrowed := true }
def FnExactAddDifferenceUptoSaid : Prop := fnExactAddDifferenceUptoRow.holds Try.pinned (OpenSpec.upto fnExactAddDifferenceSpec)

/-- 'laws.FnExactDifferenceOf', WHERE WHAT IT READS IS OF BULK AT MOST 1048576: true; the input reads as it did. -/
def fnExactDifferenceOfUptoRow : OpenClaim := { program := "ytlpbpdjledpfbab", sum := "3b1a399df27bee435fe98835eeab7c61697fd888d5125ee9ae3915d733388813", func := "loop.example/g01180/laws.FnExactDifferenceOf", spec := "fnExactDifferenceOf", apart := false, narrowed := true }
def FnExactDifferenceOfUptoSaid : Prop := fnExactDifferenceOfUptoRow.holds Try.pinned (OpenSpec.upto fnExactDifferenceOfSpec)

/-- 'laws.FnExactLocalOf', WHERE WHAT IT READS IS OF BULK AT MOST 1048576: true; the input reads as it did. -/
def fnExactLocalOfUptoRow : OpenClaim := { program := "ytlpbpdjledpfbab", sum := "3b1a399df27bee435fe98835eeab7c61697fd888d5125ee9ae3915d733388813", func := "loop.example/g01180/laws.FnExactLocalOf", spec := "fnExactLocalOf", apart := false, narrowed := true }
def FnExactLocalOfUptoSaid : Prop := fnExactLocalOfUptoRow.holds Try.pinned (OpenSpec.upto fnExactLocalOfSpec)

/-- 'laws.FnExactMirrorPose', WHERE WHAT IT READS IS OF BULK AT MOST 1048576: true; the input reads as it did. -/
def fnExactMirrorPoseUptoRow : OpenClaim := { program := "ytlpbpdjledpfbab", sum := "3b1a399df27bee435fe98835eeab7c61697fd888d5125ee9ae3915d733388813", func := "loop.example/g01180/laws.FnExactMirrorPose", spec := "fnExactMirrorPose", unfollowed := true, recurses := true, apart := false, narrowed := true }
def FnExactMirrorPoseUptoSaid : Prop := fnExactMirrorPoseUptoRow.holds Try.pinned (OpenSpec.upto fnExactMirrorPoseSpec)

/-- 'laws.FnExactBlendPoses', WHERE WHAT IT READS IS OF BULK AT MOST 1048576: true; the input reads as it did. -/
def fnExactBlendPosesUptoRow : OpenClaim := { program := "ytlpbpdjledpfbab", sum := "3b1a399df27bee435fe98835eeab7c61697fd888d5125ee9ae3915d733388813", func := "loop.example/g01180/laws.FnExactBlendPoses", spec := "fnExactBlendPoses", inPlace := ["math.sqrt"], apart := false, narrowed := true }
def FnExactBlendPosesUptoSaid : Prop := fnExactBlendPosesUptoRow.holds Try.pinned (OpenSpec.upto fnExactBlendPosesSpec)

/-- 'laws.FnExactWorldOf', WHERE WHAT IT READS IS OF BULK AT MOST 1048576: true; the input reads as it did. -/
def fnExactWorldOfUptoRow : OpenClaim := { program := "ytlpbpdjledpfbab", sum := "3b1a399df27bee435fe98835eeab7c61697fd888d5125ee9ae3915d733388813", func := "loop.example/g01180/laws.FnExactWorldOf", spec := "fnExactWorldOf", apart := false, narrowed := true }
def FnExactWorldOfUptoSaid : Prop := fnExactWorldOfUptoRow.holds Try.pinned (OpenSpec.upto fnExactWorldOfSpec)

end Rows
end Go.Proofs.Ytlpbpdjledpfbab
