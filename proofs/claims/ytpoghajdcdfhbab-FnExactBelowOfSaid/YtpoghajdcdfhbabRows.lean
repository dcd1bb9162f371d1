/-
  No cell of these rows narrows 'for every input' (looked for: loops, veiled, ifaces, maps, wideKeys, modest, calm, conditions, laid).
  DERIVED. THE GIVEN ROWS OF THIS SEAT. 8 by the template 'for every input the law returns true; each argument reads behind the call as it read before'; 0 by the template 'total and deterministic' (their statements: YtpoghajdcdfhbabTotals.lean).
  GIVEN WITH THE SEED: the statements are not yours to turn. If you find one false, say at which input.
  Laid BY PROGRAM, IN A SANDBOX (cutbox-rows.mjs): the forced cells as the released guide's own fill.sh prints them over the translation f51d7038e03dc102… (all of the seat's roots in one cut). By AI agents, Wed Nov 11 2026. No macro, syntax, notation, axiom, sorry.
-/
import Derived.Test.YtpoghajdcdfhbabChecked
import GoSem.Claim
import GoSem.ClaimJoined
import GoSem.ClaimMapViews
import Derived.JoinedTies
import Derived.KernelRfl
namespace Go.Proofs.Ytpoghajdcdfhbab
/- THE CELL 'sum', in the pinned program and in every row, IS THE sha256 OF THE DUMP (.gsa) THAT YtpoghajdcdfhbabProg.lean LOADS. Nothing in Lean hashes anything: it is a label: what it is worth is what the hold of that sum in a sandbox is worth. -/
noncomputable def Try.pinned : Pinned := { name := "ytpoghajdcdfhbab", sum := "f51d7038e03dc1025d078150d3a0c6c14d2569635439ebd71a83fe0d938adfb7", checked := Try.checked }
namespace Rows
def none {H : Type} : Left H := { results := [], args := [] }

/-- 'laws.FnExactBoxOfPlaces': WHATEVER THE INPUT: true; the input reads as it did. -/
def fnExactBoxOfPlacesSpec : ChangeSpec := { name := "fnExactBoxOfPlaces", fn := fun _ => fun
  | [d] => { results := [.lit (.bool true)], args := [d] }
  | _ => none }
def fnExactBoxOfPlacesRow : OpenClaim := { program := "ytpoghajdcdfhbab", sum := "f51d7038e03dc1025d078150d3a0c6c14d2569635439ebd71a83fe0d938adfb7", func := "loop.example/g01180/laws.FnExactBoxOfPlaces", spec := "fnExactBoxOfPlaces", apart := false }
def FnExactBoxOfPlacesSaid : Prop := fnExactBoxOfPlacesRow.holds Try.pinned (OpenSpec.ofChange fnExactBoxOfPlacesSpec)

/-- ITS FALSE NEIGHBOUR: 'it returns false'. Refute it at one input. -/
def fnExactBoxOfPlacesWrong : ChangeSpec := { name := "fnExactBoxOfPlaces", fn := fun _ => fun
  | [d] => { results := [.lit (.bool false)], args := [d] }
  | _ => none }
def FnExactBoxOfPlacesWrongFalsely : Prop := fnExactBoxOfPlacesRow.holds Try.pinned (OpenSpec.ofChange fnExactBoxOfPlacesWrong)

/-- 'laws.FnExactValidSkeleton': WHATEVER THE INPUT: true; the input reads as it did. -/
def fnExactValidSkeletonSpec : ChangeSpec := { name := "fnExactValidSkeleton", fn := fun _ => fun
  | [d] => { results := [.lit (.bool true)], args := [d] }
  | _ => none }
def fnExactValidSkeletonRow : OpenClaim := { program := "ytpoghajdcdfhbab", sum := "f51d7038e03dc1025d078150d3a0c6c14d2569635439ebd71a83fe0d938adfb7", func := "loop.example/g01180/laws.FnExactValidSkeleton", spec := "fnExactValidSkeleton", apart := false }
def FnExactValidSkeletonSaid : Prop := fnExactValidSkeletonRow.holds Try.pinned (OpenSpec.ofChange fnExactValidSkeletonSpec)

/-- ITS FALSE NEIGHBOUR: 'it returns false'. Refute it at one input. -/
def fnExactValidSkeletonWrong : ChangeSpec := { name := "fnExactValidSkeleton", fn := fun _ => fun
  | [d] => { results := [.lit (.bool false)], args := [d] }
  | _ => none }
def FnExactValidSkeletonWrongFalsely : Prop := fnExactValidSkeletonRow.holds Try.pinned (OpenSpec.ofChange fnExactValidSkeletonWrong)

/-- 'laws.FnExactSamePose': WHATEVER THE INPUT: true; the input reads as it did. -/
def fnExactSamePoseSpec : ChangeSpec := { name := "fnExactSamePose", fn := fun _ => fun
  | [d1, d2] => { results := [.lit (.bool true)], args := [d1, d2] }
  | _ => none }
def fnExactSamePoseRow : OpenClaim := { program := "ytpoghajdcdfhbab", sum := "f51d7038e03dc1025d078150d3a0c6c14d2569635439ebd71a83fe0d938adfb7", func := "loop.example/g01180/laws.FnExactSamePose", spec := "fnExactSamePose", inPlace := ["math.Float32bits", "math.Float64bits"], unfollowed := true, recurses := true, apart := false }
def FnExactSamePoseSaid : Prop := fnExactSamePoseRow.holds Try.pinned (OpenSpec.ofChange fnExactSamePoseSpec)

/-- ITS FALSE NEIGHBOUR: 'it returns false'. Refute it at one input. -/
def fnExactSamePoseWrong : ChangeSpec := { name := "fnExactSamePose", fn := fun _ => fun
  | [d1, d2] => { results := [.lit (.bool false)], args := [d1, d2] }
  | _ => none }
def FnExactSamePoseWrongFalsely : Prop := fnExactSamePoseRow.holds Try.pinned (OpenSpec.ofChange fnExactSamePoseWrong)

/-- 'laws.FnExactIsPairing': WHATEVER THE INPUT: true; the input reads as it did. -/
def fnExactIsPairingSpec : ChangeSpec := { name := "fnExactIsPairing", fn := fun _ => fun
  | [d1, d2] => { results := [.lit (.bool true)], args := [d1, d2] }
  | _ => none }
def fnExactIsPairingRow : OpenClaim := { program := "ytpoghajdcdfhbab", sum := "f51d7038e03dc1025d078150d3a0c6c14d2569635439ebd71a83fe0d938adfb7", func := "loop.example/g01180/laws.FnExactIsPairing", spec := "fnExactIsPairing", unfollowed := true, recurses := true, apart := false }
def FnExactIsPairingSaid : Prop := fnExactIsPairingRow.holds Try.pinned (OpenSpec.ofChange fnExactIsPairingSpec)

/-- ITS FALSE NEIGHBOUR: 'it returns false'. Refute it at one input. -/
def fnExactIsPairingWrong : ChangeSpec := { name := "fnExactIsPairing", fn := fun _ => fun
  | [d1, d2] => { results := [.lit (.bool false)], args := [d1, d2] }
  | _ => none }
def FnExactIsPairingWrongFalsely : Prop := fnExactIsPairingRow.holds Try.pinned (OpenSpec.ofChange fnExactIsPairingWrong)

/-- 'laws.FnExactIsPose': WHATEVER THE INPUT: true; the input reads as it did. -/
def fnExactIsPoseSpec : ChangeSpec := { name := "fnExactIsPose", fn := fun _ => fun
  | [d1, d2] => { results := [.lit (.bool true)], args := [d1, d2] }
  | _ => none }
def fnExactIsPoseRow : OpenClaim := { program := "ytpoghajdcdfhbab", sum := "f51d7038e03dc1025d078150d3a0c6c14d2569635439ebd71a83fe0d938adfb7", func := "loop.example/g01180/laws.FnExactIsPose", spec := "fnExactIsPose", apart := false }
def FnExactIsPoseSaid : Prop := fnExactIsPoseRow.holds Try.pinned (OpenSpec.ofChange fnExactIsPoseSpec)

/-- ITS FALSE NEIGHBOUR: 'it returns false'. Refute it at one input. -/
def fnExactIsPoseWrong : ChangeSpec := { name := "fnExactIsPose", fn := fun _ => fun
  | [d1, d2] => { results := [.lit (.bool false)], args := [d1, d2] }
  | _ => none }
def FnExactIsPoseWrongFalsely : Prop := fnExactIsPoseRow.holds Try.pinned (OpenSpec.ofChange fnExactIsPoseWrong)

/-- 'laws.FnExactChainOf': WHATEVER THE INPUT: true; the input reads as it did. -/
def fnExactChainOfSpec : ChangeSpec := { name := "fnExactChainOf", fn := fun _ => fun
  | [d1, d2] => { results := [.lit (.bool true)], args := [d1, d2] }
  | _ => none }
def fnExactChainOfRow : OpenClaim := { program := "ytpoghajdcdfhbab", sum := "f51d7038e03dc1025d078150d3a0c6c14d2569635439ebd71a83fe0d938adfb7", func := "loop.example/g01180/laws.FnExactChainOf", spec := "fnExactChainOf", apart := false }
def FnExactChainOfSaid : Prop := fnExactChainOfRow.holds Try.pinned (OpenSpec.ofChange fnExactChainOfSpec)

/-- ITS FALSE NEIGHBOUR: 'it returns false'. Refute it at one input. -/
def fnExactChainOfWrong : ChangeSpec := { name := "fnExactChainOf", fn := fun _ => fun
  | [d1, d2] => { results := [.lit (.bool false)], args := [d1, d2] }
  | _ => none }
def FnExactChainOfWrongFalsely : Prop := fnExactChainOfRow.holds Try.pinned (OpenSpec.ofChange fnExactChainOfWrong)

/-- 'laws.FnExactBelowOf': WHATEVER THE INPUT: true; the input reads as it did. -/
def fnExactBelowOfSpec : ChangeSpec := { name := "fnExactBelowOf", fn := fun _ => fun
  | [d1, d2] => { results := [.lit (.bool true)], args := [d1, d2] }
  | _ => none }
def fnExactBelowOfRow : OpenClaim := { program := "ytpoghajdcdfhbab", sum := "f51d7038e03dc1025d078150d3a0c6c14d2569635439ebd71a83fe0d938adfb7", func := "loop.example/g01180/laws.FnExactBelowOf", spec := "fnExactBelowOf", apart := false }
def FnExactBelowOfSaid : Prop := fnExactBelowOfRow.holds Try.pinned (OpenSpec.ofChange fnExactBelowOfSpec)

/-- ITS FALSE NEIGHBOUR: 'it returns false'. Refute it at one input. -/
def fnExactBelowOfWrong : ChangeSpec := { name := "fnExactBelowOf", fn := fun _ => fun
  | [d1, d2] => { results := [.lit (.bool false)], args := [d1, d2] }
  | _ => none }
def FnExactBelowOfWrongFalsely : Prop := fnExactBelowOfRow.holds Try.pinned (OpenSpec.ofChange fnExactBelowOfWrong)

/-- 'laws.FnExactMirrorSkeleton': WHATEVER THE INPUT: true; the input reads as it did. -/
def fnExactMirrorSkeletonSpec : ChangeSpec := { name := "fnExactMirrorSkeleton", fn := fun _ => fun
  | [d1, d2] => { results := [.lit (.bool true)], args := [d1, d2] }
  | _ => none }
def fnExactMirrorSkeletonRow : OpenClaim := { program := "ytpoghajdcdfhbab", sum := "f51d7038e03dc1025d078150d3a0c6c14d2569635439ebd71a83fe0d938adfb7", func := "loop.example/g01180/laws.FnExactMirrorSkeleton", spec := "fnExactMirrorSkeleton", unfollowed := true, recurses := true, apart := false }
def FnExactMirrorSkeletonSaid : Prop := fnExactMirrorSkeletonRow.holds Try.pinned (OpenSpec.ofChange fnExactMirrorSkeletonSpec)

/-- ITS FALSE NEIGHBOUR: 'it returns false'. Refute it at one input. -/
def fnExactMirrorSkeletonWrong : ChangeSpec := { name := "fnExactMirrorSkeleton", fn := fun _ => fun
  | [d1, d2] => { results := [.lit (.bool false)], args := [d1, d2] }
  | _ => none }
def FnExactMirrorSkeletonWrongFalsely : Prop := fnExactMirrorSkeletonRow.holds Try.pinned (OpenSpec.ofChange fnExactMirrorSkeletonWrong)

/- THE SECOND FORM. 'bulk': how many values and letters a reading holds, each counted each time it is reached (what is shared counts as often as it is met; a slice's spare places count too). A statement '..UptoSaid' is the law's where the arguments, and the package variables that the reading takes, are together of bulk at most 1048576: NARROWER than '..Said'. Prove '..Said' where nothing that the law and all that it calls make is longer than what came in: it says more and counts as full. Else prove '..UptoSaid'. A law counts once. -/
mutual
def uptoBulk {H : Type} : DataW H → Nat
  | .lit (.string bytes) => bytes.length + 1
  | .lit _ => 1
  | .nil => 1
  | .ptr d => uptoBulk d + 1
  | .slice elems spare => uptoBulkAll elems + uptoBulkAll spare + 1
  | .agg parts => uptoBulkAll parts + 1
  | .iface _ d => uptoBulk d + 1
  | .map entries => uptoBulkEntries entries + 1
  | .held _ => 1
def uptoBulkAll {H : Type} : List (DataW H) → Nat
  | [] => 0
  | d :: r => uptoBulk d + uptoBulkAll r
def uptoBulkEntries {H : Type} : List (Lit × DataW H) → Nat
  | [] => 0
  | x :: r => uptoBulkEntry x + uptoBulkEntries r
def uptoBulkEntry {H : Type} : Lit × DataW H → Nat
  | (.string bytes, d) => bytes.length + uptoBulk d + 1
  | (_, d) => uptoBulk d + 1
 end
def uptoSmall : (H : Type) → List (DataW H) → Bool := fun _ ds => decide (uptoBulkAll ds ≤ 1048576)
def OpenSpec.upto (s : _root_.Go.ChangeSpec) : _root_.Go.OpenSpec := { _root_.Go.OpenSpec.ofChange s with cond := some uptoSmall }

/-- 'laws.FnExactBoxOfPlaces', WHERE WHAT IT READS IS OF BULK AT MOST 1048576: true; the input reads as it did. -/
def fnExactBoxOfPlacesUptoRow : OpenClaim := { program := "ytpoghajdcdfhbab", sum := "f51d7038e03dc1025d078150d3a0c6c14d2569635439ebd71a83fe0d938adfb7", func := "loop.example/g01180/laws.FnExactBoxOfPlaces", spec := "fnExactBoxOfPlaces", apart := false, narrowed := true }
def FnExactBoxOfPlacesUptoSaid : Prop := fnExactBoxOfPlacesUptoRow.holds Try.pinned (OpenSpec.upto fnExactBoxOfPlacesSpec)

/-- 'laws.FnExactValidSkeleton', WHERE WHAT IT READS IS OF BULK AT MOST 1048576: true; the input reads as it did. -/
def fnExactValidSkeletonUptoRow : OpenClaim := { program := "ytpoghajdcdfhbab", sum := "f51d7038e03dc1025d078150d3a0c6c14d2569635439ebd71a83fe0d938adfb7", func := "loop.example/g01180/laws.FnExactValidSkeleton", spec := "fnExactValidSkeleton", apart := false, narrowed := true }
def FnExactValidSkeletonUptoSaid : Prop := fnExactValidSkeletonUptoRow.holds Try.pinned (OpenSpec.upto fnExactValidSkeletonSpec)

/-- 'laws.FnExactSamePose', WHERE WHAT IT READS IS OF BULK AT MOST 1048576: true; the input reads as it did. -/
def fnExactSamePoseUptoRow : OpenClaim := { program := "ytpoghajdcdfhbab", sum := "f51d7038e03dc1025d078150d3a0c6c14d2569635439ebd71a83fe0d938adfb7", func := "loop.example/g01180/laws.FnExactSamePose", spec := "fnExactSamePose", inPlace := ["math.Float32bits", "math.Float64bits"], unfollowed := true, recurses := true, apart := false, narrowed := true }
def FnExactSamePoseUptoSaid : Prop := fnExactSamePoseUptoRow.holds Try.pinned (OpenSpec.upto fnExactSamePoseSpec)

/-- 'laws.FnExactIsPairing', WHERE WHAT IT READS IS OF BULK AT MOST 1048576: true; the input reads as it did. -/
def fnExactIsPairingUptoRow : OpenClaim := { program := "ytpoghajdcdfhbab", sum := "f51d7038e03dc1025d078150d3a0c6c14d2569635439ebd71a83fe0d938adfb7", func := "loop.example/g01180/laws.FnExactIsPairing", spec := "fnExactIsPairing", unfollowed := true, recurses := true, apart := false, narrowed := true }
def FnExactIsPairingUptoSaid : Prop := fnExactIsPairingUptoRow.holds Try.pinned (OpenSpec.upto fnExactIsPairingSpec)

/-- 'laws.FnExactIsPose', WHERE WHAT IT READS IS OF BULK AT MOST 1048576: true; the input reads as it did. -/
def fnExactIsPoseUptoRow : OpenClaim := { program := "ytpoghajdcdfhbab", sum := "f51d7038e03dc1025d078150d3a0c6c14d2569635439ebd71a83fe0d938adfb7", func := "loop.example/g01180/laws.FnExactIsPose", spec := "fnExactIsPose", apart := false, narrowed := true }
def FnExactIsPoseUptoSaid : Prop := fnExactIsPoseUptoRow.holds Try.pinned (OpenSpec.upto fnExactIsPoseSpec)

/-- 'laws.FnExactChainOf', WHERE WHAT IT READS IS OF BULK AT MOST 1048576: true; the input reads as it did. -/
def fnExactChainOfUptoRow : OpenClaim := { program := "ytpoghajdcdfhbab", sum := "f51d7038e03dc1025d078150d3a0c6c14d2569635439ebd71a83fe0d938adfb7", func := "loop.example/g01180/laws.FnExactChainOf", spec := "fnExactChainOf", apart := false, narrowed := true }
def FnExactChainOfUptoSaid : Prop := fnExactChainOfUptoRow.holds Try.pinned (OpenSpec.upto fnExactChainOfSpec)

/-- 'laws.FnExactBelowOf', WHERE WHAT IT READS IS OF BULK AT MOST 1048576: true; the input reads as it did. -/
def fnExactBelowOfUptoRow : OpenClaim := { program := "ytpoghajdcdfhbab", sum := "f51d7038e03dc1025d078150d3a0c6c14d2569635439ebd71a83fe0d938adfb7", func := "loop.example/g01180/laws.FnExactBelowOf", spec := "fnExactBelowOf", apart := false, narrowed := true }
def FnExactBelowOfUptoSaid : Prop := fnExactBelowOfUptoRow.holds Try.pinned (OpenSpec.upto fnExactBelowOfSpec)

/-- 'laws.FnExactMirrorSkeleton', WHERE WHAT IT READS IS OF BULK AT MOST 1048576: true; the input reads as it did. -/
def fnExactMirrorSkeletonUptoRow : OpenClaim := { program := "ytpoghajdcdfhbab", sum := "f51d7038e03dc1025d078150d3a0c6c14d2569635439ebd71a83fe0d938adfb7", func := "loop.example/g01180/laws.FnExactMirrorSkeleton", spec := "fnExactMirrorSkeleton", unfollowed := true, recurses := true, apart := false, narrowed := true }
def FnExactMirrorSkeletonUptoSaid : Prop := fnExactMirrorSkeletonUptoRow.holds Try.pinned (OpenSpec.upto fnExactMirrorSkeletonSpec)

end Rows
end Go.Proofs.Ytpoghajdcdfhbab
