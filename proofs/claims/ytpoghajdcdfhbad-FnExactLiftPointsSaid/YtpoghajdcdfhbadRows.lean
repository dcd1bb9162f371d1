/-
  No cell of these rows narrows 'for every input' (looked for: loops, veiled, ifaces, maps, wideKeys, modest, calm, conditions, laid).
  DERIVED. THE GIVEN ROWS OF THIS SEAT. 7 by the template 'for every input the law returns true; each argument reads behind the call as it read before'; 0 by the template 'total and deterministic' (their statements: YtpoghajdcdfhbadTotals.lean).
  GIVEN WITH THE SEED: the statements are not yours to turn. If you find one false, say at which input.
  Laid BY PROGRAM, IN A SANDBOX (cutbox-rows.mjs): the forced cells as the released guide's own fill.sh prints them over the translation 5c7357fc245d0fc1… (all of the seat's roots in one cut). By AI agents, Wed Nov 11 2026. No macro, syntax, notation, axiom, sorry.
-/
import Derived.Test.YtpoghajdcdfhbadChecked
import GoSem.Claim
import GoSem.ClaimJoined
import GoSem.ClaimMapViews
import Derived.JoinedTies
import Derived.KernelRfl
namespace Go.Proofs.Ytpoghajdcdfhbad
/- THE CELL 'sum', in the pinned program and in every row, IS THE sha256 OF THE DUMP (.gsa) THAT YtpoghajdcdfhbadProg.lean LOADS. Nothing in Lean hashes anything: it is a label: what it is worth is what the hold of that sum in a sandbox is worth. -/
noncomputable def Try.pinned : Pinned := { name := "ytpoghajdcdfhbad", sum := "5c7357fc245d0fc1947ae0059f6c17d7f4f8c40e07d7a3d688651a117b0bca4b", checked := Try.checked }
namespace Rows
def none {H : Type} : Left H := { results := [], args := [] }

/-- 'laws.FnExactWorldOf': WHATEVER THE INPUT: true; the input reads as it did. -/
def fnExactWorldOfSpec : ChangeSpec := { name := "fnExactWorldOf", fn := fun _ => fun
  | [d1, d2] => { results := [.lit (.bool true)], args := [d1, d2] }
  | _ => none }
def fnExactWorldOfRow : OpenClaim := { program := "ytpoghajdcdfhbad", sum := "5c7357fc245d0fc1947ae0059f6c17d7f4f8c40e07d7a3d688651a117b0bca4b", func := "loop.example/g01180/laws.FnExactWorldOf", spec := "fnExactWorldOf", apart := false }
def FnExactWorldOfSaid : Prop := fnExactWorldOfRow.holds Try.pinned (OpenSpec.ofChange fnExactWorldOfSpec)

/-- ITS FALSE NEIGHBOUR: 'it returns false'. Refute it at one input. -/
def fnExactWorldOfWrong : ChangeSpec := { name := "fnExactWorldOf", fn := fun _ => fun
  | [d1, d2] => { results := [.lit (.bool false)], args := [d1, d2] }
  | _ => none }
def FnExactWorldOfWrongFalsely : Prop := fnExactWorldOfRow.holds Try.pinned (OpenSpec.ofChange fnExactWorldOfWrong)

/-- 'laws.FnExactMixTurns': WHATEVER THE INPUT: true; the input reads as it did. -/
def fnExactMixTurnsSpec : ChangeSpec := { name := "fnExactMixTurns", fn := fun _ => fun
  | [d1, d2] => { results := [.lit (.bool true)], args := [d1, d2] }
  | _ => none }
def fnExactMixTurnsRow : OpenClaim := { program := "ytpoghajdcdfhbad", sum := "5c7357fc245d0fc1947ae0059f6c17d7f4f8c40e07d7a3d688651a117b0bca4b", func := "loop.example/g01180/laws.FnExactMixTurns", spec := "fnExactMixTurns", inPlace := ["math.sqrt"], apart := false }
def FnExactMixTurnsSaid : Prop := fnExactMixTurnsRow.holds Try.pinned (OpenSpec.ofChange fnExactMixTurnsSpec)

/-- ITS FALSE NEIGHBOUR: 'it returns false'. Refute it at one input. -/
def fnExactMixTurnsWrong : ChangeSpec := { name := "fnExactMixTurns", fn := fun _ => fun
  | [d1, d2] => { results := [.lit (.bool false)], args := [d1, d2] }
  | _ => none }
def FnExactMixTurnsWrongFalsely : Prop := fnExactMixTurnsRow.holds Try.pinned (OpenSpec.ofChange fnExactMixTurnsWrong)

/-- 'laws.FnExactLiftPoints': WHATEVER THE INPUT: true; the input reads as it did. -/
def fnExactLiftPointsSpec : ChangeSpec := { name := "fnExactLiftPoints", fn := fun _ => fun
  | [d1, d2] => { results := [.lit (.bool true)], args := [d1, d2] }
  | _ => none }
def fnExactLiftPointsRow : OpenClaim := { program := "ytpoghajdcdfhbad", sum := "5c7357fc245d0fc1947ae0059f6c17d7f4f8c40e07d7a3d688651a117b0bca4b", func := "loop.example/g01180/laws.FnExactLiftPoints", spec := "fnExactLiftPoints", apart := false }
def FnExactLiftPointsSaid : Prop := fnExactLiftPointsRow.holds Try.pinned (OpenSpec.ofChange fnExactLiftPointsSpec)

/-- ITS FALSE NEIGHBOUR: 'it returns false'. Refute it at one input. -/
def fnExactLiftPointsWrong : ChangeSpec := { name := "fnExactLiftPoints", fn := fun _ => fun
  | [d1, d2] => { results := [.lit (.bool false)], args := [d1, d2] }
  | _ => none }
def FnExactLiftPointsWrongFalsely : Prop := fnExactLiftPointsRow.holds Try.pinned (OpenSpec.ofChange fnExactLiftPointsWrong)

/-- 'laws.FnExactPlaceAt': WHATEVER THE INPUT: true; the input reads as it did. -/
def fnExactPlaceAtSpec : ChangeSpec := { name := "fnExactPlaceAt", fn := fun _ => fun
  | [d1, d2, d3] => { results := [.lit (.bool true)], args := [d1, d2, d3] }
  | _ => none }
def fnExactPlaceAtRow : OpenClaim := { program := "ytpoghajdcdfhbad", sum := "5c7357fc245d0fc1947ae0059f6c17d7f4f8c40e07d7a3d688651a117b0bca4b", func := "loop.example/g01180/laws.FnExactPlaceAt", spec := "fnExactPlaceAt", inPlace := ["math.sqrt"], apart := false }
def FnExactPlaceAtSaid : Prop := fnExactPlaceAtRow.holds Try.pinned (OpenSpec.ofChange fnExactPlaceAtSpec)

/-- ITS FALSE NEIGHBOUR: 'it returns false'. Refute it at one input. -/
def fnExactPlaceAtWrong : ChangeSpec := { name := "fnExactPlaceAt", fn := fun _ => fun
  | [d1, d2, d3] => { results := [.lit (.bool false)], args := [d1, d2, d3] }
  | _ => none }
def FnExactPlaceAtWrongFalsely : Prop := fnExactPlaceAtRow.holds Try.pinned (OpenSpec.ofChange fnExactPlaceAtWrong)

/-- 'laws.FnExactStepTowards': WHATEVER THE INPUT: true; the input reads as it did. -/
def fnExactStepTowardsSpec : ChangeSpec := { name := "fnExactStepTowards", fn := fun _ => fun
  | [d1, d2, d3] => { results := [.lit (.bool true)], args := [d1, d2, d3] }
  | _ => none }
def fnExactStepTowardsRow : OpenClaim := { program := "ytpoghajdcdfhbad", sum := "5c7357fc245d0fc1947ae0059f6c17d7f4f8c40e07d7a3d688651a117b0bca4b", func := "loop.example/g01180/laws.FnExactStepTowards", spec := "fnExactStepTowards", inPlace := ["math.sqrt"], apart := false }
def FnExactStepTowardsSaid : Prop := fnExactStepTowardsRow.holds Try.pinned (OpenSpec.ofChange fnExactStepTowardsSpec)

/-- ITS FALSE NEIGHBOUR: 'it returns false'. Refute it at one input. -/
def fnExactStepTowardsWrong : ChangeSpec := { name := "fnExactStepTowards", fn := fun _ => fun
  | [d1, d2, d3] => { results := [.lit (.bool false)], args := [d1, d2, d3] }
  | _ => none }
def FnExactStepTowardsWrongFalsely : Prop := fnExactStepTowardsRow.holds Try.pinned (OpenSpec.ofChange fnExactStepTowardsWrong)

/-- 'laws.FnExactPointLengths': WHATEVER THE INPUT: true; the input reads as it did. -/
def fnExactPointLengthsSpec : ChangeSpec := { name := "fnExactPointLengths", fn := fun _ => fun
  | [d] => { results := [.lit (.bool true)], args := [d] }
  | _ => none }
def fnExactPointLengthsRow : OpenClaim := { program := "ytpoghajdcdfhbad", sum := "5c7357fc245d0fc1947ae0059f6c17d7f4f8c40e07d7a3d688651a117b0bca4b", func := "loop.example/g01180/laws.FnExactPointLengths", spec := "fnExactPointLengths", inPlace := ["math.sqrt"], apart := false }
def FnExactPointLengthsSaid : Prop := fnExactPointLengthsRow.holds Try.pinned (OpenSpec.ofChange fnExactPointLengthsSpec)

/-- ITS FALSE NEIGHBOUR: 'it returns false'. Refute it at one input. -/
def fnExactPointLengthsWrong : ChangeSpec := { name := "fnExactPointLengths", fn := fun _ => fun
  | [d] => { results := [.lit (.bool false)], args := [d] }
  | _ => none }
def FnExactPointLengthsWrongFalsely : Prop := fnExactPointLengthsRow.holds Try.pinned (OpenSpec.ofChange fnExactPointLengthsWrong)

/-- 'laws.FnExactReachFor': WHATEVER THE INPUT: true; the input reads as it did. -/
def fnExactReachForSpec : ChangeSpec := { name := "fnExactReachFor", fn := fun _ => fun
  | [d1, d2, d3] => { results := [.lit (.bool true)], args := [d1, d2, d3] }
  | _ => none }
def fnExactReachForRow : OpenClaim := { program := "ytpoghajdcdfhbad", sum := "5c7357fc245d0fc1947ae0059f6c17d7f4f8c40e07d7a3d688651a117b0bca4b", func := "loop.example/g01180/laws.FnExactReachFor", spec := "fnExactReachFor", inPlace := ["math.sqrt"], apart := false }
def FnExactReachForSaid : Prop := fnExactReachForRow.holds Try.pinned (OpenSpec.ofChange fnExactReachForSpec)

/-- ITS FALSE NEIGHBOUR: 'it returns false'. Refute it at one input. -/
def fnExactReachForWrong : ChangeSpec := { name := "fnExactReachFor", fn := fun _ => fun
  | [d1, d2, d3] => { results := [.lit (.bool false)], args := [d1, d2, d3] }
  | _ => none }
def FnExactReachForWrongFalsely : Prop := fnExactReachForRow.holds Try.pinned (OpenSpec.ofChange fnExactReachForWrong)

/- THE SECOND FORM. 'bulk': how many values and letters a reading holds, each counted each time it is reached (what is shared counts as often as it is met; a slice's spare places count too). A statement '..UptoSaid' is the law's where the arguments, and the package variables that the reading takes, are together of bulk at most 1048576: NARROWER than '..Said'. Prove '..Said' where nothing that the law and all that it calls make is longer than what came in: it says more and counts as full. Else prove '..UptoSaid'. A law counts once. -/
mutual
def uptoBulk {H : Type} : DataW H → Nat
  | .lit (.string bytes) => bytes.length + 1
  | .lit _ => 1
  | .nil => 1
  | .ptr d => uptoBulk d + 1
  | .slice elems spare => uptoBulkAll elems + uptoBulkAll spare + 1
  | .agg parts => uptoBulkAll parts + 1
  | .iface _ d => uptoBulk d + 1
  | .map entries => uptoBulkEntries entries + 1
  | .held _ => 1
def uptoBulkAll {H : Type} : List (DataW H) → Nat
  | [] => 0
  | d :: r => uptoBulk d + uptoBulkAll r
def uptoBulkEntries {H : Type} : List (Lit × DataW H) → Nat
  | [] => 0
  | x :: r => uptoBulkEntry x + uptoBulkEntries r
def uptoBulkEntry {H : Type} : Lit × DataW H → Nat
  | (.string bytes, d) => bytes.length + uptoBulk d + 1
  | (_, d) => uptoBulk d + 1
 end
def uptoSmall : (H : Type) → List (DataW H) → Bool := fun _ ds => decide (uptoBulkAll ds ≤ 1048576)
def OpenSpec.upto (s : _root_.Go.ChangeSpec) : _root_.Go.OpenSpec := { _root_.Go.OpenSpec.ofChange s with cond := some uptoSmall }

/-- 'laws.FnExactWorldOf', WHERE WHAT IT READS IS OF BULK AT MOST 1048576: true; the input reads as it did. -/
def fnExactWorldOfUptoRow : OpenClaim := { program := "ytpoghajdcdfhbad", sum := "5c7357fc245d0fc1947ae0059f6c17d7f4f8c40e07d7a3d688651a117b0bca4b", func := "loop.example/g01180/laws.FnExactWorldOf", spec := "fnExactWorldOf", apart := false, narrowed := true }
def FnExactWorldOfUptoSaid : Prop := fnExactWorldOfUptoRow.holds Try.pinned (OpenSpec.upto fnExactWorldOfSpec)

/-- 'laws.FnExactMixTurns', WHERE WHAT IT READS IS OF BULK AT MOST 1048576: true; the input reads as it did. -/
def fnExactMixTurnsUptoRow : OpenClaim := { program := "ytpoghajdcdfhbad", sum := "5c7357fc245d0fc1947ae0059f6c17d7f4f8c40e07d7a3d688651a117b0bca4b", func := "loop.example/g01180/laws.FnExactMixTurns", spec := "fnExactMixTurns", inPlace := ["math.sqrt"], apart := false, narrowed := true }
def FnExactMixTurnsUptoSaid : Prop := fnExactMixTurnsUptoRow.holds Try.pinned (OpenSpec.upto fnExactMixTurnsSpec)

/-- 'laws.FnExactLiftPoints', WHERE WHAT IT READS IS OF BULK AT MOST 1048576: true; the input reads as it did. -/
def fnExactLiftPointsUptoRow : OpenClaim := { program := "ytpoghajdcdfhbad", sum := "5c7357fc245d0fc1947ae0059f6c17d7f4f8c40e07d7a3d688651a117b0bca4b", func := "loop.example/g01180/laws.FnExactLiftPoints", spec := "fnExactLiftPoints", apart := false, narrowed := true }
def FnExactLiftPointsUptoSaid : Prop := fnExactLiftPointsUptoRow.holds Try.pinned (OpenSpec.upto fnExactLiftPointsSpec)

/-- 'laws.FnExactPlaceAt', WHERE WHAT IT READS IS OF BULK AT MOST 1048576: true; the input reads as it did. -/
def fnExactPlaceAtUptoRow : OpenClaim := { program := "ytpoghajdcdfhbad", sum := "5c7357fc245d0fc1947ae0059f6c17d7f4f8c40e07d7a3d688651a117b0bca4b", func := "loop.example/g01180/laws.FnExactPlaceAt", spec := "fnExactPlaceAt", inPlace := ["math.sqrt"], apart := false, narrowed := true }
def FnExactPlaceAtUptoSaid : Prop := fnExactPlaceAtUptoRow.holds Try.pinned (OpenSpec.upto fnExactPlaceAtSpec)

/-- 'laws.FnExactStepTowards', WHERE WHAT IT READS IS OF BULK AT MOST 1048576: true; the input reads as it did. -/
def fnExactStepTowardsUptoRow : OpenClaim := { program := "ytpoghajdcdfhbad", sum := "5c7357fc245d0fc1947ae0059f6c17d7f4f8c40e07d7a3d688651a117b0bca4b", func := "loop.example/g01180/laws.FnExactStepTowards", spec := "fnExactStepTowards", inPlace := ["math.sqrt"], apart := false, narrowed := true }
def FnExactStepTowardsUptoSaid : Prop := fnExactStepTowardsUptoRow.holds Try.pinned (OpenSpec.upto fnExactStepTowardsSpec)

/-- 'laws.FnExactPointLengths', WHERE WHAT IT READS IS OF BULK AT MOST 1048576: true; the input reads as it did. -/
def fnExactPointLengthsUptoRow : OpenClaim := { program := "ytpoghajdcdfhbad", sum := "5c7357fc245d0fc1947ae0059f6c17d7f4f8c40e07d7a3d688651a117b0bca4b", func := "loop.example/g01180/laws.FnExactPointLengths", spec := "fnExactPointLengths", inPlace := ["math.sqrt"], apart := false, narrowed := true }
def FnExactPointLengthsUptoSaid : Prop := fnExactPointLengthsUptoRow.holds Try.pinned (OpenSpec.upto fnExactPointLengthsSpec)

/-- 'laws.FnExactReachFor', WHERE WHAT IT READS IS OF BULK AT MOST 1048576: true; the input reads as it did. -/
def fnExactReachForUptoRow : OpenClaim := { program := "ytpoghajdcdfhbad", sum := "5c7357fc245d0fc1947ae0059f6c17d7f4f8c40e07d7a3d688651a117b0bca4b", func := "loop.example/g01180/laws.FnExactReachFor", spec := "fnExactReachFor", inPlace := ["math.sqrt"], apart := false, narrowed := true }
def FnExactReachForUptoSaid : Prop := fnExactReachForUptoRow.holds Try.pinned (OpenSpec.upto fnExactReachForSpec)

end Rows
end Go.Proofs.Ytpoghajdcdfhbad
