/-
  No cell of these rows narrows 'for every input' (looked for: loops, veiled, ifaces, maps, wideKeys, modest, calm, conditions, laid).
  DERIVED. THE GIVEN ROWS OF THIS SEAT. 6 by the template 'for every input the law returns true; each argument reads behind the call as it read before'; 0 by the template 'total and deterministic' (their statements: YtbjjadicbcfppaaTotals.lean).
  GIVEN WITH THE SEED: the statements are not yours to turn. If you find one false, say at which input.
  Laid BY PROGRAM, IN A SANDBOX (cutbox-rows.mjs): the forced cells as the released guide's own fill.sh prints them over the translation de5db8a437ed2210… (all of the seat's roots in one cut). By AI agents, Wed Nov 11 2026. No macro, syntax, notation, axiom, sorry.
-/
import Derived.Test.YtbjjadicbcfppaaChecked
import GoSem.Claim
import GoSem.ClaimJoined
import GoSem.ClaimMapViews
import Derived.JoinedTies
import Derived.KernelRfl
namespace Go.Proofs.Ytbjjadicbcfppaa
/- THE CELL 'sum', in the pinned program and in every row, IS THE sha256 OF THE DUMP (.gsa) THAT YtbjjadicbcfppaaProg.lean LOADS. Nothing in Lean hashes anything: it is a label: what it is worth is what the hold of that sum in a sandbox is worth. -/
noncomputable def Try.pinned : Pinned := { name := "ytbjjadicbcfppaa", sum := "de5db8a437ed22101078cccca145290083b5e405b7c06bb335330efe0071d6d8", checked := Try.checked }
namespace Rows
def none {H : Type} : Left H := { results := [], args := [] }

/-- 'laws.FnExactValidPacking': WHATEVER THE INPUT: true; the input reads as it did. -/
def fnExactValidPackingSpec : ChangeSpec := { name := "fnExactValidPacking", fn := fun _ => fun
  | [d] => { results := [.lit (.bool true)], args := [d] }
  | _ => none }
def fnExactValidPackingRow : OpenClaim := { program := "ytbjjadicbcfppaa", sum := "de5db8a437ed22101078cccca145290083b5e405b7c06bb335330efe0071d6d8", func := "loop.example/g01180/laws.FnExactValidPacking", spec := "fnExactValidPacking", apart := false }
def FnExactValidPackingSaid : Prop := fnExactValidPackingRow.holds Try.pinned (OpenSpec.ofChange fnExactValidPackingSpec)

/-- ITS FALSE NEIGHBOUR: 'it returns false'. Refute it at one input. -/
def fnExactValidPackingWrong : ChangeSpec := { name := "fnExactValidPacking", fn := fun _ => fun
  | [d] => { results := [.lit (.bool false)], args := [d] }
  | _ => none }
def FnExactValidPackingWrongFalsely : Prop := fnExactValidPackingRow.holds Try.pinned (OpenSpec.ofChange fnExactValidPackingWrong)

/-- 'laws.FnExactPackedSize': WHATEVER THE INPUT: true; the input reads as it did. -/
def fnExactPackedSizeSpec : ChangeSpec := { name := "fnExactPackedSize", fn := fun _ => fun
  | [d1, d2] => { results := [.lit (.bool true)], args := [d1, d2] }
  | _ => none }
def fnExactPackedSizeRow : OpenClaim := { program := "ytbjjadicbcfppaa", sum := "de5db8a437ed22101078cccca145290083b5e405b7c06bb335330efe0071d6d8", func := "loop.example/g01180/laws.FnExactPackedSize", spec := "fnExactPackedSize", apart := false }
def FnExactPackedSizeSaid : Prop := fnExactPackedSizeRow.holds Try.pinned (OpenSpec.ofChange fnExactPackedSizeSpec)

/-- ITS FALSE NEIGHBOUR: 'it returns false'. Refute it at one input. -/
def fnExactPackedSizeWrong : ChangeSpec := { name := "fnExactPackedSize", fn := fun _ => fun
  | [d1, d2] => { results := [.lit (.bool false)], args := [d1, d2] }
  | _ => none }
def FnExactPackedSizeWrongFalsely : Prop := fnExactPackedSizeRow.holds Try.pinned (OpenSpec.ofChange fnExactPackedSizeWrong)

/-- 'laws.FnExactNumberOf': WHATEVER THE INPUT: true; the input reads as it did. -/
def fnExactNumberOfSpec : ChangeSpec := { name := "fnExactNumberOf", fn := fun _ => fun
  | [d1, d2, d3, d4] => { results := [.lit (.bool true)], args := [d1, d2, d3, d4] }
  | _ => none }
def fnExactNumberOfRow : OpenClaim := { program := "ytbjjadicbcfppaa", sum := "de5db8a437ed22101078cccca145290083b5e405b7c06bb335330efe0071d6d8", func := "loop.example/g01180/laws.FnExactNumberOf", spec := "fnExactNumberOf", apart := false }
def FnExactNumberOfSaid : Prop := fnExactNumberOfRow.holds Try.pinned (OpenSpec.ofChange fnExactNumberOfSpec)

/-- ITS FALSE NEIGHBOUR: 'it returns false'. Refute it at one input. -/
def fnExactNumberOfWrong : ChangeSpec := { name := "fnExactNumberOf", fn := fun _ => fun
  | [d1, d2, d3, d4] => { results := [.lit (.bool false)], args := [d1, d2, d3, d4] }
  | _ => none }
def FnExactNumberOfWrongFalsely : Prop := fnExactNumberOfRow.holds Try.pinned (OpenSpec.ofChange fnExactNumberOfWrong)

/-- 'laws.FnWords': WHATEVER THE INPUT: true; the input reads as it did. -/
def fnWordsSpec : ChangeSpec := { name := "fnWords", fn := fun _ => fun
  | [d1, d2] => { results := [.lit (.bool true)], args := [d1, d2] }
  | _ => none }
def fnWordsRow : OpenClaim := { program := "ytbjjadicbcfppaa", sum := "de5db8a437ed22101078cccca145290083b5e405b7c06bb335330efe0071d6d8", func := "loop.example/g01180/laws.FnWords", spec := "fnWords", apart := false }
def FnWordsSaid : Prop := fnWordsRow.holds Try.pinned (OpenSpec.ofChange fnWordsSpec)

/-- ITS FALSE NEIGHBOUR: 'it returns false'. Refute it at one input. -/
def fnWordsWrong : ChangeSpec := { name := "fnWords", fn := fun _ => fun
  | [d1, d2] => { results := [.lit (.bool false)], args := [d1, d2] }
  | _ => none }
def FnWordsWrongFalsely : Prop := fnWordsRow.holds Try.pinned (OpenSpec.ofChange fnWordsWrong)

/-- 'laws.FnExactUnpackVector': WHATEVER THE INPUT: true; the input reads as it did. -/
def fnExactUnpackVectorSpec : ChangeSpec := { name := "fnExactUnpackVector", fn := fun _ => fun
  | [d1, d2, d3] => { results := [.lit (.bool true)], args := [d1, d2, d3] }
  | _ => none }
def fnExactUnpackVectorRow : OpenClaim := { program := "ytbjjadicbcfppaa", sum := "de5db8a437ed22101078cccca145290083b5e405b7c06bb335330efe0071d6d8", func := "loop.example/g01180/laws.FnExactUnpackVector", spec := "fnExactUnpackVector", apart := false }
def FnExactUnpackVectorSaid : Prop := fnExactUnpackVectorRow.holds Try.pinned (OpenSpec.ofChange fnExactUnpackVectorSpec)

/-- ITS FALSE NEIGHBOUR: 'it returns false'. Refute it at one input. -/
def fnExactUnpackVectorWrong : ChangeSpec := { name := "fnExactUnpackVector", fn := fun _ => fun
  | [d1, d2, d3] => { results := [.lit (.bool false)], args := [d1, d2, d3] }
  | _ => none }
def FnExactUnpackVectorWrongFalsely : Prop := fnExactUnpackVectorRow.holds Try.pinned (OpenSpec.ofChange fnExactUnpackVectorWrong)

/-- 'laws.FnExactCodeOf': WHATEVER THE INPUT: true; the input reads as it did. -/
def fnExactCodeOfSpec : ChangeSpec := { name := "fnExactCodeOf", fn := fun _ => fun
  | [d1, d2, d3, d4] => { results := [.lit (.bool true)], args := [d1, d2, d3, d4] }
  | _ => none }
def fnExactCodeOfRow : OpenClaim := { program := "ytbjjadicbcfppaa", sum := "de5db8a437ed22101078cccca145290083b5e405b7c06bb335330efe0071d6d8", func := "loop.example/g01180/laws.FnExactCodeOf", spec := "fnExactCodeOf", inPlace := ["math.RoundToEven"], apart := false }
def FnExactCodeOfSaid : Prop := fnExactCodeOfRow.holds Try.pinned (OpenSpec.ofChange fnExactCodeOfSpec)

/-- ITS FALSE NEIGHBOUR: 'it returns false'. Refute it at one input. -/
def fnExactCodeOfWrong : ChangeSpec := { name := "fnExactCodeOf", fn := fun _ => fun
  | [d1, d2, d3, d4] => { results := [.lit (.bool false)], args := [d1, d2, d3, d4] }
  | _ => none }
def FnExactCodeOfWrongFalsely : Prop := fnExactCodeOfRow.holds Try.pinned (OpenSpec.ofChange fnExactCodeOfWrong)

/- THE SECOND FORM. 'bulk': how many values and letters a reading holds, each counted each time it is reached (what is shared counts as often as it is met; a slice's spare places count too). A statement '..UptoSaid' is the law's where the arguments, and the package variables that the reading takes, are together of bulk at most 1048576: NARROWER than '..Said'. Prove '..Said' where nothing that the law and all that it calls make is longer than what came in: it says more and counts as full. Else prove '..UptoSaid'. A law counts once. -/
mutual
def uptoBulk {H : Type} : DataW H → Nat
  | .lit (.string bytes) => bytes.length + 1
  | .lit _ => 1
  | .nil => 1
  | .ptr d => uptoBulk d + 1
  | .slice elems spare => uptoBulkAll elems + uptoBulkAll spare + 1
  | .agg parts => uptoBulkAll parts + 1
  | .iface _ d => uptoBulk d + 1
  | .map entries => uptoBulkEntries entries + 1
  | .held _ => 1
def uptoBulkAll {H : Type} : List (DataW H) → Nat
  | [] => 0
  | d :: r => uptoBulk d + uptoBulkAll r
def uptoBulkEntries {H : Type} : List (Lit × DataW H) → Nat
  | [] => 0
  | x :: r => uptoBulkEntry x + uptoBulkEntries r
def uptoBulkEntry {H : Type} : Lit × DataW H → Nat
  | (.string bytes, d) => bytes.length + uptoBulk d + 1
  | (_, d) => uptoBulk d + 1
 end
def uptoSmall : (H : Type) → List (DataW H) → Bool := fun _ ds => decide (uptoBulkAll ds ≤ 1048576)
def OpenSpec.upto (s : _root_.Go.ChangeSpec) : _root_.Go.OpenSpec := { _root_.Go.OpenSpec.ofChange s with cond := some uptoSmall }

/-- 'laws.FnExactValidPacking', WHERE WHAT IT READS IS OF BULK AT MOST 1048576: true; the input reads as it did. -/
def fnExactValidPackingUptoRow : OpenClaim := { program := "ytbjjadicbcfppaa", sum := "de5db8a437ed22101078cccca145290083b5e405b7c06bb335330efe0071d6d8", func := "loop.example/g01180/laws.FnExactValidPacking", spec := "fnExactValidPacking", apart := false, narrowed := true }
def FnExactValidPackingUptoSaid : Prop := fnExactValidPackingUptoRow.holds Try.pinned (OpenSpec.upto fnExactValidPackingSpec)

/-- 'laws.FnExactPackedSize', WHERE WHAT IT READS IS OF BULK AT MOST 1048576: true; the input reads as it did. -/
def fnExactPackedSizeUptoRow : OpenClaim := { program := "ytbjjadicbcfppaa", sum := "de5db8a437ed22101078cccca145290083b5e405b7c06bb335330efe0071d6d8", func := "loop.example/g01180/laws.FnExactPackedSize", spec := "fnExactPackedSize", apart := false, narrowed := true }
def FnExactPackedSizeUptoSaid : Prop := fnExactPackedSizeUptoRow.holds Try.pinned (OpenSpec.upto fnExactPackedSizeSpec)

/-- 'laws.FnExactNumberOf', WHERE WHAT IT READS IS OF BULK AT MOST 1048576: true; the input reads as it did. -/
def fnExactNumberOfUptoRow : OpenClaim := { program := "ytbjjadicbcfppaa", sum := "de5db8a437ed22101078cccca145290083b5e405b7c06bb335330efe0071d6d8", func := "loop.example/g01180/laws.FnExactNumberOf", spec := "fnExactNumberOf", apart := false, narrowed := true }
def FnExactNumberOfUptoSaid : Prop := fnExactNumberOfUptoRow.holds Try.pinned (OpenSpec.upto fnExactNumberOfSpec)

/-- 'laws.FnWords', WHERE WHAT IT READS IS OF BULK AT MOST 1048576: true; the input reads as it did. -/
def fnWordsUptoRow : OpenClaim := { program := "ytbjjadicbcfppaa", sum := "de5db8a437ed22101078cccca145290083b5e405b7c06bb335330efe0071d6d8", func := "loop.example/g01180/laws.FnWords", spec := "fnWords", apart := false, narrowed := true }
def FnWordsUptoSaid : Prop := fnWordsUptoRow.holds Try.pinned (OpenSpec.upto fnWordsSpec)

/-- 'laws.FnExactUnpackVector', WHERE WHAT IT READS IS OF BULK AT MOST 1048576: true; the input reads as it did. -/
def fnExactUnpackVectorUptoRow : OpenClaim := { program := "ytbjjadicbcfppaa", sum := "de5db8a437ed22101078cccca145290083b5e405b7c06bb335330efe0071d6d8", func := "loop.example/g01180/laws.FnExactUnpackVector", spec := "fnExactUnpackVector", apart := false, narrowed := true }
def FnExactUnpackVectorUptoSaid : Prop := fnExactUnpackVectorUptoRow.holds Try.pinned (OpenSpec.upto fnExactUnpackVectorSpec)

/-- 'laws.FnExactCodeOf', WHERE WHAT IT READS IS OF BULK AT MOST 1048576: true; the input reads as it did. -/
def fnExactCodeOfUptoRow : OpenClaim := { program := "ytbjjadicbcfppaa", sum := "de5db8a437ed22101078cccca145290083b5e405b7c06bb335330efe0071d6d8", func := "loop.example/g01180/laws.FnExactCodeOf", spec := "fnExactCodeOf", inPlace := ["math.RoundToEven"], apart := false, narrowed := true }
def FnExactCodeOfUptoSaid : Prop := fnExactCodeOfUptoRow.holds Try.pinned (OpenSpec.upto fnExactCodeOfSpec)

end Rows
end Go.Proofs.Ytbjjadicbcfppaa
