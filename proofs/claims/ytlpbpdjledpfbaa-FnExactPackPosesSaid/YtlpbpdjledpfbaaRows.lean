/-
  No cell of these rows narrows 'for every input' (looked for: loops, veiled, ifaces, maps, wideKeys, modest, calm, conditions, laid).
  DERIVED. THE GIVEN ROWS OF THIS SEAT. 8 by the template 'for every input the law returns true; each argument reads behind the call as it read before'; 0 by the template 'total and deterministic' (their statements: YtlpbpdjledpfbaaTotals.lean).
  GIVEN WITH THE SEED: the statements are not yours to turn. If you find one false, say at which input.
  Laid BY PROGRAM, IN A SANDBOX (cutbox-rows.mjs): the forced cells as the released guide's own fill.sh prints them over the translation 88095d1710ed9fab… (all of the seat's roots in one cut). By AI agents, Wed Nov 11 2026. No macro, syntax, notation, axiom, sorry.
-/
import Derived.Test.YtlpbpdjledpfbaaChecked
import GoSem.Claim
import GoSem.ClaimJoined
import GoSem.ClaimMapViews
import Derived.JoinedTies
import Derived.KernelRfl
namespace Go.Proofs.Ytlpbpdjledpfbaa
/- THE CELL 'sum', in the pinned program and in every row, IS THE sha256 OF THE DUMP (.gsa) THAT YtlpbpdjledpfbaaProg.lean LOADS. Nothing in Lean hashes anything: it is a label: what it is worth is what the hold of that sum in a sandbox is worth. -/
noncomputable def Try.pinned : Pinned := { name := "ytlpbpdjledpfbaa", sum := "88095d1710ed9fab28bb36adcad6eb0bb26414b3779bd358f793c8c18cd7db70", checked := Try.checked }
namespace Rows
def none {H : Type} : Left H := { results := [], args := [] }

/-- 'laws.FnWords': WHATEVER THE INPUT: true; the input reads as it did. -/
def fnWordsSpec : ChangeSpec := { name := "fnWords", fn := fun _ => fun
  | [d1, d2] => { results := [.lit (.bool true)], args := [d1, d2] }
  | _ => none }
def fnWordsRow : OpenClaim := { program := "ytlpbpdjledpfbaa", sum := "88095d1710ed9fab28bb36adcad6eb0bb26414b3779bd358f793c8c18cd7db70", func := "loop.example/g01180/laws.FnWords", spec := "fnWords", apart := false }
def FnWordsSaid : Prop := fnWordsRow.holds Try.pinned (OpenSpec.ofChange fnWordsSpec)

/-- ITS FALSE NEIGHBOUR: 'it returns false'. Refute it at one input. -/
def fnWordsWrong : ChangeSpec := { name := "fnWords", fn := fun _ => fun
  | [d1, d2] => { results := [.lit (.bool false)], args := [d1, d2] }
  | _ => none }
def FnWordsWrongFalsely : Prop := fnWordsRow.holds Try.pinned (OpenSpec.ofChange fnWordsWrong)

/-- 'laws.FnExactBytesOfWords': WHATEVER THE INPUT: true; the input reads as it did. -/
def fnExactBytesOfWordsSpec : ChangeSpec := { name := "fnExactBytesOfWords", fn := fun _ => fun
  | [d1, d2] => { results := [.lit (.bool true)], args := [d1, d2] }
  | _ => none }
def fnExactBytesOfWordsRow : OpenClaim := { program := "ytlpbpdjledpfbaa", sum := "88095d1710ed9fab28bb36adcad6eb0bb26414b3779bd358f793c8c18cd7db70", func := "loop.example/g01180/laws.FnExactBytesOfWords", spec := "fnExactBytesOfWords", apart := false }
def FnExactBytesOfWordsSaid : Prop := fnExactBytesOfWordsRow.holds Try.pinned (OpenSpec.ofChange fnExactBytesOfWordsSpec)

/-- ITS FALSE NEIGHBOUR: 'it returns false'. Refute it at one input. -/
def fnExactBytesOfWordsWrong : ChangeSpec := { name := "fnExactBytesOfWords", fn := fun _ => fun
  | [d1, d2] => { results := [.lit (.bool false)], args := [d1, d2] }
  | _ => none }
def FnExactBytesOfWordsWrongFalsely : Prop := fnExactBytesOfWordsRow.holds Try.pinned (OpenSpec.ofChange fnExactBytesOfWordsWrong)

/-- 'laws.FnExactWordsOfBytes': WHATEVER THE INPUT: true; the input reads as it did. -/
def fnExactWordsOfBytesSpec : ChangeSpec := { name := "fnExactWordsOfBytes", fn := fun _ => fun
  | [d1, d2] => { results := [.lit (.bool true)], args := [d1, d2] }
  | _ => none }
def fnExactWordsOfBytesRow : OpenClaim := { program := "ytlpbpdjledpfbaa", sum := "88095d1710ed9fab28bb36adcad6eb0bb26414b3779bd358f793c8c18cd7db70", func := "loop.example/g01180/laws.FnExactWordsOfBytes", spec := "fnExactWordsOfBytes", apart := false }
def FnExactWordsOfBytesSaid : Prop := fnExactWordsOfBytesRow.holds Try.pinned (OpenSpec.ofChange fnExactWordsOfBytesSpec)

/-- ITS FALSE NEIGHBOUR: 'it returns false'. Refute it at one input. -/
def fnExactWordsOfBytesWrong : ChangeSpec := { name := "fnExactWordsOfBytes", fn := fun _ => fun
  | [d1, d2] => { results := [.lit (.bool false)], args := [d1, d2] }
  | _ => none }
def FnExactWordsOfBytesWrongFalsely : Prop := fnExactWordsOfBytesRow.holds Try.pinned (OpenSpec.ofChange fnExactWordsOfBytesWrong)

/-- 'laws.FnExactUnpackTurn': WHATEVER THE INPUT: true; the input reads as it did. -/
def fnExactUnpackTurnSpec : ChangeSpec := { name := "fnExactUnpackTurn", fn := fun _ => fun
  | [d1, d2] => { results := [.lit (.bool true)], args := [d1, d2] }
  | _ => none }
def fnExactUnpackTurnRow : OpenClaim := { program := "ytlpbpdjledpfbaa", sum := "88095d1710ed9fab28bb36adcad6eb0bb26414b3779bd358f793c8c18cd7db70", func := "loop.example/g01180/laws.FnExactUnpackTurn", spec := "fnExactUnpackTurn", inPlace := ["math.sqrt"], apart := false }
def FnExactUnpackTurnSaid : Prop := fnExactUnpackTurnRow.holds Try.pinned (OpenSpec.ofChange fnExactUnpackTurnSpec)

/-- ITS FALSE NEIGHBOUR: 'it returns false'. Refute it at one input. -/
def fnExactUnpackTurnWrong : ChangeSpec := { name := "fnExactUnpackTurn", fn := fun _ => fun
  | [d1, d2] => { results := [.lit (.bool false)], args := [d1, d2] }
  | _ => none }
def FnExactUnpackTurnWrongFalsely : Prop := fnExactUnpackTurnRow.holds Try.pinned (OpenSpec.ofChange fnExactUnpackTurnWrong)

/-- 'laws.FnExactPackTurn': WHATEVER THE INPUT: true; the input reads as it did. -/
def fnExactPackTurnSpec : ChangeSpec := { name := "fnExactPackTurn", fn := fun _ => fun
  | [d1, d2] => { results := [.lit (.bool true)], args := [d1, d2] }
  | _ => none }
def fnExactPackTurnRow : OpenClaim := { program := "ytlpbpdjledpfbaa", sum := "88095d1710ed9fab28bb36adcad6eb0bb26414b3779bd358f793c8c18cd7db70", func := "loop.example/g01180/laws.FnExactPackTurn", spec := "fnExactPackTurn", inPlace := ["math.sqrt", "math.Float32bits", "math.Float32frombits", "math.RoundToEven", "math.Float64bits", "math.Float64frombits"], apart := false }
def FnExactPackTurnSaid : Prop := fnExactPackTurnRow.holds Try.pinned (OpenSpec.ofChange fnExactPackTurnSpec)

/-- ITS FALSE NEIGHBOUR: 'it returns false'. Refute it at one input. -/
def fnExactPackTurnWrong : ChangeSpec := { name := "fnExactPackTurn", fn := fun _ => fun
  | [d1, d2] => { results := [.lit (.bool false)], args := [d1, d2] }
  | _ => none }
def FnExactPackTurnWrongFalsely : Prop := fnExactPackTurnRow.holds Try.pinned (OpenSpec.ofChange fnExactPackTurnWrong)

/-- 'laws.FnExactUnpackPose': WHATEVER THE INPUT: true; the input reads as it did. -/
def fnExactUnpackPoseSpec : ChangeSpec := { name := "fnExactUnpackPose", fn := fun _ => fun
  | [d1, d2, d3] => { results := [.lit (.bool true)], args := [d1, d2, d3] }
  | _ => none }
def fnExactUnpackPoseRow : OpenClaim := { program := "ytlpbpdjledpfbaa", sum := "88095d1710ed9fab28bb36adcad6eb0bb26414b3779bd358f793c8c18cd7db70", func := "loop.example/g01180/laws.FnExactUnpackPose", spec := "fnExactUnpackPose", inPlace := ["math.sqrt"], apart := false }
def FnExactUnpackPoseSaid : Prop := fnExactUnpackPoseRow.holds Try.pinned (OpenSpec.ofChange fnExactUnpackPoseSpec)

/-- ITS FALSE NEIGHBOUR: 'it returns false'. Refute it at one input. -/
def fnExactUnpackPoseWrong : ChangeSpec := { name := "fnExactUnpackPose", fn := fun _ => fun
  | [d1, d2, d3] => { results := [.lit (.bool false)], args := [d1, d2, d3] }
  | _ => none }
def FnExactUnpackPoseWrongFalsely : Prop := fnExactUnpackPoseRow.holds Try.pinned (OpenSpec.ofChange fnExactUnpackPoseWrong)

/-- 'laws.FnExactPackPose': WHATEVER THE INPUT: true; the input reads as it did. -/
def fnExactPackPoseSpec : ChangeSpec := { name := "fnExactPackPose", fn := fun _ => fun
  | [d1, d2] => { results := [.lit (.bool true)], args := [d1, d2] }
  | _ => none }
def fnExactPackPoseRow : OpenClaim := { program := "ytlpbpdjledpfbaa", sum := "88095d1710ed9fab28bb36adcad6eb0bb26414b3779bd358f793c8c18cd7db70", func := "loop.example/g01180/laws.FnExactPackPose", spec := "fnExactPackPose", inPlace := ["math.RoundToEven", "math.sqrt", "math.Float32bits", "math.Float32frombits", "math.Float64bits", "math.Float64frombits"], apart := false }
def FnExactPackPoseSaid : Prop := fnExactPackPoseRow.holds Try.pinned (OpenSpec.ofChange fnExactPackPoseSpec)

/-- ITS FALSE NEIGHBOUR: 'it returns false'. Refute it at one input. -/
def fnExactPackPoseWrong : ChangeSpec := { name := "fnExactPackPose", fn := fun _ => fun
  | [d1, d2] => { results := [.lit (.bool false)], args := [d1, d2] }
  | _ => none }
def FnExactPackPoseWrongFalsely : Prop := fnExactPackPoseRow.holds Try.pinned (OpenSpec.ofChange fnExactPackPoseWrong)

/-- 'laws.FnExactPackPoses': WHATEVER THE INPUT: true; the input reads as it did. -/
def fnExactPackPosesSpec : ChangeSpec := { name := "fnExactPackPoses", fn := fun _ => fun
  | [d1, d2] => { results := [.lit (.bool true)], args := [d1, d2] }
  | _ => none }
def fnExactPackPosesRow : OpenClaim := { program := "ytlpbpdjledpfbaa", sum := "88095d1710ed9fab28bb36adcad6eb0bb26414b3779bd358f793c8c18cd7db70", func := "loop.example/g01180/laws.FnExactPackPoses", spec := "fnExactPackPoses", inPlace := ["math.RoundToEven", "math.sqrt", "math.Float32bits", "math.Float32frombits", "math.Float64bits", "math.Float64frombits"], apart := false }
def FnExactPackPosesSaid : Prop := fnExactPackPosesRow.holds Try.pinned (OpenSpec.ofChange fnExactPackPosesSpec)

/-- ITS FALSE NEIGHBOUR: 'it returns false'. Refute it at one input. -/
def fnExactPackPosesWrong : ChangeSpec := { name := "fnExactPackPoses", fn := fun _ => fun
  | [d1, d2] => { results := [.lit (.bool false)], args := [d1, d2] }
  | _ => none }
def FnExactPackPosesWrongFalsely : Prop := fnExactPackPosesRow.holds Try.pinned (OpenSpec.ofChange fnExactPackPosesWrong)

/- THE SECOND FORM. 'bulk': how many values and letters a reading holds, each counted each time it is reached (what is shared counts as often as it is met; a slice's spare places count too). A statement '..UptoSaid' is the law's where the arguments, and the package variables that the reading takes, are together of bulk at most 1048576: NARROWER than '..Said'. Prove '..Said' where nothing that the law and all that it calls make is longer than what came in: it says more and counts as full. Else prove '..UptoSaid'. A law counts once. -/
mutual
def uptoBulk {H : Type} : DataW H → Nat
  | .lit (.string bytes) => bytes.length + 1
  | .lit _ => 1
  | .nil => 1
  | .ptr d => uptoBulk d + 1
  | .slice elems spare => uptoBulkAll elems + uptoBulkAll spare + 1
  | .agg parts => uptoBulkAll parts + 1
  | .iface _ d => uptoBulk d + 1
  | .map entries => uptoBulkEntries entries + 1
  | .held _ => 1
def uptoBulkAll {H : Type} : List (DataW H) → Nat
  | [] => 0
  | d :: r => uptoBulk d + uptoBulkAll r
def uptoBulkEntries {H : Type} : List (Lit × DataW H) → Nat
  | [] => 0
  | x :: r => uptoBulkEntry x + uptoBulkEntries r
def uptoBulkEntry {H : Type} : Lit × DataW H → Nat
  | (.string bytes, d) => bytes.length + uptoBulk d + 1
  | (_, d) => uptoBulk d + 1
 end
def uptoSmall : (H : Type) → List (DataW H) → Bool := fun _ ds => decide (uptoBulkAll ds ≤ 1048576)
def OpenSpec.upto (s : _root_.Go.ChangeSpec) : _root_.Go.OpenSpec := { _root_.Go.OpenSpec.ofChange s with cond := some uptoSmall }

/-- 'laws.FnWords', WHERE WHAT IT READS IS OF BULK AT MOST 1048576: true; the input reads as it did. -/
def fnWordsUptoRow : OpenClaim := { program := "ytlpbpdjledpfbaa", sum := "88095d1710ed9fab28bb36adcad6eb0bb26414b3779bd358f793c8c18cd7db70", func := "loop.example/g01180/laws.FnWords", spec := "fnWords", apart := false, narrowed := true }
def FnWordsUptoSaid : Prop := fnWordsUptoRow.holds Try.pinned (OpenSpec.upto fnWordsSpec)

/-- 'laws.FnExactBytesOfWords', WHERE WHAT IT READS IS OF BULK AT MOST 1048576: true; the input reads as it did. -/
def fnExactBytesOfWordsUptoRow : OpenClaim := { program := "ytlpbpdjledpfbaa", sum := "88095d1710ed9fab28bb36adcad6eb0bb26414b3779bd358f793c8c18cd7db70", func := "loop.example/g01180/laws.FnExactBytesOfWords", spec := "fnExactBytesOfWords", apart := false, narrowed := true }
def FnExactBytesOfWordsUptoSaid : Prop := fnExactBytesOfWordsUptoRow.holds Try.pinned (OpenSpec.upto fnExactBytesOfWordsSpec)

/-- 'laws.FnExactWordsOfBytes', WHERE WHAT IT READS IS OF BULK AT MOST 1048576: true; the input reads as it did. -/
def fnExactWordsOfBytesUptoRow : OpenClaim := { program := "ytlpbpdjledpfbaa", sum := "88095d1710ed9fab28bb36adcad6eb0bb26414b3779bd358f793c8c18cd7db70", func := "loop.example/g01180/laws.FnExactWordsOfBytes", spec := "fnExactWordsOfBytes", apart := false, narrowed := true }
def FnExactWordsOfBytesUptoSaid : Prop := fnExactWordsOfBytesUptoRow.holds Try.pinned (OpenSpec.upto fnExactWordsOfBytesSpec)

/-- 'laws.FnExactUnpackTurn', WHERE WHAT IT READS IS OF BULK AT MOST 1048576: true; the input reads as it did. -/
def fnExactUnpackTurnUptoRow : OpenClaim := { program := "ytlpbpdjledpfbaa", sum := "88095d1710ed9fab28bb36adcad6eb0bb26414b3779bd358f793c8c18cd7db70", func := "loop.example/g01180/laws.FnExactUnpackTurn", spec := "fnExactUnpackTurn", inPlace := ["math.sqrt"], apart := false, narrowed := true }
def FnExactUnpackTurnUptoSaid : Prop := fnExactUnpackTurnUptoRow.holds Try.pinned (OpenSpec.upto fnExactUnpackTurnSpec)

/-- 'laws.FnExactPackTurn', WHERE WHAT IT READS IS OF BULK AT MOST 1048576: true; the input reads as it did. -/
def fnExactPackTurnUptoRow : OpenClaim := { program := "ytlpbpdjledpfbaa", sum := "88095d1710ed9fab28bb36adcad6eb0bb26414b3779bd358f793c8c18cd7db70", func := "loop.example/g01180/laws.FnExactPackTurn", spec := "fnExactPackTurn", inPlace := ["math.sqrt", "math.Float32bits", "math.Float32frombits", "math.RoundToEven", "math.Float64bits", "math.Float64frombits"], apart := false, narrowed := true }
def FnExactPackTurnUptoSaid : Prop := fnExactPackTurnUptoRow.holds Try.pinned (OpenSpec.upto fnExactPackTurnSpec)

/-- 'laws.FnExactUnpackPose', WHERE WHAT IT READS IS OF BULK AT MOST 1048576: true; the input reads as it did. -/
def fnExactUnpackPoseUptoRow : OpenClaim := { program := "ytlpbpdjledpfbaa", sum := "88095d1710ed9fab28bb36adcad6eb0bb26414b3779bd358f793c8c18cd7db70", func := "loop.example/g01180/laws.FnExactUnpackPose", spec := "fnExactUnpackPose", inPlace := ["math.sqrt"], apart := false, narrowed := true }
def FnExactUnpackPoseUptoSaid : Prop := fnExactUnpackPoseUptoRow.holds Try.pinned (OpenSpec.upto fnExactUnpackPoseSpec)

/-- 'laws.FnExactPackPose', WHERE WHAT IT READS IS OF BULK AT MOST 1048576: true; the input reads as it did. -/
def fnExactPackPoseUptoRow : OpenClaim := { program := "ytlpbpdjledpfbaa", sum := "88095d1710ed9fab28bb36adcad6eb0bb26414b3779bd358f793c8c18cd7db70", func := "loop.example/g01180/laws.FnExactPackPose", spec := "fnExactPackPose", inPlace := ["math.RoundToEven", "math.sqrt", "math.Float32bits", "math.Float32frombits", "math.Float64bits", "math.Float64frombits"], apart := false, narrowed := true }
def FnExactPackPoseUptoSaid : Prop := fnExactPackPoseUptoRow.holds Try.pinned (OpenSpec.upto fnExactPackPoseSpec)

/-- 'laws.FnExactPackPoses', WHERE WHAT IT READS IS OF BULK AT MOST 1048576: true; the input reads as it did. -/
def fnExactPackPosesUptoRow : OpenClaim := { program := "ytlpbpdjledpfbaa", sum := "88095d1710ed9fab28bb36adcad6eb0bb26414b3779bd358f793c8c18cd7db70", func := "loop.example/g01180/laws.FnExactPackPoses", spec := "fnExactPackPoses", inPlace := ["math.RoundToEven", "math.sqrt", "math.Float32bits", "math.Float32frombits", "math.Float64bits", "math.Float64frombits"], apart := false, narrowed := true }
def FnExactPackPosesUptoSaid : Prop := fnExactPackPosesUptoRow.holds Try.pinned (OpenSpec.upto fnExactPackPosesSpec)

end Rows
end Go.Proofs.Ytlpbpdjledpfbaa
