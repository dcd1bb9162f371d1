/-
  No cell of these rows narrows 'for every input' (looked for: loops, veiled, ifaces, maps, wideKeys, modest, calm, conditions, laid).
  DERIVED. THE GIVEN ROWS OF THIS SEAT. 3 by the template 'for every input the law returns true; each argument reads behind the call as it read before'; 0 by the template 'total and deterministic' (their statements: YtadbhabmahpkiaaTotals.lean).
  GIVEN WITH THE SEED: the statements are not yours to turn. If you find one false, say at which input.
  Laid BY PROGRAM, IN A SANDBOX (cutbox-rows.mjs): the forced cells as the released guide's own fill.sh prints them over the translation d64f93663535f3f5… (all of the seat's roots in one cut). By AI agents, Wed Nov 11 2026. No macro, syntax, notation, axiom, sorry.
-/
import Derived.Test.YtadbhabmahpkiaaChecked
import GoSem.Claim
import GoSem.ClaimJoined
import GoSem.ClaimMapViews
import Derived.JoinedTies
import Derived.KernelRfl
namespace Go.Proofs.Ytadbhabmahpkiaa
/- THE CELL 'sum', in the pinned program and in every row, IS THE sha256 OF THE DUMP (.gsa) THAT YtadbhabmahpkiaaProg.lean LOADS. Nothing in Lean hashes anything: it is a label: what it is worth is what the hold of that sum in a sandbox is worth. -/
noncomputable def Try.pinned : Pinned := { name := "ytadbhabmahpkiaa", sum := "d64f93663535f3f5635fcec1aeab92f9201ea3bf43faa12198afb104245e73ab", checked := Try.checked }
namespace Rows
def none {H : Type} : Left H := { results := [], args := [] }

/-- 'laws.FnWords': WHATEVER THE INPUT: true; the input reads as it did. -/
def fnWordsSpec : ChangeSpec := { name := "fnWords", fn := fun _ => fun
  | [d1, d2] => { results := [.lit (.bool true)], args := [d1, d2] }
  | _ => none }
def fnWordsRow : OpenClaim := { program := "ytadbhabmahpkiaa", sum := "d64f93663535f3f5635fcec1aeab92f9201ea3bf43faa12198afb104245e73ab", func := "loop.example/g01180/laws.FnWords", spec := "fnWords", apart := false }
def FnWordsSaid : Prop := fnWordsRow.holds Try.pinned (OpenSpec.ofChange fnWordsSpec)

/-- ITS FALSE NEIGHBOUR: 'it returns false'. Refute it at one input. -/
def fnWordsWrong : ChangeSpec := { name := "fnWords", fn := fun _ => fun
  | [d1, d2] => { results := [.lit (.bool false)], args := [d1, d2] }
  | _ => none }
def FnWordsWrongFalsely : Prop := fnWordsRow.holds Try.pinned (OpenSpec.ofChange fnWordsWrong)

/-- 'laws.FnBends': WHATEVER THE INPUT: true; the input reads as it did. -/
def fnBendsSpec : ChangeSpec := { name := "fnBends", fn := fun _ => fun
  | [d1, d2] => { results := [.lit (.bool true)], args := [d1, d2] }
  | _ => none }
def fnBendsRow : OpenClaim := { program := "ytadbhabmahpkiaa", sum := "d64f93663535f3f5635fcec1aeab92f9201ea3bf43faa12198afb104245e73ab", func := "loop.example/g01180/laws.FnBends", spec := "fnBends", inPlace := ["math.sqrt", "math.Float64bits", "math.Float64frombits", "math.archTrunc"], apart := false }
def FnBendsSaid : Prop := fnBendsRow.holds Try.pinned (OpenSpec.ofChange fnBendsSpec)

/-- ITS FALSE NEIGHBOUR: 'it returns false'. Refute it at one input. -/
def fnBendsWrong : ChangeSpec := { name := "fnBends", fn := fun _ => fun
  | [d1, d2] => { results := [.lit (.bool false)], args := [d1, d2] }
  | _ => none }
def FnBendsWrongFalsely : Prop := fnBendsRow.holds Try.pinned (OpenSpec.ofChange fnBendsWrong)

/-- 'laws.FnExactUnpackPose': WHATEVER THE INPUT: true; the input reads as it did. -/
def fnExactUnpackPoseSpec : ChangeSpec := { name := "fnExactUnpackPose", fn := fun _ => fun
  | [d1, d2, d3] => { results := [.lit (.bool true)], args := [d1, d2, d3] }
  | _ => none }
def fnExactUnpackPoseRow : OpenClaim := { program := "ytadbhabmahpkiaa", sum := "d64f93663535f3f5635fcec1aeab92f9201ea3bf43faa12198afb104245e73ab", func := "loop.example/g01180/laws.FnExactUnpackPose", spec := "fnExactUnpackPose", inPlace := ["math.sqrt"], apart := false }
def FnExactUnpackPoseSaid : Prop := fnExactUnpackPoseRow.holds Try.pinned (OpenSpec.ofChange fnExactUnpackPoseSpec)

/-- ITS FALSE NEIGHBOUR: 'it returns false'. Refute it at one input. -/
def fnExactUnpackPoseWrong : ChangeSpec := { name := "fnExactUnpackPose", fn := fun _ => fun
  | [d1, d2, d3] => { results := [.lit (.bool false)], args := [d1, d2, d3] }
  | _ => none }
def FnExactUnpackPoseWrongFalsely : Prop := fnExactUnpackPoseRow.holds Try.pinned (OpenSpec.ofChange fnExactUnpackPoseWrong)

/- THE SECOND FORM. 'bulk': how many values and letters a reading holds, each counted each time it is reached (what is shared counts as often as it is met; a slice's spare places count too). A statement '..UptoSaid' is the law's where the arguments, and the package variables that the reading takes, are together of bulk at most 1048576: NARROWER than '..Said'. Prove '..Said' where nothing that the law and all that it calls make is longer than what came in: it says more and counts as full. Else prove '..UptoSaid'. A law counts once. -/
mutual
def uptoBulk {H : Type} : DataW H → Nat
  | .lit (.string bytes) => bytes.length + 1
  | .lit _ => 1
  | .nil => 1
  | .ptr d => uptoBulk d + 1
  | .slice elems spare => uptoBulkAll elems + uptoBulkAll spare + 1
  | .agg parts => uptoBulkAll parts + 1
  | .iface _ d => uptoBulk d + 1
  | .map entries => uptoBulkEntries entries + 1
  | .held _ => 1
def uptoBulkAll {H : Type} : List (DataW H) → Nat
  | [] => 0
  | d :: r => uptoBulk d + uptoBulkAll r
def uptoBulkEntries {H : Type} : List (Lit × DataW H) → Nat
  | [] => 0
  | x :: r => uptoBulkEntry x + uptoBulkEntries r
def uptoBulkEntry {H : Type} : Lit × DataW H → Nat
  | (.string bytes, d) => bytes.length + uptoBulk d + 1
  | (_, d) => uptoBulk d + 1
 end
def uptoSmall : (H : Type) → List (DataW H) → Bool := fun _ ds => decide (uptoBulkAll ds ≤ 1048576)
def OpenSpec.upto (s : _root_.Go.ChangeSpec) : _root_.Go.OpenSpec := { _root_.Go.OpenSpec.ofChange s with cond := some uptoSmall }

/-- 'laws.FnWords', WHERE WHAT IT READS IS OF BULK AT MOST 1048576: true; the input reads as it did. -/
def fnWordsUptoRow : OpenClaim := { program := "ytadbhabmahpkiaa", sum := "d64f93663535f3f5635fcec1aeab92f9201ea3bf43faa12198afb104245e73ab", func := "loop.example/g01180/laws.FnWords", spec := "fnWords", apart := false, narrowed := true }
def FnWordsUptoSaid : Prop := fnWordsUptoRow.holds Try.pinned (OpenSpec.upto fnWordsSpec)

/-- 'laws.FnBends', WHERE WHAT IT READS IS OF BULK AT MOST 1048576: true; the input reads as it did. -/
def fnBendsUptoRow : OpenClaim := { program := "ytadbhabmahpkiaa", sum := "d64f93663535f3f5635fcec1aeab92f9201ea3bf43faa12198afb104245e73ab", func := "loop.example/g01180/laws.FnBends", spec := "fnBends", inPlace := ["math.sqrt", "math.Float64bits", "math.Float64frombits", "math.archTrunc"], apart := false, narrowed := true }
def FnBendsUptoSaid : Prop := fnBendsUptoRow.holds Try.pinned (OpenSpec.upto fnBendsSpec)

/-- 'laws.FnExactUnpackPose', WHERE WHAT IT READS IS OF BULK AT MOST 1048576: true; the input reads as it did. -/
def fnExactUnpackPoseUptoRow : OpenClaim := { program := "ytadbhabmahpkiaa", sum := "d64f93663535f3f5635fcec1aeab92f9201ea3bf43faa12198afb104245e73ab", func := "loop.example/g01180/laws.FnExactUnpackPose", spec := "fnExactUnpackPose", inPlace := ["math.sqrt"], apart := false, narrowed := true }
def FnExactUnpackPoseUptoSaid : Prop := fnExactUnpackPoseUptoRow.holds Try.pinned (OpenSpec.upto fnExactUnpackPoseSpec)

end Rows
end Go.Proofs.Ytadbhabmahpkiaa
