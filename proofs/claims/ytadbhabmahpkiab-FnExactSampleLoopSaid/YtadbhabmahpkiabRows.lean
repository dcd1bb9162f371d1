/-
  No cell of these rows narrows 'for every input' (looked for: loops, veiled, ifaces, maps, wideKeys, modest, calm, conditions, laid).
  DERIVED. THE GIVEN ROWS OF THIS SEAT. 3 by the template 'for every input the law returns true; each argument reads behind the call as it read before'; 0 by the template 'total and deterministic' (their statements: YtadbhabmahpkiabTotals.lean).
  GIVEN WITH THE SEED: the statements are not yours to turn. If you find one false, say at which input.
  Laid BY PROGRAM, IN A SANDBOX (cutbox-rows.mjs): the forced cells as the released guide's own fill.sh prints them over the translation 2cd327e457f22820… (all of the seat's roots in one cut). By AI agents, Wed Nov 11 2026. No macro, syntax, notation, axiom, sorry.
-/
import Derived.Test.YtadbhabmahpkiabChecked
import GoSem.Claim
import GoSem.ClaimJoined
import GoSem.ClaimMapViews
import Derived.JoinedTies
import Derived.KernelRfl
namespace Go.Proofs.Ytadbhabmahpkiab
/- THE CELL 'sum', in the pinned program and in every row, IS THE sha256 OF THE DUMP (.gsa) THAT YtadbhabmahpkiabProg.lean LOADS. Nothing in Lean hashes anything: it is a label: what it is worth is what the hold of that sum in a sandbox is worth. -/
noncomputable def Try.pinned : Pinned := { name := "ytadbhabmahpkiab", sum := "2cd327e457f22820d1462e142f140530020472b9d0586e1434df9cf06fb8bc6b", checked := Try.checked }
namespace Rows
def none {H : Type} : Left H := { results := [], args := [] }

/-- 'laws.FnExactCarryPose': WHATEVER THE INPUT: true; the input reads as it did. -/
def fnExactCarryPoseSpec : ChangeSpec := { name := "fnExactCarryPose", fn := fun _ => fun
  | [d1, d2, d3] => { results := [.lit (.bool true)], args := [d1, d2, d3] }
  | _ => none }
def fnExactCarryPoseRow : OpenClaim := { program := "ytadbhabmahpkiab", sum := "2cd327e457f22820d1462e142f140530020472b9d0586e1434df9cf06fb8bc6b", func := "loop.example/g01180/laws.FnExactCarryPose", spec := "fnExactCarryPose", apart := false }
def FnExactCarryPoseSaid : Prop := fnExactCarryPoseRow.holds Try.pinned (OpenSpec.ofChange fnExactCarryPoseSpec)

/-- ITS FALSE NEIGHBOUR: 'it returns false'. Refute it at one input. -/
def fnExactCarryPoseWrong : ChangeSpec := { name := "fnExactCarryPose", fn := fun _ => fun
  | [d1, d2, d3] => { results := [.lit (.bool false)], args := [d1, d2, d3] }
  | _ => none }
def FnExactCarryPoseWrongFalsely : Prop := fnExactCarryPoseRow.holds Try.pinned (OpenSpec.ofChange fnExactCarryPoseWrong)

/-- 'laws.FnExactRestPose': WHATEVER THE INPUT: true; the input reads as it did. -/
def fnExactRestPoseSpec : ChangeSpec := { name := "fnExactRestPose", fn := fun _ => fun
  | [d] => { results := [.lit (.bool true)], args := [d] }
  | _ => none }
def fnExactRestPoseRow : OpenClaim := { program := "ytadbhabmahpkiab", sum := "2cd327e457f22820d1462e142f140530020472b9d0586e1434df9cf06fb8bc6b", func := "loop.example/g01180/laws.FnExactRestPose", spec := "fnExactRestPose", apart := false }
def FnExactRestPoseSaid : Prop := fnExactRestPoseRow.holds Try.pinned (OpenSpec.ofChange fnExactRestPoseSpec)

/-- ITS FALSE NEIGHBOUR: 'it returns false'. Refute it at one input. -/
def fnExactRestPoseWrong : ChangeSpec := { name := "fnExactRestPose", fn := fun _ => fun
  | [d] => { results := [.lit (.bool false)], args := [d] }
  | _ => none }
def FnExactRestPoseWrongFalsely : Prop := fnExactRestPoseRow.holds Try.pinned (OpenSpec.ofChange fnExactRestPoseWrong)

/-- 'laws.FnExactSampleLoop': WHATEVER THE INPUT: true; the input reads as it did. -/
def fnExactSampleLoopSpec : ChangeSpec := { name := "fnExactSampleLoop", fn := fun _ => fun
  | [d1, d2] => { results := [.lit (.bool true)], args := [d1, d2] }
  | _ => none }
def fnExactSampleLoopRow : OpenClaim := { program := "ytadbhabmahpkiab", sum := "2cd327e457f22820d1462e142f140530020472b9d0586e1434df9cf06fb8bc6b", func := "loop.example/g01180/laws.FnExactSampleLoop", spec := "fnExactSampleLoop", inPlace := ["math.sqrt"], unfollowed := true, recurses := true, apart := false }
def FnExactSampleLoopSaid : Prop := fnExactSampleLoopRow.holds Try.pinned (OpenSpec.ofChange fnExactSampleLoopSpec)

/-- ITS FALSE NEIGHBOUR: 'it returns false'. Refute it at one input. -/
def fnExactSampleLoopWrong : ChangeSpec := { name := "fnExactSampleLoop", fn := fun _ => fun
  | [d1, d2] => { results := [.lit (.bool false)], args := [d1, d2] }
  | _ => none }
def FnExactSampleLoopWrongFalsely : Prop := fnExactSampleLoopRow.holds Try.pinned (OpenSpec.ofChange fnExactSampleLoopWrong)

/- THE SECOND FORM. 'bulk': how many values and letters a reading holds, each counted each time it is reached (what is shared counts as often as it is met; a slice's spare places count too). A statement '..UptoSaid' is the law's where the arguments, and the package variables that the reading takes, are together of bulk at most 1048576: NARROWER than '..Said'. Prove '..Said' where nothing that the law and all that it calls make is longer than what came in: it says more and counts as full. Else prove '..UptoSaid'. A law counts once. -/
mutual
def uptoBulk {H : Type} : DataW H → Nat
  | .lit (.string bytes) => bytes.length + 1
  | .lit _ => 1
  | .nil => 1
  | .ptr d => uptoBulk d + 1
  | .slice elems spare => uptoBulkAll elems + uptoBulkAll spare + 1
  | .agg parts => uptoBulkAll parts + 1
  | .iface _ d => uptoBulk d + 1
  | .map entries => uptoBulkEntries entries + 1
  | .held _ => 1
def uptoBulkAll {H : Type} : List (DataW H) → Nat
  | [] => 0
  | d :: r => uptoBulk d + uptoBulkAll r
def uptoBulkEntries {H : Type} : List (Lit × DataW H) → Nat
  | [] => 0
  | x :: r => uptoBulkEntry x + uptoBulkEntries r
def uptoBulkEntry {H : Type} : Lit × DataW H → Nat
  | (.string bytes, d) => bytes.length + uptoBulk d + 1
  | (_, d) => uptoBulk d + 1
 end
def uptoSmall : (H : Type) → List (DataW H) → Bool := fun _ ds => decide (uptoBulkAll ds ≤ 1048576)
def OpenSpec.upto (s : _root_.Go.ChangeSpec) : _root_.Go.OpenSpec := { _root_.Go.OpenSpec.ofChange s with cond := some uptoSmall }

/-- 'laws.FnExactCarryPose', WHERE WHAT IT READS IS OF BULK AT MOST 1048576: true; the input reads as it did. -/
def fnExactCarryPoseUptoRow : OpenClaim := { program := "ytadbhabmahpkiab", sum := "2cd327e457f22820d1462e142f140530020472b9d0586e1434df9cf06fb8bc6b", func := "loop.example/g01180/laws.FnExactCarryPose", spec := "fnExactCarryPose", apart := false, narrowed := true }
def FnExactCarryPoseUptoSaid : Prop := fnExactCarryPoseUptoRow.holds Try.pinned (OpenSpec.upto fnExactCarryPoseSpec)

/-- 'laws.FnExactRestPose', WHERE WHAT IT READS IS OF BULK AT MOST 1048576: true; the input reads as it did. -/
def fnExactRestPoseUptoRow : OpenClaim := { program := "ytadbhabmahpkiab", sum := "2cd327e457f22820d1462e142f140530020472b9d0586e1434df9cf06fb8bc6b", func := "loop.example/g01180/laws.FnExactRestPose", spec := "fnExactRestPose", apart := false, narrowed := true }
def FnExactRestPoseUptoSaid : Prop := fnExactRestPoseUptoRow.holds Try.pinned (OpenSpec.upto fnExactRestPoseSpec)

/-- 'laws.FnExactSampleLoop', WHERE WHAT IT READS IS OF BULK AT MOST 1048576: true; the input reads as it did. -/
def fnExactSampleLoopUptoRow : OpenClaim := { program := "ytadbhabmahpkiab", sum := "2cd327e457f22820d1462e142f140530020472b9d0586e1434df9cf06fb8bc6b", func := "loop.example/g01180/laws.FnExactSampleLoop", spec := "fnExactSampleLoop", inPlace := ["math.sqrt"], unfollowed := true, recurses := true, apart := false, narrowed := true }
def FnExactSampleLoopUptoSaid : Prop := fnExactSampleLoopUptoRow.holds Try.pinned (OpenSpec.upto fnExactSampleLoopSpec)

end Rows
end Go.Proofs.Ytadbhabmahpkiab
