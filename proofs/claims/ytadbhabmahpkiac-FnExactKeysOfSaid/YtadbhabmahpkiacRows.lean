/-
  No cell of these rows narrows 'for every input' (looked for: loops, veiled, ifaces, maps, wideKeys, modest, calm, conditions, laid).
  DERIVED. THE GIVEN ROWS OF THIS SEAT. 3 by the template 'for every input the law returns true; each argument reads behind the call as it read before'; 0 by the template 'total and deterministic' (their statements: YtadbhabmahpkiacTotals.lean).
  GIVEN WITH THE SEED: the statements are not yours to turn. If you find one false, say at which input.
  Laid BY PROGRAM, IN A SANDBOX (cutbox-rows.mjs): the forced cells as the released guide's own fill.sh prints them over the translation d6368eab46104c61… (all of the seat's roots in one cut). By AI agents, Wed Nov 11 2026. No macro, syntax, notation, axiom, sorry.
-/
import Derived.Test.YtadbhabmahpkiacChecked
import GoSem.Claim
import GoSem.ClaimJoined
import GoSem.ClaimMapViews
import Derived.JoinedTies
import Derived.KernelRfl
namespace Go.Proofs.Ytadbhabmahpkiac
/- THE CELL 'sum', in the pinned program and in every row, IS THE sha256 OF THE DUMP (.gsa) THAT YtadbhabmahpkiacProg.lean LOADS. Nothing in Lean hashes anything: it is a label: what it is worth is what the hold of that sum in a sandbox is worth. -/
noncomputable def Try.pinned : Pinned := { name := "ytadbhabmahpkiac", sum := "d6368eab46104c613c4317e3921979f88068764b1ccd815a4b761cf28de124fe", checked := Try.checked }
namespace Rows
def none {H : Type} : Left H := { results := [], args := [] }

/-- 'laws.FnExactSampleClip': WHATEVER THE INPUT: true; the input reads as it did. -/
def fnExactSampleClipSpec : ChangeSpec := { name := "fnExactSampleClip", fn := fun _ => fun
  | [d1, d2] => { results := [.lit (.bool true)], args := [d1, d2] }
  | _ => none }
def fnExactSampleClipRow : OpenClaim := { program := "ytadbhabmahpkiac", sum := "d6368eab46104c613c4317e3921979f88068764b1ccd815a4b761cf28de124fe", func := "loop.example/g01180/laws.FnExactSampleClip", spec := "fnExactSampleClip", inPlace := ["math.sqrt"], unfollowed := true, recurses := true, apart := false }
def FnExactSampleClipSaid : Prop := fnExactSampleClipRow.holds Try.pinned (OpenSpec.ofChange fnExactSampleClipSpec)

/-- ITS FALSE NEIGHBOUR: 'it returns false'. Refute it at one input. -/
def fnExactSampleClipWrong : ChangeSpec := { name := "fnExactSampleClip", fn := fun _ => fun
  | [d1, d2] => { results := [.lit (.bool false)], args := [d1, d2] }
  | _ => none }
def FnExactSampleClipWrongFalsely : Prop := fnExactSampleClipRow.holds Try.pinned (OpenSpec.ofChange fnExactSampleClipWrong)

/-- 'laws.FnExactPlayClip': WHATEVER THE INPUT: true; the input reads as it did. -/
def fnExactPlayClipSpec : ChangeSpec := { name := "fnExactPlayClip", fn := fun _ => fun
  | [d1, d2, d3, d4] => { results := [.lit (.bool true)], args := [d1, d2, d3, d4] }
  | _ => none }
def fnExactPlayClipRow : OpenClaim := { program := "ytadbhabmahpkiac", sum := "d6368eab46104c613c4317e3921979f88068764b1ccd815a4b761cf28de124fe", func := "loop.example/g01180/laws.FnExactPlayClip", spec := "fnExactPlayClip", inPlace := ["math.sqrt"], unfollowed := true, recurses := true, apart := false }
def FnExactPlayClipSaid : Prop := fnExactPlayClipRow.holds Try.pinned (OpenSpec.ofChange fnExactPlayClipSpec)

/-- ITS FALSE NEIGHBOUR: 'it returns false'. Refute it at one input. -/
def fnExactPlayClipWrong : ChangeSpec := { name := "fnExactPlayClip", fn := fun _ => fun
  | [d1, d2, d3, d4] => { results := [.lit (.bool false)], args := [d1, d2, d3, d4] }
  | _ => none }
def FnExactPlayClipWrongFalsely : Prop := fnExactPlayClipRow.holds Try.pinned (OpenSpec.ofChange fnExactPlayClipWrong)

/-- 'laws.FnExactKeysOf': WHATEVER THE INPUT: true; the input reads as it did. -/
def fnExactKeysOfSpec : ChangeSpec := { name := "fnExactKeysOf", fn := fun _ => fun
  | [d] => { results := [.lit (.bool true)], args := [d] }
  | _ => none }
def fnExactKeysOfRow : OpenClaim := { program := "ytadbhabmahpkiac", sum := "d6368eab46104c613c4317e3921979f88068764b1ccd815a4b761cf28de124fe", func := "loop.example/g01180/laws.FnExactKeysOf", spec := "fnExactKeysOf", inPlace := ["math.sqrt"], unfollowed := true, recurses := true, apart := false }
def FnExactKeysOfSaid : Prop := fnExactKeysOfRow.holds Try.pinned (OpenSpec.ofChange fnExactKeysOfSpec)

/-- ITS FALSE NEIGHBOUR: 'it returns false'. Refute it at one input. -/
def fnExactKeysOfWrong : ChangeSpec := { name := "fnExactKeysOf", fn := fun _ => fun
  | [d] => { results := [.lit (.bool false)], args := [d] }
  | _ => none }
def FnExactKeysOfWrongFalsely : Prop := fnExactKeysOfRow.holds Try.pinned (OpenSpec.ofChange fnExactKeysOfWrong)

/- THE SECOND FORM. 'bulk': how many values and letters a reading holds, each counted each time it is reached (what is shared counts as often as it is met; a slice's spare places count too). A statement '..UptoSaid' is the law's where the arguments, and the package variables that the reading takes, are together of bulk at most 1048576: NARROWER than '..Said'. Prove '..Said' where nothing that the law and all that it calls make is longer than what came in: it says more and counts as full. Else prove '..UptoSaid'. A law counts once. -/
mutual
def uptoBulk {H : Type} : DataW H → Nat
  | .lit (.string bytes) => bytes.length + 1
  | .lit _ => 1
  | .nil => 1
  | .ptr d => uptoBulk d + 1
  | .slice elems spare => uptoBulkAll elems + uptoBulkAll spare + 1
  | .agg parts => uptoBulkAll parts + 1
  | .iface _ d => uptoBulk d + 1
  | .map entries => uptoBulkEntries entries + 1
  | .held _ => 1
def uptoBulkAll {H : Type} : List (DataW H) → Nat
  | [] => 0
  | d :: r => uptoBulk d + uptoBulkAll r
def uptoBulkEntries {H : Type} : List (Lit × DataW H) → Nat
  | [] => 0
  | x :: r => uptoBulkEntry x + uptoBulkEntries r
def uptoBulkEntry {H : Type} : Lit × DataW H → Nat
  | (.string bytes, d) => bytes.length + uptoBulk d + 1
  | (_, d) => uptoBulk d + 1
 end
def uptoSmall : (H : Type) → List (DataW H) → Bool := fun _ ds => decide (uptoBulkAll ds ≤ 1048576)
def OpenSpec.upto (s : _root_.Go.ChangeSpec) : _root_.Go.OpenSpec := { _root_.Go.OpenSpec.ofChange s with cond := some uptoSmall }

/-- 'laws.FnExactSampleClip', WHERE WHAT IT READS IS OF BULK AT MOST 1048576: true; the input reads as it did. -/
def fnExactSampleClipUptoRow : OpenClaim := { program := "ytadbhabmahpkiac", sum := "d6368eab46104c613c4317e3921979f88068764b1ccd815a4b761cf28de124fe", func := "loop.example/g01180/laws.FnExactSampleClip", spec := "fnExactSampleClip", inPlace := ["math.sqrt"], unfollowed := true, recurses := true, apart := false, narrowed := true }
def FnExactSampleClipUptoSaid : Prop := fnExactSampleClipUptoRow.holds Try.pinned (OpenSpec.upto fnExactSampleClipSpec)

/-- 'laws.FnExactPlayClip', WHERE WHAT IT READS IS OF BULK AT MOST 1048576: true; the input reads as it did. -/
def fnExactPlayClipUptoRow : OpenClaim := { program := "ytadbhabmahpkiac", sum := "d6368eab46104c613c4317e3921979f88068764b1ccd815a4b761cf28de124fe", func := "loop.example/g01180/laws.FnExactPlayClip", spec := "fnExactPlayClip", inPlace := ["math.sqrt"], unfollowed := true, recurses := true, apart := false, narrowed := true }
def FnExactPlayClipUptoSaid : Prop := fnExactPlayClipUptoRow.holds Try.pinned (OpenSpec.upto fnExactPlayClipSpec)

/-- 'laws.FnExactKeysOf', WHERE WHAT IT READS IS OF BULK AT MOST 1048576: true; the input reads as it did. -/
def fnExactKeysOfUptoRow : OpenClaim := { program := "ytadbhabmahpkiac", sum := "d6368eab46104c613c4317e3921979f88068764b1ccd815a4b761cf28de124fe", func := "loop.example/g01180/laws.FnExactKeysOf", spec := "fnExactKeysOf", inPlace := ["math.sqrt"], unfollowed := true, recurses := true, apart := false, narrowed := true }
def FnExactKeysOfUptoSaid : Prop := fnExactKeysOfUptoRow.holds Try.pinned (OpenSpec.upto fnExactKeysOfSpec)

end Rows
end Go.Proofs.Ytadbhabmahpkiac
