/-
  No cell of these rows narrows 'for every input' (looked for: loops, veiled, ifaces, maps, wideKeys, modest, calm, conditions, laid).
  DERIVED. THE GIVEN ROWS OF THIS SEAT. 8 by the template 'for every input the law returns true; each argument reads behind the call as it read before'; 0 by the template 'total and deterministic' (their statements: YtpoghajdcdfhbaeTotals.lean).
  GIVEN WITH THE SEED: the statements are not yours to turn. If you find one false, say at which input.
  Laid BY PROGRAM, IN A SANDBOX (cutbox-rows.mjs): the forced cells as the released guide's own fill.sh prints them over the translation e78c7804b2fe303d… (all of the seat's roots in one cut). By AI agents, Wed Nov 11 2026. No macro, syntax, notation, axiom, sorry.
-/
import Derived.Test.YtpoghajdcdfhbaeChecked
import GoSem.Claim
import GoSem.ClaimJoined
import GoSem.ClaimMapViews
import Derived.JoinedTies
import Derived.KernelRfl
namespace Go.Proofs.Ytpoghajdcdfhbae
/- THE CELL 'sum', in the pinned program and in every row, IS THE sha256 OF THE DUMP (.gsa) THAT YtpoghajdcdfhbaeProg.lean LOADS. Nothing in Lean hashes anything: it is a label: what it is worth is what the hold of that sum in a sandbox is worth. -/
noncomputable def Try.pinned : Pinned := { name := "ytpoghajdcdfhbae", sum := "e78c7804b2fe303d74c899f7cbfeae878b90a10f4003f22946ea826201a8990b", checked := Try.checked }
namespace Rows
def none {H : Type} : Left H := { results := [], args := [] }

/-- 'laws.FnExactTwoBones': WHATEVER THE INPUT: true; the input reads as it did. -/
def fnExactTwoBonesSpec : ChangeSpec := { name := "fnExactTwoBones", fn := fun _ => fun
  | [d1, d2, d3, d4] => { results := [.lit (.bool true)], args := [d1, d2, d3, d4] }
  | _ => none }
def fnExactTwoBonesRow : OpenClaim := { program := "ytpoghajdcdfhbae", sum := "e78c7804b2fe303d74c899f7cbfeae878b90a10f4003f22946ea826201a8990b", func := "loop.example/g01180/laws.FnExactTwoBones", spec := "fnExactTwoBones", inPlace := ["math.sqrt"], apart := false }
def FnExactTwoBonesSaid : Prop := fnExactTwoBonesRow.holds Try.pinned (OpenSpec.ofChange fnExactTwoBonesSpec)

/-- ITS FALSE NEIGHBOUR: 'it returns false'. Refute it at one input. -/
def fnExactTwoBonesWrong : ChangeSpec := { name := "fnExactTwoBones", fn := fun _ => fun
  | [d1, d2, d3, d4] => { results := [.lit (.bool false)], args := [d1, d2, d3, d4] }
  | _ => none }
def FnExactTwoBonesWrongFalsely : Prop := fnExactTwoBonesRow.holds Try.pinned (OpenSpec.ofChange fnExactTwoBonesWrong)

/-- 'laws.FnBends': WHATEVER THE INPUT: true; the input reads as it did. -/
def fnBendsSpec : ChangeSpec := { name := "fnBends", fn := fun _ => fun
  | [d1, d2] => { results := [.lit (.bool true)], args := [d1, d2] }
  | _ => none }
def fnBendsRow : OpenClaim := { program := "ytpoghajdcdfhbae", sum := "e78c7804b2fe303d74c899f7cbfeae878b90a10f4003f22946ea826201a8990b", func := "loop.example/g01180/laws.FnBends", spec := "fnBends", inPlace := ["math.sqrt", "math.Float64bits", "math.Float64frombits", "math.archTrunc"], apart := false }
def FnBendsSaid : Prop := fnBendsRow.holds Try.pinned (OpenSpec.ofChange fnBendsSpec)

/-- ITS FALSE NEIGHBOUR: 'it returns false'. Refute it at one input. -/
def fnBendsWrong : ChangeSpec := { name := "fnBends", fn := fun _ => fun
  | [d1, d2] => { results := [.lit (.bool false)], args := [d1, d2] }
  | _ => none }
def FnBendsWrongFalsely : Prop := fnBendsRow.holds Try.pinned (OpenSpec.ofChange fnBendsWrong)

/-- 'laws.FnExactHingeAngle': WHATEVER THE INPUT: true; the input reads as it did. -/
def fnExactHingeAngleSpec : ChangeSpec := { name := "fnExactHingeAngle", fn := fun _ => fun
  | [d1, d2] => { results := [.lit (.bool true)], args := [d1, d2] }
  | _ => none }
def fnExactHingeAngleRow : OpenClaim := { program := "ytpoghajdcdfhbae", sum := "e78c7804b2fe303d74c899f7cbfeae878b90a10f4003f22946ea826201a8990b", func := "loop.example/g01180/laws.FnExactHingeAngle", spec := "fnExactHingeAngle", inPlace := ["math.Float64frombits", "math.Float64bits", "math.sqrt"], apart := false }
def FnExactHingeAngleSaid : Prop := fnExactHingeAngleRow.holds Try.pinned (OpenSpec.ofChange fnExactHingeAngleSpec)

/-- ITS FALSE NEIGHBOUR: 'it returns false'. Refute it at one input. -/
def fnExactHingeAngleWrong : ChangeSpec := { name := "fnExactHingeAngle", fn := fun _ => fun
  | [d1, d2] => { results := [.lit (.bool false)], args := [d1, d2] }
  | _ => none }
def FnExactHingeAngleWrongFalsely : Prop := fnExactHingeAngleRow.holds Try.pinned (OpenSpec.ofChange fnExactHingeAngleWrong)

/-- 'laws.FnExactBendOf': WHATEVER THE INPUT: true; the input reads as it did. -/
def fnExactBendOfSpec : ChangeSpec := { name := "fnExactBendOf", fn := fun _ => fun
  | [d1, d2, d3] => { results := [.lit (.bool true)], args := [d1, d2, d3] }
  | _ => none }
def fnExactBendOfRow : OpenClaim := { program := "ytpoghajdcdfhbae", sum := "e78c7804b2fe303d74c899f7cbfeae878b90a10f4003f22946ea826201a8990b", func := "loop.example/g01180/laws.FnExactBendOf", spec := "fnExactBendOf", inPlace := ["math.archMin", "math.Float64bits", "math.Float64frombits", "math.archMax", "math.sqrt"], apart := false }
def FnExactBendOfSaid : Prop := fnExactBendOfRow.holds Try.pinned (OpenSpec.ofChange fnExactBendOfSpec)

/-- ITS FALSE NEIGHBOUR: 'it returns false'. Refute it at one input. -/
def fnExactBendOfWrong : ChangeSpec := { name := "fnExactBendOf", fn := fun _ => fun
  | [d1, d2, d3] => { results := [.lit (.bool false)], args := [d1, d2, d3] }
  | _ => none }
def FnExactBendOfWrongFalsely : Prop := fnExactBendOfRow.holds Try.pinned (OpenSpec.ofChange fnExactBendOfWrong)

/-- 'laws.FnExactTurnAbout': WHATEVER THE INPUT: true; the input reads as it did. -/
def fnExactTurnAboutSpec : ChangeSpec := { name := "fnExactTurnAbout", fn := fun _ => fun
  | [d1, d2] => { results := [.lit (.bool true)], args := [d1, d2] }
  | _ => none }
def fnExactTurnAboutRow : OpenClaim := { program := "ytpoghajdcdfhbae", sum := "e78c7804b2fe303d74c899f7cbfeae878b90a10f4003f22946ea826201a8990b", func := "loop.example/g01180/laws.FnExactTurnAbout", spec := "fnExactTurnAbout", inPlace := ["math.sqrt", "math.Float64frombits", "math.Float64bits", "math.archTrunc"], apart := false }
def FnExactTurnAboutSaid : Prop := fnExactTurnAboutRow.holds Try.pinned (OpenSpec.ofChange fnExactTurnAboutSpec)

/-- ITS FALSE NEIGHBOUR: 'it returns false'. Refute it at one input. -/
def fnExactTurnAboutWrong : ChangeSpec := { name := "fnExactTurnAbout", fn := fun _ => fun
  | [d1, d2] => { results := [.lit (.bool false)], args := [d1, d2] }
  | _ => none }
def FnExactTurnAboutWrongFalsely : Prop := fnExactTurnAboutRow.holds Try.pinned (OpenSpec.ofChange fnExactTurnAboutWrong)

/-- 'laws.FnExactLimitHinge': WHATEVER THE INPUT: true; the input reads as it did. -/
def fnExactLimitHingeSpec : ChangeSpec := { name := "fnExactLimitHinge", fn := fun _ => fun
  | [d1, d2, d3, d4] => { results := [.lit (.bool true)], args := [d1, d2, d3, d4] }
  | _ => none }
def fnExactLimitHingeRow : OpenClaim := { program := "ytpoghajdcdfhbae", sum := "e78c7804b2fe303d74c899f7cbfeae878b90a10f4003f22946ea826201a8990b", func := "loop.example/g01180/laws.FnExactLimitHinge", spec := "fnExactLimitHinge", inPlace := ["math.Float64frombits", "math.Float64bits", "math.sqrt", "math.archTrunc"], apart := false }
def FnExactLimitHingeSaid : Prop := fnExactLimitHingeRow.holds Try.pinned (OpenSpec.ofChange fnExactLimitHingeSpec)

/-- ITS FALSE NEIGHBOUR: 'it returns false'. Refute it at one input. -/
def fnExactLimitHingeWrong : ChangeSpec := { name := "fnExactLimitHinge", fn := fun _ => fun
  | [d1, d2, d3, d4] => { results := [.lit (.bool false)], args := [d1, d2, d3, d4] }
  | _ => none }
def FnExactLimitHingeWrongFalsely : Prop := fnExactLimitHingeRow.holds Try.pinned (OpenSpec.ofChange fnExactLimitHingeWrong)

/-- 'laws.FnExactLimitAngle': WHATEVER THE INPUT: true; the input reads as it did. -/
def fnExactLimitAngleSpec : ChangeSpec := { name := "fnExactLimitAngle", fn := fun _ => fun
  | [d1, d2] => { results := [.lit (.bool true)], args := [d1, d2] }
  | _ => none }
def fnExactLimitAngleRow : OpenClaim := { program := "ytpoghajdcdfhbae", sum := "e78c7804b2fe303d74c899f7cbfeae878b90a10f4003f22946ea826201a8990b", func := "loop.example/g01180/laws.FnExactLimitAngle", spec := "fnExactLimitAngle", inPlace := ["math.sqrt", "math.Float32bits", "math.Float32frombits", "math.Float64frombits", "math.Float64bits", "math.archTrunc"], apart := false }
def FnExactLimitAngleSaid : Prop := fnExactLimitAngleRow.holds Try.pinned (OpenSpec.ofChange fnExactLimitAngleSpec)

/-- ITS FALSE NEIGHBOUR: 'it returns false'. Refute it at one input. -/
def fnExactLimitAngleWrong : ChangeSpec := { name := "fnExactLimitAngle", fn := fun _ => fun
  | [d1, d2] => { results := [.lit (.bool false)], args := [d1, d2] }
  | _ => none }
def FnExactLimitAngleWrongFalsely : Prop := fnExactLimitAngleRow.holds Try.pinned (OpenSpec.ofChange fnExactLimitAngleWrong)

/-- 'laws.FnExactLookAt': WHATEVER THE INPUT: true; the input reads as it did. -/
def fnExactLookAtSpec : ChangeSpec := { name := "fnExactLookAt", fn := fun _ => fun
  | [d1, d2, d3, d4] => { results := [.lit (.bool true)], args := [d1, d2, d3, d4] }
  | _ => none }
def fnExactLookAtRow : OpenClaim := { program := "ytpoghajdcdfhbae", sum := "e78c7804b2fe303d74c899f7cbfeae878b90a10f4003f22946ea826201a8990b", func := "loop.example/g01180/laws.FnExactLookAt", spec := "fnExactLookAt", inPlace := ["math.sqrt", "math.Float32bits", "math.Float32frombits", "math.Float64frombits", "math.Float64bits", "math.archTrunc"], apart := false }
def FnExactLookAtSaid : Prop := fnExactLookAtRow.holds Try.pinned (OpenSpec.ofChange fnExactLookAtSpec)

/-- ITS FALSE NEIGHBOUR: 'it returns false'. Refute it at one input. -/
def fnExactLookAtWrong : ChangeSpec := { name := "fnExactLookAt", fn := fun _ => fun
  | [d1, d2, d3, d4] => { results := [.lit (.bool false)], args := [d1, d2, d3, d4] }
  | _ => none }
def FnExactLookAtWrongFalsely : Prop := fnExactLookAtRow.holds Try.pinned (OpenSpec.ofChange fnExactLookAtWrong)

/- THE SECOND FORM. 'bulk': how many values and letters a reading holds, each counted each time it is reached (what is shared counts as often as it is met; a slice's spare places count too). A statement '..UptoSaid' is the law's where the arguments, and the package variables that the reading takes, are together of bulk at most 1048576: NARROWER than '..Said'. Prove '..Said' where nothing that the law and all that it calls make is longer than what came in: it says more and counts as full. Else prove '..UptoSaid'. A law counts once. -/
mutual
def uptoBulk {H : Type} : DataW H → Nat
  | .lit (.string bytes) => bytes.length + 1
  | .lit _ => 1
  | .nil => 1
  | .ptr d => uptoBulk d + 1
  | .slice elems spare => uptoBulkAll elems + uptoBulkAll spare + 1
  | .agg parts => uptoBulkAll parts + 1
  | .iface _ d => uptoBulk d + 1
  | .map entries => uptoBulkEntries entries + 1
  | .held _ => 1
def uptoBulkAll {H : Type} : List (DataW H) → Nat
  | [] => 0
  | d :: r => uptoBulk d + uptoBulkAll r
def uptoBulkEntries {H : Type} : List (Lit × DataW H) → Nat
  | [] => 0
  | x :: r => uptoBulkEntry x + uptoBulkEntries r
def uptoBulkEntry {H : Type} : Lit × DataW H → Nat
  | (.string bytes, d) => bytes.length + uptoBulk d + 1
  | (_, d) => uptoBulk d + 1
 end
def uptoSmall : (H : Type) → List (DataW H) → Bool := fun _ ds => decide (uptoBulkAll ds ≤ 1048576)
def OpenSpec.upto (s : _root_.Go.ChangeSpec) : _root_.Go.OpenSpec := { _root_.Go.OpenSpec.ofChange s with cond := some uptoSmall }

/-- 'laws.FnExactTwoBones', WHERE WHAT IT READS IS OF BULK AT MOST 1048576: true; the input reads as it did. -/
def fnExactTwoBonesUptoRow : OpenClaim := { program := "ytpoghajdcdfhbae", sum := "e78c7804b2fe303d74c899f7cbfeae878b90a10f4003f22946ea826201a8990b", func := "loop.example/g01180/laws.FnExactTwoBones", spec := "fnExactTwoBones", inPlace := ["math.sqrt"], apart := false, narrowed := true }
def FnExactTwoBonesUptoSaid : Prop := fnExactTwoBonesUptoRow.holds Try.pinned (OpenSpec.upto fnExactTwoBonesSpec)

/-- 'laws.FnBends', WHERE WHAT IT READS IS OF BULK AT MOST 1048576: true; the input reads as it did. -/
def fnBendsUptoRow : OpenClaim := { program := "ytpoghajdcdfhbae", sum := "e78c7804b2fe303d74c899f7cbfeae878b90a10f4003f22946ea826201a8990b", func := "loop.example/g01180/laws.FnBends", spec := "fnBends", inPlace := ["math.sqrt", "math.Float64bits", "math.Float64frombits", "math.archTrunc"], apart := false, narrowed := true }
def FnBendsUptoSaid : Prop := fnBendsUptoRow.holds Try.pinned (OpenSpec.upto fnBendsSpec)

/-- 'laws.FnExactHingeAngle', WHERE WHAT IT READS IS OF BULK AT MOST 1048576: true; the input reads as it did. -/
def fnExactHingeAngleUptoRow : OpenClaim := { program := "ytpoghajdcdfhbae", sum := "e78c7804b2fe303d74c899f7cbfeae878b90a10f4003f22946ea826201a8990b", func := "loop.example/g01180/laws.FnExactHingeAngle", spec := "fnExactHingeAngle", inPlace := ["math.Float64frombits", "math.Float64bits", "math.sqrt"], apart := false, narrowed := true }
def FnExactHingeAngleUptoSaid : Prop := fnExactHingeAngleUptoRow.holds Try.pinned (OpenSpec.upto fnExactHingeAngleSpec)

/-- 'laws.FnExactBendOf', WHERE WHAT IT READS IS OF BULK AT MOST 1048576: true; the input reads as it did. -/
def fnExactBendOfUptoRow : OpenClaim := { program := "ytpoghajdcdfhbae", sum := "e78c7804b2fe303d74c899f7cbfeae878b90a10f4003f22946ea826201a8990b", func := "loop.example/g01180/laws.FnExactBendOf", spec := "fnExactBendOf", inPlace := ["math.archMin", "math.Float64bits", "math.Float64frombits", "math.archMax", "math.sqrt"], apart := false, narrowed := true }
def FnExactBendOfUptoSaid : Prop := fnExactBendOfUptoRow.holds Try.pinned (OpenSpec.upto fnExactBendOfSpec)

/-- 'laws.FnExactTurnAbout', WHERE WHAT IT READS IS OF BULK AT MOST 1048576: true; the input reads as it did. -/
def fnExactTurnAboutUptoRow : OpenClaim := { program := "ytpoghajdcdfhbae", sum := "e78c7804b2fe303d74c899f7cbfeae878b90a10f4003f22946ea826201a8990b", func := "loop.example/g01180/laws.FnExactTurnAbout", spec := "fnExactTurnAbout", inPlace := ["math.sqrt", "math.Float64frombits", "math.Float64bits", "math.archTrunc"], apart := false, narrowed := true }
def FnExactTurnAboutUptoSaid : Prop := fnExactTurnAboutUptoRow.holds Try.pinned (OpenSpec.upto fnExactTurnAboutSpec)

/-- 'laws.FnExactLimitHinge', WHERE WHAT IT READS IS OF BULK AT MOST 1048576: true; the input reads as it did. -/
def fnExactLimitHingeUptoRow : OpenClaim := { program := "ytpoghajdcdfhbae", sum := "e78c7804b2fe303d74c899f7cbfeae878b90a10f4003f22946ea826201a8990b", func := "loop.example/g01180/laws.FnExactLimitHinge", spec := "fnExactLimitHinge", inPlace := ["math.Float64frombits", "math.Float64bits", "math.sqrt", "math.archTrunc"], apart := false, narrowed := true }
def FnExactLimitHingeUptoSaid : Prop := fnExactLimitHingeUptoRow.holds Try.pinned (OpenSpec.upto fnExactLimitHingeSpec)

/-- 'laws.FnExactLimitAngle', WHERE WHAT IT READS IS OF BULK AT MOST 1048576: true; the input reads as it did. -/
def fnExactLimitAngleUptoRow : OpenClaim := { program := "ytpoghajdcdfhbae", sum := "e78c7804b2fe303d74c899f7cbfeae878b90a10f4003f22946ea826201a8990b", func := "loop.example/g01180/laws.FnExactLimitAngle", spec := "fnExactLimitAngle", inPlace := ["math.sqrt", "math.Float32bits", "math.Float32frombits", "math.Float64frombits", "math.Float64bits", "math.archTrunc"], apart := false, narrowed := true }
def FnExactLimitAngleUptoSaid : Prop := fnExactLimitAngleUptoRow.holds Try.pinned (OpenSpec.upto fnExactLimitAngleSpec)

/-- 'laws.FnExactLookAt', WHERE WHAT IT READS IS OF BULK AT MOST 1048576: true; the input reads as it did. -/
def fnExactLookAtUptoRow : OpenClaim := { program := "ytpoghajdcdfhbae", sum := "e78c7804b2fe303d74c899f7cbfeae878b90a10f4003f22946ea826201a8990b", func := "loop.example/g01180/laws.FnExactLookAt", spec := "fnExactLookAt", inPlace := ["math.sqrt", "math.Float32bits", "math.Float32frombits", "math.Float64frombits", "math.Float64bits", "math.archTrunc"], apart := false, narrowed := true }
def FnExactLookAtUptoSaid : Prop := fnExactLookAtUptoRow.holds Try.pinned (OpenSpec.upto fnExactLookAtSpec)

end Rows
end Go.Proofs.Ytpoghajdcdfhbae
