/-
  No cell of these rows narrows 'for every input' (looked for: loops, veiled, ifaces, maps, wideKeys, modest, calm, conditions, laid).
  DERIVED. THE GIVEN ROWS OF THIS SEAT. 5 by the template 'for every input the law returns true; each argument reads behind the call as it read before'; 0 by the template 'total and deterministic' (their statements: YtmecapnpgedcnaaTotals.lean).
  GIVEN WITH THE SEED: the statements are not yours to turn. If you find one false, say at which input.
  Laid BY PROGRAM, IN A SANDBOX (cutbox-rows.mjs): the forced cells as the released guide's own fill.sh prints them over the translation 8ee13eb14716f7d3… (all of the seat's roots in one cut). By AI agents, Wed Nov 11 2026. No macro, syntax, notation, axiom, sorry.
-/
import Derived.Test.YtmecapnpgedcnaaChecked
import GoSem.Claim
import GoSem.ClaimJoined
import GoSem.ClaimMapViews
import Derived.JoinedTies
import Derived.KernelRfl
namespace Go.Proofs.Ytmecapnpgedcnaa
/- THE CELL 'sum', in the pinned program and in every row, IS THE sha256 OF THE DUMP (.gsa) THAT YtmecapnpgedcnaaProg.lean LOADS. Nothing in Lean hashes anything: it is a label: what it is worth is what the hold of that sum in a sandbox is worth. -/
noncomputable def Try.pinned : Pinned := { name := "ytmecapnpgedcnaa", sum := "8ee13eb14716f7d3d5e74c38205728298a4f9f12ea82a2d122e24d6953d158f0", checked := Try.checked }
namespace Rows
def none {H : Type} : Left H := { results := [], args := [] }

/-- 'laws.FnExactGrantsFault': WHATEVER THE INPUT: true; the input reads as it did. -/
def fnExactGrantsFaultSpec : ChangeSpec := { name := "fnExactGrantsFault", fn := fun _ => fun
  | [d] => { results := [.lit (.bool true)], args := [d] }
  | _ => none }
def fnExactGrantsFaultRow : OpenClaim := { program := "ytmecapnpgedcnaa", sum := "8ee13eb14716f7d3d5e74c38205728298a4f9f12ea82a2d122e24d6953d158f0", func := "loop.example/g00042/laws.FnExactGrantsFault", spec := "fnExactGrantsFault", inPlace := ["internal/abi.NoEscape", "internal/bytealg.MakeNoZero"], unfollowed := true, recurses := true, apart := false }
def FnExactGrantsFaultSaid : Prop := fnExactGrantsFaultRow.holds Try.pinned (OpenSpec.ofChange fnExactGrantsFaultSpec)

/-- ITS FALSE NEIGHBOUR: 'it returns false'. Refute it at one input. -/
def fnExactGrantsFaultWrong : ChangeSpec := { name := "fnExactGrantsFault", fn := fun _ => fun
  | [d] => { results := [.lit (.bool false)], args := [d] }
  | _ => none }
def FnExactGrantsFaultWrongFalsely : Prop := fnExactGrantsFaultRow.holds Try.pinned (OpenSpec.ofChange fnExactGrantsFaultWrong)

/-- 'laws.FnExactStepsFault': WHATEVER THE INPUT: true; the input reads as it did. -/
def fnExactStepsFaultSpec : ChangeSpec := { name := "fnExactStepsFault", fn := fun _ => fun
  | [d] => { results := [.lit (.bool true)], args := [d] }
  | _ => none }
def fnExactStepsFaultRow : OpenClaim := { program := "ytmecapnpgedcnaa", sum := "8ee13eb14716f7d3d5e74c38205728298a4f9f12ea82a2d122e24d6953d158f0", func := "loop.example/g00042/laws.FnExactStepsFault", spec := "fnExactStepsFault", inPlace := ["internal/abi.NoEscape", "internal/bytealg.MakeNoZero"], unfollowed := true, recurses := true, apart := false }
def FnExactStepsFaultSaid : Prop := fnExactStepsFaultRow.holds Try.pinned (OpenSpec.ofChange fnExactStepsFaultSpec)

/-- ITS FALSE NEIGHBOUR: 'it returns false'. Refute it at one input. -/
def fnExactStepsFaultWrong : ChangeSpec := { name := "fnExactStepsFault", fn := fun _ => fun
  | [d] => { results := [.lit (.bool false)], args := [d] }
  | _ => none }
def FnExactStepsFaultWrongFalsely : Prop := fnExactStepsFaultRow.holds Try.pinned (OpenSpec.ofChange fnExactStepsFaultWrong)

/-- 'laws.FnExactTurnSteps': WHATEVER THE INPUT: true; the input reads as it did. -/
def fnExactTurnStepsSpec : ChangeSpec := { name := "fnExactTurnSteps", fn := fun _ => fun
  | [d] => { results := [.lit (.bool true)], args := [d] }
  | _ => none }
def fnExactTurnStepsRow : OpenClaim := { program := "ytmecapnpgedcnaa", sum := "8ee13eb14716f7d3d5e74c38205728298a4f9f12ea82a2d122e24d6953d158f0", func := "loop.example/g00042/laws.FnExactTurnSteps", spec := "fnExactTurnSteps", inPlace := ["internal/abi.NoEscape", "internal/bytealg.MakeNoZero"], unfollowed := true, recurses := true, apart := false }
def FnExactTurnStepsSaid : Prop := fnExactTurnStepsRow.holds Try.pinned (OpenSpec.ofChange fnExactTurnStepsSpec)

/-- ITS FALSE NEIGHBOUR: 'it returns false'. Refute it at one input. -/
def fnExactTurnStepsWrong : ChangeSpec := { name := "fnExactTurnSteps", fn := fun _ => fun
  | [d] => { results := [.lit (.bool false)], args := [d] }
  | _ => none }
def FnExactTurnStepsWrongFalsely : Prop := fnExactTurnStepsRow.holds Try.pinned (OpenSpec.ofChange fnExactTurnStepsWrong)

/-- 'laws.FnExactShowSteps': WHATEVER THE INPUT: true; the input reads as it did. -/
def fnExactShowStepsSpec : ChangeSpec := { name := "fnExactShowSteps", fn := fun _ => fun
  | [d] => { results := [.lit (.bool true)], args := [d] }
  | _ => none }
def fnExactShowStepsRow : OpenClaim := { program := "ytmecapnpgedcnaa", sum := "8ee13eb14716f7d3d5e74c38205728298a4f9f12ea82a2d122e24d6953d158f0", func := "loop.example/g00042/laws.FnExactShowSteps", spec := "fnExactShowSteps", inPlace := ["internal/abi.NoEscape", "internal/bytealg.MakeNoZero"], unfollowed := true, recurses := true, apart := false }
def FnExactShowStepsSaid : Prop := fnExactShowStepsRow.holds Try.pinned (OpenSpec.ofChange fnExactShowStepsSpec)

/-- ITS FALSE NEIGHBOUR: 'it returns false'. Refute it at one input. -/
def fnExactShowStepsWrong : ChangeSpec := { name := "fnExactShowSteps", fn := fun _ => fun
  | [d] => { results := [.lit (.bool false)], args := [d] }
  | _ => none }
def FnExactShowStepsWrongFalsely : Prop := fnExactShowStepsRow.holds Try.pinned (OpenSpec.ofChange fnExactShowStepsWrong)

/-- 'laws.FnExactPatternFault': WHATEVER THE INPUT: true; the input reads as it did. -/
def fnExactPatternFaultSpec : ChangeSpec := { name := "fnExactPatternFault", fn := fun _ => fun
  | [d] => { results := [.lit (.bool true)], args := [d] }
  | _ => none }
def fnExactPatternFaultRow : OpenClaim := { program := "ytmecapnpgedcnaa", sum := "8ee13eb14716f7d3d5e74c38205728298a4f9f12ea82a2d122e24d6953d158f0", func := "loop.example/g00042/laws.FnExactPatternFault", spec := "fnExactPatternFault", inPlace := ["internal/bytealg.IndexByteString", "internal/bytealg.IndexString", "internal/abi.NoEscape", "internal/bytealg.MakeNoZero"], unfollowed := true, recurses := true, named := ["internal/bytealg.MaxLen"], apart := false }
def FnExactPatternFaultSaid : Prop := fnExactPatternFaultRow.holds Try.pinned (OpenSpec.ofChange fnExactPatternFaultSpec)

/-- ITS FALSE NEIGHBOUR: 'it returns false'. Refute it at one input. -/
def fnExactPatternFaultWrong : ChangeSpec := { name := "fnExactPatternFault", fn := fun _ => fun
  | [d] => { results := [.lit (.bool false)], args := [d] }
  | _ => none }
def FnExactPatternFaultWrongFalsely : Prop := fnExactPatternFaultRow.holds Try.pinned (OpenSpec.ofChange fnExactPatternFaultWrong)

/- THE SECOND FORM. 'bulk': how many values and letters a reading holds, each counted each time it is reached (what is shared counts as often as it is met; a slice's spare places count too). A statement '..UptoSaid' is the law's where the arguments, and the package variables that the reading takes, are together of bulk at most 1048576: NARROWER than '..Said'. Prove '..Said' where nothing that the law and all that it calls make is longer than what came in: it says more and counts as full. Else prove '..UptoSaid'. A law counts once. -/
mutual
def uptoBulk {H : Type} : DataW H → Nat
  | .lit (.string bytes) => bytes.length + 1
  | .lit _ => 1
  | .nil => 1
  | .ptr d => uptoBulk d + 1
  | .slice elems spare => uptoBulkAll elems + uptoBulkAll spare + 1
  | .agg parts => uptoBulkAll parts + 1
  | .iface _ d => uptoBulk d + 1
  | .map entries => uptoBulkEntries entries + 1
  | .held _ => 1
def uptoBulkAll {H : Type} : List (DataW H) → Nat
  | [] => 0
  | d :: r => uptoBulk d + uptoBulkAll r
def uptoBulkEntries {H : Type} : List (Lit × DataW H) → Nat
  | [] => 0
  | x :: r => uptoBulkEntry x + uptoBulkEntries r
def uptoBulkEntry {H : Type} : Lit × DataW H → Nat
  | (.string bytes, d) => bytes.length + uptoBulk d + 1
  | (_, d) => uptoBulk d + 1
 end
def uptoSmall : (H : Type) → List (DataW H) → Bool := fun _ ds => decide (uptoBulkAll ds ≤ 1048576)
def OpenSpec.upto (s : _root_.Go.ChangeSpec) : _root_.Go.OpenSpec := { _root_.Go.OpenSpec.ofChange s with cond := some uptoSmall }

/-- 'laws.FnExactGrantsFault', WHERE WHAT IT READS IS OF BULK AT MOST 1048576: true; the input reads as it did. -/
def fnExactGrantsFaultUptoRow : OpenClaim := { program := "ytmecapnpgedcnaa", sum := "8ee13eb14716f7d3d5e74c38205728298a4f9f12ea82a2d122e24d6953d158f0", func := "loop.example/g00042/laws.FnExactGrantsFault", spec := "fnExactGrantsFault", inPlace := ["internal/abi.NoEscape", "internal/bytealg.MakeNoZero"], unfollowed := true, recurses := true, apart := false, narrowed := true }
def FnExactGrantsFaultUptoSaid : Prop := fnExactGrantsFaultUptoRow.holds Try.pinned (OpenSpec.upto fnExactGrantsFaultSpec)

/-- 'laws.FnExactStepsFault', WHERE WHAT IT READS IS OF BULK AT MOST 1048576: true; the input reads as it did. -/
def fnExactStepsFaultUptoRow : OpenClaim := { program := "ytmecapnpgedcnaa", sum := "8ee13eb14716f7d3d5e74c38205728298a4f9f12ea82a2d122e24d6953d158f0", func := "loop.example/g00042/laws.FnExactStepsFault", spec := "fnExactStepsFault", inPlace := ["internal/abi.NoEscape", "internal/bytealg.MakeNoZero"], unfollowed := true, recurses := true, apart := false, narrowed := true }
def FnExactStepsFaultUptoSaid : Prop := fnExactStepsFaultUptoRow.holds Try.pinned (OpenSpec.upto fnExactStepsFaultSpec)

/-- 'laws.FnExactTurnSteps', WHERE WHAT IT READS IS OF BULK AT MOST 1048576: true; the input reads as it did. -/
def fnExactTurnStepsUptoRow : OpenClaim := { program := "ytmecapnpgedcnaa", sum := "8ee13eb14716f7d3d5e74c38205728298a4f9f12ea82a2d122e24d6953d158f0", func := "loop.example/g00042/laws.FnExactTurnSteps", spec := "fnExactTurnSteps", inPlace := ["internal/abi.NoEscape", "internal/bytealg.MakeNoZero"], unfollowed := true, recurses := true, apart := false, narrowed := true }
def FnExactTurnStepsUptoSaid : Prop := fnExactTurnStepsUptoRow.holds Try.pinned (OpenSpec.upto fnExactTurnStepsSpec)

/-- 'laws.FnExactShowSteps', WHERE WHAT IT READS IS OF BULK AT MOST 1048576: true; the input reads as it did. -/
def fnExactShowStepsUptoRow : OpenClaim := { program := "ytmecapnpgedcnaa", sum := "8ee13eb14716f7d3d5e74c38205728298a4f9f12ea82a2d122e24d6953d158f0", func := "loop.example/g00042/laws.FnExactShowSteps", spec := "fnExactShowSteps", inPlace := ["internal/abi.NoEscape", "internal/bytealg.MakeNoZero"], unfollowed := true, recurses := true, apart := false, narrowed := true }
def FnExactShowStepsUptoSaid : Prop := fnExactShowStepsUptoRow.holds Try.pinned (OpenSpec.upto fnExactShowStepsSpec)

/-- 'laws.FnExactPatternFault', WHERE WHAT IT READS IS OF BULK AT MOST 1048576: true; the input reads as it did. -/
def fnExactPatternFaultUptoRow : OpenClaim := { program := "ytmecapnpgedcnaa", sum := "8ee13eb14716f7d3d5e74c38205728298a4f9f12ea82a2d122e24d6953d158f0", func := "loop.example/g00042/laws.FnExactPatternFault", spec := "fnExactPatternFault", inPlace := ["internal/bytealg.IndexByteString", "internal/bytealg.IndexString", "internal/abi.NoEscape", "internal/bytealg.MakeNoZero"], unfollowed := true, recurses := true, named := ["internal/bytealg.MaxLen"], apart := false, narrowed := true }
def FnExactPatternFaultUptoSaid : Prop := fnExactPatternFaultUptoRow.holds Try.pinned (OpenSpec.upto fnExactPatternFaultSpec)

end Rows
end Go.Proofs.Ytmecapnpgedcnaa
