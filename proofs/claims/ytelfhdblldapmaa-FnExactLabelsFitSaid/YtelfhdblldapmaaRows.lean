/-
  No cell of these rows narrows 'for every input' (looked for: loops, veiled, ifaces, maps, wideKeys, modest, calm, conditions, laid).
  DERIVED. THE GIVEN ROWS OF THIS SEAT. 4 by the template 'for every input the law returns true; each argument reads behind the call as it read before'; 0 by the template 'total and deterministic' (their statements: YtelfhdblldapmaaTotals.lean).
  GIVEN WITH THE SEED: the statements are not yours to turn. If you find one false, say at which input.
  Laid BY PROGRAM, IN A SANDBOX (cutbox-rows.mjs): the forced cells as the released guide's own fill.sh prints them over the translation 3296156c335e7df3… (all of the seat's roots in one cut). By AI agents, Wed Nov 11 2026. No macro, syntax, notation, axiom, sorry.
-/
import Derived.Test.YtelfhdblldapmaaChecked
import GoSem.Claim
import GoSem.ClaimJoined
import GoSem.ClaimMapViews
import Derived.JoinedTies
import Derived.KernelRfl
namespace Go.Proofs.Ytelfhdblldapmaa
/- THE CELL 'sum', in the pinned program and in every row, IS THE sha256 OF THE DUMP (.gsa) THAT YtelfhdblldapmaaProg.lean LOADS. Nothing in Lean hashes anything: it is a label: what it is worth is what the hold of that sum in a sandbox is worth. -/
noncomputable def Try.pinned : Pinned := { name := "ytelfhdblldapmaa", sum := "3296156c335e7df3bf12e326158614f93af313d8b4cd6e3472a6184f158f36b1", checked := Try.checked }
namespace Rows
def none {H : Type} : Left H := { results := [], args := [] }

/-- 'laws.FnExactLabelsFault': WHATEVER THE INPUT: true; the input reads as it did. -/
def fnExactLabelsFaultSpec : ChangeSpec := { name := "fnExactLabelsFault", fn := fun _ => fun
  | [d] => { results := [.lit (.bool true)], args := [d] }
  | _ => none }
def fnExactLabelsFaultRow : OpenClaim := { program := "ytelfhdblldapmaa", sum := "3296156c335e7df3bf12e326158614f93af313d8b4cd6e3472a6184f158f36b1", func := "loop.example/g00042/laws.FnExactLabelsFault", spec := "fnExactLabelsFault", inPlace := ["internal/abi.NoEscape", "internal/bytealg.MakeNoZero"], unfollowed := true, recurses := true, plainKeys := false, apart := false }
def FnExactLabelsFaultSaid : Prop := fnExactLabelsFaultRow.holds Try.pinned (OpenSpec.ofChange fnExactLabelsFaultSpec)

/-- ITS FALSE NEIGHBOUR: 'it returns false'. Refute it at one input. -/
def fnExactLabelsFaultWrong : ChangeSpec := { name := "fnExactLabelsFault", fn := fun _ => fun
  | [d] => { results := [.lit (.bool false)], args := [d] }
  | _ => none }
def FnExactLabelsFaultWrongFalsely : Prop := fnExactLabelsFaultRow.holds Try.pinned (OpenSpec.ofChange fnExactLabelsFaultWrong)

/-- 'laws.FnExactLabelsFit': WHATEVER THE INPUT: true; the input reads as it did. -/
def fnExactLabelsFitSpec : ChangeSpec := { name := "fnExactLabelsFit", fn := fun _ => fun
  | [d1, d2] => { results := [.lit (.bool true)], args := [d1, d2] }
  | _ => none }
def fnExactLabelsFitRow : OpenClaim := { program := "ytelfhdblldapmaa", sum := "3296156c335e7df3bf12e326158614f93af313d8b4cd6e3472a6184f158f36b1", func := "loop.example/g00042/laws.FnExactLabelsFit", spec := "fnExactLabelsFit", inPlace := ["internal/abi.NoEscape", "internal/bytealg.MakeNoZero"], unfollowed := true, recurses := true, plainKeys := false, apart := false }
def FnExactLabelsFitSaid : Prop := fnExactLabelsFitRow.holds Try.pinned (OpenSpec.ofChange fnExactLabelsFitSpec)

/-- ITS FALSE NEIGHBOUR: 'it returns false'. Refute it at one input. -/
def fnExactLabelsFitWrong : ChangeSpec := { name := "fnExactLabelsFit", fn := fun _ => fun
  | [d1, d2] => { results := [.lit (.bool false)], args := [d1, d2] }
  | _ => none }
def FnExactLabelsFitWrongFalsely : Prop := fnExactLabelsFitRow.holds Try.pinned (OpenSpec.ofChange fnExactLabelsFitWrong)

/-- 'laws.FnExactPlanFault': WHATEVER THE INPUT: true; the input reads as it did. -/
def fnExactPlanFaultSpec : ChangeSpec := { name := "fnExactPlanFault", fn := fun _ => fun
  | [d1, d2] => { results := [.lit (.bool true)], args := [d1, d2] }
  | _ => none }
def fnExactPlanFaultRow : OpenClaim := { program := "ytelfhdblldapmaa", sum := "3296156c335e7df3bf12e326158614f93af313d8b4cd6e3472a6184f158f36b1", func := "loop.example/g00042/laws.FnExactPlanFault", spec := "fnExactPlanFault", inPlace := ["internal/bytealg.IndexByteString", "internal/bytealg.IndexString"], recurses := true, named := ["internal/bytealg.MaxLen"], plainKeys := false, apart := false }
def FnExactPlanFaultSaid : Prop := fnExactPlanFaultRow.holds Try.pinned (OpenSpec.ofChange fnExactPlanFaultSpec)

/-- ITS FALSE NEIGHBOUR: 'it returns false'. Refute it at one input. -/
def fnExactPlanFaultWrong : ChangeSpec := { name := "fnExactPlanFault", fn := fun _ => fun
  | [d1, d2] => { results := [.lit (.bool false)], args := [d1, d2] }
  | _ => none }
def FnExactPlanFaultWrongFalsely : Prop := fnExactPlanFaultRow.holds Try.pinned (OpenSpec.ofChange fnExactPlanFaultWrong)

/-- 'laws.FnExactIsTree': WHATEVER THE INPUT: true; the input reads as it did. -/
def fnExactIsTreeSpec : ChangeSpec := { name := "fnExactIsTree", fn := fun _ => fun
  | [d] => { results := [.lit (.bool true)], args := [d] }
  | _ => none }
def fnExactIsTreeRow : OpenClaim := { program := "ytelfhdblldapmaa", sum := "3296156c335e7df3bf12e326158614f93af313d8b4cd6e3472a6184f158f36b1", func := "loop.example/g00042/laws.FnExactIsTree", spec := "fnExactIsTree", inPlace := ["internal/bytealg.IndexByteString", "internal/bytealg.IndexString"], unfollowed := true, recurses := true, named := ["internal/bytealg.MaxLen"], plainKeys := false, apart := false }
def FnExactIsTreeSaid : Prop := fnExactIsTreeRow.holds Try.pinned (OpenSpec.ofChange fnExactIsTreeSpec)

/-- ITS FALSE NEIGHBOUR: 'it returns false'. Refute it at one input. -/
def fnExactIsTreeWrong : ChangeSpec := { name := "fnExactIsTree", fn := fun _ => fun
  | [d] => { results := [.lit (.bool false)], args := [d] }
  | _ => none }
def FnExactIsTreeWrongFalsely : Prop := fnExactIsTreeRow.holds Try.pinned (OpenSpec.ofChange fnExactIsTreeWrong)

/- THE SECOND FORM. 'bulk': how many values and letters a reading holds, each counted each time it is reached (what is shared counts as often as it is met; a slice's spare places count too). A statement '..UptoSaid' is the law's where the arguments, and the package variables that the reading takes, are together of bulk at most 1048576: NARROWER than '..Said'. Prove '..Said' where nothing that the law and all that it calls make is longer than what came in: it says more and counts as full. Else prove '..UptoSaid'. A law counts once. -/
mutual
def uptoBulk {H : Type} : DataW H → Nat
  | .lit (.string bytes) => bytes.length + 1
  | .lit _ => 1
  | .nil => 1
  | .ptr d => uptoBulk d + 1
  | .slice elems spare => uptoBulkAll elems + uptoBulkAll spare + 1
  | .agg parts => uptoBulkAll parts + 1
  | .iface _ d => uptoBulk d + 1
  | .map entries => uptoBulkEntries entries + 1
  | .held _ => 1
def uptoBulkAll {H : Type} : List (DataW H) → Nat
  | [] => 0
  | d :: r => uptoBulk d + uptoBulkAll r
def uptoBulkEntries {H : Type} : List (Lit × DataW H) → Nat
  | [] => 0
  | x :: r => uptoBulkEntry x + uptoBulkEntries r
def uptoBulkEntry {H : Type} : Lit × DataW H → Nat
  | (.string bytes, d) => bytes.length + uptoBulk d + 1
  | (_, d) => uptoBulk d + 1
 end
def uptoSmall : (H : Type) → List (DataW H) → Bool := fun _ ds => decide (uptoBulkAll ds ≤ 1048576)
def OpenSpec.upto (s : _root_.Go.ChangeSpec) : _root_.Go.OpenSpec := { _root_.Go.OpenSpec.ofChange s with cond := some uptoSmall }

/-- 'laws.FnExactLabelsFault', WHERE WHAT IT READS IS OF BULK AT MOST 1048576: true; the input reads as it did. -/
def fnExactLabelsFaultUptoRow : OpenClaim := { program := "ytelfhdblldapmaa", sum := "3296156c335e7df3bf12e326158614f93af313d8b4cd6e3472a6184f158f36b1", func := "loop.example/g00042/laws.FnExactLabelsFault", spec := "fnExactLabelsFault", inPlace := ["internal/abi.NoEscape", "internal/bytealg.MakeNoZero"], unfollowed := true, recurses := true, plainKeys := false, apart := false, narrowed := true }
def FnExactLabelsFaultUptoSaid : Prop := fnExactLabelsFaultUptoRow.holds Try.pinned (OpenSpec.upto fnExactLabelsFaultSpec)

/-- 'laws.FnExactLabelsFit', WHERE WHAT IT READS IS OF BULK AT MOST 1048576: true; the input reads as it did. -/
def fnExactLabelsFitUptoRow : OpenClaim := { program := "ytelfhdblldapmaa", sum := "3296156c335e7df3bf12e326158614f93af313d8b4cd6e3472a6184f158f36b1", func := "loop.example/g00042/laws.FnExactLabelsFit", spec := "fnExactLabelsFit", inPlace := ["internal/abi.NoEscape", "internal/bytealg.MakeNoZero"], unfollowed := true, recurses := true, plainKeys := false, apart := false, narrowed := true }
def FnExactLabelsFitUptoSaid : Prop := fnExactLabelsFitUptoRow.holds Try.pinned (OpenSpec.upto fnExactLabelsFitSpec)

/-- 'laws.FnExactPlanFault', WHERE WHAT IT READS IS OF BULK AT MOST 1048576: true; the input reads as it did. -/
def fnExactPlanFaultUptoRow : OpenClaim := { program := "ytelfhdblldapmaa", sum := "3296156c335e7df3bf12e326158614f93af313d8b4cd6e3472a6184f158f36b1", func := "loop.example/g00042/laws.FnExactPlanFault", spec := "fnExactPlanFault", inPlace := ["internal/bytealg.IndexByteString", "internal/bytealg.IndexString"], recurses := true, named := ["internal/bytealg.MaxLen"], plainKeys := false, apart := false, narrowed := true }
def FnExactPlanFaultUptoSaid : Prop := fnExactPlanFaultUptoRow.holds Try.pinned (OpenSpec.upto fnExactPlanFaultSpec)

/-- 'laws.FnExactIsTree', WHERE WHAT IT READS IS OF BULK AT MOST 1048576: true; the input reads as it did. -/
def fnExactIsTreeUptoRow : OpenClaim := { program := "ytelfhdblldapmaa", sum := "3296156c335e7df3bf12e326158614f93af313d8b4cd6e3472a6184f158f36b1", func := "loop.example/g00042/laws.FnExactIsTree", spec := "fnExactIsTree", inPlace := ["internal/bytealg.IndexByteString", "internal/bytealg.IndexString"], unfollowed := true, recurses := true, named := ["internal/bytealg.MaxLen"], plainKeys := false, apart := false, narrowed := true }
def FnExactIsTreeUptoSaid : Prop := fnExactIsTreeUptoRow.holds Try.pinned (OpenSpec.upto fnExactIsTreeSpec)

end Rows
end Go.Proofs.Ytelfhdblldapmaa
