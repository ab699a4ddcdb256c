/-
  No cell of these rows narrows 'for every input' (looked for: loops, veiled, ifaces, maps, wideKeys, modest, calm, conditions, laid).
  DERIVED. THE GIVEN ROWS OF THIS SEAT. 12 by the template 'for every input the law returns true; each argument reads behind the call as it read before'; 0 by the template 'total and deterministic' (their statements: YtphfoghhcemfhaaTotals.lean).
  GIVEN WITH THE SEED: the statements are not yours to turn. If you find one false, say at which input.
  Laid BY PROGRAM, IN A SANDBOX (cutbox-rows.mjs): the forced cells as the released guide's own fill.sh prints them over the translation c007acc7d150315d… (all of the seat's roots in one cut). By AI agents, Wed Nov 11 2026. No macro, syntax, notation, axiom, sorry.
-/
import Derived.Test.YtphfoghhcemfhaaChecked
import GoSem.Claim
import GoSem.ClaimJoined
import GoSem.ClaimMapViews
import Derived.JoinedTies
import Derived.KernelRfl
namespace Go.Proofs.Ytphfoghhcemfhaa
/- THE CELL 'sum', in the pinned program and in every row, IS THE sha256 OF THE DUMP (.gsa) THAT YtphfoghhcemfhaaProg.lean LOADS. Nothing in Lean hashes anything: it is a label: what it is worth is what the hold of that sum in a sandbox is worth. -/
noncomputable def Try.pinned : Pinned := { name := "ytphfoghhcemfhaa", sum := "c007acc7d150315d497f6c303be02378537ef87a0c5d45328cedd98620340819", checked := Try.checked }
namespace Rows
def none {H : Type} : Left H := { results := [], args := [] }

/-- 'laws.FnExactIsTree': WHATEVER THE INPUT: true; the input reads as it did. -/
def fnExactIsTreeSpec : ChangeSpec := { name := "fnExactIsTree", fn := fun _ => fun
  | [d] => { results := [.lit (.bool true)], args := [d] }
  | _ => none }
def fnExactIsTreeRow : OpenClaim := { program := "ytphfoghhcemfhaa", sum := "c007acc7d150315d497f6c303be02378537ef87a0c5d45328cedd98620340819", func := "loop.example/g00042/laws.FnExactIsTree", spec := "fnExactIsTree", inPlace := ["internal/bytealg.IndexByteString", "internal/bytealg.IndexString"], unfollowed := true, recurses := true, named := ["internal/bytealg.MaxLen"], plainKeys := false, apart := false }
def FnExactIsTreeSaid : Prop := fnExactIsTreeRow.holds Try.pinned (OpenSpec.ofChange fnExactIsTreeSpec)

/-- ITS FALSE NEIGHBOUR: 'it returns false'. Refute it at one input. -/
def fnExactIsTreeWrong : ChangeSpec := { name := "fnExactIsTree", fn := fun _ => fun
  | [d] => { results := [.lit (.bool false)], args := [d] }
  | _ => none }
def FnExactIsTreeWrongFalsely : Prop := fnExactIsTreeRow.holds Try.pinned (OpenSpec.ofChange fnExactIsTreeWrong)

/-- 'laws.FnExactTurnSteps': WHATEVER THE INPUT: true; the input reads as it did. -/
def fnExactTurnStepsSpec : ChangeSpec := { name := "fnExactTurnSteps", fn := fun _ => fun
  | [d] => { results := [.lit (.bool true)], args := [d] }
  | _ => none }
def fnExactTurnStepsRow : OpenClaim := { program := "ytphfoghhcemfhaa", sum := "c007acc7d150315d497f6c303be02378537ef87a0c5d45328cedd98620340819", func := "loop.example/g00042/laws.FnExactTurnSteps", spec := "fnExactTurnSteps", inPlace := ["internal/abi.NoEscape", "internal/bytealg.MakeNoZero"], unfollowed := true, recurses := true, plainKeys := false, apart := false }
def FnExactTurnStepsSaid : Prop := fnExactTurnStepsRow.holds Try.pinned (OpenSpec.ofChange fnExactTurnStepsSpec)

/-- ITS FALSE NEIGHBOUR: 'it returns false'. Refute it at one input. -/
def fnExactTurnStepsWrong : ChangeSpec := { name := "fnExactTurnSteps", fn := fun _ => fun
  | [d] => { results := [.lit (.bool false)], args := [d] }
  | _ => none }
def FnExactTurnStepsWrongFalsely : Prop := fnExactTurnStepsRow.holds Try.pinned (OpenSpec.ofChange fnExactTurnStepsWrong)

/-- 'laws.FnExactStoreFault': WHATEVER THE INPUT: true; the input reads as it did. -/
def fnExactStoreFaultSpec : ChangeSpec := { name := "fnExactStoreFault", fn := fun _ => fun
  | [d] => { results := [.lit (.bool true)], args := [d] }
  | _ => none }
def fnExactStoreFaultRow : OpenClaim := { program := "ytphfoghhcemfhaa", sum := "c007acc7d150315d497f6c303be02378537ef87a0c5d45328cedd98620340819", func := "loop.example/g00042/laws.FnExactStoreFault", spec := "fnExactStoreFault", plainKeys := false, apart := false }
def FnExactStoreFaultSaid : Prop := fnExactStoreFaultRow.holds Try.pinned (OpenSpec.ofChange fnExactStoreFaultSpec)

/-- ITS FALSE NEIGHBOUR: 'it returns false'. Refute it at one input. -/
def fnExactStoreFaultWrong : ChangeSpec := { name := "fnExactStoreFault", fn := fun _ => fun
  | [d] => { results := [.lit (.bool false)], args := [d] }
  | _ => none }
def FnExactStoreFaultWrongFalsely : Prop := fnExactStoreFaultRow.holds Try.pinned (OpenSpec.ofChange fnExactStoreFaultWrong)

/-- 'laws.FnExactWordsOf': WHATEVER THE INPUT: true; the input reads as it did. -/
def fnExactWordsOfSpec : ChangeSpec := { name := "fnExactWordsOf", fn := fun _ => fun
  | [d] => { results := [.lit (.bool true)], args := [d] }
  | _ => none }
def fnExactWordsOfRow : OpenClaim := { program := "ytphfoghhcemfhaa", sum := "c007acc7d150315d497f6c303be02378537ef87a0c5d45328cedd98620340819", func := "loop.example/g00042/laws.FnExactWordsOf", spec := "fnExactWordsOf", unfollowed := true, recurses := true, plainKeys := false, apart := false }
def FnExactWordsOfSaid : Prop := fnExactWordsOfRow.holds Try.pinned (OpenSpec.ofChange fnExactWordsOfSpec)

/-- ITS FALSE NEIGHBOUR: 'it returns false'. Refute it at one input. -/
def fnExactWordsOfWrong : ChangeSpec := { name := "fnExactWordsOf", fn := fun _ => fun
  | [d] => { results := [.lit (.bool false)], args := [d] }
  | _ => none }
def FnExactWordsOfWrongFalsely : Prop := fnExactWordsOfRow.holds Try.pinned (OpenSpec.ofChange fnExactWordsOfWrong)

/-- 'laws.FnExactSchemaFault': WHATEVER THE INPUT: true; the input reads as it did. -/
def fnExactSchemaFaultSpec : ChangeSpec := { name := "fnExactSchemaFault", fn := fun _ => fun
  | [d] => { results := [.lit (.bool true)], args := [d] }
  | _ => none }
def fnExactSchemaFaultRow : OpenClaim := { program := "ytphfoghhcemfhaa", sum := "c007acc7d150315d497f6c303be02378537ef87a0c5d45328cedd98620340819", func := "loop.example/g00042/laws.FnExactSchemaFault", spec := "fnExactSchemaFault", unfollowed := true, recurses := true, plainKeys := false, apart := false }
def FnExactSchemaFaultSaid : Prop := fnExactSchemaFaultRow.holds Try.pinned (OpenSpec.ofChange fnExactSchemaFaultSpec)

/-- ITS FALSE NEIGHBOUR: 'it returns false'. Refute it at one input. -/
def fnExactSchemaFaultWrong : ChangeSpec := { name := "fnExactSchemaFault", fn := fun _ => fun
  | [d] => { results := [.lit (.bool false)], args := [d] }
  | _ => none }
def FnExactSchemaFaultWrongFalsely : Prop := fnExactSchemaFaultRow.holds Try.pinned (OpenSpec.ofChange fnExactSchemaFaultWrong)

/-- 'laws.FnExactPatternFault': WHATEVER THE INPUT: true; the input reads as it did. -/
def fnExactPatternFaultSpec : ChangeSpec := { name := "fnExactPatternFault", fn := fun _ => fun
  | [d] => { results := [.lit (.bool true)], args := [d] }
  | _ => none }
def fnExactPatternFaultRow : OpenClaim := { program := "ytphfoghhcemfhaa", sum := "c007acc7d150315d497f6c303be02378537ef87a0c5d45328cedd98620340819", func := "loop.example/g00042/laws.FnExactPatternFault", spec := "fnExactPatternFault", inPlace := ["internal/bytealg.IndexByteString", "internal/bytealg.IndexString", "internal/abi.NoEscape", "internal/bytealg.MakeNoZero"], unfollowed := true, recurses := true, named := ["internal/bytealg.MaxLen"], plainKeys := false, apart := false }
def FnExactPatternFaultSaid : Prop := fnExactPatternFaultRow.holds Try.pinned (OpenSpec.ofChange fnExactPatternFaultSpec)

/-- ITS FALSE NEIGHBOUR: 'it returns false'. Refute it at one input. -/
def fnExactPatternFaultWrong : ChangeSpec := { name := "fnExactPatternFault", fn := fun _ => fun
  | [d] => { results := [.lit (.bool false)], args := [d] }
  | _ => none }
def FnExactPatternFaultWrongFalsely : Prop := fnExactPatternFaultRow.holds Try.pinned (OpenSpec.ofChange fnExactPatternFaultWrong)

/-- 'laws.FnExactIsOf': WHATEVER THE INPUT: true; the input reads as it did. -/
def fnExactIsOfSpec : ChangeSpec := { name := "fnExactIsOf", fn := fun _ => fun
  | [d1, d2, d3] => { results := [.lit (.bool true)], args := [d1, d2, d3] }
  | _ => none }
def fnExactIsOfRow : OpenClaim := { program := "ytphfoghhcemfhaa", sum := "c007acc7d150315d497f6c303be02378537ef87a0c5d45328cedd98620340819", func := "loop.example/g00042/laws.FnExactIsOf", spec := "fnExactIsOf", unfollowed := true, recurses := true, plainKeys := false, apart := false }
def FnExactIsOfSaid : Prop := fnExactIsOfRow.holds Try.pinned (OpenSpec.ofChange fnExactIsOfSpec)

/-- ITS FALSE NEIGHBOUR: 'it returns false'. Refute it at one input. -/
def fnExactIsOfWrong : ChangeSpec := { name := "fnExactIsOf", fn := fun _ => fun
  | [d1, d2, d3] => { results := [.lit (.bool false)], args := [d1, d2, d3] }
  | _ => none }
def FnExactIsOfWrongFalsely : Prop := fnExactIsOfRow.holds Try.pinned (OpenSpec.ofChange fnExactIsOfWrong)

/-- 'laws.FnExactShapesFault': WHATEVER THE INPUT: true; the input reads as it did. -/
def fnExactShapesFaultSpec : ChangeSpec := { name := "fnExactShapesFault", fn := fun _ => fun
  | [d] => { results := [.lit (.bool true)], args := [d] }
  | _ => none }
def fnExactShapesFaultRow : OpenClaim := { program := "ytphfoghhcemfhaa", sum := "c007acc7d150315d497f6c303be02378537ef87a0c5d45328cedd98620340819", func := "loop.example/g00042/laws.FnExactShapesFault", spec := "fnExactShapesFault", inPlace := ["internal/abi.NoEscape", "internal/bytealg.MakeNoZero"], unfollowed := true, recurses := true, plainKeys := false, apart := false }
def FnExactShapesFaultSaid : Prop := fnExactShapesFaultRow.holds Try.pinned (OpenSpec.ofChange fnExactShapesFaultSpec)

/-- ITS FALSE NEIGHBOUR: 'it returns false'. Refute it at one input. -/
def fnExactShapesFaultWrong : ChangeSpec := { name := "fnExactShapesFault", fn := fun _ => fun
  | [d] => { results := [.lit (.bool false)], args := [d] }
  | _ => none }
def FnExactShapesFaultWrongFalsely : Prop := fnExactShapesFaultRow.holds Try.pinned (OpenSpec.ofChange fnExactShapesFaultWrong)

/-- 'laws.FnExactLineOf': WHATEVER THE INPUT: true; the input reads as it did. -/
def fnExactLineOfSpec : ChangeSpec := { name := "fnExactLineOf", fn := fun _ => fun
  | [d1, d2] => { results := [.lit (.bool true)], args := [d1, d2] }
  | _ => none }
def fnExactLineOfRow : OpenClaim := { program := "ytphfoghhcemfhaa", sum := "c007acc7d150315d497f6c303be02378537ef87a0c5d45328cedd98620340819", func := "loop.example/g00042/laws.FnExactLineOf", spec := "fnExactLineOf", unfollowed := true, recurses := true, plainKeys := false, apart := false }
def FnExactLineOfSaid : Prop := fnExactLineOfRow.holds Try.pinned (OpenSpec.ofChange fnExactLineOfSpec)

/-- ITS FALSE NEIGHBOUR: 'it returns false'. Refute it at one input. -/
def fnExactLineOfWrong : ChangeSpec := { name := "fnExactLineOf", fn := fun _ => fun
  | [d1, d2] => { results := [.lit (.bool false)], args := [d1, d2] }
  | _ => none }
def FnExactLineOfWrongFalsely : Prop := fnExactLineOfRow.holds Try.pinned (OpenSpec.ofChange fnExactLineOfWrong)

/-- 'laws.FnExactWeaker': WHATEVER THE INPUT: true; the input reads as it did. -/
def fnExactWeakerSpec : ChangeSpec := { name := "fnExactWeaker", fn := fun _ => fun
  | [d1, d2] => { results := [.lit (.bool true)], args := [d1, d2] }
  | _ => none }
def fnExactWeakerRow : OpenClaim := { program := "ytphfoghhcemfhaa", sum := "c007acc7d150315d497f6c303be02378537ef87a0c5d45328cedd98620340819", func := "loop.example/g00042/laws.FnExactWeaker", spec := "fnExactWeaker", unfollowed := true, recurses := true, plainKeys := false, apart := false }
def FnExactWeakerSaid : Prop := fnExactWeakerRow.holds Try.pinned (OpenSpec.ofChange fnExactWeakerSpec)

/-- ITS FALSE NEIGHBOUR: 'it returns false'. Refute it at one input. -/
def fnExactWeakerWrong : ChangeSpec := { name := "fnExactWeaker", fn := fun _ => fun
  | [d1, d2] => { results := [.lit (.bool false)], args := [d1, d2] }
  | _ => none }
def FnExactWeakerWrongFalsely : Prop := fnExactWeakerRow.holds Try.pinned (OpenSpec.ofChange fnExactWeakerWrong)

/-- 'laws.FnExactNamesIn': WHATEVER THE INPUT: true; the input reads as it did. -/
def fnExactNamesInSpec : ChangeSpec := { name := "fnExactNamesIn", fn := fun _ => fun
  | [d] => { results := [.lit (.bool true)], args := [d] }
  | _ => none }
def fnExactNamesInRow : OpenClaim := { program := "ytphfoghhcemfhaa", sum := "c007acc7d150315d497f6c303be02378537ef87a0c5d45328cedd98620340819", func := "loop.example/g00042/laws.FnExactNamesIn", spec := "fnExactNamesIn", inPlace := ["internal/bytealg.IndexByteString", "internal/bytealg.IndexString", "internal/abi.NoEscape", "internal/bytealg.MakeNoZero"], unfollowed := true, recurses := true, named := ["internal/bytealg.MaxLen"], plainKeys := false, apart := false }
def FnExactNamesInSaid : Prop := fnExactNamesInRow.holds Try.pinned (OpenSpec.ofChange fnExactNamesInSpec)

/-- ITS FALSE NEIGHBOUR: 'it returns false'. Refute it at one input. -/
def fnExactNamesInWrong : ChangeSpec := { name := "fnExactNamesIn", fn := fun _ => fun
  | [d] => { results := [.lit (.bool false)], args := [d] }
  | _ => none }
def FnExactNamesInWrongFalsely : Prop := fnExactNamesInRow.holds Try.pinned (OpenSpec.ofChange fnExactNamesInWrong)

/-- 'laws.FnExactEdgesIn': WHATEVER THE INPUT: true; the input reads as it did. -/
def fnExactEdgesInSpec : ChangeSpec := { name := "fnExactEdgesIn", fn := fun _ => fun
  | [d] => { results := [.lit (.bool true)], args := [d] }
  | _ => none }
def fnExactEdgesInRow : OpenClaim := { program := "ytphfoghhcemfhaa", sum := "c007acc7d150315d497f6c303be02378537ef87a0c5d45328cedd98620340819", func := "loop.example/g00042/laws.FnExactEdgesIn", spec := "fnExactEdgesIn", inPlace := ["slices.overlaps[loop.example/g00042/impl.Edge]"], unfollowed := true, recurses := true, plainKeys := false, apart := false }
def FnExactEdgesInSaid : Prop := fnExactEdgesInRow.holds Try.pinned (OpenSpec.ofChange fnExactEdgesInSpec)

/-- ITS FALSE NEIGHBOUR: 'it returns false'. Refute it at one input. -/
def fnExactEdgesInWrong : ChangeSpec := { name := "fnExactEdgesIn", fn := fun _ => fun
  | [d] => { results := [.lit (.bool false)], args := [d] }
  | _ => none }
def FnExactEdgesInWrongFalsely : Prop := fnExactEdgesInRow.holds Try.pinned (OpenSpec.ofChange fnExactEdgesInWrong)

/- THE SECOND FORM. 'bulk': how many values and letters a reading holds, each counted each time it is reached (what is shared counts as often as it is met; a slice's spare places count too). A statement '..UptoSaid' is the law's where the arguments, and the package variables that the reading takes, are together of bulk at most 1048576: NARROWER than '..Said'. Prove '..Said' where nothing that the law and all that it calls make is longer than what came in: it says more and counts as full. Else prove '..UptoSaid'. A law counts once. -/
mutual
def uptoBulk {H : Type} : DataW H → Nat
  | .lit (.string bytes) => bytes.length + 1
  | .lit _ => 1
  | .nil => 1
  | .ptr d => uptoBulk d + 1
  | .slice elems spare => uptoBulkAll elems + uptoBulkAll spare + 1
  | .agg parts => uptoBulkAll parts + 1
  | .iface _ d => uptoBulk d + 1
  | .map entries => uptoBulkEntries entries + 1
  | .held _ => 1
def uptoBulkAll {H : Type} : List (DataW H) → Nat
  | [] => 0
  | d :: r => uptoBulk d + uptoBulkAll r
def uptoBulkEntries {H : Type} : List (Lit × DataW H) → Nat
  | [] => 0
  | x :: r => uptoBulkEntry x + uptoBulkEntries r
def uptoBulkEntry {H : Type} : Lit × DataW H → Nat
  | (.string bytes, d) => bytes.length + uptoBulk d + 1
  | (_, d) => uptoBulk d + 1
 end
def uptoSmall : (H : Type) → List (DataW H) → Bool := fun _ ds => decide (uptoBulkAll ds ≤ 1048576)
def OpenSpec.upto (s : _root_.Go.ChangeSpec) : _root_.Go.OpenSpec := { _root_.Go.OpenSpec.ofChange s with cond := some uptoSmall }

/-- 'laws.FnExactIsTree', WHERE WHAT IT READS IS OF BULK AT MOST 1048576: true; the input reads as it did. -/
def fnExactIsTreeUptoRow : OpenClaim := { program := "ytphfoghhcemfhaa", sum := "c007acc7d150315d497f6c303be02378537ef87a0c5d45328cedd98620340819", func := "loop.example/g00042/laws.FnExactIsTree", spec := "fnExactIsTree", inPlace := ["internal/bytealg.IndexByteString", "internal/bytealg.IndexString"], unfollowed := true, recurses := true, named := ["internal/bytealg.MaxLen"], plainKeys := false, apart := false, narrowed := true }
def FnExactIsTreeUptoSaid : Prop := fnExactIsTreeUptoRow.holds Try.pinned (OpenSpec.upto fnExactIsTreeSpec)

/-- 'laws.FnExactTurnSteps', WHERE WHAT IT READS IS OF BULK AT MOST 1048576: true; the input reads as it did. -/
def fnExactTurnStepsUptoRow : OpenClaim := { program := "ytphfoghhcemfhaa", sum := "c007acc7d150315d497f6c303be02378537ef87a0c5d45328cedd98620340819", func := "loop.example/g00042/laws.FnExactTurnSteps", spec := "fnExactTurnSteps", inPlace := ["internal/abi.NoEscape", "internal/bytealg.MakeNoZero"], unfollowed := true, recurses := true, plainKeys := false, apart := false, narrowed := true }
def FnExactTurnStepsUptoSaid : Prop := fnExactTurnStepsUptoRow.holds Try.pinned (OpenSpec.upto fnExactTurnStepsSpec)

/-- 'laws.FnExactStoreFault', WHERE WHAT IT READS IS OF BULK AT MOST 1048576: true; the input reads as it did. -/
def fnExactStoreFaultUptoRow : OpenClaim := { program := "ytphfoghhcemfhaa", sum := "c007acc7d150315d497f6c303be02378537ef87a0c5d45328cedd98620340819", func := "loop.example/g00042/laws.FnExactStoreFault", spec := "fnExactStoreFault", plainKeys := false, apart := false, narrowed := true }
def FnExactStoreFaultUptoSaid : Prop := fnExactStoreFaultUptoRow.holds Try.pinned (OpenSpec.upto fnExactStoreFaultSpec)

/-- 'laws.FnExactWordsOf', WHERE WHAT IT READS IS OF BULK AT MOST 1048576: true; the input reads as it did. -/
def fnExactWordsOfUptoRow : OpenClaim := { program := "ytphfoghhcemfhaa", sum := "c007acc7d150315d497f6c303be02378537ef87a0c5d45328cedd98620340819", func := "loop.example/g00042/laws.FnExactWordsOf", spec := "fnExactWordsOf", unfollowed := true, recurses := true, plainKeys := false, apart := false, narrowed := true }
def FnExactWordsOfUptoSaid : Prop := fnExactWordsOfUptoRow.holds Try.pinned (OpenSpec.upto fnExactWordsOfSpec)

/-- 'laws.FnExactSchemaFault', WHERE WHAT IT READS IS OF BULK AT MOST 1048576: true; the input reads as it did. -/
def fnExactSchemaFaultUptoRow : OpenClaim := { program := "ytphfoghhcemfhaa", sum := "c007acc7d150315d497f6c303be02378537ef87a0c5d45328cedd98620340819", func := "loop.example/g00042/laws.FnExactSchemaFault", spec := "fnExactSchemaFault", unfollowed := true, recurses := true, plainKeys := false, apart := false, narrowed := true }
def FnExactSchemaFaultUptoSaid : Prop := fnExactSchemaFaultUptoRow.holds Try.pinned (OpenSpec.upto fnExactSchemaFaultSpec)

/-- 'laws.FnExactPatternFault', WHERE WHAT IT READS IS OF BULK AT MOST 1048576: true; the input reads as it did. -/
def fnExactPatternFaultUptoRow : OpenClaim := { program := "ytphfoghhcemfhaa", sum := "c007acc7d150315d497f6c303be02378537ef87a0c5d45328cedd98620340819", func := "loop.example/g00042/laws.FnExactPatternFault", spec := "fnExactPatternFault", inPlace := ["internal/bytealg.IndexByteString", "internal/bytealg.IndexString", "internal/abi.NoEscape", "internal/bytealg.MakeNoZero"], unfollowed := true, recurses := true, named := ["internal/bytealg.MaxLen"], plainKeys := false, apart := false, narrowed := true }
def FnExactPatternFaultUptoSaid : Prop := fnExactPatternFaultUptoRow.holds Try.pinned (OpenSpec.upto fnExactPatternFaultSpec)

/-- 'laws.FnExactIsOf', WHERE WHAT IT READS IS OF BULK AT MOST 1048576: true; the input reads as it did. -/
def fnExactIsOfUptoRow : OpenClaim := { program := "ytphfoghhcemfhaa", sum := "c007acc7d150315d497f6c303be02378537ef87a0c5d45328cedd98620340819", func := "loop.example/g00042/laws.FnExactIsOf", spec := "fnExactIsOf", unfollowed := true, recurses := true, plainKeys := false, apart := false, narrowed := true }
def FnExactIsOfUptoSaid : Prop := fnExactIsOfUptoRow.holds Try.pinned (OpenSpec.upto fnExactIsOfSpec)

/-- 'laws.FnExactShapesFault', WHERE WHAT IT READS IS OF BULK AT MOST 1048576: true; the input reads as it did. -/
def fnExactShapesFaultUptoRow : OpenClaim := { program := "ytphfoghhcemfhaa", sum := "c007acc7d150315d497f6c303be02378537ef87a0c5d45328cedd98620340819", func := "loop.example/g00042/laws.FnExactShapesFault", spec := "fnExactShapesFault", inPlace := ["internal/abi.NoEscape", "internal/bytealg.MakeNoZero"], unfollowed := true, recurses := true, plainKeys := false, apart := false, narrowed := true }
def FnExactShapesFaultUptoSaid : Prop := fnExactShapesFaultUptoRow.holds Try.pinned (OpenSpec.upto fnExactShapesFaultSpec)

/-- 'laws.FnExactLineOf', WHERE WHAT IT READS IS OF BULK AT MOST 1048576: true; the input reads as it did. -/
def fnExactLineOfUptoRow : OpenClaim := { program := "ytphfoghhcemfhaa", sum := "c007acc7d150315d497f6c303be02378537ef87a0c5d45328cedd98620340819", func := "loop.example/g00042/laws.FnExactLineOf", spec := "fnExactLineOf", unfollowed := true, recurses := true, plainKeys := false, apart := false, narrowed := true }
def FnExactLineOfUptoSaid : Prop := fnExactLineOfUptoRow.holds Try.pinned (OpenSpec.upto fnExactLineOfSpec)

/-- 'laws.FnExactWeaker', WHERE WHAT IT READS IS OF BULK AT MOST 1048576: true; the input reads as it did. -/
def fnExactWeakerUptoRow : OpenClaim := { program := "ytphfoghhcemfhaa", sum := "c007acc7d150315d497f6c303be02378537ef87a0c5d45328cedd98620340819", func := "loop.example/g00042/laws.FnExactWeaker", spec := "fnExactWeaker", unfollowed := true, recurses := true, plainKeys := false, apart := false, narrowed := true }
def FnExactWeakerUptoSaid : Prop := fnExactWeakerUptoRow.holds Try.pinned (OpenSpec.upto fnExactWeakerSpec)

/-- 'laws.FnExactNamesIn', WHERE WHAT IT READS IS OF BULK AT MOST 1048576: true; the input reads as it did. -/
def fnExactNamesInUptoRow : OpenClaim := { program := "ytphfoghhcemfhaa", sum := "c007acc7d150315d497f6c303be02378537ef87a0c5d45328cedd98620340819", func := "loop.example/g00042/laws.FnExactNamesIn", spec := "fnExactNamesIn", inPlace := ["internal/bytealg.IndexByteString", "internal/bytealg.IndexString", "internal/abi.NoEscape", "internal/bytealg.MakeNoZero"], unfollowed := true, recurses := true, named := ["internal/bytealg.MaxLen"], plainKeys := false, apart := false, narrowed := true }
def FnExactNamesInUptoSaid : Prop := fnExactNamesInUptoRow.holds Try.pinned (OpenSpec.upto fnExactNamesInSpec)

/-- 'laws.FnExactEdgesIn', WHERE WHAT IT READS IS OF BULK AT MOST 1048576: true; the input reads as it did. -/
def fnExactEdgesInUptoRow : OpenClaim := { program := "ytphfoghhcemfhaa", sum := "c007acc7d150315d497f6c303be02378537ef87a0c5d45328cedd98620340819", func := "loop.example/g00042/laws.FnExactEdgesIn", spec := "fnExactEdgesIn", inPlace := ["slices.overlaps[loop.example/g00042/impl.Edge]"], unfollowed := true, recurses := true, plainKeys := false, apart := false, narrowed := true }
def FnExactEdgesInUptoSaid : Prop := fnExactEdgesInUptoRow.holds Try.pinned (OpenSpec.upto fnExactEdgesInSpec)

end Rows
end Go.Proofs.Ytphfoghhcemfhaa
