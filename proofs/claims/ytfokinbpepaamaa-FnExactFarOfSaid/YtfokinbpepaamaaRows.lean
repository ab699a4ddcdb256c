/-
  No cell of these rows narrows 'for every input' (looked for: loops, veiled, ifaces, maps, wideKeys, modest, calm, conditions, laid).
  DERIVED. THE GIVEN ROWS OF THIS SEAT. 6 by the template 'for every input the law returns true; each argument reads behind the call as it read before'; 0 by the template 'total and deterministic' (their statements: YtfokinbpepaamaaTotals.lean).
  GIVEN WITH THE SEED: the statements are not yours to turn. If you find one false, say at which input.
  Laid BY PROGRAM, IN A SANDBOX (cutbox-rows.mjs): the forced cells as the released guide's own fill.sh prints them over the translation 7ce00cc5999133a7… (all of the seat's roots in one cut). By AI agents, Wed Nov 11 2026. No macro, syntax, notation, axiom, sorry.
-/
import Derived.Test.YtfokinbpepaamaaChecked
import GoSem.Claim
import GoSem.ClaimJoined
import GoSem.ClaimMapViews
import Derived.JoinedTies
import Derived.KernelRfl
namespace Go.Proofs.Ytfokinbpepaamaa
/- THE CELL 'sum', in the pinned program and in every row, IS THE sha256 OF THE DUMP (.gsa) THAT YtfokinbpepaamaaProg.lean LOADS. Nothing in Lean hashes anything: it is a label: what it is worth is what the hold of that sum in a sandbox is worth. -/
noncomputable def Try.pinned : Pinned := { name := "ytfokinbpepaamaa", sum := "7ce00cc5999133a702740f124459109b3af91b4a929bd54d68bd506276754376", checked := Try.checked }
namespace Rows
def none {H : Type} : Left H := { results := [], args := [] }

/-- 'laws.FnExactConstants': WHATEVER THE INPUT: true; the input reads as it did. -/
def fnExactConstantsSpec : ChangeSpec := { name := "fnExactConstants", fn := fun _ => fun
  | [] => { results := [.lit (.bool true)], args := [] }
  | _ => none }
def fnExactConstantsRow : OpenClaim := { program := "ytfokinbpepaamaa", sum := "7ce00cc5999133a702740f124459109b3af91b4a929bd54d68bd506276754376", func := "loop.example/g00042/laws.FnExactConstants", spec := "fnExactConstants", apart := false }
def FnExactConstantsSaid : Prop := fnExactConstantsRow.holds Try.pinned (OpenSpec.ofChange fnExactConstantsSpec)

/-- ITS FALSE NEIGHBOUR: 'it returns false'. Refute it at one input. -/
def fnExactConstantsWrong : ChangeSpec := { name := "fnExactConstants", fn := fun _ => fun
  | [] => { results := [.lit (.bool false)], args := [] }
  | _ => none }
def FnExactConstantsWrongFalsely : Prop := fnExactConstantsRow.holds Try.pinned (OpenSpec.ofChange fnExactConstantsWrong)

/-- 'laws.FnExactSumOf': WHATEVER THE INPUT: true; the input reads as it did. -/
def fnExactSumOfSpec : ChangeSpec := { name := "fnExactSumOf", fn := fun _ => fun
  | [d] => { results := [.lit (.bool true)], args := [d] }
  | _ => none }
def fnExactSumOfRow : OpenClaim := { program := "ytfokinbpepaamaa", sum := "7ce00cc5999133a702740f124459109b3af91b4a929bd54d68bd506276754376", func := "loop.example/g00042/laws.FnExactSumOf", spec := "fnExactSumOf", apart := false }
def FnExactSumOfSaid : Prop := fnExactSumOfRow.holds Try.pinned (OpenSpec.ofChange fnExactSumOfSpec)

/-- ITS FALSE NEIGHBOUR: 'it returns false'. Refute it at one input. -/
def fnExactSumOfWrong : ChangeSpec := { name := "fnExactSumOf", fn := fun _ => fun
  | [d] => { results := [.lit (.bool false)], args := [d] }
  | _ => none }
def FnExactSumOfWrongFalsely : Prop := fnExactSumOfRow.holds Try.pinned (OpenSpec.ofChange fnExactSumOfWrong)

/-- 'laws.FnExactFieldOf': WHATEVER THE INPUT: true; the input reads as it did. -/
def fnExactFieldOfSpec : ChangeSpec := { name := "fnExactFieldOf", fn := fun _ => fun
  | [d1, d2] => { results := [.lit (.bool true)], args := [d1, d2] }
  | _ => none }
def fnExactFieldOfRow : OpenClaim := { program := "ytfokinbpepaamaa", sum := "7ce00cc5999133a702740f124459109b3af91b4a929bd54d68bd506276754376", func := "loop.example/g00042/laws.FnExactFieldOf", spec := "fnExactFieldOf", apart := false }
def FnExactFieldOfSaid : Prop := fnExactFieldOfRow.holds Try.pinned (OpenSpec.ofChange fnExactFieldOfSpec)

/-- ITS FALSE NEIGHBOUR: 'it returns false'. Refute it at one input. -/
def fnExactFieldOfWrong : ChangeSpec := { name := "fnExactFieldOf", fn := fun _ => fun
  | [d1, d2] => { results := [.lit (.bool false)], args := [d1, d2] }
  | _ => none }
def FnExactFieldOfWrongFalsely : Prop := fnExactFieldOfRow.holds Try.pinned (OpenSpec.ofChange fnExactFieldOfWrong)

/-- 'laws.FnExactHubsFault': WHATEVER THE INPUT: true; the input reads as it did. -/
def fnExactHubsFaultSpec : ChangeSpec := { name := "fnExactHubsFault", fn := fun _ => fun
  | [d] => { results := [.lit (.bool true)], args := [d] }
  | _ => none }
def fnExactHubsFaultRow : OpenClaim := { program := "ytfokinbpepaamaa", sum := "7ce00cc5999133a702740f124459109b3af91b4a929bd54d68bd506276754376", func := "loop.example/g00042/laws.FnExactHubsFault", spec := "fnExactHubsFault", apart := false }
def FnExactHubsFaultSaid : Prop := fnExactHubsFaultRow.holds Try.pinned (OpenSpec.ofChange fnExactHubsFaultSpec)

/-- ITS FALSE NEIGHBOUR: 'it returns false'. Refute it at one input. -/
def fnExactHubsFaultWrong : ChangeSpec := { name := "fnExactHubsFault", fn := fun _ => fun
  | [d] => { results := [.lit (.bool false)], args := [d] }
  | _ => none }
def FnExactHubsFaultWrongFalsely : Prop := fnExactHubsFaultRow.holds Try.pinned (OpenSpec.ofChange fnExactHubsFaultWrong)

/-- 'laws.FnExactFarOf': WHATEVER THE INPUT: true; the input reads as it did. -/
def fnExactFarOfSpec : ChangeSpec := { name := "fnExactFarOf", fn := fun _ => fun
  | [d1, d2, d3] => { results := [.lit (.bool true)], args := [d1, d2, d3] }
  | _ => none }
def fnExactFarOfRow : OpenClaim := { program := "ytfokinbpepaamaa", sum := "7ce00cc5999133a702740f124459109b3af91b4a929bd54d68bd506276754376", func := "loop.example/g00042/laws.FnExactFarOf", spec := "fnExactFarOf", unfollowed := true, recurses := true, apart := false }
def FnExactFarOfSaid : Prop := fnExactFarOfRow.holds Try.pinned (OpenSpec.ofChange fnExactFarOfSpec)

/-- ITS FALSE NEIGHBOUR: 'it returns false'. Refute it at one input. -/
def fnExactFarOfWrong : ChangeSpec := { name := "fnExactFarOf", fn := fun _ => fun
  | [d1, d2, d3] => { results := [.lit (.bool false)], args := [d1, d2, d3] }
  | _ => none }
def FnExactFarOfWrongFalsely : Prop := fnExactFarOfRow.holds Try.pinned (OpenSpec.ofChange fnExactFarOfWrong)

/-- 'laws.FnExactAtomsFault': WHATEVER THE INPUT: true; the input reads as it did. -/
def fnExactAtomsFaultSpec : ChangeSpec := { name := "fnExactAtomsFault", fn := fun _ => fun
  | [d] => { results := [.lit (.bool true)], args := [d] }
  | _ => none }
def fnExactAtomsFaultRow : OpenClaim := { program := "ytfokinbpepaamaa", sum := "7ce00cc5999133a702740f124459109b3af91b4a929bd54d68bd506276754376", func := "loop.example/g00042/laws.FnExactAtomsFault", spec := "fnExactAtomsFault", inPlace := ["internal/bytealg.IndexByteString", "internal/bytealg.IndexString"], named := ["internal/bytealg.MaxLen"], apart := false }
def FnExactAtomsFaultSaid : Prop := fnExactAtomsFaultRow.holds Try.pinned (OpenSpec.ofChange fnExactAtomsFaultSpec)

/-- ITS FALSE NEIGHBOUR: 'it returns false'. Refute it at one input. -/
def fnExactAtomsFaultWrong : ChangeSpec := { name := "fnExactAtomsFault", fn := fun _ => fun
  | [d] => { results := [.lit (.bool false)], args := [d] }
  | _ => none }
def FnExactAtomsFaultWrongFalsely : Prop := fnExactAtomsFaultRow.holds Try.pinned (OpenSpec.ofChange fnExactAtomsFaultWrong)

/- THE SECOND FORM. 'bulk': how many values and letters a reading holds, each counted each time it is reached (what is shared counts as often as it is met; a slice's spare places count too). A statement '..UptoSaid' is the law's where the arguments, and the package variables that the reading takes, are together of bulk at most 1048576: NARROWER than '..Said'. Prove '..Said' where nothing that the law and all that it calls make is longer than what came in: it says more and counts as full. Else prove '..UptoSaid'. A law counts once. -/
mutual
def uptoBulk {H : Type} : DataW H → Nat
  | .lit (.string bytes) => bytes.length + 1
  | .lit _ => 1
  | .nil => 1
  | .ptr d => uptoBulk d + 1
  | .slice elems spare => uptoBulkAll elems + uptoBulkAll spare + 1
  | .agg parts => uptoBulkAll parts + 1
  | .iface _ d => uptoBulk d + 1
  | .map entries => uptoBulkEntries entries + 1
  | .held _ => 1
def uptoBulkAll {H : Type} : List (DataW H) → Nat
  | [] => 0
  | d :: r => uptoBulk d + uptoBulkAll r
def uptoBulkEntries {H : Type} : List (Lit × DataW H) → Nat
  | [] => 0
  | x :: r => uptoBulkEntry x + uptoBulkEntries r
def uptoBulkEntry {H : Type} : Lit × DataW H → Nat
  | (.string bytes, d) => bytes.length + uptoBulk d + 1
  | (_, d) => uptoBulk d + 1
 end
def uptoSmall : (H : Type) → List (DataW H) → Bool := fun _ ds => decide (uptoBulkAll ds ≤ 1048576)
def OpenSpec.upto (s : _root_.Go.ChangeSpec) : _root_.Go.OpenSpec := { _root_.Go.OpenSpec.ofChange s with cond := some uptoSmall }

/-- 'laws.FnExactConstants', WHERE WHAT IT READS IS OF BULK AT MOST 1048576: true; the input reads as it did. -/
def fnExactConstantsUptoRow : OpenClaim := { program := "ytfokinbpepaamaa", sum := "7ce00cc5999133a702740f124459109b3af91b4a929bd54d68bd506276754376", func := "loop.example/g00042/laws.FnExactConstants", spec := "fnExactConstants", apart := false, narrowed := true }
def FnExactConstantsUptoSaid : Prop := fnExactConstantsUptoRow.holds Try.pinned (OpenSpec.upto fnExactConstantsSpec)

/-- 'laws.FnExactSumOf', WHERE WHAT IT READS IS OF BULK AT MOST 1048576: true; the input reads as it did. -/
def fnExactSumOfUptoRow : OpenClaim := { program := "ytfokinbpepaamaa", sum := "7ce00cc5999133a702740f124459109b3af91b4a929bd54d68bd506276754376", func := "loop.example/g00042/laws.FnExactSumOf", spec := "fnExactSumOf", apart := false, narrowed := true }
def FnExactSumOfUptoSaid : Prop := fnExactSumOfUptoRow.holds Try.pinned (OpenSpec.upto fnExactSumOfSpec)

/-- 'laws.FnExactFieldOf', WHERE WHAT IT READS IS OF BULK AT MOST 1048576: true; the input reads as it did. -/
def fnExactFieldOfUptoRow : OpenClaim := { program := "ytfokinbpepaamaa", sum := "7ce00cc5999133a702740f124459109b3af91b4a929bd54d68bd506276754376", func := "loop.example/g00042/laws.FnExactFieldOf", spec := "fnExactFieldOf", apart := false, narrowed := true }
def FnExactFieldOfUptoSaid : Prop := fnExactFieldOfUptoRow.holds Try.pinned (OpenSpec.upto fnExactFieldOfSpec)

/-- 'laws.FnExactHubsFault', WHERE WHAT IT READS IS OF BULK AT MOST 1048576: true; the input reads as it did. -/
def fnExactHubsFaultUptoRow : OpenClaim := { program := "ytfokinbpepaamaa", sum := "7ce00cc5999133a702740f124459109b3af91b4a929bd54d68bd506276754376", func := "loop.example/g00042/laws.FnExactHubsFault", spec := "fnExactHubsFault", apart := false, narrowed := true }
def FnExactHubsFaultUptoSaid : Prop := fnExactHubsFaultUptoRow.holds Try.pinned (OpenSpec.upto fnExactHubsFaultSpec)

/-- 'laws.FnExactFarOf', WHERE WHAT IT READS IS OF BULK AT MOST 1048576: true; the input reads as it did. -/
def fnExactFarOfUptoRow : OpenClaim := { program := "ytfokinbpepaamaa", sum := "7ce00cc5999133a702740f124459109b3af91b4a929bd54d68bd506276754376", func := "loop.example/g00042/laws.FnExactFarOf", spec := "fnExactFarOf", unfollowed := true, recurses := true, apart := false, narrowed := true }
def FnExactFarOfUptoSaid : Prop := fnExactFarOfUptoRow.holds Try.pinned (OpenSpec.upto fnExactFarOfSpec)

/-- 'laws.FnExactAtomsFault', WHERE WHAT IT READS IS OF BULK AT MOST 1048576: true; the input reads as it did. -/
def fnExactAtomsFaultUptoRow : OpenClaim := { program := "ytfokinbpepaamaa", sum := "7ce00cc5999133a702740f124459109b3af91b4a929bd54d68bd506276754376", func := "loop.example/g00042/laws.FnExactAtomsFault", spec := "fnExactAtomsFault", inPlace := ["internal/bytealg.IndexByteString", "internal/bytealg.IndexString"], named := ["internal/bytealg.MaxLen"], apart := false, narrowed := true }
def FnExactAtomsFaultUptoSaid : Prop := fnExactAtomsFaultUptoRow.holds Try.pinned (OpenSpec.upto fnExactAtomsFaultSpec)

end Rows
end Go.Proofs.Ytfokinbpepaamaa
