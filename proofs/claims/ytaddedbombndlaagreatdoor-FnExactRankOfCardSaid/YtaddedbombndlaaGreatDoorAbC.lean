/- Facts of this program's types; its struct types; the rules, each with what closes its sides. No condition. -/
import Derived.Test.YtaddedbombndlaaGreatDoorAbR
import Derived.Test.YtaddedbombndlaaGreatDoorProg
import Derived.KernelRfl
import Derived.Lib.LaidTab
import Derived.Lib.ItoaNum
namespace Go.Ab
open Go.Proofs
set_option linter.unusedVariables false
set_option linter.unusedSimpArgs false
/-- The table internal/strconv.uint64pow10 is the program's. -/
def Gp (w : World) : Prop := Lib.TabIs Tryz.prog w "internal/strconv.uint64pow10" .u64 Lib.pow10Tab
/-- strconv.ErrSyntax and strconv.ErrRange hold some error. -/
def Ge (w : World) : Prop := (∃ ev, w.cell? ⟨0, 0, none⟩ = some ev ∧ (ev = .nilIface ∨ ∃ te pe, ev = .iface te pe)) ∧ (∃ ev, w.cell? ⟨1, 0, none⟩ = some ev ∧ (ev = .nilIface ∨ ∃ te pe, ev = .iface te pe))
/-- What must be known of the world. -/
class KOk (K : Kn) : Prop where
 known : ∀ w : World, Knows K w → Gp w ∧ Ge w

set_option maxRecDepth 100000 in
theorem tyF : isAggB Tryz.prog 2 = some false ∧
 tsize Tryz.prog 2 = some 1 ∧
 zeroCells Tryz.prog 2 = some [.p (.int .i64 0)] ∧
 tkind Tryz.prog 2 = .int .i64 ∧
 notIntT Tryz.prog 2 = false ∧
 szPos Tryz.prog 2 = true ∧
 isAggB Tryz.prog 3 = some false ∧
 tsize Tryz.prog 3 = some 1 ∧
 zeroCells Tryz.prog 3 = some [.p (.int .i64 0)] ∧
 tkind Tryz.prog 3 = .int .i64 ∧
 notIntT Tryz.prog 3 = false ∧
 szPos Tryz.prog 3 = true ∧
 isAggB Tryz.prog 4 = some false ∧
 tsize Tryz.prog 4 = some 1 ∧
 zeroCells Tryz.prog 4 = some [.p (.bool false)] ∧
 tkind Tryz.prog 4 = .other ∧
 isBoolT Tryz.prog 4 = true ∧
 notIntT Tryz.prog 4 = true ∧
 szPos Tryz.prog 4 = true ∧
 isAggB Tryz.prog 5 = some false ∧
 tsize Tryz.prog 5 = some 1 ∧
 zeroCells Tryz.prog 5 = some [.p (.int .u8 0)] ∧
 tkind Tryz.prog 5 = .int .u8 ∧
 notIntT Tryz.prog 5 = false ∧
 szPos Tryz.prog 5 = true ∧
 isAggB Tryz.prog 9 = some false ∧
 tsize Tryz.prog 9 = some 1 ∧
 zeroCells Tryz.prog 9 = some [.p (.str (⟨#[]⟩ : ByteArray))] ∧
 tkind Tryz.prog 9 = .str ∧
 notIntT Tryz.prog 9 = true ∧
 szPos Tryz.prog 9 = true ∧
 isStrT Tryz.prog 9 = true ∧
 isAggB Tryz.prog 22 = some false ∧
 tsize Tryz.prog 22 = some 1 ∧
 sliceOf Tryz.prog 22 = some 3 ∧
 core.elemZero Tryz.prog 22 = some [.p (.int .i64 0), .p .nilS, .p .nilS] ∧
 zeroCells Tryz.prog 22 = some [.p .nilS] ∧
 tkind Tryz.prog 22 = .other ∧
 notIntT Tryz.prog 22 = true ∧
 szPos Tryz.prog 22 = true ∧
 isAggB Tryz.prog 23 = some false ∧
 tsize Tryz.prog 23 = some 1 ∧
 sliceOf Tryz.prog 23 = some 5 ∧
 core.elemZero Tryz.prog 23 = some [.p (.int .i64 0), .p (.str (⟨#[]⟩ : ByteArray)), .p (.int .i64 0), .p (.int .i64 0), .p .nilS] ∧
 zeroCells Tryz.prog 23 = some [.p .nilS] ∧
 tkind Tryz.prog 23 = .other ∧
 notIntT Tryz.prog 23 = true ∧
 szPos Tryz.prog 23 = true ∧
 isAggB Tryz.prog 25 = some true ∧
 tsize Tryz.prog 25 = some 2 ∧
 sizedB Tryz.prog 25 = true ∧
 fieldOf Tryz.prog 25 0 = some (0, 22) ∧
 fieldOf Tryz.prog 25 1 = some (1, 23) ∧
 arrOf Tryz.prog 25 = none ∧
 zeroCells Tryz.prog 25 = some [.p .nilS, .p .nilS] ∧
 tkind Tryz.prog 25 = .other ∧
 notIntT Tryz.prog 25 = true ∧
 szPos Tryz.prog 25 = true ∧
 isAggB Tryz.prog 27 = some false ∧
 tsize Tryz.prog 27 = some 1 ∧
 sliceOf Tryz.prog 27 = some 2 ∧
 core.elemZero Tryz.prog 27 = some [.p (.int .i64 0), .p (.int .i64 0)] ∧
 zeroCells Tryz.prog 27 = some [.p .nilS] ∧
 tkind Tryz.prog 27 = .other ∧
 notIntT Tryz.prog 27 = true ∧
 szPos Tryz.prog 27 = true ∧
 isAggB Tryz.prog 29 = some false ∧
 tsize Tryz.prog 29 = some 1 ∧
 sliceOf Tryz.prog 29 = some 3 ∧
 core.elemZero Tryz.prog 29 = some [.p (.int .i64 0), .p .nilS, .p .nilS] ∧
 zeroCells Tryz.prog 29 = some [.p .nilS] ∧
 tkind Tryz.prog 29 = .other ∧
 notIntT Tryz.prog 29 = true ∧
 szPos Tryz.prog 29 = true ∧
 isAggB Tryz.prog 30 = some false ∧
 tsize Tryz.prog 30 = some 1 ∧
 sliceOf Tryz.prog 30 = some 5 ∧
 core.elemZero Tryz.prog 30 = some [.p (.int .i64 0), .p (.str (⟨#[]⟩ : ByteArray)), .p (.int .i64 0), .p (.int .i64 0), .p .nilS] ∧
 zeroCells Tryz.prog 30 = some [.p .nilS] ∧
 tkind Tryz.prog 30 = .other ∧
 notIntT Tryz.prog 30 = true ∧
 szPos Tryz.prog 30 = true ∧
 isAggB Tryz.prog 32 = some true ∧
 tsize Tryz.prog 32 = some 2 ∧
 sizedB Tryz.prog 32 = true ∧
 fieldOf Tryz.prog 32 0 = some (0, 29) ∧
 fieldOf Tryz.prog 32 1 = some (1, 30) ∧
 arrOf Tryz.prog 32 = none ∧
 zeroCells Tryz.prog 32 = some [.p .nilS, .p .nilS] ∧
 tkind Tryz.prog 32 = .other ∧
 notIntT Tryz.prog 32 = true ∧
 szPos Tryz.prog 32 = true ∧
 isAggB Tryz.prog 42 = some false ∧
 tsize Tryz.prog 42 = some 1 ∧
 sliceOf Tryz.prog 42 = some 1 ∧
 core.elemZero Tryz.prog 42 = some [.p (.int .i64 0)] ∧
 zeroCells Tryz.prog 42 = some [.p .nilS] ∧
 tkind Tryz.prog 42 = .other ∧
 notIntT Tryz.prog 42 = true ∧
 szPos Tryz.prog 42 = true ∧
 isAggB Tryz.prog 44 = some false ∧
 tsize Tryz.prog 44 = some 1 ∧
 sliceOf Tryz.prog 44 = some 1 ∧
 core.elemZero Tryz.prog 44 = some [.p (.str (⟨#[]⟩ : ByteArray))] ∧
 zeroCells Tryz.prog 44 = some [.p .nilS] ∧
 tkind Tryz.prog 44 = .other ∧
 notIntT Tryz.prog 44 = true ∧
 szPos Tryz.prog 44 = true ∧
 isAggB Tryz.prog 45 = some false ∧
 tsize Tryz.prog 45 = some 1 ∧
 sliceOf Tryz.prog 45 = some 2 ∧
 core.elemZero Tryz.prog 45 = some [.p (.str (⟨#[]⟩ : ByteArray)), .p (.str (⟨#[]⟩ : ByteArray))] ∧
 zeroCells Tryz.prog 45 = some [.p .nilS] ∧
 tkind Tryz.prog 45 = .other ∧
 notIntT Tryz.prog 45 = true ∧
 szPos Tryz.prog 45 = true ∧
 isAggB Tryz.prog 47 = some true ∧
 tsize Tryz.prog 47 = some 3 ∧
 sizedB Tryz.prog 47 = true ∧
 fieldOf Tryz.prog 47 0 = some (0, 2) ∧
 fieldOf Tryz.prog 47 1 = some (1, 44) ∧
 fieldOf Tryz.prog 47 2 = some (2, 45) ∧
 arrOf Tryz.prog 47 = none ∧
 zeroCells Tryz.prog 47 = some [.p (.int .i64 0), .p .nilS, .p .nilS] ∧
 tkind Tryz.prog 47 = .other ∧
 notIntT Tryz.prog 47 = true ∧
 szPos Tryz.prog 47 = true ∧
 isAggB Tryz.prog 50 = some true ∧
 tsize Tryz.prog 50 = some 5 ∧
 sizedB Tryz.prog 50 = true ∧
 fieldOf Tryz.prog 50 0 = some (0, 2) ∧
 fieldOf Tryz.prog 50 1 = some (1, 9) ∧
 fieldOf Tryz.prog 50 2 = some (2, 2) ∧
 fieldOf Tryz.prog 50 3 = some (3, 2) ∧
 fieldOf Tryz.prog 50 4 = some (4, 45) ∧
 arrOf Tryz.prog 50 = none ∧
 zeroCells Tryz.prog 50 = some [.p (.int .i64 0), .p (.str (⟨#[]⟩ : ByteArray)), .p (.int .i64 0), .p (.int .i64 0), .p .nilS] ∧
 tkind Tryz.prog 50 = .other ∧
 notIntT Tryz.prog 50 = true ∧
 szPos Tryz.prog 50 = true ∧
 isAggB Tryz.prog 55 = some false ∧
 tsize Tryz.prog 55 = some 1 ∧
 zeroCells Tryz.prog 55 = some [.p .nilM] ∧
 tkind Tryz.prog 55 = .other ∧
 mapTy Tryz.prog 55 = some (.int .i64, false, [.int .i64 0]) ∧
 notIntT Tryz.prog 55 = true ∧
 szPos Tryz.prog 55 = true ∧
 isAggB Tryz.prog 60 = some true ∧
 tsize Tryz.prog 60 = some 2 ∧
 sizedB Tryz.prog 60 = true ∧
 fieldOf Tryz.prog 60 0 = some (0, 2) ∧
 fieldOf Tryz.prog 60 1 = some (1, 2) ∧
 arrOf Tryz.prog 60 = none ∧
 zeroCells Tryz.prog 60 = some [.p (.int .i64 0), .p (.int .i64 0)] ∧
 tkind Tryz.prog 60 = .other ∧
 notIntT Tryz.prog 60 = true ∧
 szPos Tryz.prog 60 = true ∧
 isAggB Tryz.prog 66 = some false ∧
 tsize Tryz.prog 66 = some 1 ∧
 sliceOf Tryz.prog 66 = some 2 ∧
 core.elemZero Tryz.prog 66 = some [.p (.str (⟨#[]⟩ : ByteArray)), .p (.str (⟨#[]⟩ : ByteArray))] ∧
 zeroCells Tryz.prog 66 = some [.p .nilS] ∧
 tkind Tryz.prog 66 = .other ∧
 notIntT Tryz.prog 66 = true ∧
 szPos Tryz.prog 66 = true ∧
 isAggB Tryz.prog 68 = some true ∧
 tsize Tryz.prog 68 = some 3 ∧
 sizedB Tryz.prog 68 = true ∧
 fieldOf Tryz.prog 68 0 = some (0, 2) ∧
 fieldOf Tryz.prog 68 1 = some (1, 44) ∧
 fieldOf Tryz.prog 68 2 = some (2, 66) ∧
 arrOf Tryz.prog 68 = none ∧
 zeroCells Tryz.prog 68 = some [.p (.int .i64 0), .p .nilS, .p .nilS] ∧
 tkind Tryz.prog 68 = .other ∧
 notIntT Tryz.prog 68 = true ∧
 szPos Tryz.prog 68 = true ∧
 isAggB Tryz.prog 71 = some true ∧
 tsize Tryz.prog 71 = some 5 ∧
 sizedB Tryz.prog 71 = true ∧
 fieldOf Tryz.prog 71 0 = some (0, 2) ∧
 fieldOf Tryz.prog 71 1 = some (1, 9) ∧
 fieldOf Tryz.prog 71 2 = some (2, 2) ∧
 fieldOf Tryz.prog 71 3 = some (3, 2) ∧
 fieldOf Tryz.prog 71 4 = some (4, 66) ∧
 arrOf Tryz.prog 71 = none ∧
 zeroCells Tryz.prog 71 = some [.p (.int .i64 0), .p (.str (⟨#[]⟩ : ByteArray)), .p (.int .i64 0), .p (.int .i64 0), .p .nilS] ∧
 tkind Tryz.prog 71 = .other ∧
 notIntT Tryz.prog 71 = true ∧
 szPos Tryz.prog 71 = true ∧
 isAggB Tryz.prog 76 = some false ∧
 tsize Tryz.prog 76 = some 1 ∧
 zeroCells Tryz.prog 76 = some [.p .nilM] ∧
 tkind Tryz.prog 76 = .other ∧
 mapTy Tryz.prog 76 = some (.int .i64, false, [.int .i64 0]) ∧
 notIntT Tryz.prog 76 = true ∧
 szPos Tryz.prog 76 = true ∧
 isAggB Tryz.prog 93 = some true ∧
 tsize Tryz.prog 93 = some 2 ∧
 sizedB Tryz.prog 93 = true ∧
 fieldOf Tryz.prog 93 0 = some (0, 9) ∧
 fieldOf Tryz.prog 93 1 = some (1, 9) ∧
 arrOf Tryz.prog 93 = none ∧
 zeroCells Tryz.prog 93 = some [.p (.str (⟨#[]⟩ : ByteArray)), .p (.str (⟨#[]⟩ : ByteArray))] ∧
 tkind Tryz.prog 93 = .other ∧
 notIntT Tryz.prog 93 = true ∧
 szPos Tryz.prog 93 = true ∧
 isAggB Tryz.prog 94 = some false ∧
 tsize Tryz.prog 94 = some 1 ∧
 sliceOf Tryz.prog 94 = some 1 ∧
 core.elemZero Tryz.prog 94 = some [.p (.int .u8 0)] ∧
 zeroCells Tryz.prog 94 = some [.p .nilS] ∧
 tkind Tryz.prog 94 = .bytes ∧
 notIntT Tryz.prog 94 = true ∧
 szPos Tryz.prog 94 = true ∧
 isAggB Tryz.prog 96 = some true ∧
 tsize Tryz.prog 96 = some 2 ∧
 sizedB Tryz.prog 96 = true ∧
 fieldOf Tryz.prog 96 0 = some (0, 9) ∧
 fieldOf Tryz.prog 96 1 = some (1, 9) ∧
 arrOf Tryz.prog 96 = none ∧
 zeroCells Tryz.prog 96 = some [.p (.str (⟨#[]⟩ : ByteArray)), .p (.str (⟨#[]⟩ : ByteArray))] ∧
 tkind Tryz.prog 96 = .other ∧
 notIntT Tryz.prog 96 = true ∧
 szPos Tryz.prog 96 = true ∧
 isAggB Tryz.prog 100 = some false ∧
 tsize Tryz.prog 100 = some 1 ∧
 sliceOf Tryz.prog 100 = some 6 ∧
 core.elemZero Tryz.prog 100 = some [.p (.int .i64 0), .p (.int .i64 0), .p (.int .i64 0), .p (.str (⟨#[]⟩ : ByteArray)), .p .nilS, .p .nilS] ∧
 zeroCells Tryz.prog 100 = some [.p .nilS] ∧
 tkind Tryz.prog 100 = .other ∧
 notIntT Tryz.prog 100 = true ∧
 szPos Tryz.prog 100 = true ∧
 isAggB Tryz.prog 102 = some true ∧
 tsize Tryz.prog 102 = some 6 ∧
 sizedB Tryz.prog 102 = true ∧
 fieldOf Tryz.prog 102 0 = some (0, 2) ∧
 fieldOf Tryz.prog 102 1 = some (1, 2) ∧
 fieldOf Tryz.prog 102 2 = some (2, 2) ∧
 fieldOf Tryz.prog 102 3 = some (3, 9) ∧
 fieldOf Tryz.prog 102 4 = some (4, 100) ∧
 fieldOf Tryz.prog 102 5 = some (5, 44) ∧
 arrOf Tryz.prog 102 = none ∧
 zeroCells Tryz.prog 102 = some [.p (.int .i64 0), .p (.int .i64 0), .p (.int .i64 0), .p (.str (⟨#[]⟩ : ByteArray)), .p .nilS, .p .nilS] ∧
 tkind Tryz.prog 102 = .other ∧
 notIntT Tryz.prog 102 = true ∧
 szPos Tryz.prog 102 = true ∧
 isAggB Tryz.prog 105 = some false ∧
 tsize Tryz.prog 105 = some 1 ∧
 sliceOf Tryz.prog 105 = some 6 ∧
 core.elemZero Tryz.prog 105 = some [.p (.int .i64 0), .p (.int .i64 0), .p (.int .i64 0), .p (.str (⟨#[]⟩ : ByteArray)), .p .nilS, .p .nilS] ∧
 zeroCells Tryz.prog 105 = some [.p .nilS] ∧
 tkind Tryz.prog 105 = .other ∧
 notIntT Tryz.prog 105 = true ∧
 szPos Tryz.prog 105 = true ∧
 isAggB Tryz.prog 107 = some true ∧
 tsize Tryz.prog 107 = some 6 ∧
 sizedB Tryz.prog 107 = true ∧
 fieldOf Tryz.prog 107 0 = some (0, 2) ∧
 fieldOf Tryz.prog 107 1 = some (1, 2) ∧
 fieldOf Tryz.prog 107 2 = some (2, 2) ∧
 fieldOf Tryz.prog 107 3 = some (3, 9) ∧
 fieldOf Tryz.prog 107 4 = some (4, 44) ∧
 fieldOf Tryz.prog 107 5 = some (5, 105) ∧
 arrOf Tryz.prog 107 = none ∧
 zeroCells Tryz.prog 107 = some [.p (.int .i64 0), .p (.int .i64 0), .p (.int .i64 0), .p (.str (⟨#[]⟩ : ByteArray)), .p .nilS, .p .nilS] ∧
 tkind Tryz.prog 107 = .other ∧
 notIntT Tryz.prog 107 = true ∧
 szPos Tryz.prog 107 = true ∧
 isAggB Tryz.prog 113 = some true ∧
 tsize Tryz.prog 113 = some 3 ∧
 sizedB Tryz.prog 113 = true ∧
 fieldOf Tryz.prog 113 0 = some (0, 9) ∧
 fieldOf Tryz.prog 113 1 = some (1, 3) ∧
 fieldOf Tryz.prog 113 2 = some (2, 4) ∧
 arrOf Tryz.prog 113 = none ∧
 zeroCells Tryz.prog 113 = some [.p (.str (⟨#[]⟩ : ByteArray)), .p (.int .i64 0), .p (.bool false)] ∧
 tkind Tryz.prog 113 = .other ∧
 notIntT Tryz.prog 113 = true ∧
 szPos Tryz.prog 113 = true ∧
 isAggB Tryz.prog 117 = some true ∧
 tsize Tryz.prog 117 = some 2 ∧
 sizedB Tryz.prog 117 = true ∧
 fieldOf Tryz.prog 117 0 = some (0, 9) ∧
 fieldOf Tryz.prog 117 1 = some (1, 3) ∧
 arrOf Tryz.prog 117 = none ∧
 zeroCells Tryz.prog 117 = some [.p (.str (⟨#[]⟩ : ByteArray)), .p (.int .i64 0)] ∧
 tkind Tryz.prog 117 = .other ∧
 notIntT Tryz.prog 117 = true ∧
 szPos Tryz.prog 117 = true ∧
 isAggB Tryz.prog 136 = some false ∧
 tsize Tryz.prog 136 = some 1 ∧
 zeroCells Tryz.prog 136 = some [.p .nilI] ∧
 tkind Tryz.prog 136 = .other ∧
 isIfcT Tryz.prog 136 = true ∧
 notIntT Tryz.prog 136 = true ∧
 szPos Tryz.prog 136 = true := by
 repeat' refine And.intro ?_ ?_
 all_goals kernel_rfl
structure S92 where
 f0 : ByteArray
 f1 : ByteArray
 deriving Inhabited
def en92 (x : S92) : List PV := [.str x.f0, .str x.f1]
theorem ok92 (l : List S92) : rowsOk 2 (List.map en92 l) = true := rowsOk_map _ _ (fun x => by simp [en92]) l
structure S67 where
 f0 : Int
 f1 : (List ByteArray)
 f2 : (List S92)
 deriving Inhabited
def en67 (x : S67) : List PV := [.int .i64 x.f0, .lst false (List.map srw x.f1), .lst false (List.map en92 x.f2)]
theorem ok67 (l : List S67) : rowsOk 3 (List.map en67 l) = true := rowsOk_map _ _ (fun x => by simp [en67]) l
structure S70 where
 f0 : Int
 f1 : ByteArray
 f2 : Int
 f3 : Int
 f4 : (List S92)
 deriving Inhabited
def en70 (x : S70) : List PV := [.int .i64 x.f0, .str x.f1, .int .i64 x.f2, .int .i64 x.f3, .lst false (List.map en92 x.f4)]
theorem ok70 (l : List S70) : rowsOk 5 (List.map en70 l) = true := rowsOk_map _ _ (fun x => by simp [en70]) l
structure S24 where
 f0 : (List S67)
 f1 : (List S70)
 deriving Inhabited
def en24 (x : S24) : List PV := [.lst false (List.map en67 x.f0), .lst false (List.map en70 x.f1)]
theorem ok24 (l : List S24) : rowsOk 2 (List.map en24 l) = true := rowsOk_map _ _ (fun x => by simp [en24]) l
structure S46 where
 f0 : Int
 f1 : (List ByteArray)
 f2 : (List S92)
 deriving Inhabited
def en46 (x : S46) : List PV := [.int .i64 x.f0, .lst false (List.map srw x.f1), .lst false (List.map en92 x.f2)]
theorem ok46 (l : List S46) : rowsOk 3 (List.map en46 l) = true := rowsOk_map _ _ (fun x => by simp [en46]) l
structure S49 where
 f0 : Int
 f1 : ByteArray
 f2 : Int
 f3 : Int
 f4 : (List S92)
 deriving Inhabited
def en49 (x : S49) : List PV := [.int .i64 x.f0, .str x.f1, .int .i64 x.f2, .int .i64 x.f3, .lst false (List.map en92 x.f4)]
theorem ok49 (l : List S49) : rowsOk 5 (List.map en49 l) = true := rowsOk_map _ _ (fun x => by simp [en49]) l
structure S31 where
 f0 : (List S46)
 f1 : (List S49)
 deriving Inhabited
def en31 (x : S31) : List PV := [.lst false (List.map en46 x.f0), .lst false (List.map en49 x.f1)]
theorem ok31 (l : List S31) : rowsOk 2 (List.map en31 l) = true := rowsOk_map _ _ (fun x => by simp [en31]) l
structure S59 where
 f0 : Int
 f1 : Int
 deriving Inhabited
def en59 (x : S59) : List PV := [.int .i64 x.f0, .int .i64 x.f1]
theorem ok59 (l : List S59) : rowsOk 2 (List.map en59 l) = true := rowsOk_map _ _ (fun x => by simp [en59]) l
structure S101 where
 f0 : Int
 f1 : Int
 f2 : Int
 f3 : ByteArray
 f4 : (List S101)
 f5 : (List ByteArray)
 deriving Inhabited
def en101 (x : S101) : List PV := [.int .i64 x.f0, .int .i64 x.f1, .int .i64 x.f2, .str x.f3, .lst false (x.f4.attach.map fun y => en101 y.1), .lst false (List.map srw x.f5)]
termination_by SizeOf.sizeOf x
decreasing_by (have h_ := List.sizeOf_lt_of_mem y.2; cases x; simp_all; omega)
theorem en101_eq (x : S101) : en101 x = [.int .i64 x.f0, .int .i64 x.f1, .int .i64 x.f2, .str x.f3, .lst false (List.map en101 x.f4), .lst false (List.map srw x.f5)] := by rw [en101]; simp
theorem ok101 (l : List S101) : rowsOk 6 (List.map en101 l) = true := rowsOk_map _ _ (fun x => by simp [en101_eq]) l
structure S112 where
 f0 : ByteArray
 f1 : Int
 f2 : Bool
 deriving Inhabited
def en112 (x : S112) : List PV := [.str x.f0, .int .i64 x.f1, .bool x.f2]
theorem ok112 (l : List S112) : rowsOk 3 (List.map en112 l) = true := rowsOk_map _ _ (fun x => by simp [en112]) l
structure S106 where
 f0 : Int
 f1 : Int
 f2 : Int
 f3 : ByteArray
 f4 : (List ByteArray)
 f5 : (List S106)
 deriving Inhabited
def en106 (x : S106) : List PV := [.int .i64 x.f0, .int .i64 x.f1, .int .i64 x.f2, .str x.f3, .lst false (List.map srw x.f4), .lst false (x.f5.attach.map fun y => en106 y.1)]
termination_by SizeOf.sizeOf x
decreasing_by (have h_ := List.sizeOf_lt_of_mem y.2; cases x; simp_all; omega)
theorem en106_eq (x : S106) : en106 x = [.int .i64 x.f0, .int .i64 x.f1, .int .i64 x.f2, .str x.f3, .lst false (List.map srw x.f4), .lst false (List.map en106 x.f5)] := by rw [en106]; simp
theorem ok106 (l : List S106) : rowsOk 6 (List.map en106 l) = true := rowsOk_map _ _ (fun x => by simp [en106_eq]) l
structure S116 where
 f0 : ByteArray
 f1 : Int
 deriving Inhabited
def en116 (x : S116) : List PV := [.str x.f0, .int .i64 x.f1]
theorem ok116 (l : List S116) : rowsOk 2 (List.map en116 l) = true := rowsOk_map _ _ (fun x => by simp [en116]) l

theorem sm_ {p : Prop} (h : p := by simp only [run, afterR, condC, exitC, exitTo, runO, step1, ofO, fpOf, fpK, writes, de, deT, deB, opD, dstOk, isCall, stepOp, finO, memPut, mset, entO, ent, core, constB, mkeyOf, mval, mrowOf, tupIf, liveM, kOf_i, kOf_s, mkEq_self, mhas_i, mhas_s, midx_i, midx_s, mrow_ii, mrow_ib, mrow_is, mrow_si, mrow_sb, mrow_ss, ment_ii, ment_ib, ment_is, ment_si, ment_sb, ment_ss, mset1_ii, mset1_ib, mset1_is, mset1_si, mset1_sb, mset1_ss, mput_ii, mput_ib, mput_is, mput_si, mput_sb, mput_ss, tst_map, coreB, lenA, minA, maxA, rowsB, appT, appS, appB, fullR, keyApp, keyV, keyL, liveC, liveB, liveZ, keyOf, oget, fget, lk, ofConst, cellsC, aggC, cell1, eff, binop, intOp, strOp, unop, ld, splice, fillP, aplace, placeOf, rowsN, oint, AV.cells, AV.pv, PV.std, AV.rows, pvs, appN, appC, rowsOk, irow, srw, brw, lrw, St.put, back, renA, ren1, ren0, renO, resOf, resAll, resOne, tupOf, fnOf, rk, inn, ok1, okB, okA, okT, okO, ok0, renB, liveP, liveZ0, nagg, one1, scH, bldZ, nvs, AV.nv, PV.sc, PV.isL, nilOrE, List.filter_cons, List.filter_nil, List.all_cons, List.all_nil,   unint, unint_map, bytesOf_eq, bnd_, rowsOk_irow, rowsOk_srw, rowsOk_brw, rowsOk_lrw, rowsOk_app, take_map_len, map_set_, set_map_,   List.range, List.range.loop, List.zip, List.zipWith, List.zip_cons_cons, List.zip_nil_left, List.zip_nil_right, List.length_cons, List.length_nil, List.length_map, List.length_append, List.map_cons, List.map_nil, List.map_append, List.getElem?_map, List.drop_succ_cons, List.drop_zero, List.drop_nil, List.take_succ_cons, List.take_zero, List.take_nil, List.take_length, List.set_cons_succ, List.set_cons_zero, List.head?_cons, List.head?_nil, List.getElem?_cons_succ, List.getElem?_cons_zero, List.append_nil, List.nil_append, List.cons_append, List.append_assoc, List.flatten_cons, List.flatten_nil, List.replicate_succ, List.replicate_zero, List.contains_cons, List.contains_nil, List.isEmpty_nil, List.isEmpty_cons, List.map_drop, List.map_take, List.map_replicate, List.length_replicate, List.length_set,   cond_true, cond_false, Option.map_some, Option.map_none, Option.bind_some, Option.bind_none, Option.getD_some, Option.getD_none, Option.isSome_some, Option.isSome_none, beq_self_eq_true, BEq.rfl, Nat.reduceBEq, Nat.reduceAdd, Nat.reduceSub, Nat.reduceMul, Nat.reduceLeDiff, Nat.reduceLT, Nat.reduceEqDiff, Nat.zero_add, Nat.add_zero, Nat.zero_mul, Nat.le_refl, and_self, and_true, true_and, if_true, reduceIte, ite_true, ite_false, Bool.and_true, Bool.true_and, Bool.and_false, Bool.false_and, Bool.not_true, Bool.not_false, Bool.or_true, Bool.or_false, Bool.true_or, Bool.false_or, Int.toNat_zero, Int.toNat_natCast, Int.reduceToNat, Int.reduceLE, Int.reduceLT, Int.reduceBEq, reduceCtorEq, decide_true, decide_false, Bool.false_eq_true, Nat.sub_zero, List.toList_toArray, List.foldl_cons, en92, ok92, en67, ok67, en70, ok70, en24, ok24, en46, ok46, en49, ok49, en31, ok31, en59, ok59, en101_eq, ok101, en112, ok112, en106_eq, ok106, en116, ok116, tyF, *]) : p := h
theorem sms_ {p : Prop} (h : p := by simp only [run, afterR, condC, exitC, exitTo, runO, step1, ofO, fpOf, fpK, writes, de, deT, deB, opD, dstOk, isCall, stepOp, finO, memPut, mset, entO, ent, core, constB, mkeyOf, mval, mrowOf, tupIf, liveM, kOf_i, kOf_s, mkEq_self, mhas_i, mhas_s, midx_i, midx_s, mrow_ii, mrow_ib, mrow_is, mrow_si, mrow_sb, mrow_ss, ment_ii, ment_ib, ment_is, ment_si, ment_sb, ment_ss, mset1_ii, mset1_ib, mset1_is, mset1_si, mset1_sb, mset1_ss, mput_ii, mput_ib, mput_is, mput_si, mput_sb, mput_ss, tst_map, coreB, lenA, minA, maxA, rowsB, appT, appS, appB, fullR, keyApp, keyV, keyL, liveC, liveB, liveZ, keyOf, oget, fget, lk, ofConst, cellsC, aggC, cell1, eff, binop, intOp, strOp, unop, ld, splice, fillP, aplace, placeOf, rowsN, oint, AV.cells, AV.pv, PV.std, AV.rows, pvs, appN, appC, rowsOk, irow, srw, brw, lrw, St.put, back, renA, ren1, ren0, renO, resOf, resAll, resOne, tupOf, fnOf, rk, inn, ok1, okB, okA, okT, okO, ok0, renB, liveP, liveZ0, nagg, one1, scH, bldZ, nvs, AV.nv, PV.sc, PV.isL, nilOrE, List.filter_cons, List.filter_nil, List.all_cons, List.all_nil,   unint, unint_map, bytesOf_eq, bnd_, rowsOk_irow, rowsOk_srw, rowsOk_brw, rowsOk_lrw, rowsOk_app, take_map_len, map_set_, set_map_,   List.range, List.range.loop, List.zip, List.zipWith, List.zip_cons_cons, List.zip_nil_left, List.zip_nil_right, List.length_cons, List.length_nil, List.length_map, List.length_append, List.map_cons, List.map_nil, List.map_append, List.getElem?_map, List.drop_succ_cons, List.drop_zero, List.drop_nil, List.take_succ_cons, List.take_zero, List.take_nil, List.take_length, List.set_cons_succ, List.set_cons_zero, List.head?_cons, List.head?_nil, List.getElem?_cons_succ, List.getElem?_cons_zero, List.append_nil, List.nil_append, List.cons_append, List.append_assoc, List.flatten_cons, List.flatten_nil, List.replicate_succ, List.replicate_zero, List.contains_cons, List.contains_nil, List.isEmpty_nil, List.isEmpty_cons, List.map_drop, List.map_take, List.map_replicate, List.length_replicate, List.length_set,   cond_true, cond_false, Option.map_some, Option.map_none, Option.bind_some, Option.bind_none, Option.getD_some, Option.getD_none, Option.isSome_some, Option.isSome_none, beq_self_eq_true, BEq.rfl, Nat.reduceBEq, Nat.reduceAdd, Nat.reduceSub, Nat.reduceMul, Nat.reduceLeDiff, Nat.reduceLT, Nat.reduceEqDiff, Nat.zero_add, Nat.add_zero, Nat.zero_mul, Nat.le_refl, and_self, and_true, true_and, if_true, reduceIte, ite_true, ite_false, Bool.and_true, Bool.true_and, Bool.and_false, Bool.false_and, Bool.not_true, Bool.not_false, Bool.or_true, Bool.or_false, Bool.true_or, Bool.false_or, Int.toNat_zero, Int.toNat_natCast, Int.reduceToNat, Int.reduceLE, Int.reduceLT, Int.reduceBEq, reduceCtorEq, decide_true, decide_false, Bool.false_eq_true, Nat.sub_zero, List.toList_toArray, List.foldl_cons, en92, ok92, en67, ok67, en70, ok70, en24, ok24, en46, ok46, en49, ok49, en31, ok31, en59, ok59, en101_eq, ok101, en112, ok112, en106_eq, ok106, en116, ok116, tyF]) : p := h
theorem smr_ {p : Prop} (h : p := by (simp only [run, afterR, condC, exitC, exitTo, runO, step1, ofO, fpOf, fpK, writes, de, deT, deB, opD, dstOk, isCall, stepOp, finO, memPut, mset, entO, ent, core, constB, mkeyOf, mval, mrowOf, tupIf, liveM, kOf_i, kOf_s, mkEq_self, mhas_i, mhas_s, midx_i, midx_s, mrow_ii, mrow_ib, mrow_is, mrow_si, mrow_sb, mrow_ss, ment_ii, ment_ib, ment_is, ment_si, ment_sb, ment_ss, mset1_ii, mset1_ib, mset1_is, mset1_si, mset1_sb, mset1_ss, mput_ii, mput_ib, mput_is, mput_si, mput_sb, mput_ss, tst_map, coreB, lenA, minA, maxA, rowsB, appT, appS, appB, fullR, keyApp, keyV, keyL, liveC, liveB, liveZ, keyOf, oget, fget, lk, ofConst, cellsC, aggC, cell1, eff, binop, intOp, strOp, unop, ld, splice, fillP, aplace, placeOf, rowsN, oint, AV.cells, AV.pv, PV.std, AV.rows, pvs, appN, appC, rowsOk, irow, srw, brw, lrw, St.put, back, renA, ren1, ren0, renO, resOf, resAll, resOne, tupOf, fnOf, rk, inn, ok1, okB, okA, okT, okO, ok0, renB, liveP, liveZ0, nagg, one1, scH, bldZ, nvs, AV.nv, PV.sc, PV.isL, nilOrE, List.filter_cons, List.filter_nil, List.all_cons, List.all_nil,   unint, unint_map, bytesOf_eq, bnd_, rowsOk_irow, rowsOk_srw, rowsOk_brw, rowsOk_lrw, rowsOk_app, take_map_len, map_set_, set_map_,   List.range, List.range.loop, List.zip, List.zipWith, List.zip_cons_cons, List.zip_nil_left, List.zip_nil_right, List.length_cons, List.length_nil, List.length_map, List.length_append, List.map_cons, List.map_nil, List.map_append, List.getElem?_map, List.drop_succ_cons, List.drop_zero, List.drop_nil, List.take_succ_cons, List.take_zero, List.take_nil, List.take_length, List.set_cons_succ, List.set_cons_zero, List.head?_cons, List.head?_nil, List.getElem?_cons_succ, List.getElem?_cons_zero, List.append_nil, List.nil_append, List.cons_append, List.append_assoc, List.flatten_cons, List.flatten_nil, List.replicate_succ, List.replicate_zero, List.contains_cons, List.contains_nil, List.isEmpty_nil, List.isEmpty_cons, List.map_drop, List.map_take, List.map_replicate, List.length_replicate, List.length_set,   cond_true, cond_false, Option.map_some, Option.map_none, Option.bind_some, Option.bind_none, Option.getD_some, Option.getD_none, Option.isSome_some, Option.isSome_none, beq_self_eq_true, BEq.rfl, Nat.reduceBEq, Nat.reduceAdd, Nat.reduceSub, Nat.reduceMul, Nat.reduceLeDiff, Nat.reduceLT, Nat.reduceEqDiff, Nat.zero_add, Nat.add_zero, Nat.zero_mul, Nat.le_refl, and_self, and_true, true_and, if_true, reduceIte, ite_true, ite_false, Bool.and_true, Bool.true_and, Bool.and_false, Bool.false_and, Bool.not_true, Bool.not_false, Bool.or_true, Bool.or_false, Bool.true_or, Bool.false_or, Int.toNat_zero, Int.toNat_natCast, Int.reduceToNat, Int.reduceLE, Int.reduceLT, Int.reduceBEq, reduceCtorEq, decide_true, decide_false, Bool.false_eq_true, Nat.sub_zero, List.toList_toArray, List.foldl_cons, en92, ok92, en67, ok67, en70, ok70, en24, ok24, en46, ok46, en49, ok49, en31, ok31, en59, ok59, en101_eq, ok101, en112, ok112, en106_eq, ok106, en116, ok116, tyF, *]; rfl)) : p := h
theorem smt_ {p : Prop} (h : p := by (simp only [run, afterR, condC, exitC, exitTo, runO, step1, ofO, fpOf, fpK, writes, de, deT, deB, opD, dstOk, isCall, stepOp, finO, memPut, mset, entO, ent, core, constB, mkeyOf, mval, mrowOf, tupIf, liveM, kOf_i, kOf_s, mkEq_self, mhas_i, mhas_s, midx_i, midx_s, mrow_ii, mrow_ib, mrow_is, mrow_si, mrow_sb, mrow_ss, ment_ii, ment_ib, ment_is, ment_si, ment_sb, ment_ss, mset1_ii, mset1_ib, mset1_is, mset1_si, mset1_sb, mset1_ss, mput_ii, mput_ib, mput_is, mput_si, mput_sb, mput_ss, tst_map, coreB, lenA, minA, maxA, rowsB, appT, appS, appB, fullR, keyApp, keyV, keyL, liveC, liveB, liveZ, keyOf, oget, fget, lk, ofConst, cellsC, aggC, cell1, eff, binop, intOp, strOp, unop, ld, splice, fillP, aplace, placeOf, rowsN, oint, AV.cells, AV.pv, PV.std, AV.rows, pvs, appN, appC, rowsOk, irow, srw, brw, lrw, St.put, back, renA, ren1, ren0, renO, resOf, resAll, resOne, tupOf, fnOf, rk, inn, ok1, okB, okA, okT, okO, ok0, renB, liveP, liveZ0, nagg, one1, scH, bldZ, nvs, AV.nv, PV.sc, PV.isL, nilOrE, List.filter_cons, List.filter_nil, List.all_cons, List.all_nil,   unint, unint_map, bytesOf_eq, bnd_, rowsOk_irow, rowsOk_srw, rowsOk_brw, rowsOk_lrw, rowsOk_app, take_map_len, map_set_, set_map_,   List.range, List.range.loop, List.zip, List.zipWith, List.zip_cons_cons, List.zip_nil_left, List.zip_nil_right, List.length_cons, List.length_nil, List.length_map, List.length_append, List.map_cons, List.map_nil, List.map_append, List.getElem?_map, List.drop_succ_cons, List.drop_zero, List.drop_nil, List.take_succ_cons, List.take_zero, List.take_nil, List.take_length, List.set_cons_succ, List.set_cons_zero, List.head?_cons, List.head?_nil, List.getElem?_cons_succ, List.getElem?_cons_zero, List.append_nil, List.nil_append, List.cons_append, List.append_assoc, List.flatten_cons, List.flatten_nil, List.replicate_succ, List.replicate_zero, List.contains_cons, List.contains_nil, List.isEmpty_nil, List.isEmpty_cons, List.map_drop, List.map_take, List.map_replicate, List.length_replicate, List.length_set,   cond_true, cond_false, Option.map_some, Option.map_none, Option.bind_some, Option.bind_none, Option.getD_some, Option.getD_none, Option.isSome_some, Option.isSome_none, beq_self_eq_true, BEq.rfl, Nat.reduceBEq, Nat.reduceAdd, Nat.reduceSub, Nat.reduceMul, Nat.reduceLeDiff, Nat.reduceLT, Nat.reduceEqDiff, Nat.zero_add, Nat.add_zero, Nat.zero_mul, Nat.le_refl, and_self, and_true, true_and, if_true, reduceIte, ite_true, ite_false, Bool.and_true, Bool.true_and, Bool.and_false, Bool.false_and, Bool.not_true, Bool.not_false, Bool.or_true, Bool.or_false, Bool.true_or, Bool.false_or, Int.toNat_zero, Int.toNat_natCast, Int.reduceToNat, Int.reduceLE, Int.reduceLT, Int.reduceBEq, reduceCtorEq, decide_true, decide_false, Bool.false_eq_true, Nat.sub_zero, List.toList_toArray, List.foldl_cons, en92, ok92, en67, ok67, en70, ok70, en24, ok24, en46, ok46, en49, ok49, en31, ok31, en59, ok59, en101_eq, ok101, en112, ok112, en106_eq, ok106, en116, ok116, tyF, *]; try rfl)) : p := h
theorem smo_ {p : Prop} (h : p := by (simp only [run, afterR, condC, exitC, exitTo, runO, step1, ofO, fpOf, fpK, writes, de, deT, deB, opD, dstOk, isCall, stepOp, finO, memPut, mset, entO, ent, core, constB, mkeyOf, mval, mrowOf, tupIf, liveM, kOf_i, kOf_s, mkEq_self, mhas_i, mhas_s, midx_i, midx_s, mrow_ii, mrow_ib, mrow_is, mrow_si, mrow_sb, mrow_ss, ment_ii, ment_ib, ment_is, ment_si, ment_sb, ment_ss, mset1_ii, mset1_ib, mset1_is, mset1_si, mset1_sb, mset1_ss, mput_ii, mput_ib, mput_is, mput_si, mput_sb, mput_ss, tst_map, coreB, lenA, minA, maxA, rowsB, appT, appS, appB, fullR, keyApp, keyV, keyL, liveC, liveB, liveZ, keyOf, oget, fget, lk, ofConst, cellsC, aggC, cell1, eff, binop, intOp, strOp, unop, ld, splice, fillP, aplace, placeOf, rowsN, oint, AV.cells, AV.pv, PV.std, AV.rows, pvs, appN, appC, rowsOk, irow, srw, brw, lrw, St.put, back, renA, ren1, ren0, renO, resOf, resAll, resOne, tupOf, fnOf, rk, inn, ok1, okB, okA, okT, okO, ok0, renB, liveP, liveZ0, nagg, one1, scH, bldZ, nvs, AV.nv, PV.sc, PV.isL, nilOrE, List.filter_cons, List.filter_nil, List.all_cons, List.all_nil,   unint, unint_map, bytesOf_eq, bnd_, rowsOk_irow, rowsOk_srw, rowsOk_brw, rowsOk_lrw, rowsOk_app, take_map_len, map_set_, set_map_,   List.range, List.range.loop, List.zip, List.zipWith, List.zip_cons_cons, List.zip_nil_left, List.zip_nil_right, List.length_cons, List.length_nil, List.length_map, List.length_append, List.map_cons, List.map_nil, List.map_append, List.getElem?_map, List.drop_succ_cons, List.drop_zero, List.drop_nil, List.take_succ_cons, List.take_zero, List.take_nil, List.take_length, List.set_cons_succ, List.set_cons_zero, List.head?_cons, List.head?_nil, List.getElem?_cons_succ, List.getElem?_cons_zero, List.append_nil, List.nil_append, List.cons_append, List.append_assoc, List.flatten_cons, List.flatten_nil, List.replicate_succ, List.replicate_zero, List.contains_cons, List.contains_nil, List.isEmpty_nil, List.isEmpty_cons, List.map_drop, List.map_take, List.map_replicate, List.length_replicate, List.length_set,   cond_true, cond_false, Option.map_some, Option.map_none, Option.bind_some, Option.bind_none, Option.getD_some, Option.getD_none, Option.isSome_some, Option.isSome_none, beq_self_eq_true, BEq.rfl, Nat.reduceBEq, Nat.reduceAdd, Nat.reduceSub, Nat.reduceMul, Nat.reduceLeDiff, Nat.reduceLT, Nat.reduceEqDiff, Nat.zero_add, Nat.add_zero, Nat.zero_mul, Nat.le_refl, and_self, and_true, true_and, if_true, reduceIte, ite_true, ite_false, Bool.and_true, Bool.true_and, Bool.and_false, Bool.false_and, Bool.not_true, Bool.not_false, Bool.or_true, Bool.or_false, Bool.true_or, Bool.false_or, Int.toNat_zero, Int.toNat_natCast, Int.reduceToNat, Int.reduceLE, Int.reduceLT, Int.reduceBEq, reduceCtorEq, decide_true, decide_false, Bool.false_eq_true, Nat.sub_zero, List.toList_toArray, List.foldl_cons, en92, ok92, en67, ok67, en70, ok70, en24, ok24, en46, ok46, en49, ok49, en31, ok31, en59, ok59, en101_eq, ok101, en112, ok112, en106_eq, ok106, en116, ok116, tyF, *]; omega)) : p := h
theorem smo0_ {p : Prop} (h : p := by (simp only [run, afterR, condC, exitC, exitTo, runO, step1, ofO, fpOf, fpK, writes, de, deT, deB, opD, dstOk, isCall, stepOp, finO, memPut, mset, entO, ent, core, constB, mkeyOf, mval, mrowOf, tupIf, liveM, kOf_i, kOf_s, mkEq_self, mhas_i, mhas_s, midx_i, midx_s, mrow_ii, mrow_ib, mrow_is, mrow_si, mrow_sb, mrow_ss, ment_ii, ment_ib, ment_is, ment_si, ment_sb, ment_ss, mset1_ii, mset1_ib, mset1_is, mset1_si, mset1_sb, mset1_ss, mput_ii, mput_ib, mput_is, mput_si, mput_sb, mput_ss, tst_map, coreB, lenA, minA, maxA, rowsB, appT, appS, appB, fullR, keyApp, keyV, keyL, liveC, liveB, liveZ, keyOf, oget, fget, lk, ofConst, cellsC, aggC, cell1, eff, binop, intOp, strOp, unop, ld, splice, fillP, aplace, placeOf, rowsN, oint, AV.cells, AV.pv, PV.std, AV.rows, pvs, appN, appC, rowsOk, irow, srw, brw, lrw, St.put, back, renA, ren1, ren0, renO, resOf, resAll, resOne, tupOf, fnOf, rk, inn, ok1, okB, okA, okT, okO, ok0, renB, liveP, liveZ0, nagg, one1, scH, bldZ, nvs, AV.nv, PV.sc, PV.isL, nilOrE, List.filter_cons, List.filter_nil, List.all_cons, List.all_nil,   unint, unint_map, bytesOf_eq, bnd_, rowsOk_irow, rowsOk_srw, rowsOk_brw, rowsOk_lrw, rowsOk_app, take_map_len, map_set_, set_map_,   List.range, List.range.loop, List.zip, List.zipWith, List.zip_cons_cons, List.zip_nil_left, List.zip_nil_right, List.length_cons, List.length_nil, List.length_map, List.length_append, List.map_cons, List.map_nil, List.map_append, List.getElem?_map, List.drop_succ_cons, List.drop_zero, List.drop_nil, List.take_succ_cons, List.take_zero, List.take_nil, List.take_length, List.set_cons_succ, List.set_cons_zero, List.head?_cons, List.head?_nil, List.getElem?_cons_succ, List.getElem?_cons_zero, List.append_nil, List.nil_append, List.cons_append, List.append_assoc, List.flatten_cons, List.flatten_nil, List.replicate_succ, List.replicate_zero, List.contains_cons, List.contains_nil, List.isEmpty_nil, List.isEmpty_cons, List.map_drop, List.map_take, List.map_replicate, List.length_replicate, List.length_set,   cond_true, cond_false, Option.map_some, Option.map_none, Option.bind_some, Option.bind_none, Option.getD_some, Option.getD_none, Option.isSome_some, Option.isSome_none, beq_self_eq_true, BEq.rfl, Nat.reduceBEq, Nat.reduceAdd, Nat.reduceSub, Nat.reduceMul, Nat.reduceLeDiff, Nat.reduceLT, Nat.reduceEqDiff, Nat.zero_add, Nat.add_zero, Nat.zero_mul, Nat.le_refl, and_self, and_true, true_and, if_true, reduceIte, ite_true, ite_false, Bool.and_true, Bool.true_and, Bool.and_false, Bool.false_and, Bool.not_true, Bool.not_false, Bool.or_true, Bool.or_false, Bool.true_or, Bool.false_or, Int.toNat_zero, Int.toNat_natCast, Int.reduceToNat, Int.reduceLE, Int.reduceLT, Int.reduceBEq, reduceCtorEq, decide_true, decide_false, Bool.false_eq_true, Nat.sub_zero, List.toList_toArray, List.foldl_cons, en92, ok92, en67, ok67, en70, ok70, en24, ok24, en46, ok46, en49, ok49, en31, ok31, en59, ok59, en101_eq, ok101, en112, ok112, en106_eq, ok106, en116, ok116, tyF]; omega)) : p := h
theorem smd_ {p : Prop} (h : p := by (simp only [run, afterR, condC, exitC, exitTo, runO, step1, ofO, fpOf, fpK, writes, de, deT, deB, opD, dstOk, isCall, stepOp, finO, memPut, mset, entO, ent, core, constB, mkeyOf, mval, mrowOf, tupIf, liveM, kOf_i, kOf_s, mkEq_self, mhas_i, mhas_s, midx_i, midx_s, mrow_ii, mrow_ib, mrow_is, mrow_si, mrow_sb, mrow_ss, ment_ii, ment_ib, ment_is, ment_si, ment_sb, ment_ss, mset1_ii, mset1_ib, mset1_is, mset1_si, mset1_sb, mset1_ss, mput_ii, mput_ib, mput_is, mput_si, mput_sb, mput_ss, tst_map, coreB, lenA, minA, maxA, rowsB, appT, appS, appB, fullR, keyApp, keyV, keyL, liveC, liveB, liveZ, keyOf, oget, fget, lk, ofConst, cellsC, aggC, cell1, eff, binop, intOp, strOp, unop, ld, splice, fillP, aplace, placeOf, rowsN, oint, AV.cells, AV.pv, PV.std, AV.rows, pvs, appN, appC, rowsOk, irow, srw, brw, lrw, St.put, back, renA, ren1, ren0, renO, resOf, resAll, resOne, tupOf, fnOf, rk, inn, ok1, okB, okA, okT, okO, ok0, renB, liveP, liveZ0, nagg, one1, scH, bldZ, nvs, AV.nv, PV.sc, PV.isL, nilOrE, List.filter_cons, List.filter_nil, List.all_cons, List.all_nil,   unint, unint_map, bytesOf_eq, bnd_, rowsOk_irow, rowsOk_srw, rowsOk_brw, rowsOk_lrw, rowsOk_app, take_map_len, map_set_, set_map_,   List.range, List.range.loop, List.zip, List.zipWith, List.zip_cons_cons, List.zip_nil_left, List.zip_nil_right, List.length_cons, List.length_nil, List.length_map, List.length_append, List.map_cons, List.map_nil, List.map_append, List.getElem?_map, List.drop_succ_cons, List.drop_zero, List.drop_nil, List.take_succ_cons, List.take_zero, List.take_nil, List.take_length, List.set_cons_succ, List.set_cons_zero, List.head?_cons, List.head?_nil, List.getElem?_cons_succ, List.getElem?_cons_zero, List.append_nil, List.nil_append, List.cons_append, List.append_assoc, List.flatten_cons, List.flatten_nil, List.replicate_succ, List.replicate_zero, List.contains_cons, List.contains_nil, List.isEmpty_nil, List.isEmpty_cons, List.map_drop, List.map_take, List.map_replicate, List.length_replicate, List.length_set,   cond_true, cond_false, Option.map_some, Option.map_none, Option.bind_some, Option.bind_none, Option.getD_some, Option.getD_none, Option.isSome_some, Option.isSome_none, beq_self_eq_true, BEq.rfl, Nat.reduceBEq, Nat.reduceAdd, Nat.reduceSub, Nat.reduceMul, Nat.reduceLeDiff, Nat.reduceLT, Nat.reduceEqDiff, Nat.zero_add, Nat.add_zero, Nat.zero_mul, Nat.le_refl, and_self, and_true, true_and, if_true, reduceIte, ite_true, ite_false, Bool.and_true, Bool.true_and, Bool.and_false, Bool.false_and, Bool.not_true, Bool.not_false, Bool.or_true, Bool.or_false, Bool.true_or, Bool.false_or, Int.toNat_zero, Int.toNat_natCast, Int.reduceToNat, Int.reduceLE, Int.reduceLT, Int.reduceBEq, reduceCtorEq, decide_true, decide_false, Bool.false_eq_true, Nat.sub_zero, List.toList_toArray, List.foldl_cons, en92, ok92, en67, ok67, en70, ok70, en24, ok24, en46, ok46, en49, ok49, en31, ok31, en59, ok59, en101_eq, ok101, en112, ok112, en106_eq, ok106, en116, ok116, tyF, List.map_cons, List.map_nil]; decide)) : p := h
theorem go (n : Nat) {H : Prop} {C : Ctx} {it it' : List Item} {st st' : St} (g : H → Good C it' st') (h : run C.P C.hint n (.on it st) = .stop it' st' := by
   (simp only [run, afterR, condC, exitC, exitTo, runO, step1, ofO, fpOf, fpK, writes, de, deT, deB, opD, dstOk, isCall, stepOp, finO, memPut, mset, entO, ent, core, constB, mkeyOf, mval, mrowOf, tupIf, liveM, kOf_i, kOf_s, mkEq_self, mhas_i, mhas_s, midx_i, midx_s, mrow_ii, mrow_ib, mrow_is, mrow_si, mrow_sb, mrow_ss, ment_ii, ment_ib, ment_is, ment_si, ment_sb, ment_ss, mset1_ii, mset1_ib, mset1_is, mset1_si, mset1_sb, mset1_ss, mput_ii, mput_ib, mput_is, mput_si, mput_sb, mput_ss, tst_map, coreB, lenA, minA, maxA, rowsB, appT, appS, appB, fullR, keyApp, keyV, keyL, liveC, liveB, liveZ, keyOf, oget, fget, lk, ofConst, cellsC, aggC, cell1, eff, binop, intOp, strOp, unop, ld, splice, fillP, aplace, placeOf, rowsN, oint, AV.cells, AV.pv, PV.std, AV.rows, pvs, appN, appC, rowsOk, irow, srw, brw, lrw, St.put, back, renA, ren1, ren0, renO, resOf, resAll, resOne, tupOf, fnOf, rk, inn, ok1, okB, okA, okT, okO, ok0, renB, liveP, liveZ0, nagg, one1, scH, bldZ, nvs, AV.nv, PV.sc, PV.isL, nilOrE, List.filter_cons, List.filter_nil, List.all_cons, List.all_nil,   unint, unint_map, bytesOf_eq, bnd_, rowsOk_irow, rowsOk_srw, rowsOk_brw, rowsOk_lrw, rowsOk_app, take_map_len, map_set_, set_map_,   List.range, List.range.loop, List.zip, List.zipWith, List.zip_cons_cons, List.zip_nil_left, List.zip_nil_right, List.length_cons, List.length_nil, List.length_map, List.length_append, List.map_cons, List.map_nil, List.map_append, List.getElem?_map, List.drop_succ_cons, List.drop_zero, List.drop_nil, List.take_succ_cons, List.take_zero, List.take_nil, List.take_length, List.set_cons_succ, List.set_cons_zero, List.head?_cons, List.head?_nil, List.getElem?_cons_succ, List.getElem?_cons_zero, List.append_nil, List.nil_append, List.cons_append, List.append_assoc, List.flatten_cons, List.flatten_nil, List.replicate_succ, List.replicate_zero, List.contains_cons, List.contains_nil, List.isEmpty_nil, List.isEmpty_cons, List.map_drop, List.map_take, List.map_replicate, List.length_replicate, List.length_set,   cond_true, cond_false, Option.map_some, Option.map_none, Option.bind_some, Option.bind_none, Option.getD_some, Option.getD_none, Option.isSome_some, Option.isSome_none, beq_self_eq_true, BEq.rfl, Nat.reduceBEq, Nat.reduceAdd, Nat.reduceSub, Nat.reduceMul, Nat.reduceLeDiff, Nat.reduceLT, Nat.reduceEqDiff, Nat.zero_add, Nat.add_zero, Nat.zero_mul, Nat.le_refl, and_self, and_true, true_and, if_true, reduceIte, ite_true, ite_false, Bool.and_true, Bool.true_and, Bool.and_false, Bool.false_and, Bool.not_true, Bool.not_false, Bool.or_true, Bool.or_false, Bool.true_or, Bool.false_or, Int.toNat_zero, Int.toNat_natCast, Int.reduceToNat, Int.reduceLE, Int.reduceLT, Int.reduceBEq, reduceCtorEq, decide_true, decide_false, Bool.false_eq_true, Nat.sub_zero, List.toList_toArray, List.foldl_cons, en92, ok92, en67, ok67, en70, ok70, en24, ok24, en46, ok46, en49, ok49, en31, ok31, en59, ok59, en101_eq, ok101, en112, ok112, en106_eq, ok106, en116, ok116, tyF, *]; rfl)) : H → Good C it st := fun x => run_good h (g x)
theorem grs {H : Prop} {C : Ctx} {id : Nat} {ops : Array Oper} {draw : Bool} {k : List Item} {st : St} (g : H → GR C draw ops.toList k 0 ops.toList [] st) (hm : C.P.follows .mixedOrders = true := by kernel_rfl) : H → Good C (.code (.region id ops draw) :: k) st := fun x => gr_start (g x) hm
theorem gr_run {H : Prop} {C : Ctx} {draw : Bool} {all : List Oper} {k : List Item} {j j' : Nat} {l l' : List Oper} {F F' : Fp} {st st' : St} (g : H → GR C draw all k j' l' (F ++ F') st') (h : runO C.P C.hint all j l (.go [] st) = .stop j' l' F' st' := by
   (simp only [run, afterR, condC, exitC, exitTo, runO, step1, ofO, fpOf, fpK, writes, de, deT, deB, opD, dstOk, isCall, stepOp, finO, memPut, mset, entO, ent, core, constB, mkeyOf, mval, mrowOf, tupIf, liveM, kOf_i, kOf_s, mkEq_self, mhas_i, mhas_s, midx_i, midx_s, mrow_ii, mrow_ib, mrow_is, mrow_si, mrow_sb, mrow_ss, ment_ii, ment_ib, ment_is, ment_si, ment_sb, ment_ss, mset1_ii, mset1_ib, mset1_is, mset1_si, mset1_sb, mset1_ss, mput_ii, mput_ib, mput_is, mput_si, mput_sb, mput_ss, tst_map, coreB, lenA, minA, maxA, rowsB, appT, appS, appB, fullR, keyApp, keyV, keyL, liveC, liveB, liveZ, keyOf, oget, fget, lk, ofConst, cellsC, aggC, cell1, eff, binop, intOp, strOp, unop, ld, splice, fillP, aplace, placeOf, rowsN, oint, AV.cells, AV.pv, PV.std, AV.rows, pvs, appN, appC, rowsOk, irow, srw, brw, lrw, St.put, back, renA, ren1, ren0, renO, resOf, resAll, resOne, tupOf, fnOf, rk, inn, ok1, okB, okA, okT, okO, ok0, renB, liveP, liveZ0, nagg, one1, scH, bldZ, nvs, AV.nv, PV.sc, PV.isL, nilOrE, List.filter_cons, List.filter_nil, List.all_cons, List.all_nil,   unint, unint_map, bytesOf_eq, bnd_, rowsOk_irow, rowsOk_srw, rowsOk_brw, rowsOk_lrw, rowsOk_app, take_map_len, map_set_, set_map_,   List.range, List.range.loop, List.zip, List.zipWith, List.zip_cons_cons, List.zip_nil_left, List.zip_nil_right, List.length_cons, List.length_nil, List.length_map, List.length_append, List.map_cons, List.map_nil, List.map_append, List.getElem?_map, List.drop_succ_cons, List.drop_zero, List.drop_nil, List.take_succ_cons, List.take_zero, List.take_nil, List.take_length, List.set_cons_succ, List.set_cons_zero, List.head?_cons, List.head?_nil, List.getElem?_cons_succ, List.getElem?_cons_zero, List.append_nil, List.nil_append, List.cons_append, List.append_assoc, List.flatten_cons, List.flatten_nil, List.replicate_succ, List.replicate_zero, List.contains_cons, List.contains_nil, List.isEmpty_nil, List.isEmpty_cons, List.map_drop, List.map_take, List.map_replicate, List.length_replicate, List.length_set,   cond_true, cond_false, Option.map_some, Option.map_none, Option.bind_some, Option.bind_none, Option.getD_some, Option.getD_none, Option.isSome_some, Option.isSome_none, beq_self_eq_true, BEq.rfl, Nat.reduceBEq, Nat.reduceAdd, Nat.reduceSub, Nat.reduceMul, Nat.reduceLeDiff, Nat.reduceLT, Nat.reduceEqDiff, Nat.zero_add, Nat.add_zero, Nat.zero_mul, Nat.le_refl, and_self, and_true, true_and, if_true, reduceIte, ite_true, ite_false, Bool.and_true, Bool.true_and, Bool.and_false, Bool.false_and, Bool.not_true, Bool.not_false, Bool.or_true, Bool.or_false, Bool.true_or, Bool.false_or, Int.toNat_zero, Int.toNat_natCast, Int.reduceToNat, Int.reduceLE, Int.reduceLT, Int.reduceBEq, reduceCtorEq, decide_true, decide_false, Bool.false_eq_true, Nat.sub_zero, List.toList_toArray, List.foldl_cons, en92, ok92, en67, ok67, en70, ok70, en24, ok24, en46, ok46, en49, ok49, en31, ok31, en59, ok59, en101_eq, ok101, en112, ok112, en106_eq, ok106, en116, ok116, tyF, *]; rfl)) : H → GR C draw all k j l F st := fun x => gr_run_ (g x) h
theorem gr_done {H : Prop} {C : Ctx} {draw : Bool} {all : List Oper} {k : List Item} {j : Nat} {F : Fp} {st : St} (g : H → Good C k st) (h : draw = true → chk all F = true := by first | (intro h_; cases h_; done) | (intro _; kernel_rfl)) : H → GR C draw all k j [] F st := fun x => gr_done_ (g x) h
theorem leA_ {a b : List AV} (h : F2 LeA a b := by
   ((try simp only [run, afterR, condC, exitC, exitTo, runO, step1, ofO, fpOf, fpK, writes, de, deT, deB, opD, dstOk, isCall, stepOp, finO, memPut, mset, entO, ent, core, constB, mkeyOf, mval, mrowOf, tupIf, liveM, kOf_i, kOf_s, mkEq_self, mhas_i, mhas_s, midx_i, midx_s, mrow_ii, mrow_ib, mrow_is, mrow_si, mrow_sb, mrow_ss, ment_ii, ment_ib, ment_is, ment_si, ment_sb, ment_ss, mset1_ii, mset1_ib, mset1_is, mset1_si, mset1_sb, mset1_ss, mput_ii, mput_ib, mput_is, mput_si, mput_sb, mput_ss, tst_map, coreB, lenA, minA, maxA, rowsB, appT, appS, appB, fullR, keyApp, keyV, keyL, liveC, liveB, liveZ, keyOf, oget, fget, lk, ofConst, cellsC, aggC, cell1, eff, binop, intOp, strOp, unop, ld, splice, fillP, aplace, placeOf, rowsN, oint, AV.cells, AV.pv, PV.std, AV.rows, pvs, appN, appC, rowsOk, irow, srw, brw, lrw, St.put, back, renA, ren1, ren0, renO, resOf, resAll, resOne, tupOf, fnOf, rk, inn, ok1, okB, okA, okT, okO, ok0, renB, liveP, liveZ0, nagg, one1, scH, bldZ, nvs, AV.nv, PV.sc, PV.isL, nilOrE, List.filter_cons, List.filter_nil, List.all_cons, List.all_nil,   unint, unint_map, bytesOf_eq, bnd_, rowsOk_irow, rowsOk_srw, rowsOk_brw, rowsOk_lrw, rowsOk_app, take_map_len, map_set_, set_map_,   List.range, List.range.loop, List.zip, List.zipWith, List.zip_cons_cons, List.zip_nil_left, List.zip_nil_right, List.length_cons, List.length_nil, List.length_map, List.length_append, List.map_cons, List.map_nil, List.map_append, List.getElem?_map, List.drop_succ_cons, List.drop_zero, List.drop_nil, List.take_succ_cons, List.take_zero, List.take_nil, List.take_length, List.set_cons_succ, List.set_cons_zero, List.head?_cons, List.head?_nil, List.getElem?_cons_succ, List.getElem?_cons_zero, List.append_nil, List.nil_append, List.cons_append, List.append_assoc, List.flatten_cons, List.flatten_nil, List.replicate_succ, List.replicate_zero, List.contains_cons, List.contains_nil, List.isEmpty_nil, List.isEmpty_cons, List.map_drop, List.map_take, List.map_replicate, List.length_replicate, List.length_set,   cond_true, cond_false, Option.map_some, Option.map_none, Option.bind_some, Option.bind_none, Option.getD_some, Option.getD_none, Option.isSome_some, Option.isSome_none, beq_self_eq_true, BEq.rfl, Nat.reduceBEq, Nat.reduceAdd, Nat.reduceSub, Nat.reduceMul, Nat.reduceLeDiff, Nat.reduceLT, Nat.reduceEqDiff, Nat.zero_add, Nat.add_zero, Nat.zero_mul, Nat.le_refl, and_self, and_true, true_and, if_true, reduceIte, ite_true, ite_false, Bool.and_true, Bool.true_and, Bool.and_false, Bool.false_and, Bool.not_true, Bool.not_false, Bool.or_true, Bool.or_false, Bool.true_or, Bool.false_or, Int.toNat_zero, Int.toNat_natCast, Int.reduceToNat, Int.reduceLE, Int.reduceLT, Int.reduceBEq, reduceCtorEq, decide_true, decide_false, Bool.false_eq_true, Nat.sub_zero, List.toList_toArray, List.foldl_cons, en92, ok92, en67, ok67, en70, ok70, en24, ok24, en46, ok46, en49, ok49, en31, ok31, en59, ok59, en101_eq, ok101, en112, ok112, en106_eq, ok106, en116, ok116, tyF, *]); repeat' first | exact F2.nil | exact LeA.of _ _ (Le.refl _) | exact LeA.of _ _ (Le.nil _) | exact LeA.of _ _ (Le.full _) | exact LeA.of _ _ (Le.tip _ _ _) | exact LeA.of _ _ (Le.nwp _) | exact LeA.of _ _ (Le.odp _) | exact LeA.of _ _ (Le.u _) | exact Le.refl _ | exact Le.nil _ | exact Le.full _ | exact Le.tip _ _ _ | exact Le.nwp _ | exact Le.odp _ | exact Le.u _ | refine F2.cons ?_ ?_ | refine LeA.agg _ _ ?_)) : F2 LeA a b := h
theorem fits_ {σ : Sg} {mc m : Mem} (h : Fits σ mc m := by
     (first | exact fits_nil _ | (refine ⟨?_, by (first | decide | exact smd_), by (first | decide | exact smd_), by (first | decide | exact smd_)⟩; (repeat' first | exact all0 | refine all1 ?_ ?_); all_goals exact ⟨by (first | rfl | exact sm_), _, _, _, rfl, rfl, by
   (simp only [LeO, run, afterR, condC, exitC, exitTo, runO, step1, ofO, fpOf, fpK, writes, de, deT, deB, opD, dstOk, isCall, stepOp, finO, memPut, mset, entO, ent, core, constB, mkeyOf, mval, mrowOf, tupIf, liveM, kOf_i, kOf_s, mkEq_self, mhas_i, mhas_s, midx_i, midx_s, mrow_ii, mrow_ib, mrow_is, mrow_si, mrow_sb, mrow_ss, ment_ii, ment_ib, ment_is, ment_si, ment_sb, ment_ss, mset1_ii, mset1_ib, mset1_is, mset1_si, mset1_sb, mset1_ss, mput_ii, mput_ib, mput_is, mput_si, mput_sb, mput_ss, tst_map, coreB, lenA, minA, maxA, rowsB, appT, appS, appB, fullR, keyApp, keyV, keyL, liveC, liveB, liveZ, keyOf, oget, fget, lk, ofConst, cellsC, aggC, cell1, eff, binop, intOp, strOp, unop, ld, splice, fillP, aplace, placeOf, rowsN, oint, AV.cells, AV.pv, PV.std, AV.rows, pvs, appN, appC, rowsOk, irow, srw, brw, lrw, St.put, back, renA, ren1, ren0, renO, resOf, resAll, resOne, tupOf, fnOf, rk, inn, ok1, okB, okA, okT, okO, ok0, renB, liveP, liveZ0, nagg, one1, scH, bldZ, nvs, AV.nv, PV.sc, PV.isL, nilOrE, List.filter_cons, List.filter_nil, List.all_cons, List.all_nil,   unint, unint_map, bytesOf_eq, bnd_, rowsOk_irow, rowsOk_srw, rowsOk_brw, rowsOk_lrw, rowsOk_app, take_map_len, map_set_, set_map_,   List.range, List.range.loop, List.zip, List.zipWith, List.zip_cons_cons, List.zip_nil_left, List.zip_nil_right, List.length_cons, List.length_nil, List.length_map, List.length_append, List.map_cons, List.map_nil, List.map_append, List.getElem?_map, List.drop_succ_cons, List.drop_zero, List.drop_nil, List.take_succ_cons, List.take_zero, List.take_nil, List.take_length, List.set_cons_succ, List.set_cons_zero, List.head?_cons, List.head?_nil, List.getElem?_cons_succ, List.getElem?_cons_zero, List.append_nil, List.nil_append, List.cons_append, List.append_assoc, List.flatten_cons, List.flatten_nil, List.replicate_succ, List.replicate_zero, List.contains_cons, List.contains_nil, List.isEmpty_nil, List.isEmpty_cons, List.map_drop, List.map_take, List.map_replicate, List.length_replicate, List.length_set,   cond_true, cond_false, Option.map_some, Option.map_none, Option.bind_some, Option.bind_none, Option.getD_some, Option.getD_none, Option.isSome_some, Option.isSome_none, beq_self_eq_true, BEq.rfl, Nat.reduceBEq, Nat.reduceAdd, Nat.reduceSub, Nat.reduceMul, Nat.reduceLeDiff, Nat.reduceLT, Nat.reduceEqDiff, Nat.zero_add, Nat.add_zero, Nat.zero_mul, Nat.le_refl, and_self, and_true, true_and, if_true, reduceIte, ite_true, ite_false, Bool.and_true, Bool.true_and, Bool.and_false, Bool.false_and, Bool.not_true, Bool.not_false, Bool.or_true, Bool.or_false, Bool.true_or, Bool.false_or, Int.toNat_zero, Int.toNat_natCast, Int.reduceToNat, Int.reduceLE, Int.reduceLT, Int.reduceBEq, reduceCtorEq, decide_true, decide_false, Bool.false_eq_true, Nat.sub_zero, List.toList_toArray, List.foldl_cons, en92, ok92, en67, ok67, en70, ok70, en24, ok24, en46, ok46, en49, ok49, en31, ok31, en59, ok59, en101_eq, ok101, en112, ok112, en106_eq, ok106, en116, ok116, tyF, *]; repeat' first | exact F2.nil | refine F2.cons ?_ ?_ | exact Le.refl _ | exact Le.nil _ | exact Le.full _ | exact Le.tip _ _ _ | exact Le.nwp _ | exact Le.odp _ | exact Le.u _ | refine And.intro ?_ ?_ | rfl | trivial)⟩))) : Fits σ mc m := h
theorem fitsOut_ {σ : Sg} {mc mc' m : Mem} (h : FitsOut σ mc mc' m := by
     (first | exact fitsOut_nil _ | (refine ⟨?_, by (first | decide | exact smd_), by (repeat' first | exact all0 | refine all1 rfl ?_)⟩; (repeat' first | exact all0 | refine all1 ?_ ?_); all_goals exact ⟨_, _, rfl, by first | exact Or.inl rfl | (right; first | exact sm_ | exact smo_ | exact smo0_ | decide)⟩))) : FitsOut σ mc mc' m := h
theorem endOk_ {σ : Sg} {m m' m0 : Mem} (h : EndOk σ m m' m0 := by
     (first | exact endOk_nil _ | exact ⟨fits_, by ((repeat' first | exact all0 | refine all1 ?_ ?_); all_goals first | exact Or.inl rfl | (right; first | exact sm_ | exact smo_ | exact smo0_ | decide)), by (repeat' first | exact all0 | refine all1 (by first | exact Nat.le_refl _ | exact smo_) ?_)⟩)) : EndOk σ m m' m0 := h
theorem gr_call {H : Prop} {C : Ctx} {draw : Bool} {all : List Oper} {k : List Item} {j : Nat} {o : Oper} {r : List Oper} {F : Fp} {st : St} {fv : Operand} {args : Array Operand} {ts : Array TypeId} {f : FuncId} {first caps : List AV} (σ : Sg) {cargs : List AV} {mc mc' : Mem} {v : AV}
   (hcon : Con C.hint.2.2 C.P f cargs mc v mc') (g : H → GR C draw all k (j + 1) r (F ++ σ.map (fun q => (j, q.2.2.1, true))) ({ st with mem := back σ st.mem mc' }.put o.dst (renA σ v)))
   (hop : o.op = .call { callee := .value fv, args := args, argTypes := ts } := by rfl)
   (h : de all st.fr o = .call := by exact sm_) (hd : dstOk C.hint.1 o.dst = true := by exact sms_) (hf : fnOf (oget st.fr fv) = some (f, first, caps) := by 
   exact smt_)
   (hargs : F2 LeA (first ++ args.toList.map (oget st.fr) ++ caps) (cargs.map (renA σ)) := by exact leA_) (hok : cargs.all (okA (inn σ mc)) = true := by (first | rfl | exact sm_)) (hm : Fits σ mc st.mem := by exact fits_)
   (ho : FitsOut σ mc mc' st.mem := by exact fitsOut_) : H → GR C draw all k j (o :: r) F st := fun x => gr_call_ σ hcon (g x) h hd hop hf hargs hok hm ho
theorem frle_ {fr fr' : List (Nat × AV)} (h : frLe fr fr' := by
   (simp only [frLe, run, afterR, condC, exitC, exitTo, runO, step1, ofO, fpOf, fpK, writes, de, deT, deB, opD, dstOk, isCall, stepOp, finO, memPut, mset, entO, ent, core, constB, mkeyOf, mval, mrowOf, tupIf, liveM, kOf_i, kOf_s, mkEq_self, mhas_i, mhas_s, midx_i, midx_s, mrow_ii, mrow_ib, mrow_is, mrow_si, mrow_sb, mrow_ss, ment_ii, ment_ib, ment_is, ment_si, ment_sb, ment_ss, mset1_ii, mset1_ib, mset1_is, mset1_si, mset1_sb, mset1_ss, mput_ii, mput_ib, mput_is, mput_si, mput_sb, mput_ss, tst_map, coreB, lenA, minA, maxA, rowsB, appT, appS, appB, fullR, keyApp, keyV, keyL, liveC, liveB, liveZ, keyOf, oget, fget, lk, ofConst, cellsC, aggC, cell1, eff, binop, intOp, strOp, unop, ld, splice, fillP, aplace, placeOf, rowsN, oint, AV.cells, AV.pv, PV.std, AV.rows, pvs, appN, appC, rowsOk, irow, srw, brw, lrw, St.put, back, renA, ren1, ren0, renO, resOf, resAll, resOne, tupOf, fnOf, rk, inn, ok1, okB, okA, okT, okO, ok0, renB, liveP, liveZ0, nagg, one1, scH, bldZ, nvs, AV.nv, PV.sc, PV.isL, nilOrE, List.filter_cons, List.filter_nil, List.all_cons, List.all_nil,   unint, unint_map, bytesOf_eq, bnd_, rowsOk_irow, rowsOk_srw, rowsOk_brw, rowsOk_lrw, rowsOk_app, take_map_len, map_set_, set_map_,   List.range, List.range.loop, List.zip, List.zipWith, List.zip_cons_cons, List.zip_nil_left, List.zip_nil_right, List.length_cons, List.length_nil, List.length_map, List.length_append, List.map_cons, List.map_nil, List.map_append, List.getElem?_map, List.drop_succ_cons, List.drop_zero, List.drop_nil, List.take_succ_cons, List.take_zero, List.take_nil, List.take_length, List.set_cons_succ, List.set_cons_zero, List.head?_cons, List.head?_nil, List.getElem?_cons_succ, List.getElem?_cons_zero, List.append_nil, List.nil_append, List.cons_append, List.append_assoc, List.flatten_cons, List.flatten_nil, List.replicate_succ, List.replicate_zero, List.contains_cons, List.contains_nil, List.isEmpty_nil, List.isEmpty_cons, List.map_drop, List.map_take, List.map_replicate, List.length_replicate, List.length_set,   cond_true, cond_false, Option.map_some, Option.map_none, Option.bind_some, Option.bind_none, Option.getD_some, Option.getD_none, Option.isSome_some, Option.isSome_none, beq_self_eq_true, BEq.rfl, Nat.reduceBEq, Nat.reduceAdd, Nat.reduceSub, Nat.reduceMul, Nat.reduceLeDiff, Nat.reduceLT, Nat.reduceEqDiff, Nat.zero_add, Nat.add_zero, Nat.zero_mul, Nat.le_refl, and_self, and_true, true_and, if_true, reduceIte, ite_true, ite_false, Bool.and_true, Bool.true_and, Bool.and_false, Bool.false_and, Bool.not_true, Bool.not_false, Bool.or_true, Bool.or_false, Bool.true_or, Bool.false_or, Int.toNat_zero, Int.toNat_natCast, Int.reduceToNat, Int.reduceLE, Int.reduceLT, Int.reduceBEq, reduceCtorEq, decide_true, decide_false, Bool.false_eq_true, Nat.sub_zero, List.toList_toArray, List.foldl_cons, en92, ok92, en67, ok67, en70, ok70, en24, ok24, en46, ok46, en49, ok49, en31, ok31, en59, ok59, en101_eq, ok101, en112, ok112, en106_eq, ok106, en116, ok116, tyF, *]; repeat' first | trivial | exact LeA.of _ _ (Le.refl _) | exact LeA.of _ _ (Le.nil _) | exact LeA.of _ _ (Le.full _) | exact LeA.of _ _ (Le.tip _ _ _) | exact LeA.of _ _ (Le.nwp _) | exact LeA.of _ _ (Le.odp _) | exact LeA.of _ _ (Le.u _) | exact F2.nil | exact Le.refl _ | exact Le.nil _ | exact Le.full _ | exact Le.tip _ _ _ | exact Le.nwp _ | exact Le.odp _ | exact Le.u _ | refine F2.cons ?_ ?_ | refine LeA.agg _ _ ?_ | refine And.intro ?_ ?_)) : frLe fr fr' := h
theorem memle_ {m m' : Mem} (h : memLe m m' := by
   (simp only [memLe, leE, LeO, run, afterR, condC, exitC, exitTo, runO, step1, ofO, fpOf, fpK, writes, de, deT, deB, opD, dstOk, isCall, stepOp, finO, memPut, mset, entO, ent, core, constB, mkeyOf, mval, mrowOf, tupIf, liveM, kOf_i, kOf_s, mkEq_self, mhas_i, mhas_s, midx_i, midx_s, mrow_ii, mrow_ib, mrow_is, mrow_si, mrow_sb, mrow_ss, ment_ii, ment_ib, ment_is, ment_si, ment_sb, ment_ss, mset1_ii, mset1_ib, mset1_is, mset1_si, mset1_sb, mset1_ss, mput_ii, mput_ib, mput_is, mput_si, mput_sb, mput_ss, tst_map, coreB, lenA, minA, maxA, rowsB, appT, appS, appB, fullR, keyApp, keyV, keyL, liveC, liveB, liveZ, keyOf, oget, fget, lk, ofConst, cellsC, aggC, cell1, eff, binop, intOp, strOp, unop, ld, splice, fillP, aplace, placeOf, rowsN, oint, AV.cells, AV.pv, PV.std, AV.rows, pvs, appN, appC, rowsOk, irow, srw, brw, lrw, St.put, back, renA, ren1, ren0, renO, resOf, resAll, resOne, tupOf, fnOf, rk, inn, ok1, okB, okA, okT, okO, ok0, renB, liveP, liveZ0, nagg, one1, scH, bldZ, nvs, AV.nv, PV.sc, PV.isL, nilOrE, List.filter_cons, List.filter_nil, List.all_cons, List.all_nil,   unint, unint_map, bytesOf_eq, bnd_, rowsOk_irow, rowsOk_srw, rowsOk_brw, rowsOk_lrw, rowsOk_app, take_map_len, map_set_, set_map_,   List.range, List.range.loop, List.zip, List.zipWith, List.zip_cons_cons, List.zip_nil_left, List.zip_nil_right, List.length_cons, List.length_nil, List.length_map, List.length_append, List.map_cons, List.map_nil, List.map_append, List.getElem?_map, List.drop_succ_cons, List.drop_zero, List.drop_nil, List.take_succ_cons, List.take_zero, List.take_nil, List.take_length, List.set_cons_succ, List.set_cons_zero, List.head?_cons, List.head?_nil, List.getElem?_cons_succ, List.getElem?_cons_zero, List.append_nil, List.nil_append, List.cons_append, List.append_assoc, List.flatten_cons, List.flatten_nil, List.replicate_succ, List.replicate_zero, List.contains_cons, List.contains_nil, List.isEmpty_nil, List.isEmpty_cons, List.map_drop, List.map_take, List.map_replicate, List.length_replicate, List.length_set,   cond_true, cond_false, Option.map_some, Option.map_none, Option.bind_some, Option.bind_none, Option.getD_some, Option.getD_none, Option.isSome_some, Option.isSome_none, beq_self_eq_true, BEq.rfl, Nat.reduceBEq, Nat.reduceAdd, Nat.reduceSub, Nat.reduceMul, Nat.reduceLeDiff, Nat.reduceLT, Nat.reduceEqDiff, Nat.zero_add, Nat.add_zero, Nat.zero_mul, Nat.le_refl, and_self, and_true, true_and, if_true, reduceIte, ite_true, ite_false, Bool.and_true, Bool.true_and, Bool.and_false, Bool.false_and, Bool.not_true, Bool.not_false, Bool.or_true, Bool.or_false, Bool.true_or, Bool.false_or, Int.toNat_zero, Int.toNat_natCast, Int.reduceToNat, Int.reduceLE, Int.reduceLT, Int.reduceBEq, reduceCtorEq, decide_true, decide_false, Bool.false_eq_true, Nat.sub_zero, List.toList_toArray, List.foldl_cons, en92, ok92, en67, ok67, en70, ok70, en24, ok24, en46, ok46, en49, ok49, en31, ok31, en59, ok59, en101_eq, ok101, en112, ok112, en106_eq, ok106, en116, ok116, tyF, *]; repeat' first | trivial | rfl | exact F2.nil | exact Le.refl _ | exact Le.nil _ | exact Le.full _ | exact Le.tip _ _ _ | exact Le.nwp _ | exact Le.odp _ | exact Le.u _ | refine F2.cons ?_ ?_ | refine And.intro ?_ ?_)) (hk : memKeys m m' := by exact ⟨by
   (simp only [run, afterR, condC, exitC, exitTo, runO, step1, ofO, fpOf, fpK, writes, de, deT, deB, opD, dstOk, isCall, stepOp, finO, memPut, mset, entO, ent, core, constB, mkeyOf, mval, mrowOf, tupIf, liveM, kOf_i, kOf_s, mkEq_self, mhas_i, mhas_s, midx_i, midx_s, mrow_ii, mrow_ib, mrow_is, mrow_si, mrow_sb, mrow_ss, ment_ii, ment_ib, ment_is, ment_si, ment_sb, ment_ss, mset1_ii, mset1_ib, mset1_is, mset1_si, mset1_sb, mset1_ss, mput_ii, mput_ib, mput_is, mput_si, mput_sb, mput_ss, tst_map, coreB, lenA, minA, maxA, rowsB, appT, appS, appB, fullR, keyApp, keyV, keyL, liveC, liveB, liveZ, keyOf, oget, fget, lk, ofConst, cellsC, aggC, cell1, eff, binop, intOp, strOp, unop, ld, splice, fillP, aplace, placeOf, rowsN, oint, AV.cells, AV.pv, PV.std, AV.rows, pvs, appN, appC, rowsOk, irow, srw, brw, lrw, St.put, back, renA, ren1, ren0, renO, resOf, resAll, resOne, tupOf, fnOf, rk, inn, ok1, okB, okA, okT, okO, ok0, renB, liveP, liveZ0, nagg, one1, scH, bldZ, nvs, AV.nv, PV.sc, PV.isL, nilOrE, List.filter_cons, List.filter_nil, List.all_cons, List.all_nil,   unint, unint_map, bytesOf_eq, bnd_, rowsOk_irow, rowsOk_srw, rowsOk_brw, rowsOk_lrw, rowsOk_app, take_map_len, map_set_, set_map_,   List.range, List.range.loop, List.zip, List.zipWith, List.zip_cons_cons, List.zip_nil_left, List.zip_nil_right, List.length_cons, List.length_nil, List.length_map, List.length_append, List.map_cons, List.map_nil, List.map_append, List.getElem?_map, List.drop_succ_cons, List.drop_zero, List.drop_nil, List.take_succ_cons, List.take_zero, List.take_nil, List.take_length, List.set_cons_succ, List.set_cons_zero, List.head?_cons, List.head?_nil, List.getElem?_cons_succ, List.getElem?_cons_zero, List.append_nil, List.nil_append, List.cons_append, List.append_assoc, List.flatten_cons, List.flatten_nil, List.replicate_succ, List.replicate_zero, List.contains_cons, List.contains_nil, List.isEmpty_nil, List.isEmpty_cons, List.map_drop, List.map_take, List.map_replicate, List.length_replicate, List.length_set,   cond_true, cond_false, Option.map_some, Option.map_none, Option.bind_some, Option.bind_none, Option.getD_some, Option.getD_none, Option.isSome_some, Option.isSome_none, beq_self_eq_true, BEq.rfl, Nat.reduceBEq, Nat.reduceAdd, Nat.reduceSub, Nat.reduceMul, Nat.reduceLeDiff, Nat.reduceLT, Nat.reduceEqDiff, Nat.zero_add, Nat.add_zero, Nat.zero_mul, Nat.le_refl, and_self, and_true, true_and, if_true, reduceIte, ite_true, ite_false, Bool.and_true, Bool.true_and, Bool.and_false, Bool.false_and, Bool.not_true, Bool.not_false, Bool.or_true, Bool.or_false, Bool.true_or, Bool.false_or, Int.toNat_zero, Int.toNat_natCast, Int.reduceToNat, Int.reduceLE, Int.reduceLT, Int.reduceBEq, reduceCtorEq, decide_true, decide_false, Bool.false_eq_true, Nat.sub_zero, List.toList_toArray, List.foldl_cons, en92, ok92, en67, ok67, en70, ok70, en24, ok24, en46, ok46, en49, ok49, en31, ok31, en59, ok59, en101_eq, ok101, en112, ok112, en106_eq, ok106, en116, ok116, tyF, List.all_cons, List.all_nil]), by 
   (first | decide |
   (simp only [run, afterR, condC, exitC, exitTo, runO, step1, ofO, fpOf, fpK, writes, de, deT, deB, opD, dstOk, isCall, stepOp, finO, memPut, mset, entO, ent, core, constB, mkeyOf, mval, mrowOf, tupIf, liveM, kOf_i, kOf_s, mkEq_self, mhas_i, mhas_s, midx_i, midx_s, mrow_ii, mrow_ib, mrow_is, mrow_si, mrow_sb, mrow_ss, ment_ii, ment_ib, ment_is, ment_si, ment_sb, ment_ss, mset1_ii, mset1_ib, mset1_is, mset1_si, mset1_sb, mset1_ss, mput_ii, mput_ib, mput_is, mput_si, mput_sb, mput_ss, tst_map, coreB, lenA, minA, maxA, rowsB, appT, appS, appB, fullR, keyApp, keyV, keyL, liveC, liveB, liveZ, keyOf, oget, fget, lk, ofConst, cellsC, aggC, cell1, eff, binop, intOp, strOp, unop, ld, splice, fillP, aplace, placeOf, rowsN, oint, AV.cells, AV.pv, PV.std, AV.rows, pvs, appN, appC, rowsOk, irow, srw, brw, lrw, St.put, back, renA, ren1, ren0, renO, resOf, resAll, resOne, tupOf, fnOf, rk, inn, ok1, okB, okA, okT, okO, ok0, renB, liveP, liveZ0, nagg, one1, scH, bldZ, nvs, AV.nv, PV.sc, PV.isL, nilOrE, List.filter_cons, List.filter_nil, List.all_cons, List.all_nil,   unint, unint_map, bytesOf_eq, bnd_, rowsOk_irow, rowsOk_srw, rowsOk_brw, rowsOk_lrw, rowsOk_app, take_map_len, map_set_, set_map_,   List.range, List.range.loop, List.zip, List.zipWith, List.zip_cons_cons, List.zip_nil_left, List.zip_nil_right, List.length_cons, List.length_nil, List.length_map, List.length_append, List.map_cons, List.map_nil, List.map_append, List.getElem?_map, List.drop_succ_cons, List.drop_zero, List.drop_nil, List.take_succ_cons, List.take_zero, List.take_nil, List.take_length, List.set_cons_succ, List.set_cons_zero, List.head?_cons, List.head?_nil, List.getElem?_cons_succ, List.getElem?_cons_zero, List.append_nil, List.nil_append, List.cons_append, List.append_assoc, List.flatten_cons, List.flatten_nil, List.replicate_succ, List.replicate_zero, List.contains_cons, List.contains_nil, List.isEmpty_nil, List.isEmpty_cons, List.map_drop, List.map_take, List.map_replicate, List.length_replicate, List.length_set,   cond_true, cond_false, Option.map_some, Option.map_none, Option.bind_some, Option.bind_none, Option.getD_some, Option.getD_none, Option.isSome_some, Option.isSome_none, beq_self_eq_true, BEq.rfl, Nat.reduceBEq, Nat.reduceAdd, Nat.reduceSub, Nat.reduceMul, Nat.reduceLeDiff, Nat.reduceLT, Nat.reduceEqDiff, Nat.zero_add, Nat.add_zero, Nat.zero_mul, Nat.le_refl, and_self, and_true, true_and, if_true, reduceIte, ite_true, ite_false, Bool.and_true, Bool.true_and, Bool.and_false, Bool.false_and, Bool.not_true, Bool.not_false, Bool.or_true, Bool.or_false, Bool.true_or, Bool.false_or, Int.toNat_zero, Int.toNat_natCast, Int.reduceToNat, Int.reduceLE, Int.reduceLT, Int.reduceBEq, reduceCtorEq, decide_true, decide_false, Bool.false_eq_true, Nat.sub_zero, List.toList_toArray, List.foldl_cons, en92, ok92, en67, ok67, en70, ok70, en24, ok24, en46, ok46, en49, ok49, en31, ok31, en59, ok59, en101_eq, ok101, en112, ok112, en106_eq, ok106, en116, ok116, tyF, *]; try decide))⟩) : memLe m m' ∧ memKeys m m' := ⟨h, hk⟩
theorem nf_ {p q : Prop} (h : p) (e : p = q := by ((try simp only [run, afterR, condC, exitC, exitTo, runO, step1, ofO, fpOf, fpK, writes, de, deT, deB, opD, dstOk, isCall, stepOp, finO, memPut, mset, entO, ent, core, constB, mkeyOf, mval, mrowOf, tupIf, liveM, kOf_i, kOf_s, mkEq_self, mhas_i, mhas_s, midx_i, midx_s, mrow_ii, mrow_ib, mrow_is, mrow_si, mrow_sb, mrow_ss, ment_ii, ment_ib, ment_is, ment_si, ment_sb, ment_ss, mset1_ii, mset1_ib, mset1_is, mset1_si, mset1_sb, mset1_ss, mput_ii, mput_ib, mput_is, mput_si, mput_sb, mput_ss, tst_map, coreB, lenA, minA, maxA, rowsB, appT, appS, appB, fullR, keyApp, keyV, keyL, liveC, liveB, liveZ, keyOf, oget, fget, lk, ofConst, cellsC, aggC, cell1, eff, binop, intOp, strOp, unop, ld, splice, fillP, aplace, placeOf, rowsN, oint, AV.cells, AV.pv, PV.std, AV.rows, pvs, appN, appC, rowsOk, irow, srw, brw, lrw, St.put, back, renA, ren1, ren0, renO, resOf, resAll, resOne, tupOf, fnOf, rk, inn, ok1, okB, okA, okT, okO, ok0, renB, liveP, liveZ0, nagg, one1, scH, bldZ, nvs, AV.nv, PV.sc, PV.isL, nilOrE, List.filter_cons, List.filter_nil, List.all_cons, List.all_nil,   unint, unint_map, bytesOf_eq, bnd_, rowsOk_irow, rowsOk_srw, rowsOk_brw, rowsOk_lrw, rowsOk_app, take_map_len, map_set_, set_map_,   List.range, List.range.loop, List.zip, List.zipWith, List.zip_cons_cons, List.zip_nil_left, List.zip_nil_right, List.length_cons, List.length_nil, List.length_map, List.length_append, List.map_cons, List.map_nil, List.map_append, List.getElem?_map, List.drop_succ_cons, List.drop_zero, List.drop_nil, List.take_succ_cons, List.take_zero, List.take_nil, List.take_length, List.set_cons_succ, List.set_cons_zero, List.head?_cons, List.head?_nil, List.getElem?_cons_succ, List.getElem?_cons_zero, List.append_nil, List.nil_append, List.cons_append, List.append_assoc, List.flatten_cons, List.flatten_nil, List.replicate_succ, List.replicate_zero, List.contains_cons, List.contains_nil, List.isEmpty_nil, List.isEmpty_cons, List.map_drop, List.map_take, List.map_replicate, List.length_replicate, List.length_set,   cond_true, cond_false, Option.map_some, Option.map_none, Option.bind_some, Option.bind_none, Option.getD_some, Option.getD_none, Option.isSome_some, Option.isSome_none, beq_self_eq_true, BEq.rfl, Nat.reduceBEq, Nat.reduceAdd, Nat.reduceSub, Nat.reduceMul, Nat.reduceLeDiff, Nat.reduceLT, Nat.reduceEqDiff, Nat.zero_add, Nat.add_zero, Nat.zero_mul, Nat.le_refl, and_self, and_true, true_and, if_true, reduceIte, ite_true, ite_false, Bool.and_true, Bool.true_and, Bool.and_false, Bool.false_and, Bool.not_true, Bool.not_false, Bool.or_true, Bool.or_false, Bool.true_or, Bool.false_or, Int.toNat_zero, Int.toNat_natCast, Int.reduceToNat, Int.reduceLE, Int.reduceLT, Int.reduceBEq, reduceCtorEq, decide_true, decide_false, Bool.false_eq_true, Nat.sub_zero, List.toList_toArray, List.foldl_cons, en92, ok92, en67, ok67, en70, ok70, en24, ok24, en46, ok46, en49, ok49, en31, ok31, en59, ok59, en101_eq, ok101, en112, ok112, en106_eq, ok106, en116, ok116, tyF]); rfl)) : q := e ▸ h
theorem adopt_ {H : Prop} {C : Ctx} {it : List Item} {st : St} (s k z : Nat) (g : H → Good C it { fr := (s, .tip k ((ent st.mem k).1 + 1) []) :: st.fr, mem := mset st.mem k ((ent st.mem k).1 + 1, .tip z 0) }) (hs : fget st.fr s = .p .nilS := by 
   (simp only [run, afterR, condC, exitC, exitTo, runO, step1, ofO, fpOf, fpK, writes, de, deT, deB, opD, dstOk, isCall, stepOp, finO, memPut, mset, entO, ent, core, constB, mkeyOf, mval, mrowOf, tupIf, liveM, kOf_i, kOf_s, mkEq_self, mhas_i, mhas_s, midx_i, midx_s, mrow_ii, mrow_ib, mrow_is, mrow_si, mrow_sb, mrow_ss, ment_ii, ment_ib, ment_is, ment_si, ment_sb, ment_ss, mset1_ii, mset1_ib, mset1_is, mset1_si, mset1_sb, mset1_ss, mput_ii, mput_ib, mput_is, mput_si, mput_sb, mput_ss, tst_map, coreB, lenA, minA, maxA, rowsB, appT, appS, appB, fullR, keyApp, keyV, keyL, liveC, liveB, liveZ, keyOf, oget, fget, lk, ofConst, cellsC, aggC, cell1, eff, binop, intOp, strOp, unop, ld, splice, fillP, aplace, placeOf, rowsN, oint, AV.cells, AV.pv, PV.std, AV.rows, pvs, appN, appC, rowsOk, irow, srw, brw, lrw, St.put, back, renA, ren1, ren0, renO, resOf, resAll, resOne, tupOf, fnOf, rk, inn, ok1, okB, okA, okT, okO, ok0, renB, liveP, liveZ0, nagg, one1, scH, bldZ, nvs, AV.nv, PV.sc, PV.isL, nilOrE, List.filter_cons, List.filter_nil, List.all_cons, List.all_nil,   unint, unint_map, bytesOf_eq, bnd_, rowsOk_irow, rowsOk_srw, rowsOk_brw, rowsOk_lrw, rowsOk_app, take_map_len, map_set_, set_map_,   List.range, List.range.loop, List.zip, List.zipWith, List.zip_cons_cons, List.zip_nil_left, List.zip_nil_right, List.length_cons, List.length_nil, List.length_map, List.length_append, List.map_cons, List.map_nil, List.map_append, List.getElem?_map, List.drop_succ_cons, List.drop_zero, List.drop_nil, List.take_succ_cons, List.take_zero, List.take_nil, List.take_length, List.set_cons_succ, List.set_cons_zero, List.head?_cons, List.head?_nil, List.getElem?_cons_succ, List.getElem?_cons_zero, List.append_nil, List.nil_append, List.cons_append, List.append_assoc, List.flatten_cons, List.flatten_nil, List.replicate_succ, List.replicate_zero, List.contains_cons, List.contains_nil, List.isEmpty_nil, List.isEmpty_cons, List.map_drop, List.map_take, List.map_replicate, List.length_replicate, List.length_set,   cond_true, cond_false, Option.map_some, Option.map_none, Option.bind_some, Option.bind_none, Option.getD_some, Option.getD_none, Option.isSome_some, Option.isSome_none, beq_self_eq_true, BEq.rfl, Nat.reduceBEq, Nat.reduceAdd, Nat.reduceSub, Nat.reduceMul, Nat.reduceLeDiff, Nat.reduceLT, Nat.reduceEqDiff, Nat.zero_add, Nat.add_zero, Nat.zero_mul, Nat.le_refl, and_self, and_true, true_and, if_true, reduceIte, ite_true, ite_false, Bool.and_true, Bool.true_and, Bool.and_false, Bool.false_and, Bool.not_true, Bool.not_false, Bool.or_true, Bool.or_false, Bool.true_or, Bool.false_or, Int.toNat_zero, Int.toNat_natCast, Int.reduceToNat, Int.reduceLE, Int.reduceLT, Int.reduceBEq, reduceCtorEq, decide_true, decide_false, Bool.false_eq_true, Nat.sub_zero, List.toList_toArray, List.foldl_cons, en92, ok92, en67, ok67, en70, ok70, en24, ok24, en46, ok46, en49, ok49, en31, ok31, en59, ok59, en101_eq, ok101, en112, ok112, en106_eq, ok106, en116, ok116, tyF, *])) : H → Good C it st := fun x => good_adopt s k z hs (g x)
theorem adoptF_ {H : Prop} {C : Ctx} {it : List Item} {st : St} {rows : Rows} (s k z : Nat) (g : H → Good C it { fr := (s, .tip k ((ent st.mem k).1 + 1) rows) :: st.fr, mem := mset st.mem k ((ent st.mem k).1 + 1, .tip z rows.length) }) (hs : fget st.fr s = .p (.lst true rows) := by 
   exact smt_) (hz : rowsOk z rows = true := by
   (first | rfl | simp only [run, afterR, condC, exitC, exitTo, runO, step1, ofO, fpOf, fpK, writes, de, deT, deB, opD, dstOk, isCall, stepOp, finO, memPut, mset, entO, ent, core, constB, mkeyOf, mval, mrowOf, tupIf, liveM, kOf_i, kOf_s, mkEq_self, mhas_i, mhas_s, midx_i, midx_s, mrow_ii, mrow_ib, mrow_is, mrow_si, mrow_sb, mrow_ss, ment_ii, ment_ib, ment_is, ment_si, ment_sb, ment_ss, mset1_ii, mset1_ib, mset1_is, mset1_si, mset1_sb, mset1_ss, mput_ii, mput_ib, mput_is, mput_si, mput_sb, mput_ss, tst_map, coreB, lenA, minA, maxA, rowsB, appT, appS, appB, fullR, keyApp, keyV, keyL, liveC, liveB, liveZ, keyOf, oget, fget, lk, ofConst, cellsC, aggC, cell1, eff, binop, intOp, strOp, unop, ld, splice, fillP, aplace, placeOf, rowsN, oint, AV.cells, AV.pv, PV.std, AV.rows, pvs, appN, appC, rowsOk, irow, srw, brw, lrw, St.put, back, renA, ren1, ren0, renO, resOf, resAll, resOne, tupOf, fnOf, rk, inn, ok1, okB, okA, okT, okO, ok0, renB, liveP, liveZ0, nagg, one1, scH, bldZ, nvs, AV.nv, PV.sc, PV.isL, nilOrE, List.filter_cons, List.filter_nil, List.all_cons, List.all_nil,   unint, unint_map, bytesOf_eq, bnd_, rowsOk_irow, rowsOk_srw, rowsOk_brw, rowsOk_lrw, rowsOk_app, take_map_len, map_set_, set_map_,   List.range, List.range.loop, List.zip, List.zipWith, List.zip_cons_cons, List.zip_nil_left, List.zip_nil_right, List.length_cons, List.length_nil, List.length_map, List.length_append, List.map_cons, List.map_nil, List.map_append, List.getElem?_map, List.drop_succ_cons, List.drop_zero, List.drop_nil, List.take_succ_cons, List.take_zero, List.take_nil, List.take_length, List.set_cons_succ, List.set_cons_zero, List.head?_cons, List.head?_nil, List.getElem?_cons_succ, List.getElem?_cons_zero, List.append_nil, List.nil_append, List.cons_append, List.append_assoc, List.flatten_cons, List.flatten_nil, List.replicate_succ, List.replicate_zero, List.contains_cons, List.contains_nil, List.isEmpty_nil, List.isEmpty_cons, List.map_drop, List.map_take, List.map_replicate, List.length_replicate, List.length_set,   cond_true, cond_false, Option.map_some, Option.map_none, Option.bind_some, Option.bind_none, Option.getD_some, Option.getD_none, Option.isSome_some, Option.isSome_none, beq_self_eq_true, BEq.rfl, Nat.reduceBEq, Nat.reduceAdd, Nat.reduceSub, Nat.reduceMul, Nat.reduceLeDiff, Nat.reduceLT, Nat.reduceEqDiff, Nat.zero_add, Nat.add_zero, Nat.zero_mul, Nat.le_refl, and_self, and_true, true_and, if_true, reduceIte, ite_true, ite_false, Bool.and_true, Bool.true_and, Bool.and_false, Bool.false_and, Bool.not_true, Bool.not_false, Bool.or_true, Bool.or_false, Bool.true_or, Bool.false_or, Int.toNat_zero, Int.toNat_natCast, Int.reduceToNat, Int.reduceLE, Int.reduceLT, Int.reduceBEq, reduceCtorEq, decide_true, decide_false, Bool.false_eq_true, Nat.sub_zero, List.toList_toArray, List.foldl_cons, en92, ok92, en67, ok67, en70, ok70, en24, ok24, en46, ok46, en49, ok49, en31, ok31, en59, ok59, en101_eq, ok101, en112, ok112, en106_eq, ok106, en116, ok116, tyF])) : H → Good C it st := fun x => good_adoptF s k z hz hs (g x)
theorem adoptc_ {H : Prop} {C : Ctx} {it : List Item} {st : St} (k0 o k z : Nat) {g0 : Nat} {cs : List AV} (g : H → Good C it { st with mem := mset (mset st.mem k ((ent st.mem k).1 + 1, .tip z 0)) k0 (g0, .cells (cs.set o (.tip k ((ent st.mem k).1 + 1) []))) }) (hs : lk st.mem k0 = some (g0, .cells cs) := by 
   exact smr_) (hc : cs[o]? = some (.p .nilS) := by 
   (simp only [run, afterR, condC, exitC, exitTo, runO, step1, ofO, fpOf, fpK, writes, de, deT, deB, opD, dstOk, isCall, stepOp, finO, memPut, mset, entO, ent, core, constB, mkeyOf, mval, mrowOf, tupIf, liveM, kOf_i, kOf_s, mkEq_self, mhas_i, mhas_s, midx_i, midx_s, mrow_ii, mrow_ib, mrow_is, mrow_si, mrow_sb, mrow_ss, ment_ii, ment_ib, ment_is, ment_si, ment_sb, ment_ss, mset1_ii, mset1_ib, mset1_is, mset1_si, mset1_sb, mset1_ss, mput_ii, mput_ib, mput_is, mput_si, mput_sb, mput_ss, tst_map, coreB, lenA, minA, maxA, rowsB, appT, appS, appB, fullR, keyApp, keyV, keyL, liveC, liveB, liveZ, keyOf, oget, fget, lk, ofConst, cellsC, aggC, cell1, eff, binop, intOp, strOp, unop, ld, splice, fillP, aplace, placeOf, rowsN, oint, AV.cells, AV.pv, PV.std, AV.rows, pvs, appN, appC, rowsOk, irow, srw, brw, lrw, St.put, back, renA, ren1, ren0, renO, resOf, resAll, resOne, tupOf, fnOf, rk, inn, ok1, okB, okA, okT, okO, ok0, renB, liveP, liveZ0, nagg, one1, scH, bldZ, nvs, AV.nv, PV.sc, PV.isL, nilOrE, List.filter_cons, List.filter_nil, List.all_cons, List.all_nil,   unint, unint_map, bytesOf_eq, bnd_, rowsOk_irow, rowsOk_srw, rowsOk_brw, rowsOk_lrw, rowsOk_app, take_map_len, map_set_, set_map_,   List.range, List.range.loop, List.zip, List.zipWith, List.zip_cons_cons, List.zip_nil_left, List.zip_nil_right, List.length_cons, List.length_nil, List.length_map, List.length_append, List.map_cons, List.map_nil, List.map_append, List.getElem?_map, List.drop_succ_cons, List.drop_zero, List.drop_nil, List.take_succ_cons, List.take_zero, List.take_nil, List.take_length, List.set_cons_succ, List.set_cons_zero, List.head?_cons, List.head?_nil, List.getElem?_cons_succ, List.getElem?_cons_zero, List.append_nil, List.nil_append, List.cons_append, List.append_assoc, List.flatten_cons, List.flatten_nil, List.replicate_succ, List.replicate_zero, List.contains_cons, List.contains_nil, List.isEmpty_nil, List.isEmpty_cons, List.map_drop, List.map_take, List.map_replicate, List.length_replicate, List.length_set,   cond_true, cond_false, Option.map_some, Option.map_none, Option.bind_some, Option.bind_none, Option.getD_some, Option.getD_none, Option.isSome_some, Option.isSome_none, beq_self_eq_true, BEq.rfl, Nat.reduceBEq, Nat.reduceAdd, Nat.reduceSub, Nat.reduceMul, Nat.reduceLeDiff, Nat.reduceLT, Nat.reduceEqDiff, Nat.zero_add, Nat.add_zero, Nat.zero_mul, Nat.le_refl, and_self, and_true, true_and, if_true, reduceIte, ite_true, ite_false, Bool.and_true, Bool.true_and, Bool.and_false, Bool.false_and, Bool.not_true, Bool.not_false, Bool.or_true, Bool.or_false, Bool.true_or, Bool.false_or, Int.toNat_zero, Int.toNat_natCast, Int.reduceToNat, Int.reduceLE, Int.reduceLT, Int.reduceBEq, reduceCtorEq, decide_true, decide_false, Bool.false_eq_true, Nat.sub_zero, List.toList_toArray, List.foldl_cons, en92, ok92, en67, ok67, en70, ok70, en24, ok24, en46, ok46, en49, ok49, en31, ok31, en59, ok59, en101_eq, ok101, en112, ok112, en106_eq, ok106, en116, ok116, tyF, *])) (hk : k ≠ k0 := by decide) : H → Good C it st := fun x => good_adoptc k0 o k z g0 cs hs hc hk (g x)
theorem adoptcF_ {H : Prop} {C : Ctx} {it : List Item} {st : St} {rows : Rows} (k0 o k z : Nat) {g0 : Nat} {cs : List AV} (g : H → Good C it { st with mem := mset (mset st.mem k ((ent st.mem k).1 + 1, .tip z rows.length)) k0 (g0, .cells (cs.set o (.tip k ((ent st.mem k).1 + 1) rows))) }) (hs : lk st.mem k0 = some (g0, .cells cs) := by 
   exact smr_) (hc : cs[o]? = some (.p (.lst true rows)) := by 
   exact smt_) (hk : k ≠ k0 := by decide) (hz : rowsOk z rows = true := by
   (first | rfl | simp only [run, afterR, condC, exitC, exitTo, runO, step1, ofO, fpOf, fpK, writes, de, deT, deB, opD, dstOk, isCall, stepOp, finO, memPut, mset, entO, ent, core, constB, mkeyOf, mval, mrowOf, tupIf, liveM, kOf_i, kOf_s, mkEq_self, mhas_i, mhas_s, midx_i, midx_s, mrow_ii, mrow_ib, mrow_is, mrow_si, mrow_sb, mrow_ss, ment_ii, ment_ib, ment_is, ment_si, ment_sb, ment_ss, mset1_ii, mset1_ib, mset1_is, mset1_si, mset1_sb, mset1_ss, mput_ii, mput_ib, mput_is, mput_si, mput_sb, mput_ss, tst_map, coreB, lenA, minA, maxA, rowsB, appT, appS, appB, fullR, keyApp, keyV, keyL, liveC, liveB, liveZ, keyOf, oget, fget, lk, ofConst, cellsC, aggC, cell1, eff, binop, intOp, strOp, unop, ld, splice, fillP, aplace, placeOf, rowsN, oint, AV.cells, AV.pv, PV.std, AV.rows, pvs, appN, appC, rowsOk, irow, srw, brw, lrw, St.put, back, renA, ren1, ren0, renO, resOf, resAll, resOne, tupOf, fnOf, rk, inn, ok1, okB, okA, okT, okO, ok0, renB, liveP, liveZ0, nagg, one1, scH, bldZ, nvs, AV.nv, PV.sc, PV.isL, nilOrE, List.filter_cons, List.filter_nil, List.all_cons, List.all_nil,   unint, unint_map, bytesOf_eq, bnd_, rowsOk_irow, rowsOk_srw, rowsOk_brw, rowsOk_lrw, rowsOk_app, take_map_len, map_set_, set_map_,   List.range, List.range.loop, List.zip, List.zipWith, List.zip_cons_cons, List.zip_nil_left, List.zip_nil_right, List.length_cons, List.length_nil, List.length_map, List.length_append, List.map_cons, List.map_nil, List.map_append, List.getElem?_map, List.drop_succ_cons, List.drop_zero, List.drop_nil, List.take_succ_cons, List.take_zero, List.take_nil, List.take_length, List.set_cons_succ, List.set_cons_zero, List.head?_cons, List.head?_nil, List.getElem?_cons_succ, List.getElem?_cons_zero, List.append_nil, List.nil_append, List.cons_append, List.append_assoc, List.flatten_cons, List.flatten_nil, List.replicate_succ, List.replicate_zero, List.contains_cons, List.contains_nil, List.isEmpty_nil, List.isEmpty_cons, List.map_drop, List.map_take, List.map_replicate, List.length_replicate, List.length_set,   cond_true, cond_false, Option.map_some, Option.map_none, Option.bind_some, Option.bind_none, Option.getD_some, Option.getD_none, Option.isSome_some, Option.isSome_none, beq_self_eq_true, BEq.rfl, Nat.reduceBEq, Nat.reduceAdd, Nat.reduceSub, Nat.reduceMul, Nat.reduceLeDiff, Nat.reduceLT, Nat.reduceEqDiff, Nat.zero_add, Nat.add_zero, Nat.zero_mul, Nat.le_refl, and_self, and_true, true_and, if_true, reduceIte, ite_true, ite_false, Bool.and_true, Bool.true_and, Bool.and_false, Bool.false_and, Bool.not_true, Bool.not_false, Bool.or_true, Bool.or_false, Bool.true_or, Bool.false_or, Int.toNat_zero, Int.toNat_natCast, Int.reduceToNat, Int.reduceLE, Int.reduceLT, Int.reduceBEq, reduceCtorEq, decide_true, decide_false, Bool.false_eq_true, Nat.sub_zero, List.toList_toArray, List.foldl_cons, en92, ok92, en67, ok67, en70, ok70, en24, ok24, en46, ok46, en49, ok49, en31, ok31, en59, ok59, en101_eq, ok101, en112, ok112, en106_eq, ok106, en116, ok116, tyF])) : H → Good C it st := fun x => good_adoptcF k0 o k z g0 cs hs hz hc hk (g x)
theorem freeze_ {H : Prop} {C : Ctx} {it : List Item} {st : St} (s : Nat) {k g lo n z : Nat} {rows : Rows}
  (h : H → Good C it { fr := (s, .p (.lst false ((rows.drop lo).take n))) :: st.fr, mem := mset st.mem k (g, .gone) }) (hs : fget st.fr s = .buf k g lo n := by 
   exact smr_) (hk : lk st.mem k = some (g, .buf z rows) := by 
   exact smr_) : H → Good C it st := fun x => good_freeze s hs hk (h x)
theorem freezec_ {H : Prop} {C : Ctx} {it : List Item} {st : St} (k0 o : Nat) {g0 k g lo n z : Nat} {rows : Rows} {cs : List AV} (h : H → Good C it { st with mem := mset (mset st.mem k (g, .gone)) k0 (g0, .cells (cs.set o (.p (.lst false ((rows.drop lo).take n))))) }) (hs : lk st.mem k0 = some (g0, .cells cs) := by 
   exact smr_) (hc : cs[o]? = some (.buf k g lo n) := by 
   exact smt_) (hk : lk st.mem k = some (g, .buf z rows) := by 
   exact smr_) (hne : k ≠ k0 := by decide) : H → Good C it st := fun x => good_freezec k0 o hs hc hk hne (h x)
theorem movec_ {H : Prop} {C : Ctx} {it : List Item} {st : St} (k0 o k1 k2 : Nat) {g0 g2 : Nat} {mk : MK} {ag : Bool} {es : Ents} {cs : List AV} (h : H → Good C it { st with mem := mset (mset (mset st.mem k2 (g2, .gone)) k1 ((ent st.mem k1).1 + 1, .map mk ag es)) k0 (g0, .cells (cs.set o (.mp k1 ((ent st.mem k1).1 + 1)))) }) (hs : lk st.mem k0 = some (g0, .cells cs) := by 
   exact smr_) (hc : cs[o]? = some (.mp k2 g2) := by 
   exact smt_) (hk : lk st.mem k2 = some (g2, .map mk ag es) := by 
   exact smr_) (hne : k1 ≠ k2 ∧ k1 ≠ k0 ∧ k2 ≠ k0 := by decide) : H → Good C it st := fun x => good_movec k0 o k1 k2 hs hc hk hne (h x)
theorem move_ {H : Prop} {C : Ctx} {it : List Item} {st : St} (s k1 k2 : Nat) {g2 : Nat} {mk : MK} {ag : Bool} {es : Ents} (h : H → Good C it { fr := (s, .mp k1 ((ent st.mem k1).1 + 1)) :: st.fr, mem := mset (mset st.mem k2 (g2, .gone)) k1 ((ent st.mem k1).1 + 1, .map mk ag es) }) (hs : fget st.fr s = .mp k2 g2 := by 
   exact smr_) (hk : lk st.mem k2 = some (g2, .map mk ag es) := by 
   exact smr_) (hne : k1 ≠ k2 := by decide) : H → Good C it st := fun x => good_move s k1 k2 hs hk hne (h x)
theorem freezeN_ {H : Prop} {C : Ctx} {it : List Item} {st : St} (s : Nat) {k g lo n z : Nat} {rows : Rows}
  (h : H → Good C it { fr := (s, .nw (.lst false ((rows.drop lo).take n))) :: st.fr, mem := mset st.mem k (g, .gone) }) (hs : fget st.fr s = .buf k g lo n := by 
   exact smr_) (hk : lk st.mem k = some (g, .bufn z rows) := by 
   exact smr_) : H → Good C it st := fun x => good_freezeN s hs hk (h x)
theorem adoptB_ {H : Prop} {C : Ctx} {it : List Item} {st : St} (s k z : Nat) (g : H → Good C it { fr := (s, .buf k ((ent st.mem k).1 + 1) 0 0) :: st.fr, mem := mset st.mem k ((ent st.mem k).1 + 1, .buf z []) }) (hs : nilOrE (fget st.fr s) = true := by 
   (simp only [run, afterR, condC, exitC, exitTo, runO, step1, ofO, fpOf, fpK, writes, de, deT, deB, opD, dstOk, isCall, stepOp, finO, memPut, mset, entO, ent, core, constB, mkeyOf, mval, mrowOf, tupIf, liveM, kOf_i, kOf_s, mkEq_self, mhas_i, mhas_s, midx_i, midx_s, mrow_ii, mrow_ib, mrow_is, mrow_si, mrow_sb, mrow_ss, ment_ii, ment_ib, ment_is, ment_si, ment_sb, ment_ss, mset1_ii, mset1_ib, mset1_is, mset1_si, mset1_sb, mset1_ss, mput_ii, mput_ib, mput_is, mput_si, mput_sb, mput_ss, tst_map, coreB, lenA, minA, maxA, rowsB, appT, appS, appB, fullR, keyApp, keyV, keyL, liveC, liveB, liveZ, keyOf, oget, fget, lk, ofConst, cellsC, aggC, cell1, eff, binop, intOp, strOp, unop, ld, splice, fillP, aplace, placeOf, rowsN, oint, AV.cells, AV.pv, PV.std, AV.rows, pvs, appN, appC, rowsOk, irow, srw, brw, lrw, St.put, back, renA, ren1, ren0, renO, resOf, resAll, resOne, tupOf, fnOf, rk, inn, ok1, okB, okA, okT, okO, ok0, renB, liveP, liveZ0, nagg, one1, scH, bldZ, nvs, AV.nv, PV.sc, PV.isL, nilOrE, List.filter_cons, List.filter_nil, List.all_cons, List.all_nil,   unint, unint_map, bytesOf_eq, bnd_, rowsOk_irow, rowsOk_srw, rowsOk_brw, rowsOk_lrw, rowsOk_app, take_map_len, map_set_, set_map_,   List.range, List.range.loop, List.zip, List.zipWith, List.zip_cons_cons, List.zip_nil_left, List.zip_nil_right, List.length_cons, List.length_nil, List.length_map, List.length_append, List.map_cons, List.map_nil, List.map_append, List.getElem?_map, List.drop_succ_cons, List.drop_zero, List.drop_nil, List.take_succ_cons, List.take_zero, List.take_nil, List.take_length, List.set_cons_succ, List.set_cons_zero, List.head?_cons, List.head?_nil, List.getElem?_cons_succ, List.getElem?_cons_zero, List.append_nil, List.nil_append, List.cons_append, List.append_assoc, List.flatten_cons, List.flatten_nil, List.replicate_succ, List.replicate_zero, List.contains_cons, List.contains_nil, List.isEmpty_nil, List.isEmpty_cons, List.map_drop, List.map_take, List.map_replicate, List.length_replicate, List.length_set,   cond_true, cond_false, Option.map_some, Option.map_none, Option.bind_some, Option.bind_none, Option.getD_some, Option.getD_none, Option.isSome_some, Option.isSome_none, beq_self_eq_true, BEq.rfl, Nat.reduceBEq, Nat.reduceAdd, Nat.reduceSub, Nat.reduceMul, Nat.reduceLeDiff, Nat.reduceLT, Nat.reduceEqDiff, Nat.zero_add, Nat.add_zero, Nat.zero_mul, Nat.le_refl, and_self, and_true, true_and, if_true, reduceIte, ite_true, ite_false, Bool.and_true, Bool.true_and, Bool.and_false, Bool.false_and, Bool.not_true, Bool.not_false, Bool.or_true, Bool.or_false, Bool.true_or, Bool.false_or, Int.toNat_zero, Int.toNat_natCast, Int.reduceToNat, Int.reduceLE, Int.reduceLT, Int.reduceBEq, reduceCtorEq, decide_true, decide_false, Bool.false_eq_true, Nat.sub_zero, List.toList_toArray, List.foldl_cons, en92, ok92, en67, ok67, en70, ok70, en24, ok24, en46, ok46, en49, ok49, en31, ok31, en59, ok59, en101_eq, ok101, en112, ok112, en106_eq, ok106, en116, ok116, tyF, *])) : H → Good C it st := fun x => good_adoptB s k z hs (g x)
def poolSt (d : Nat) (st : St) : St := { fr := st.fr.map (fun q => (q.1, poolA d ((ent st.mem d).1 + 1) q.2)), mem := mset (poolM d ((ent st.mem d).1 + 1) st.mem) d ((ent st.mem d).1 + 1, .pool) }
theorem cleanBuf {α : Type} (s : Nat) (f : α → List PV) (l : List α) (h : ∀ x, (f x).all pc = true) : cleanO (.buf s (List.map f l)) = true := by
  simp only [cleanO, List.all_eq_true, List.mem_map]; rintro r ⟨x, _, rfl⟩; exact List.all_eq_true.1 (h x)
theorem pool_ {H : Prop} {C : Ctx} {it : List Item} {st : St} (d : Nat) (st' st2 : St) (g : H → Good C it st2) (hN : C.w0.heap.size ≤ C.ι0.fr.N := by assumption) (hf : frLe st.fr st'.fr := by exact frle_) (hm : memLe st.mem st'.mem ∧ memKeys st.mem st'.mem := by exact memle_)
   (hcl : st'.fr.all (fun q => cleanA q.2) = true := by rfl) (hco : ∀ q ∈ st'.mem, cleanO q.2.2 = true := by ((repeat' first | exact all0 | refine all1 ?_ ?_); all_goals first | rfl | exact cleanBuf _ _ _ (fun x => rfl))) (hd : (ent st'.mem d).2 = .gone := by rfl) (e : poolSt d st' = st2 := by rfl) : H → Good C it st := fun x =>
  good_weak st' hf hm (good_pool d hN hcl (List.all_eq_true.2 fun q hq => hco q hq) hd (by have := g x; rw [← e] at this; exact this))
theorem ret_ {C : Ctx} {fn : Func} {k : List Item} {st : St} {v : AV} (hfn : C.P.funcs[C.f]? = some fn) (σ : Sg) (hr : resOf C.P fn.results.toList st = some v := by 
   exact smr_) (hle : LeT v (renA σ C.res) := by
   (simp only [run, afterR, condC, exitC, exitTo, runO, step1, ofO, fpOf, fpK, writes, de, deT, deB, opD, dstOk, isCall, stepOp, finO, memPut, mset, entO, ent, core, constB, mkeyOf, mval, mrowOf, tupIf, liveM, kOf_i, kOf_s, mkEq_self, mhas_i, mhas_s, midx_i, midx_s, mrow_ii, mrow_ib, mrow_is, mrow_si, mrow_sb, mrow_ss, ment_ii, ment_ib, ment_is, ment_si, ment_sb, ment_ss, mset1_ii, mset1_ib, mset1_is, mset1_si, mset1_sb, mset1_ss, mput_ii, mput_ib, mput_is, mput_si, mput_sb, mput_ss, tst_map, coreB, lenA, minA, maxA, rowsB, appT, appS, appB, fullR, keyApp, keyV, keyL, liveC, liveB, liveZ, keyOf, oget, fget, lk, ofConst, cellsC, aggC, cell1, eff, binop, intOp, strOp, unop, ld, splice, fillP, aplace, placeOf, rowsN, oint, AV.cells, AV.pv, PV.std, AV.rows, pvs, appN, appC, rowsOk, irow, srw, brw, lrw, St.put, back, renA, ren1, ren0, renO, resOf, resAll, resOne, tupOf, fnOf, rk, inn, ok1, okB, okA, okT, okO, ok0, renB, liveP, liveZ0, nagg, one1, scH, bldZ, nvs, AV.nv, PV.sc, PV.isL, nilOrE, List.filter_cons, List.filter_nil, List.all_cons, List.all_nil,   unint, unint_map, bytesOf_eq, bnd_, rowsOk_irow, rowsOk_srw, rowsOk_brw, rowsOk_lrw, rowsOk_app, take_map_len, map_set_, set_map_,   List.range, List.range.loop, List.zip, List.zipWith, List.zip_cons_cons, List.zip_nil_left, List.zip_nil_right, List.length_cons, List.length_nil, List.length_map, List.length_append, List.map_cons, List.map_nil, List.map_append, List.getElem?_map, List.drop_succ_cons, List.drop_zero, List.drop_nil, List.take_succ_cons, List.take_zero, List.take_nil, List.take_length, List.set_cons_succ, List.set_cons_zero, List.head?_cons, List.head?_nil, List.getElem?_cons_succ, List.getElem?_cons_zero, List.append_nil, List.nil_append, List.cons_append, List.append_assoc, List.flatten_cons, List.flatten_nil, List.replicate_succ, List.replicate_zero, List.contains_cons, List.contains_nil, List.isEmpty_nil, List.isEmpty_cons, List.map_drop, List.map_take, List.map_replicate, List.length_replicate, List.length_set,   cond_true, cond_false, Option.map_some, Option.map_none, Option.bind_some, Option.bind_none, Option.getD_some, Option.getD_none, Option.isSome_some, Option.isSome_none, beq_self_eq_true, BEq.rfl, Nat.reduceBEq, Nat.reduceAdd, Nat.reduceSub, Nat.reduceMul, Nat.reduceLeDiff, Nat.reduceLT, Nat.reduceEqDiff, Nat.zero_add, Nat.add_zero, Nat.zero_mul, Nat.le_refl, and_self, and_true, true_and, if_true, reduceIte, ite_true, ite_false, Bool.and_true, Bool.true_and, Bool.and_false, Bool.false_and, Bool.not_true, Bool.not_false, Bool.or_true, Bool.or_false, Bool.true_or, Bool.false_or, Int.toNat_zero, Int.toNat_natCast, Int.reduceToNat, Int.reduceLE, Int.reduceLT, Int.reduceBEq, reduceCtorEq, decide_true, decide_false, Bool.false_eq_true, Nat.sub_zero, List.toList_toArray, List.foldl_cons, en92, ok92, en67, ok67, en70, ok70, en24, ok24, en46, ok46, en49, ok49, en31, ok31, en59, ok59, en101_eq, ok101, en112, ok112, en106_eq, ok106, en116, ok116, tyF, *]; repeat' first | exact LeT.of _ _ (LeA.of _ _ (Le.refl _)) | exact LeT.of _ _ (LeA.of _ _ (Le.nil _)) | exact LeT.of _ _ (LeA.of _ _ (Le.full _)) | exact LeT.of _ _ (LeA.of _ _ (Le.tip _ _ _)) | exact LeA.of _ _ (Le.refl _) | exact LeA.of _ _ (Le.nil _) | exact LeA.of _ _ (Le.full _) | exact LeA.of _ _ (Le.tip _ _ _) | exact LeA.of _ _ (Le.nwp _) | exact LeA.of _ _ (Le.odp _) | exact F2.nil | exact Le.refl _ | exact Le.nil _ | exact Le.full _ | exact Le.tip _ _ _ | exact Le.nwp _ | exact Le.odp _ | refine F2.cons ?_ ?_ | refine LeT.tup _ _ ?_ | refine LeT.of _ _ (LeA.agg _ _ ?_) | refine LeA.agg _ _ ?_)) (hok : okT (inn σ C.mem) C.res = true := by (first | rfl | exact sm_)) (hm : EndOk σ st.mem C.mem C.m0 := by exact endOk_) : Good C (.code .ret :: k) st := good_ret_ σ hfn hr hle hok hm
theorem end_ {C : Ctx} {fn : Func} {st : St} {v : AV} (hfn : C.P.funcs[C.f]? = some fn) (σ : Sg) (hr : resOf C.P fn.results.toList st = some v := by 
   exact smr_) (hle : LeT v (renA σ C.res) := by
   (simp only [run, afterR, condC, exitC, exitTo, runO, step1, ofO, fpOf, fpK, writes, de, deT, deB, opD, dstOk, isCall, stepOp, finO, memPut, mset, entO, ent, core, constB, mkeyOf, mval, mrowOf, tupIf, liveM, kOf_i, kOf_s, mkEq_self, mhas_i, mhas_s, midx_i, midx_s, mrow_ii, mrow_ib, mrow_is, mrow_si, mrow_sb, mrow_ss, ment_ii, ment_ib, ment_is, ment_si, ment_sb, ment_ss, mset1_ii, mset1_ib, mset1_is, mset1_si, mset1_sb, mset1_ss, mput_ii, mput_ib, mput_is, mput_si, mput_sb, mput_ss, tst_map, coreB, lenA, minA, maxA, rowsB, appT, appS, appB, fullR, keyApp, keyV, keyL, liveC, liveB, liveZ, keyOf, oget, fget, lk, ofConst, cellsC, aggC, cell1, eff, binop, intOp, strOp, unop, ld, splice, fillP, aplace, placeOf, rowsN, oint, AV.cells, AV.pv, PV.std, AV.rows, pvs, appN, appC, rowsOk, irow, srw, brw, lrw, St.put, back, renA, ren1, ren0, renO, resOf, resAll, resOne, tupOf, fnOf, rk, inn, ok1, okB, okA, okT, okO, ok0, renB, liveP, liveZ0, nagg, one1, scH, bldZ, nvs, AV.nv, PV.sc, PV.isL, nilOrE, List.filter_cons, List.filter_nil, List.all_cons, List.all_nil,   unint, unint_map, bytesOf_eq, bnd_, rowsOk_irow, rowsOk_srw, rowsOk_brw, rowsOk_lrw, rowsOk_app, take_map_len, map_set_, set_map_,   List.range, List.range.loop, List.zip, List.zipWith, List.zip_cons_cons, List.zip_nil_left, List.zip_nil_right, List.length_cons, List.length_nil, List.length_map, List.length_append, List.map_cons, List.map_nil, List.map_append, List.getElem?_map, List.drop_succ_cons, List.drop_zero, List.drop_nil, List.take_succ_cons, List.take_zero, List.take_nil, List.take_length, List.set_cons_succ, List.set_cons_zero, List.head?_cons, List.head?_nil, List.getElem?_cons_succ, List.getElem?_cons_zero, List.append_nil, List.nil_append, List.cons_append, List.append_assoc, List.flatten_cons, List.flatten_nil, List.replicate_succ, List.replicate_zero, List.contains_cons, List.contains_nil, List.isEmpty_nil, List.isEmpty_cons, List.map_drop, List.map_take, List.map_replicate, List.length_replicate, List.length_set,   cond_true, cond_false, Option.map_some, Option.map_none, Option.bind_some, Option.bind_none, Option.getD_some, Option.getD_none, Option.isSome_some, Option.isSome_none, beq_self_eq_true, BEq.rfl, Nat.reduceBEq, Nat.reduceAdd, Nat.reduceSub, Nat.reduceMul, Nat.reduceLeDiff, Nat.reduceLT, Nat.reduceEqDiff, Nat.zero_add, Nat.add_zero, Nat.zero_mul, Nat.le_refl, and_self, and_true, true_and, if_true, reduceIte, ite_true, ite_false, Bool.and_true, Bool.true_and, Bool.and_false, Bool.false_and, Bool.not_true, Bool.not_false, Bool.or_true, Bool.or_false, Bool.true_or, Bool.false_or, Int.toNat_zero, Int.toNat_natCast, Int.reduceToNat, Int.reduceLE, Int.reduceLT, Int.reduceBEq, reduceCtorEq, decide_true, decide_false, Bool.false_eq_true, Nat.sub_zero, List.toList_toArray, List.foldl_cons, en92, ok92, en67, ok67, en70, ok70, en24, ok24, en46, ok46, en49, ok49, en31, ok31, en59, ok59, en101_eq, ok101, en112, ok112, en106_eq, ok106, en116, ok116, tyF, *]; repeat' first | exact LeT.of _ _ (LeA.of _ _ (Le.refl _)) | exact LeT.of _ _ (LeA.of _ _ (Le.nil _)) | exact LeT.of _ _ (LeA.of _ _ (Le.full _)) | exact LeT.of _ _ (LeA.of _ _ (Le.tip _ _ _)) | exact LeA.of _ _ (Le.refl _) | exact LeA.of _ _ (Le.nil _) | exact LeA.of _ _ (Le.full _) | exact LeA.of _ _ (Le.tip _ _ _) | exact LeA.of _ _ (Le.nwp _) | exact LeA.of _ _ (Le.odp _) | exact F2.nil | exact Le.refl _ | exact Le.nil _ | exact Le.full _ | exact Le.tip _ _ _ | exact Le.nwp _ | exact Le.odp _ | refine F2.cons ?_ ?_ | refine LeT.tup _ _ ?_ | refine LeT.of _ _ (LeA.agg _ _ ?_) | refine LeA.agg _ _ ?_)) (hok : okT (inn σ C.mem) C.res = true := by (first | rfl | exact sm_)) (hm : EndOk σ st.mem C.mem C.m0 := by exact endOk_) : Good C [] st := good_end_ σ hfn hr hle hok hm

end Go.Ab
