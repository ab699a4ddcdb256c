/- Facts of this program's types; its struct types; the rules, each with what closes its sides. No condition. -/
import Derived.Test.YtfjckgcbgepndaaGreatDoorAbR
import Derived.Test.YtfjckgcbgepndaaGreatDoorProg
import Derived.KernelRfl
import Derived.Lib.LaidTab
import Derived.Lib.ItoaNum
namespace Go.Ab
open Go.Proofs
set_option linter.unusedVariables false
set_option linter.unusedSimpArgs false
/-- The table internal/strconv.uint64pow10 is the program's. -/
def Gp (w : World) : Prop := Lib.TabIs Tryz.prog w "internal/strconv.uint64pow10" .u64 Lib.pow10Tab
/-- strconv.ErrSyntax and strconv.ErrRange hold some error. -/
def Ge (w : World) : Prop := (∃ ev, w.cell? ⟨2, 0, none⟩ = some ev ∧ (ev = .nilIface ∨ ∃ te pe, ev = .iface te pe)) ∧ (∃ ev, w.cell? ⟨3, 0, none⟩ = some ev ∧ (ev = .nilIface ∨ ∃ te pe, ev = .iface te pe))
/-- What must be known of the world. -/
class KOk (K : Kn) : Prop where
 known : ∀ w : World, Knows K w → Gp w ∧ Ge w

set_option maxRecDepth 100000 in
theorem tyF : isAggB Tryz.prog 2 = some false ∧
 tsize Tryz.prog 2 = some 1 ∧
 zeroCells Tryz.prog 2 = some [.p (.int .i64 0)] ∧
 tkind Tryz.prog 2 = .int .i64 ∧
 notIntT Tryz.prog 2 = false ∧
 szPos Tryz.prog 2 = true ∧
 isAggB Tryz.prog 3 = some false ∧
 tsize Tryz.prog 3 = some 1 ∧
 zeroCells Tryz.prog 3 = some [.p (.int .i64 0)] ∧
 tkind Tryz.prog 3 = .int .i64 ∧
 notIntT Tryz.prog 3 = false ∧
 szPos Tryz.prog 3 = true ∧
 isAggB Tryz.prog 4 = some false ∧
 tsize Tryz.prog 4 = some 1 ∧
 zeroCells Tryz.prog 4 = some [.p (.bool false)] ∧
 tkind Tryz.prog 4 = .other ∧
 isBoolT Tryz.prog 4 = true ∧
 notIntT Tryz.prog 4 = true ∧
 szPos Tryz.prog 4 = true ∧
 isAggB Tryz.prog 5 = some false ∧
 tsize Tryz.prog 5 = some 1 ∧
 zeroCells Tryz.prog 5 = some [.p (.int .u8 0)] ∧
 tkind Tryz.prog 5 = .int .u8 ∧
 notIntT Tryz.prog 5 = false ∧
 szPos Tryz.prog 5 = true ∧
 isAggB Tryz.prog 9 = some false ∧
 tsize Tryz.prog 9 = some 1 ∧
 zeroCells Tryz.prog 9 = some [.p (.str (⟨#[]⟩ : ByteArray))] ∧
 tkind Tryz.prog 9 = .str ∧
 notIntT Tryz.prog 9 = true ∧
 szPos Tryz.prog 9 = true ∧
 isStrT Tryz.prog 9 = true ∧
 isAggB Tryz.prog 22 = some false ∧
 tsize Tryz.prog 22 = some 1 ∧
 sliceOf Tryz.prog 22 = some 2 ∧
 core.elemZero Tryz.prog 22 = some [.p .nilS, .p (.int .i64 0)] ∧
 zeroCells Tryz.prog 22 = some [.p .nilS] ∧
 tkind Tryz.prog 22 = .other ∧
 notIntT Tryz.prog 22 = true ∧
 szPos Tryz.prog 22 = true ∧
 isAggB Tryz.prog 25 = some false ∧
 tsize Tryz.prog 25 = some 1 ∧
 sliceOf Tryz.prog 25 = some 2 ∧
 core.elemZero Tryz.prog 25 = some [.p .nilS, .p (.int .i64 0)] ∧
 zeroCells Tryz.prog 25 = some [.p .nilS] ∧
 tkind Tryz.prog 25 = .other ∧
 notIntT Tryz.prog 25 = true ∧
 szPos Tryz.prog 25 = true ∧
 isAggB Tryz.prog 29 = some false ∧
 tsize Tryz.prog 29 = some 1 ∧
 sliceOf Tryz.prog 29 = some 1 ∧
 core.elemZero Tryz.prog 29 = some [.p (.str (⟨#[]⟩ : ByteArray))] ∧
 zeroCells Tryz.prog 29 = some [.p .nilS] ∧
 tkind Tryz.prog 29 = .other ∧
 notIntT Tryz.prog 29 = true ∧
 szPos Tryz.prog 29 = true ∧
 isAggB Tryz.prog 35 = some false ∧
 tsize Tryz.prog 35 = some 1 ∧
 sliceOf Tryz.prog 35 = some 1 ∧
 core.elemZero Tryz.prog 35 = some [.p (.int .i64 0)] ∧
 zeroCells Tryz.prog 35 = some [.p .nilS] ∧
 tkind Tryz.prog 35 = .other ∧
 notIntT Tryz.prog 35 = true ∧
 szPos Tryz.prog 35 = true ∧
 isAggB Tryz.prog 41 = some false ∧
 tsize Tryz.prog 41 = some 1 ∧
 sliceOf Tryz.prog 41 = some 3 ∧
 core.elemZero Tryz.prog 41 = some [.p (.int .i64 0), .p .nilS, .p .nilS] ∧
 zeroCells Tryz.prog 41 = some [.p .nilS] ∧
 tkind Tryz.prog 41 = .other ∧
 notIntT Tryz.prog 41 = true ∧
 szPos Tryz.prog 41 = true ∧
 isAggB Tryz.prog 42 = some false ∧
 tsize Tryz.prog 42 = some 1 ∧
 sliceOf Tryz.prog 42 = some 5 ∧
 core.elemZero Tryz.prog 42 = some [.p (.int .i64 0), .p (.str (⟨#[]⟩ : ByteArray)), .p (.int .i64 0), .p (.int .i64 0), .p .nilS] ∧
 zeroCells Tryz.prog 42 = some [.p .nilS] ∧
 tkind Tryz.prog 42 = .other ∧
 notIntT Tryz.prog 42 = true ∧
 szPos Tryz.prog 42 = true ∧
 isAggB Tryz.prog 44 = some true ∧
 tsize Tryz.prog 44 = some 2 ∧
 sizedB Tryz.prog 44 = true ∧
 fieldOf Tryz.prog 44 0 = some (0, 41) ∧
 fieldOf Tryz.prog 44 1 = some (1, 42) ∧
 arrOf Tryz.prog 44 = none ∧
 zeroCells Tryz.prog 44 = some [.p .nilS, .p .nilS] ∧
 tkind Tryz.prog 44 = .other ∧
 notIntT Tryz.prog 44 = true ∧
 szPos Tryz.prog 44 = true ∧
 isAggB Tryz.prog 47 = some false ∧
 tsize Tryz.prog 47 = some 1 ∧
 sliceOf Tryz.prog 47 = some 3 ∧
 core.elemZero Tryz.prog 47 = some [.p (.int .i64 0), .p .nilS, .p .nilS] ∧
 zeroCells Tryz.prog 47 = some [.p .nilS] ∧
 tkind Tryz.prog 47 = .other ∧
 notIntT Tryz.prog 47 = true ∧
 szPos Tryz.prog 47 = true ∧
 isAggB Tryz.prog 48 = some false ∧
 tsize Tryz.prog 48 = some 1 ∧
 sliceOf Tryz.prog 48 = some 5 ∧
 core.elemZero Tryz.prog 48 = some [.p (.int .i64 0), .p (.str (⟨#[]⟩ : ByteArray)), .p (.int .i64 0), .p (.int .i64 0), .p .nilS] ∧
 zeroCells Tryz.prog 48 = some [.p .nilS] ∧
 tkind Tryz.prog 48 = .other ∧
 notIntT Tryz.prog 48 = true ∧
 szPos Tryz.prog 48 = true ∧
 isAggB Tryz.prog 50 = some true ∧
 tsize Tryz.prog 50 = some 2 ∧
 sizedB Tryz.prog 50 = true ∧
 fieldOf Tryz.prog 50 0 = some (0, 47) ∧
 fieldOf Tryz.prog 50 1 = some (1, 48) ∧
 arrOf Tryz.prog 50 = none ∧
 zeroCells Tryz.prog 50 = some [.p .nilS, .p .nilS] ∧
 tkind Tryz.prog 50 = .other ∧
 notIntT Tryz.prog 50 = true ∧
 szPos Tryz.prog 50 = true ∧
 isAggB Tryz.prog 58 = some false ∧
 tsize Tryz.prog 58 = some 1 ∧
 sliceOf Tryz.prog 58 = some 3 ∧
 core.elemZero Tryz.prog 58 = some [.p (.int .i64 0), .p (.str (⟨#[]⟩ : ByteArray)), .p (.int .i64 0)] ∧
 zeroCells Tryz.prog 58 = some [.p .nilS] ∧
 tkind Tryz.prog 58 = .other ∧
 notIntT Tryz.prog 58 = true ∧
 szPos Tryz.prog 58 = true ∧
 isAggB Tryz.prog 61 = some false ∧
 tsize Tryz.prog 61 = some 1 ∧
 sliceOf Tryz.prog 61 = some 3 ∧
 core.elemZero Tryz.prog 61 = some [.p (.int .i64 0), .p (.str (⟨#[]⟩ : ByteArray)), .p (.int .i64 0)] ∧
 zeroCells Tryz.prog 61 = some [.p .nilS] ∧
 tkind Tryz.prog 61 = .other ∧
 notIntT Tryz.prog 61 = true ∧
 szPos Tryz.prog 61 = true ∧
 isAggB Tryz.prog 65 = some false ∧
 tsize Tryz.prog 65 = some 1 ∧
 sliceOf Tryz.prog 65 = some 2 ∧
 core.elemZero Tryz.prog 65 = some [.p (.int .i64 0), .p (.int .i64 0)] ∧
 zeroCells Tryz.prog 65 = some [.p .nilS] ∧
 tkind Tryz.prog 65 = .other ∧
 notIntT Tryz.prog 65 = true ∧
 szPos Tryz.prog 65 = true ∧
 isAggB Tryz.prog 74 = some true ∧
 tsize Tryz.prog 74 = some 2 ∧
 sizedB Tryz.prog 74 = true ∧
 fieldOf Tryz.prog 74 0 = some (0, 29) ∧
 fieldOf Tryz.prog 74 1 = some (1, 2) ∧
 arrOf Tryz.prog 74 = none ∧
 zeroCells Tryz.prog 74 = some [.p .nilS, .p (.int .i64 0)] ∧
 tkind Tryz.prog 74 = .other ∧
 notIntT Tryz.prog 74 = true ∧
 szPos Tryz.prog 74 = true ∧
 isAggB Tryz.prog 75 = some true ∧
 tsize Tryz.prog 75 = some 2 ∧
 sizedB Tryz.prog 75 = true ∧
 fieldOf Tryz.prog 75 0 = some (0, 29) ∧
 fieldOf Tryz.prog 75 1 = some (1, 2) ∧
 arrOf Tryz.prog 75 = none ∧
 zeroCells Tryz.prog 75 = some [.p .nilS, .p (.int .i64 0)] ∧
 tkind Tryz.prog 75 = .other ∧
 notIntT Tryz.prog 75 = true ∧
 szPos Tryz.prog 75 = true ∧
 isAggB Tryz.prog 87 = some false ∧
 tsize Tryz.prog 87 = some 1 ∧
 sliceOf Tryz.prog 87 = some 2 ∧
 core.elemZero Tryz.prog 87 = some [.p (.str (⟨#[]⟩ : ByteArray)), .p (.str (⟨#[]⟩ : ByteArray))] ∧
 zeroCells Tryz.prog 87 = some [.p .nilS] ∧
 tkind Tryz.prog 87 = .other ∧
 notIntT Tryz.prog 87 = true ∧
 szPos Tryz.prog 87 = true ∧
 isAggB Tryz.prog 89 = some true ∧
 tsize Tryz.prog 89 = some 3 ∧
 sizedB Tryz.prog 89 = true ∧
 fieldOf Tryz.prog 89 0 = some (0, 2) ∧
 fieldOf Tryz.prog 89 1 = some (1, 29) ∧
 fieldOf Tryz.prog 89 2 = some (2, 87) ∧
 arrOf Tryz.prog 89 = none ∧
 zeroCells Tryz.prog 89 = some [.p (.int .i64 0), .p .nilS, .p .nilS] ∧
 tkind Tryz.prog 89 = .other ∧
 notIntT Tryz.prog 89 = true ∧
 szPos Tryz.prog 89 = true ∧
 isAggB Tryz.prog 91 = some true ∧
 tsize Tryz.prog 91 = some 5 ∧
 sizedB Tryz.prog 91 = true ∧
 fieldOf Tryz.prog 91 0 = some (0, 2) ∧
 fieldOf Tryz.prog 91 1 = some (1, 9) ∧
 fieldOf Tryz.prog 91 2 = some (2, 2) ∧
 fieldOf Tryz.prog 91 3 = some (3, 2) ∧
 fieldOf Tryz.prog 91 4 = some (4, 87) ∧
 arrOf Tryz.prog 91 = none ∧
 zeroCells Tryz.prog 91 = some [.p (.int .i64 0), .p (.str (⟨#[]⟩ : ByteArray)), .p (.int .i64 0), .p (.int .i64 0), .p .nilS] ∧
 tkind Tryz.prog 91 = .other ∧
 notIntT Tryz.prog 91 = true ∧
 szPos Tryz.prog 91 = true ∧
 isAggB Tryz.prog 106 = some true ∧
 tsize Tryz.prog 106 = some 3 ∧
 sizedB Tryz.prog 106 = true ∧
 fieldOf Tryz.prog 106 0 = some (0, 2) ∧
 fieldOf Tryz.prog 106 1 = some (1, 9) ∧
 fieldOf Tryz.prog 106 2 = some (2, 2) ∧
 arrOf Tryz.prog 106 = none ∧
 zeroCells Tryz.prog 106 = some [.p (.int .i64 0), .p (.str (⟨#[]⟩ : ByteArray)), .p (.int .i64 0)] ∧
 tkind Tryz.prog 106 = .other ∧
 notIntT Tryz.prog 106 = true ∧
 szPos Tryz.prog 106 = true ∧
 isAggB Tryz.prog 108 = some true ∧
 tsize Tryz.prog 108 = some 3 ∧
 sizedB Tryz.prog 108 = true ∧
 fieldOf Tryz.prog 108 0 = some (0, 2) ∧
 fieldOf Tryz.prog 108 1 = some (1, 9) ∧
 fieldOf Tryz.prog 108 2 = some (2, 2) ∧
 arrOf Tryz.prog 108 = none ∧
 zeroCells Tryz.prog 108 = some [.p (.int .i64 0), .p (.str (⟨#[]⟩ : ByteArray)), .p (.int .i64 0)] ∧
 tkind Tryz.prog 108 = .other ∧
 notIntT Tryz.prog 108 = true ∧
 szPos Tryz.prog 108 = true ∧
 isAggB Tryz.prog 110 = some false ∧
 tsize Tryz.prog 110 = some 1 ∧
 sliceOf Tryz.prog 110 = some 4 ∧
 core.elemZero Tryz.prog 110 = some [.p (.int .i64 0), .p (.str (⟨#[]⟩ : ByteArray)), .p (.int .i64 0), .p .nilS] ∧
 zeroCells Tryz.prog 110 = some [.p .nilS] ∧
 tkind Tryz.prog 110 = .other ∧
 notIntT Tryz.prog 110 = true ∧
 szPos Tryz.prog 110 = true ∧
 isAggB Tryz.prog 112 = some true ∧
 tsize Tryz.prog 112 = some 4 ∧
 sizedB Tryz.prog 112 = true ∧
 fieldOf Tryz.prog 112 0 = some (0, 108) ∧
 fieldOf Tryz.prog 112 1 = some (3, 110) ∧
 arrOf Tryz.prog 112 = none ∧
 zeroCells Tryz.prog 112 = some [.p (.int .i64 0), .p (.str (⟨#[]⟩ : ByteArray)), .p (.int .i64 0), .p .nilS] ∧
 tkind Tryz.prog 112 = .other ∧
 notIntT Tryz.prog 112 = true ∧
 szPos Tryz.prog 112 = true ∧
 isAggB Tryz.prog 117 = some false ∧
 tsize Tryz.prog 117 = some 1 ∧
 zeroCells Tryz.prog 117 = some [.p .nilM] ∧
 tkind Tryz.prog 117 = .other ∧
 mapTy Tryz.prog 117 = some (.int .i64, false, [.int .i64 0]) ∧
 notIntT Tryz.prog 117 = true ∧
 szPos Tryz.prog 117 = true ∧
 isAggB Tryz.prog 122 = some true ∧
 tsize Tryz.prog 122 = some 2 ∧
 sizedB Tryz.prog 122 = true ∧
 fieldOf Tryz.prog 122 0 = some (0, 2) ∧
 fieldOf Tryz.prog 122 1 = some (1, 2) ∧
 arrOf Tryz.prog 122 = none ∧
 zeroCells Tryz.prog 122 = some [.p (.int .i64 0), .p (.int .i64 0)] ∧
 tkind Tryz.prog 122 = .other ∧
 notIntT Tryz.prog 122 = true ∧
 szPos Tryz.prog 122 = true ∧
 isAggB Tryz.prog 123 = some false ∧
 tsize Tryz.prog 123 = some 1 ∧
 sliceOf Tryz.prog 123 = some 1 ∧
 core.elemZero Tryz.prog 123 = some [.p (.int .i64 0)] ∧
 zeroCells Tryz.prog 123 = some [.p .nilS] ∧
 tkind Tryz.prog 123 = .other ∧
 notIntT Tryz.prog 123 = true ∧
 szPos Tryz.prog 123 = true ∧
 isAggB Tryz.prog 129 = some false ∧
 tsize Tryz.prog 129 = some 1 ∧
 sliceOf Tryz.prog 129 = some 6 ∧
 core.elemZero Tryz.prog 129 = some [.p (.int .i64 0), .p (.int .i64 0), .p (.int .i64 0), .p (.str (⟨#[]⟩ : ByteArray)), .p .nilS, .p .nilS] ∧
 zeroCells Tryz.prog 129 = some [.p .nilS] ∧
 tkind Tryz.prog 129 = .other ∧
 notIntT Tryz.prog 129 = true ∧
 szPos Tryz.prog 129 = true ∧
 isAggB Tryz.prog 131 = some true ∧
 tsize Tryz.prog 131 = some 6 ∧
 sizedB Tryz.prog 131 = true ∧
 fieldOf Tryz.prog 131 0 = some (0, 2) ∧
 fieldOf Tryz.prog 131 1 = some (1, 2) ∧
 fieldOf Tryz.prog 131 2 = some (2, 2) ∧
 fieldOf Tryz.prog 131 3 = some (3, 9) ∧
 fieldOf Tryz.prog 131 4 = some (4, 129) ∧
 fieldOf Tryz.prog 131 5 = some (5, 29) ∧
 arrOf Tryz.prog 131 = none ∧
 zeroCells Tryz.prog 131 = some [.p (.int .i64 0), .p (.int .i64 0), .p (.int .i64 0), .p (.str (⟨#[]⟩ : ByteArray)), .p .nilS, .p .nilS] ∧
 tkind Tryz.prog 131 = .other ∧
 notIntT Tryz.prog 131 = true ∧
 szPos Tryz.prog 131 = true ∧
 isAggB Tryz.prog 133 = some false ∧
 tsize Tryz.prog 133 = some 1 ∧
 zeroCells Tryz.prog 133 = some [.p .nilM] ∧
 tkind Tryz.prog 133 = .other ∧
 mapTy Tryz.prog 133 = some (.int .i64, false, [.int .i64 0]) ∧
 notIntT Tryz.prog 133 = true ∧
 szPos Tryz.prog 133 = true ∧
 isAggB Tryz.prog 136 = some false ∧
 tsize Tryz.prog 136 = some 1 ∧
 sliceOf Tryz.prog 136 = some 6 ∧
 core.elemZero Tryz.prog 136 = some [.p (.int .i64 0), .p (.int .i64 0), .p (.int .i64 0), .p (.str (⟨#[]⟩ : ByteArray)), .p .nilS, .p .nilS] ∧
 zeroCells Tryz.prog 136 = some [.p .nilS] ∧
 tkind Tryz.prog 136 = .other ∧
 notIntT Tryz.prog 136 = true ∧
 szPos Tryz.prog 136 = true ∧
 isAggB Tryz.prog 138 = some true ∧
 tsize Tryz.prog 138 = some 6 ∧
 sizedB Tryz.prog 138 = true ∧
 fieldOf Tryz.prog 138 0 = some (0, 2) ∧
 fieldOf Tryz.prog 138 1 = some (1, 2) ∧
 fieldOf Tryz.prog 138 2 = some (2, 2) ∧
 fieldOf Tryz.prog 138 3 = some (3, 9) ∧
 fieldOf Tryz.prog 138 4 = some (4, 29) ∧
 fieldOf Tryz.prog 138 5 = some (5, 136) ∧
 arrOf Tryz.prog 138 = none ∧
 zeroCells Tryz.prog 138 = some [.p (.int .i64 0), .p (.int .i64 0), .p (.int .i64 0), .p (.str (⟨#[]⟩ : ByteArray)), .p .nilS, .p .nilS] ∧
 tkind Tryz.prog 138 = .other ∧
 notIntT Tryz.prog 138 = true ∧
 szPos Tryz.prog 138 = true ∧
 isAggB Tryz.prog 142 = some false ∧
 tsize Tryz.prog 142 = some 1 ∧
 sliceOf Tryz.prog 142 = some 1 ∧
 core.elemZero Tryz.prog 142 = some [.p (.int .u8 0)] ∧
 zeroCells Tryz.prog 142 = some [.p .nilS] ∧
 tkind Tryz.prog 142 = .bytes ∧
 notIntT Tryz.prog 142 = true ∧
 szPos Tryz.prog 142 = true ∧
 isAggB Tryz.prog 144 = some false ∧
 tsize Tryz.prog 144 = some 1 ∧
 sliceOf Tryz.prog 144 = some 2 ∧
 core.elemZero Tryz.prog 144 = some [.p (.str (⟨#[]⟩ : ByteArray)), .p (.str (⟨#[]⟩ : ByteArray))] ∧
 zeroCells Tryz.prog 144 = some [.p .nilS] ∧
 tkind Tryz.prog 144 = .other ∧
 notIntT Tryz.prog 144 = true ∧
 szPos Tryz.prog 144 = true ∧
 isAggB Tryz.prog 146 = some true ∧
 tsize Tryz.prog 146 = some 3 ∧
 sizedB Tryz.prog 146 = true ∧
 fieldOf Tryz.prog 146 0 = some (0, 2) ∧
 fieldOf Tryz.prog 146 1 = some (1, 29) ∧
 fieldOf Tryz.prog 146 2 = some (2, 144) ∧
 arrOf Tryz.prog 146 = none ∧
 zeroCells Tryz.prog 146 = some [.p (.int .i64 0), .p .nilS, .p .nilS] ∧
 tkind Tryz.prog 146 = .other ∧
 notIntT Tryz.prog 146 = true ∧
 szPos Tryz.prog 146 = true ∧
 isAggB Tryz.prog 149 = some true ∧
 tsize Tryz.prog 149 = some 5 ∧
 sizedB Tryz.prog 149 = true ∧
 fieldOf Tryz.prog 149 0 = some (0, 2) ∧
 fieldOf Tryz.prog 149 1 = some (1, 9) ∧
 fieldOf Tryz.prog 149 2 = some (2, 2) ∧
 fieldOf Tryz.prog 149 3 = some (3, 2) ∧
 fieldOf Tryz.prog 149 4 = some (4, 144) ∧
 arrOf Tryz.prog 149 = none ∧
 zeroCells Tryz.prog 149 = some [.p (.int .i64 0), .p (.str (⟨#[]⟩ : ByteArray)), .p (.int .i64 0), .p (.int .i64 0), .p .nilS] ∧
 tkind Tryz.prog 149 = .other ∧
 notIntT Tryz.prog 149 = true ∧
 szPos Tryz.prog 149 = true ∧
 isAggB Tryz.prog 159 = some true ∧
 tsize Tryz.prog 159 = some 2 ∧
 sizedB Tryz.prog 159 = true ∧
 bldE Tryz.prog 159 = some 5 ∧
 fieldOf Tryz.prog 159 0 = some (0, 157) ∧
 fieldOf Tryz.prog 159 1 = some (1, 142) ∧
 arrOf Tryz.prog 159 = none ∧
 zeroCells Tryz.prog 159 = some [.p .nilP, .p .nilS] ∧
 tkind Tryz.prog 159 = .other ∧
 notIntT Tryz.prog 159 = true ∧
 szPos Tryz.prog 159 = true ∧
 isAggB Tryz.prog 161 = some false ∧
 tsize Tryz.prog 161 = some 1 ∧
 zeroCells Tryz.prog 161 = some [.p .nilI] ∧
 tkind Tryz.prog 161 = .other ∧
 isIfcT Tryz.prog 161 = true ∧
 notIntT Tryz.prog 161 = true ∧
 szPos Tryz.prog 161 = true ∧
 isAggB Tryz.prog 170 = some false ∧
 tsize Tryz.prog 170 = some 1 ∧
 zeroCells Tryz.prog 170 = some [.p .nilF] ∧
 tkind Tryz.prog 170 = .other ∧
 notIntT Tryz.prog 170 = true ∧
 szPos Tryz.prog 170 = true ∧
 isAggB Tryz.prog 171 = some false ∧
 tsize Tryz.prog 171 = some 1 ∧
 sliceOf Tryz.prog 171 = some 1 ∧
 core.elemZero Tryz.prog 171 = some [.p .nilS] ∧
 zeroCells Tryz.prog 171 = some [.p .nilS] ∧
 tkind Tryz.prog 171 = .other ∧
 notIntT Tryz.prog 171 = true ∧
 szPos Tryz.prog 171 = true ∧
 isAggB Tryz.prog 174 = some false ∧
 tsize Tryz.prog 174 = some 1 ∧
 zeroCells Tryz.prog 174 = some [.p .nilM] ∧
 tkind Tryz.prog 174 = .other ∧
 notIntT Tryz.prog 174 = true ∧
 szPos Tryz.prog 174 = true ∧
 isAggB Tryz.prog 179 = some true ∧
 tsize Tryz.prog 179 = some 2 ∧
 sizedB Tryz.prog 179 = true ∧
 fieldOf Tryz.prog 179 0 = some (0, 9) ∧
 fieldOf Tryz.prog 179 1 = some (1, 9) ∧
 arrOf Tryz.prog 179 = none ∧
 zeroCells Tryz.prog 179 = some [.p (.str (⟨#[]⟩ : ByteArray)), .p (.str (⟨#[]⟩ : ByteArray))] ∧
 tkind Tryz.prog 179 = .other ∧
 notIntT Tryz.prog 179 = true ∧
 szPos Tryz.prog 179 = true ∧
 isAggB Tryz.prog 181 = some false ∧
 tsize Tryz.prog 181 = some 1 ∧
 zeroCells Tryz.prog 181 = some [.p .nilM] ∧
 tkind Tryz.prog 181 = .other ∧
 mapTy Tryz.prog 181 = some (.str, false, [.int .i64 0]) ∧
 notIntT Tryz.prog 181 = true ∧
 szPos Tryz.prog 181 = true ∧
 isAggB Tryz.prog 183 = some true ∧
 tsize Tryz.prog 183 = some 2 ∧
 sizedB Tryz.prog 183 = true ∧
 fieldOf Tryz.prog 183 0 = some (0, 2) ∧
 fieldOf Tryz.prog 183 1 = some (1, 2) ∧
 arrOf Tryz.prog 183 = none ∧
 zeroCells Tryz.prog 183 = some [.p (.int .i64 0), .p (.int .i64 0)] ∧
 tkind Tryz.prog 183 = .other ∧
 notIntT Tryz.prog 183 = true ∧
 szPos Tryz.prog 183 = true ∧
 isAggB Tryz.prog 184 = some false ∧
 tsize Tryz.prog 184 = some 1 ∧
 zeroCells Tryz.prog 184 = some [.p .nilF] ∧
 tkind Tryz.prog 184 = .other ∧
 notIntT Tryz.prog 184 = true ∧
 szPos Tryz.prog 184 = true ∧
 isAggB Tryz.prog 187 = some true ∧
 tsize Tryz.prog 187 = some 3 ∧
 sizedB Tryz.prog 187 = true ∧
 fieldOf Tryz.prog 187 0 = some (0, 9) ∧
 fieldOf Tryz.prog 187 1 = some (1, 3) ∧
 fieldOf Tryz.prog 187 2 = some (2, 4) ∧
 arrOf Tryz.prog 187 = none ∧
 zeroCells Tryz.prog 187 = some [.p (.str (⟨#[]⟩ : ByteArray)), .p (.int .i64 0), .p (.bool false)] ∧
 tkind Tryz.prog 187 = .other ∧
 notIntT Tryz.prog 187 = true ∧
 szPos Tryz.prog 187 = true ∧
 isAggB Tryz.prog 193 = some true ∧
 tsize Tryz.prog 193 = some 2 ∧
 sizedB Tryz.prog 193 = true ∧
 fieldOf Tryz.prog 193 0 = some (0, 9) ∧
 fieldOf Tryz.prog 193 1 = some (1, 3) ∧
 arrOf Tryz.prog 193 = none ∧
 zeroCells Tryz.prog 193 = some [.p (.str (⟨#[]⟩ : ByteArray)), .p (.int .i64 0)] ∧
 tkind Tryz.prog 193 = .other ∧
 notIntT Tryz.prog 193 = true ∧
 szPos Tryz.prog 193 = true ∧
 isAggB Tryz.prog 209 = some false ∧
 tsize Tryz.prog 209 = some 1 ∧
 sliceOf Tryz.prog 209 = some 1 ∧
 core.elemZero Tryz.prog 209 = some [.p (.bool false)] ∧
 zeroCells Tryz.prog 209 = some [.p .nilS] ∧
 tkind Tryz.prog 209 = .other ∧
 notIntT Tryz.prog 209 = true ∧
 szPos Tryz.prog 209 = true ∧
 isAggB Tryz.prog 220 = some true ∧
 tsize Tryz.prog 220 = some 2 ∧
 sizedB Tryz.prog 220 = true ∧
 fieldOf Tryz.prog 220 0 = some (0, 9) ∧
 fieldOf Tryz.prog 220 1 = some (1, 9) ∧
 arrOf Tryz.prog 220 = none ∧
 zeroCells Tryz.prog 220 = some [.p (.str (⟨#[]⟩ : ByteArray)), .p (.str (⟨#[]⟩ : ByteArray))] ∧
 tkind Tryz.prog 220 = .other ∧
 notIntT Tryz.prog 220 = true ∧
 szPos Tryz.prog 220 = true := by
 repeat' refine And.intro ?_ ?_
 all_goals kernel_rfl
structure S178 where
 f0 : ByteArray
 f1 : ByteArray
 deriving Inhabited
def en178 (x : S178) : List PV := [.str x.f0, .str x.f1]
theorem ok178 (l : List S178) : rowsOk 2 (List.map en178 l) = true := rowsOk_map _ _ (fun x => by simp [en178]) l
structure S145 where
 f0 : Int
 f1 : (List ByteArray)
 f2 : (List S178)
 deriving Inhabited
def en145 (x : S145) : List PV := [.int .i64 x.f0, .lst false (List.map srw x.f1), .lst false (List.map en178 x.f2)]
theorem ok145 (l : List S145) : rowsOk 3 (List.map en145 l) = true := rowsOk_map _ _ (fun x => by simp [en145]) l
structure S148 where
 f0 : Int
 f1 : ByteArray
 f2 : Int
 f3 : Int
 f4 : (List S178)
 deriving Inhabited
def en148 (x : S148) : List PV := [.int .i64 x.f0, .str x.f1, .int .i64 x.f2, .int .i64 x.f3, .lst false (List.map en178 x.f4)]
theorem ok148 (l : List S148) : rowsOk 5 (List.map en148 l) = true := rowsOk_map _ _ (fun x => by simp [en148]) l
structure S43 where
 f0 : (List S145)
 f1 : (List S148)
 deriving Inhabited
def en43 (x : S43) : List PV := [.lst false (List.map en145 x.f0), .lst false (List.map en148 x.f1)]
theorem ok43 (l : List S43) : rowsOk 2 (List.map en43 l) = true := rowsOk_map _ _ (fun x => by simp [en43]) l
structure S88 where
 f0 : Int
 f1 : (List ByteArray)
 f2 : (List S178)
 deriving Inhabited
def en88 (x : S88) : List PV := [.int .i64 x.f0, .lst false (List.map srw x.f1), .lst false (List.map en178 x.f2)]
theorem ok88 (l : List S88) : rowsOk 3 (List.map en88 l) = true := rowsOk_map _ _ (fun x => by simp [en88]) l
structure S90 where
 f0 : Int
 f1 : ByteArray
 f2 : Int
 f3 : Int
 f4 : (List S178)
 deriving Inhabited
def en90 (x : S90) : List PV := [.int .i64 x.f0, .str x.f1, .int .i64 x.f2, .int .i64 x.f3, .lst false (List.map en178 x.f4)]
theorem ok90 (l : List S90) : rowsOk 5 (List.map en90 l) = true := rowsOk_map _ _ (fun x => by simp [en90]) l
structure S49 where
 f0 : (List S88)
 f1 : (List S90)
 deriving Inhabited
def en49 (x : S49) : List PV := [.lst false (List.map en88 x.f0), .lst false (List.map en90 x.f1)]
theorem ok49 (l : List S49) : rowsOk 2 (List.map en49 l) = true := rowsOk_map _ _ (fun x => by simp [en49]) l
structure S130 where
 f0 : Int
 f1 : Int
 f2 : Int
 f3 : ByteArray
 f4 : (List S130)
 f5 : (List ByteArray)
 deriving Inhabited
def en130 (x : S130) : List PV := [.int .i64 x.f0, .int .i64 x.f1, .int .i64 x.f2, .str x.f3, .lst false (x.f4.attach.map fun y => en130 y.1), .lst false (List.map srw x.f5)]
termination_by SizeOf.sizeOf x
decreasing_by (have h_ := List.sizeOf_lt_of_mem y.2; cases x; simp_all; omega)
theorem en130_eq (x : S130) : en130 x = [.int .i64 x.f0, .int .i64 x.f1, .int .i64 x.f2, .str x.f3, .lst false (List.map en130 x.f4), .lst false (List.map srw x.f5)] := by rw [en130]; simp
theorem ok130 (l : List S130) : rowsOk 6 (List.map en130 l) = true := rowsOk_map _ _ (fun x => by simp [en130_eq]) l
structure S186 where
 f0 : ByteArray
 f1 : Int
 f2 : Bool
 deriving Inhabited
def en186 (x : S186) : List PV := [.str x.f0, .int .i64 x.f1, .bool x.f2]
theorem ok186 (l : List S186) : rowsOk 3 (List.map en186 l) = true := rowsOk_map _ _ (fun x => by simp [en186]) l
structure S137 where
 f0 : Int
 f1 : Int
 f2 : Int
 f3 : ByteArray
 f4 : (List ByteArray)
 f5 : (List S137)
 deriving Inhabited
def en137 (x : S137) : List PV := [.int .i64 x.f0, .int .i64 x.f1, .int .i64 x.f2, .str x.f3, .lst false (List.map srw x.f4), .lst false (x.f5.attach.map fun y => en137 y.1)]
termination_by SizeOf.sizeOf x
decreasing_by (have h_ := List.sizeOf_lt_of_mem y.2; cases x; simp_all; omega)
theorem en137_eq (x : S137) : en137 x = [.int .i64 x.f0, .int .i64 x.f1, .int .i64 x.f2, .str x.f3, .lst false (List.map srw x.f4), .lst false (List.map en137 x.f5)] := by rw [en137]; simp
theorem ok137 (l : List S137) : rowsOk 6 (List.map en137 l) = true := rowsOk_map _ _ (fun x => by simp [en137_eq]) l
structure S192 where
 f0 : ByteArray
 f1 : Int
 deriving Inhabited
def en192 (x : S192) : List PV := [.str x.f0, .int .i64 x.f1]
theorem ok192 (l : List S192) : rowsOk 2 (List.map en192 l) = true := rowsOk_map _ _ (fun x => by simp [en192]) l

theorem sm_ {p : Prop} (h : p := by simp only [run, afterR, condC, exitC, exitTo, runO, step1, ofO, fpOf, fpK, writes, de, deT, deB, opD, dstOk, isCall, stepOp, finO, memPut, mset, entO, ent, core, constB, mkeyOf, mval, mrowOf, tupIf, liveM, kOf_i, kOf_s, mkEq_self, mhas_i, mhas_s, midx_i, midx_s, mrow_ii, mrow_ib, mrow_is, mrow_si, mrow_sb, mrow_ss, ment_ii, ment_ib, ment_is, ment_si, ment_sb, ment_ss, mset1_ii, mset1_ib, mset1_is, mset1_si, mset1_sb, mset1_ss, mput_ii, mput_ib, mput_is, mput_si, mput_sb, mput_ss, tst_map, coreB, lenA, minA, maxA, rowsB, appT, keyApp, keyV, keyL, liveC, liveB, liveZ, keyOf, oget, fget, lk, ofConst, cellsC, aggC, cell1, eff, binop, intOp, strOp, unop, ld, splice, fillP, aplace, placeOf, rowsN, oint, AV.cells, AV.pv, PV.std, AV.rows, pvs, appN, appC, rowsOk, irow, srw, brw, lrw, St.put, back, renA, ren1, ren0, renO, resOf, resAll, resOne, tupOf, fnOf, rk, inn, ok1, okB, okA, okT, okO, ok0, renB, liveP, liveZ0, nagg, one1, scH, bldZ, nvs, AV.nv, PV.sc, PV.isL, nilOrE, List.filter_cons, List.filter_nil, List.all_cons, List.all_nil,   unint, unint_map, bytesOf_eq, bnd_, rowsOk_irow, rowsOk_srw, rowsOk_brw, rowsOk_lrw, rowsOk_app, take_map_len, map_set_, set_map_,   List.range, List.range.loop, List.zip, List.zipWith, List.zip_cons_cons, List.zip_nil_left, List.zip_nil_right, List.length_cons, List.length_nil, List.length_map, List.length_append, List.map_cons, List.map_nil, List.map_append, List.getElem?_map, List.drop_succ_cons, List.drop_zero, List.drop_nil, List.take_succ_cons, List.take_zero, List.take_nil, List.take_length, List.set_cons_succ, List.set_cons_zero, List.head?_cons, List.head?_nil, List.getElem?_cons_succ, List.getElem?_cons_zero, List.append_nil, List.nil_append, List.cons_append, List.append_assoc, List.flatten_cons, List.flatten_nil, List.replicate_succ, List.replicate_zero, List.contains_cons, List.contains_nil, List.isEmpty_nil, List.isEmpty_cons, List.map_drop, List.map_take, List.map_replicate, List.length_replicate, List.length_set,   cond_true, cond_false, Option.map_some, Option.map_none, Option.bind_some, Option.bind_none, Option.getD_some, Option.getD_none, Option.isSome_some, Option.isSome_none, beq_self_eq_true, BEq.rfl, Nat.reduceBEq, Nat.reduceAdd, Nat.reduceSub, Nat.reduceMul, Nat.reduceLeDiff, Nat.reduceLT, Nat.reduceEqDiff, Nat.zero_add, Nat.add_zero, Nat.zero_mul, Nat.le_refl, and_self, and_true, true_and, if_true, reduceIte, ite_true, ite_false, Bool.and_true, Bool.true_and, Bool.and_false, Bool.false_and, Bool.not_true, Bool.not_false, Bool.or_true, Bool.or_false, Bool.true_or, Bool.false_or, Int.toNat_zero, Int.toNat_natCast, Int.reduceToNat, Int.reduceLE, Int.reduceLT, Int.reduceBEq, reduceCtorEq, decide_true, decide_false, Bool.false_eq_true, Nat.sub_zero, List.toList_toArray, List.foldl_cons, en178, ok178, en145, ok145, en148, ok148, en43, ok43, en88, ok88, en90, ok90, en49, ok49, en130_eq, ok130, en186, ok186, en137_eq, ok137, en192, ok192, tyF, *]) : p := h
theorem sms_ {p : Prop} (h : p := by simp only [run, afterR, condC, exitC, exitTo, runO, step1, ofO, fpOf, fpK, writes, de, deT, deB, opD, dstOk, isCall, stepOp, finO, memPut, mset, entO, ent, core, constB, mkeyOf, mval, mrowOf, tupIf, liveM, kOf_i, kOf_s, mkEq_self, mhas_i, mhas_s, midx_i, midx_s, mrow_ii, mrow_ib, mrow_is, mrow_si, mrow_sb, mrow_ss, ment_ii, ment_ib, ment_is, ment_si, ment_sb, ment_ss, mset1_ii, mset1_ib, mset1_is, mset1_si, mset1_sb, mset1_ss, mput_ii, mput_ib, mput_is, mput_si, mput_sb, mput_ss, tst_map, coreB, lenA, minA, maxA, rowsB, appT, keyApp, keyV, keyL, liveC, liveB, liveZ, keyOf, oget, fget, lk, ofConst, cellsC, aggC, cell1, eff, binop, intOp, strOp, unop, ld, splice, fillP, aplace, placeOf, rowsN, oint, AV.cells, AV.pv, PV.std, AV.rows, pvs, appN, appC, rowsOk, irow, srw, brw, lrw, St.put, back, renA, ren1, ren0, renO, resOf, resAll, resOne, tupOf, fnOf, rk, inn, ok1, okB, okA, okT, okO, ok0, renB, liveP, liveZ0, nagg, one1, scH, bldZ, nvs, AV.nv, PV.sc, PV.isL, nilOrE, List.filter_cons, List.filter_nil, List.all_cons, List.all_nil,   unint, unint_map, bytesOf_eq, bnd_, rowsOk_irow, rowsOk_srw, rowsOk_brw, rowsOk_lrw, rowsOk_app, take_map_len, map_set_, set_map_,   List.range, List.range.loop, List.zip, List.zipWith, List.zip_cons_cons, List.zip_nil_left, List.zip_nil_right, List.length_cons, List.length_nil, List.length_map, List.length_append, List.map_cons, List.map_nil, List.map_append, List.getElem?_map, List.drop_succ_cons, List.drop_zero, List.drop_nil, List.take_succ_cons, List.take_zero, List.take_nil, List.take_length, List.set_cons_succ, List.set_cons_zero, List.head?_cons, List.head?_nil, List.getElem?_cons_succ, List.getElem?_cons_zero, List.append_nil, List.nil_append, List.cons_append, List.append_assoc, List.flatten_cons, List.flatten_nil, List.replicate_succ, List.replicate_zero, List.contains_cons, List.contains_nil, List.isEmpty_nil, List.isEmpty_cons, List.map_drop, List.map_take, List.map_replicate, List.length_replicate, List.length_set,   cond_true, cond_false, Option.map_some, Option.map_none, Option.bind_some, Option.bind_none, Option.getD_some, Option.getD_none, Option.isSome_some, Option.isSome_none, beq_self_eq_true, BEq.rfl, Nat.reduceBEq, Nat.reduceAdd, Nat.reduceSub, Nat.reduceMul, Nat.reduceLeDiff, Nat.reduceLT, Nat.reduceEqDiff, Nat.zero_add, Nat.add_zero, Nat.zero_mul, Nat.le_refl, and_self, and_true, true_and, if_true, reduceIte, ite_true, ite_false, Bool.and_true, Bool.true_and, Bool.and_false, Bool.false_and, Bool.not_true, Bool.not_false, Bool.or_true, Bool.or_false, Bool.true_or, Bool.false_or, Int.toNat_zero, Int.toNat_natCast, Int.reduceToNat, Int.reduceLE, Int.reduceLT, Int.reduceBEq, reduceCtorEq, decide_true, decide_false, Bool.false_eq_true, Nat.sub_zero, List.toList_toArray, List.foldl_cons, en178, ok178, en145, ok145, en148, ok148, en43, ok43, en88, ok88, en90, ok90, en49, ok49, en130_eq, ok130, en186, ok186, en137_eq, ok137, en192, ok192, tyF]) : p := h
theorem smr_ {p : Prop} (h : p := by (simp only [run, afterR, condC, exitC, exitTo, runO, step1, ofO, fpOf, fpK, writes, de, deT, deB, opD, dstOk, isCall, stepOp, finO, memPut, mset, entO, ent, core, constB, mkeyOf, mval, mrowOf, tupIf, liveM, kOf_i, kOf_s, mkEq_self, mhas_i, mhas_s, midx_i, midx_s, mrow_ii, mrow_ib, mrow_is, mrow_si, mrow_sb, mrow_ss, ment_ii, ment_ib, ment_is, ment_si, ment_sb, ment_ss, mset1_ii, mset1_ib, mset1_is, mset1_si, mset1_sb, mset1_ss, mput_ii, mput_ib, mput_is, mput_si, mput_sb, mput_ss, tst_map, coreB, lenA, minA, maxA, rowsB, appT, keyApp, keyV, keyL, liveC, liveB, liveZ, keyOf, oget, fget, lk, ofConst, cellsC, aggC, cell1, eff, binop, intOp, strOp, unop, ld, splice, fillP, aplace, placeOf, rowsN, oint, AV.cells, AV.pv, PV.std, AV.rows, pvs, appN, appC, rowsOk, irow, srw, brw, lrw, St.put, back, renA, ren1, ren0, renO, resOf, resAll, resOne, tupOf, fnOf, rk, inn, ok1, okB, okA, okT, okO, ok0, renB, liveP, liveZ0, nagg, one1, scH, bldZ, nvs, AV.nv, PV.sc, PV.isL, nilOrE, List.filter_cons, List.filter_nil, List.all_cons, List.all_nil,   unint, unint_map, bytesOf_eq, bnd_, rowsOk_irow, rowsOk_srw, rowsOk_brw, rowsOk_lrw, rowsOk_app, take_map_len, map_set_, set_map_,   List.range, List.range.loop, List.zip, List.zipWith, List.zip_cons_cons, List.zip_nil_left, List.zip_nil_right, List.length_cons, List.length_nil, List.length_map, List.length_append, List.map_cons, List.map_nil, List.map_append, List.getElem?_map, List.drop_succ_cons, List.drop_zero, List.drop_nil, List.take_succ_cons, List.take_zero, List.take_nil, List.take_length, List.set_cons_succ, List.set_cons_zero, List.head?_cons, List.head?_nil, List.getElem?_cons_succ, List.getElem?_cons_zero, List.append_nil, List.nil_append, List.cons_append, List.append_assoc, List.flatten_cons, List.flatten_nil, List.replicate_succ, List.replicate_zero, List.contains_cons, List.contains_nil, List.isEmpty_nil, List.isEmpty_cons, List.map_drop, List.map_take, List.map_replicate, List.length_replicate, List.length_set,   cond_true, cond_false, Option.map_some, Option.map_none, Option.bind_some, Option.bind_none, Option.getD_some, Option.getD_none, Option.isSome_some, Option.isSome_none, beq_self_eq_true, BEq.rfl, Nat.reduceBEq, Nat.reduceAdd, Nat.reduceSub, Nat.reduceMul, Nat.reduceLeDiff, Nat.reduceLT, Nat.reduceEqDiff, Nat.zero_add, Nat.add_zero, Nat.zero_mul, Nat.le_refl, and_self, and_true, true_and, if_true, reduceIte, ite_true, ite_false, Bool.and_true, Bool.true_and, Bool.and_false, Bool.false_and, Bool.not_true, Bool.not_false, Bool.or_true, Bool.or_false, Bool.true_or, Bool.false_or, Int.toNat_zero, Int.toNat_natCast, Int.reduceToNat, Int.reduceLE, Int.reduceLT, Int.reduceBEq, reduceCtorEq, decide_true, decide_false, Bool.false_eq_true, Nat.sub_zero, List.toList_toArray, List.foldl_cons, en178, ok178, en145, ok145, en148, ok148, en43, ok43, en88, ok88, en90, ok90, en49, ok49, en130_eq, ok130, en186, ok186, en137_eq, ok137, en192, ok192, tyF, *]; rfl)) : p := h
theorem smt_ {p : Prop} (h : p := by (simp only [run, afterR, condC, exitC, exitTo, runO, step1, ofO, fpOf, fpK, writes, de, deT, deB, opD, dstOk, isCall, stepOp, finO, memPut, mset, entO, ent, core, constB, mkeyOf, mval, mrowOf, tupIf, liveM, kOf_i, kOf_s, mkEq_self, mhas_i, mhas_s, midx_i, midx_s, mrow_ii, mrow_ib, mrow_is, mrow_si, mrow_sb, mrow_ss, ment_ii, ment_ib, ment_is, ment_si, ment_sb, ment_ss, mset1_ii, mset1_ib, mset1_is, mset1_si, mset1_sb, mset1_ss, mput_ii, mput_ib, mput_is, mput_si, mput_sb, mput_ss, tst_map, coreB, lenA, minA, maxA, rowsB, appT, keyApp, keyV, keyL, liveC, liveB, liveZ, keyOf, oget, fget, lk, ofConst, cellsC, aggC, cell1, eff, binop, intOp, strOp, unop, ld, splice, fillP, aplace, placeOf, rowsN, oint, AV.cells, AV.pv, PV.std, AV.rows, pvs, appN, appC, rowsOk, irow, srw, brw, lrw, St.put, back, renA, ren1, ren0, renO, resOf, resAll, resOne, tupOf, fnOf, rk, inn, ok1, okB, okA, okT, okO, ok0, renB, liveP, liveZ0, nagg, one1, scH, bldZ, nvs, AV.nv, PV.sc, PV.isL, nilOrE, List.filter_cons, List.filter_nil, List.all_cons, List.all_nil,   unint, unint_map, bytesOf_eq, bnd_, rowsOk_irow, rowsOk_srw, rowsOk_brw, rowsOk_lrw, rowsOk_app, take_map_len, map_set_, set_map_,   List.range, List.range.loop, List.zip, List.zipWith, List.zip_cons_cons, List.zip_nil_left, List.zip_nil_right, List.length_cons, List.length_nil, List.length_map, List.length_append, List.map_cons, List.map_nil, List.map_append, List.getElem?_map, List.drop_succ_cons, List.drop_zero, List.drop_nil, List.take_succ_cons, List.take_zero, List.take_nil, List.take_length, List.set_cons_succ, List.set_cons_zero, List.head?_cons, List.head?_nil, List.getElem?_cons_succ, List.getElem?_cons_zero, List.append_nil, List.nil_append, List.cons_append, List.append_assoc, List.flatten_cons, List.flatten_nil, List.replicate_succ, List.replicate_zero, List.contains_cons, List.contains_nil, List.isEmpty_nil, List.isEmpty_cons, List.map_drop, List.map_take, List.map_replicate, List.length_replicate, List.length_set,   cond_true, cond_false, Option.map_some, Option.map_none, Option.bind_some, Option.bind_none, Option.getD_some, Option.getD_none, Option.isSome_some, Option.isSome_none, beq_self_eq_true, BEq.rfl, Nat.reduceBEq, Nat.reduceAdd, Nat.reduceSub, Nat.reduceMul, Nat.reduceLeDiff, Nat.reduceLT, Nat.reduceEqDiff, Nat.zero_add, Nat.add_zero, Nat.zero_mul, Nat.le_refl, and_self, and_true, true_and, if_true, reduceIte, ite_true, ite_false, Bool.and_true, Bool.true_and, Bool.and_false, Bool.false_and, Bool.not_true, Bool.not_false, Bool.or_true, Bool.or_false, Bool.true_or, Bool.false_or, Int.toNat_zero, Int.toNat_natCast, Int.reduceToNat, Int.reduceLE, Int.reduceLT, Int.reduceBEq, reduceCtorEq, decide_true, decide_false, Bool.false_eq_true, Nat.sub_zero, List.toList_toArray, List.foldl_cons, en178, ok178, en145, ok145, en148, ok148, en43, ok43, en88, ok88, en90, ok90, en49, ok49, en130_eq, ok130, en186, ok186, en137_eq, ok137, en192, ok192, tyF, *]; try rfl)) : p := h
theorem smo_ {p : Prop} (h : p := by (simp only [run, afterR, condC, exitC, exitTo, runO, step1, ofO, fpOf, fpK, writes, de, deT, deB, opD, dstOk, isCall, stepOp, finO, memPut, mset, entO, ent, core, constB, mkeyOf, mval, mrowOf, tupIf, liveM, kOf_i, kOf_s, mkEq_self, mhas_i, mhas_s, midx_i, midx_s, mrow_ii, mrow_ib, mrow_is, mrow_si, mrow_sb, mrow_ss, ment_ii, ment_ib, ment_is, ment_si, ment_sb, ment_ss, mset1_ii, mset1_ib, mset1_is, mset1_si, mset1_sb, mset1_ss, mput_ii, mput_ib, mput_is, mput_si, mput_sb, mput_ss, tst_map, coreB, lenA, minA, maxA, rowsB, appT, keyApp, keyV, keyL, liveC, liveB, liveZ, keyOf, oget, fget, lk, ofConst, cellsC, aggC, cell1, eff, binop, intOp, strOp, unop, ld, splice, fillP, aplace, placeOf, rowsN, oint, AV.cells, AV.pv, PV.std, AV.rows, pvs, appN, appC, rowsOk, irow, srw, brw, lrw, St.put, back, renA, ren1, ren0, renO, resOf, resAll, resOne, tupOf, fnOf, rk, inn, ok1, okB, okA, okT, okO, ok0, renB, liveP, liveZ0, nagg, one1, scH, bldZ, nvs, AV.nv, PV.sc, PV.isL, nilOrE, List.filter_cons, List.filter_nil, List.all_cons, List.all_nil,   unint, unint_map, bytesOf_eq, bnd_, rowsOk_irow, rowsOk_srw, rowsOk_brw, rowsOk_lrw, rowsOk_app, take_map_len, map_set_, set_map_,   List.range, List.range.loop, List.zip, List.zipWith, List.zip_cons_cons, List.zip_nil_left, List.zip_nil_right, List.length_cons, List.length_nil, List.length_map, List.length_append, List.map_cons, List.map_nil, List.map_append, List.getElem?_map, List.drop_succ_cons, List.drop_zero, List.drop_nil, List.take_succ_cons, List.take_zero, List.take_nil, List.take_length, List.set_cons_succ, List.set_cons_zero, List.head?_cons, List.head?_nil, List.getElem?_cons_succ, List.getElem?_cons_zero, List.append_nil, List.nil_append, List.cons_append, List.append_assoc, List.flatten_cons, List.flatten_nil, List.replicate_succ, List.replicate_zero, List.contains_cons, List.contains_nil, List.isEmpty_nil, List.isEmpty_cons, List.map_drop, List.map_take, List.map_replicate, List.length_replicate, List.length_set,   cond_true, cond_false, Option.map_some, Option.map_none, Option.bind_some, Option.bind_none, Option.getD_some, Option.getD_none, Option.isSome_some, Option.isSome_none, beq_self_eq_true, BEq.rfl, Nat.reduceBEq, Nat.reduceAdd, Nat.reduceSub, Nat.reduceMul, Nat.reduceLeDiff, Nat.reduceLT, Nat.reduceEqDiff, Nat.zero_add, Nat.add_zero, Nat.zero_mul, Nat.le_refl, and_self, and_true, true_and, if_true, reduceIte, ite_true, ite_false, Bool.and_true, Bool.true_and, Bool.and_false, Bool.false_and, Bool.not_true, Bool.not_false, Bool.or_true, Bool.or_false, Bool.true_or, Bool.false_or, Int.toNat_zero, Int.toNat_natCast, Int.reduceToNat, Int.reduceLE, Int.reduceLT, Int.reduceBEq, reduceCtorEq, decide_true, decide_false, Bool.false_eq_true, Nat.sub_zero, List.toList_toArray, List.foldl_cons, en178, ok178, en145, ok145, en148, ok148, en43, ok43, en88, ok88, en90, ok90, en49, ok49, en130_eq, ok130, en186, ok186, en137_eq, ok137, en192, ok192, tyF, *]; omega)) : p := h
theorem smo0_ {p : Prop} (h : p := by (simp only [run, afterR, condC, exitC, exitTo, runO, step1, ofO, fpOf, fpK, writes, de, deT, deB, opD, dstOk, isCall, stepOp, finO, memPut, mset, entO, ent, core, constB, mkeyOf, mval, mrowOf, tupIf, liveM, kOf_i, kOf_s, mkEq_self, mhas_i, mhas_s, midx_i, midx_s, mrow_ii, mrow_ib, mrow_is, mrow_si, mrow_sb, mrow_ss, ment_ii, ment_ib, ment_is, ment_si, ment_sb, ment_ss, mset1_ii, mset1_ib, mset1_is, mset1_si, mset1_sb, mset1_ss, mput_ii, mput_ib, mput_is, mput_si, mput_sb, mput_ss, tst_map, coreB, lenA, minA, maxA, rowsB, appT, keyApp, keyV, keyL, liveC, liveB, liveZ, keyOf, oget, fget, lk, ofConst, cellsC, aggC, cell1, eff, binop, intOp, strOp, unop, ld, splice, fillP, aplace, placeOf, rowsN, oint, AV.cells, AV.pv, PV.std, AV.rows, pvs, appN, appC, rowsOk, irow, srw, brw, lrw, St.put, back, renA, ren1, ren0, renO, resOf, resAll, resOne, tupOf, fnOf, rk, inn, ok1, okB, okA, okT, okO, ok0, renB, liveP, liveZ0, nagg, one1, scH, bldZ, nvs, AV.nv, PV.sc, PV.isL, nilOrE, List.filter_cons, List.filter_nil, List.all_cons, List.all_nil,   unint, unint_map, bytesOf_eq, bnd_, rowsOk_irow, rowsOk_srw, rowsOk_brw, rowsOk_lrw, rowsOk_app, take_map_len, map_set_, set_map_,   List.range, List.range.loop, List.zip, List.zipWith, List.zip_cons_cons, List.zip_nil_left, List.zip_nil_right, List.length_cons, List.length_nil, List.length_map, List.length_append, List.map_cons, List.map_nil, List.map_append, List.getElem?_map, List.drop_succ_cons, List.drop_zero, List.drop_nil, List.take_succ_cons, List.take_zero, List.take_nil, List.take_length, List.set_cons_succ, List.set_cons_zero, List.head?_cons, List.head?_nil, List.getElem?_cons_succ, List.getElem?_cons_zero, List.append_nil, List.nil_append, List.cons_append, List.append_assoc, List.flatten_cons, List.flatten_nil, List.replicate_succ, List.replicate_zero, List.contains_cons, List.contains_nil, List.isEmpty_nil, List.isEmpty_cons, List.map_drop, List.map_take, List.map_replicate, List.length_replicate, List.length_set,   cond_true, cond_false, Option.map_some, Option.map_none, Option.bind_some, Option.bind_none, Option.getD_some, Option.getD_none, Option.isSome_some, Option.isSome_none, beq_self_eq_true, BEq.rfl, Nat.reduceBEq, Nat.reduceAdd, Nat.reduceSub, Nat.reduceMul, Nat.reduceLeDiff, Nat.reduceLT, Nat.reduceEqDiff, Nat.zero_add, Nat.add_zero, Nat.zero_mul, Nat.le_refl, and_self, and_true, true_and, if_true, reduceIte, ite_true, ite_false, Bool.and_true, Bool.true_and, Bool.and_false, Bool.false_and, Bool.not_true, Bool.not_false, Bool.or_true, Bool.or_false, Bool.true_or, Bool.false_or, Int.toNat_zero, Int.toNat_natCast, Int.reduceToNat, Int.reduceLE, Int.reduceLT, Int.reduceBEq, reduceCtorEq, decide_true, decide_false, Bool.false_eq_true, Nat.sub_zero, List.toList_toArray, List.foldl_cons, en178, ok178, en145, ok145, en148, ok148, en43, ok43, en88, ok88, en90, ok90, en49, ok49, en130_eq, ok130, en186, ok186, en137_eq, ok137, en192, ok192, tyF]; omega)) : p := h
theorem smd_ {p : Prop} (h : p := by (simp only [run, afterR, condC, exitC, exitTo, runO, step1, ofO, fpOf, fpK, writes, de, deT, deB, opD, dstOk, isCall, stepOp, finO, memPut, mset, entO, ent, core, constB, mkeyOf, mval, mrowOf, tupIf, liveM, kOf_i, kOf_s, mkEq_self, mhas_i, mhas_s, midx_i, midx_s, mrow_ii, mrow_ib, mrow_is, mrow_si, mrow_sb, mrow_ss, ment_ii, ment_ib, ment_is, ment_si, ment_sb, ment_ss, mset1_ii, mset1_ib, mset1_is, mset1_si, mset1_sb, mset1_ss, mput_ii, mput_ib, mput_is, mput_si, mput_sb, mput_ss, tst_map, coreB, lenA, minA, maxA, rowsB, appT, keyApp, keyV, keyL, liveC, liveB, liveZ, keyOf, oget, fget, lk, ofConst, cellsC, aggC, cell1, eff, binop, intOp, strOp, unop, ld, splice, fillP, aplace, placeOf, rowsN, oint, AV.cells, AV.pv, PV.std, AV.rows, pvs, appN, appC, rowsOk, irow, srw, brw, lrw, St.put, back, renA, ren1, ren0, renO, resOf, resAll, resOne, tupOf, fnOf, rk, inn, ok1, okB, okA, okT, okO, ok0, renB, liveP, liveZ0, nagg, one1, scH, bldZ, nvs, AV.nv, PV.sc, PV.isL, nilOrE, List.filter_cons, List.filter_nil, List.all_cons, List.all_nil,   unint, unint_map, bytesOf_eq, bnd_, rowsOk_irow, rowsOk_srw, rowsOk_brw, rowsOk_lrw, rowsOk_app, take_map_len, map_set_, set_map_,   List.range, List.range.loop, List.zip, List.zipWith, List.zip_cons_cons, List.zip_nil_left, List.zip_nil_right, List.length_cons, List.length_nil, List.length_map, List.length_append, List.map_cons, List.map_nil, List.map_append, List.getElem?_map, List.drop_succ_cons, List.drop_zero, List.drop_nil, List.take_succ_cons, List.take_zero, List.take_nil, List.take_length, List.set_cons_succ, List.set_cons_zero, List.head?_cons, List.head?_nil, List.getElem?_cons_succ, List.getElem?_cons_zero, List.append_nil, List.nil_append, List.cons_append, List.append_assoc, List.flatten_cons, List.flatten_nil, List.replicate_succ, List.replicate_zero, List.contains_cons, List.contains_nil, List.isEmpty_nil, List.isEmpty_cons, List.map_drop, List.map_take, List.map_replicate, List.length_replicate, List.length_set,   cond_true, cond_false, Option.map_some, Option.map_none, Option.bind_some, Option.bind_none, Option.getD_some, Option.getD_none, Option.isSome_some, Option.isSome_none, beq_self_eq_true, BEq.rfl, Nat.reduceBEq, Nat.reduceAdd, Nat.reduceSub, Nat.reduceMul, Nat.reduceLeDiff, Nat.reduceLT, Nat.reduceEqDiff, Nat.zero_add, Nat.add_zero, Nat.zero_mul, Nat.le_refl, and_self, and_true, true_and, if_true, reduceIte, ite_true, ite_false, Bool.and_true, Bool.true_and, Bool.and_false, Bool.false_and, Bool.not_true, Bool.not_false, Bool.or_true, Bool.or_false, Bool.true_or, Bool.false_or, Int.toNat_zero, Int.toNat_natCast, Int.reduceToNat, Int.reduceLE, Int.reduceLT, Int.reduceBEq, reduceCtorEq, decide_true, decide_false, Bool.false_eq_true, Nat.sub_zero, List.toList_toArray, List.foldl_cons, en178, ok178, en145, ok145, en148, ok148, en43, ok43, en88, ok88, en90, ok90, en49, ok49, en130_eq, ok130, en186, ok186, en137_eq, ok137, en192, ok192, tyF, List.map_cons, List.map_nil]; decide)) : p := h
theorem go (n : Nat) {H : Prop} {C : Ctx} {it it' : List Item} {st st' : St} (g : H → Good C it' st') (h : run C.P C.hint n (.on it st) = .stop it' st' := by
   (simp only [run, afterR, condC, exitC, exitTo, runO, step1, ofO, fpOf, fpK, writes, de, deT, deB, opD, dstOk, isCall, stepOp, finO, memPut, mset, entO, ent, core, constB, mkeyOf, mval, mrowOf, tupIf, liveM, kOf_i, kOf_s, mkEq_self, mhas_i, mhas_s, midx_i, midx_s, mrow_ii, mrow_ib, mrow_is, mrow_si, mrow_sb, mrow_ss, ment_ii, ment_ib, ment_is, ment_si, ment_sb, ment_ss, mset1_ii, mset1_ib, mset1_is, mset1_si, mset1_sb, mset1_ss, mput_ii, mput_ib, mput_is, mput_si, mput_sb, mput_ss, tst_map, coreB, lenA, minA, maxA, rowsB, appT, keyApp, keyV, keyL, liveC, liveB, liveZ, keyOf, oget, fget, lk, ofConst, cellsC, aggC, cell1, eff, binop, intOp, strOp, unop, ld, splice, fillP, aplace, placeOf, rowsN, oint, AV.cells, AV.pv, PV.std, AV.rows, pvs, appN, appC, rowsOk, irow, srw, brw, lrw, St.put, back, renA, ren1, ren0, renO, resOf, resAll, resOne, tupOf, fnOf, rk, inn, ok1, okB, okA, okT, okO, ok0, renB, liveP, liveZ0, nagg, one1, scH, bldZ, nvs, AV.nv, PV.sc, PV.isL, nilOrE, List.filter_cons, List.filter_nil, List.all_cons, List.all_nil,   unint, unint_map, bytesOf_eq, bnd_, rowsOk_irow, rowsOk_srw, rowsOk_brw, rowsOk_lrw, rowsOk_app, take_map_len, map_set_, set_map_,   List.range, List.range.loop, List.zip, List.zipWith, List.zip_cons_cons, List.zip_nil_left, List.zip_nil_right, List.length_cons, List.length_nil, List.length_map, List.length_append, List.map_cons, List.map_nil, List.map_append, List.getElem?_map, List.drop_succ_cons, List.drop_zero, List.drop_nil, List.take_succ_cons, List.take_zero, List.take_nil, List.take_length, List.set_cons_succ, List.set_cons_zero, List.head?_cons, List.head?_nil, List.getElem?_cons_succ, List.getElem?_cons_zero, List.append_nil, List.nil_append, List.cons_append, List.append_assoc, List.flatten_cons, List.flatten_nil, List.replicate_succ, List.replicate_zero, List.contains_cons, List.contains_nil, List.isEmpty_nil, List.isEmpty_cons, List.map_drop, List.map_take, List.map_replicate, List.length_replicate, List.length_set,   cond_true, cond_false, Option.map_some, Option.map_none, Option.bind_some, Option.bind_none, Option.getD_some, Option.getD_none, Option.isSome_some, Option.isSome_none, beq_self_eq_true, BEq.rfl, Nat.reduceBEq, Nat.reduceAdd, Nat.reduceSub, Nat.reduceMul, Nat.reduceLeDiff, Nat.reduceLT, Nat.reduceEqDiff, Nat.zero_add, Nat.add_zero, Nat.zero_mul, Nat.le_refl, and_self, and_true, true_and, if_true, reduceIte, ite_true, ite_false, Bool.and_true, Bool.true_and, Bool.and_false, Bool.false_and, Bool.not_true, Bool.not_false, Bool.or_true, Bool.or_false, Bool.true_or, Bool.false_or, Int.toNat_zero, Int.toNat_natCast, Int.reduceToNat, Int.reduceLE, Int.reduceLT, Int.reduceBEq, reduceCtorEq, decide_true, decide_false, Bool.false_eq_true, Nat.sub_zero, List.toList_toArray, List.foldl_cons, en178, ok178, en145, ok145, en148, ok148, en43, ok43, en88, ok88, en90, ok90, en49, ok49, en130_eq, ok130, en186, ok186, en137_eq, ok137, en192, ok192, tyF, *]; rfl)) : H → Good C it st := fun x => run_good h (g x)
theorem grs {H : Prop} {C : Ctx} {id : Nat} {ops : Array Oper} {draw : Bool} {k : List Item} {st : St} (g : H → GR C draw ops.toList k 0 ops.toList [] st) (hm : C.P.follows .mixedOrders = true := by kernel_rfl) : H → Good C (.code (.region id ops draw) :: k) st := fun x => gr_start (g x) hm
theorem gr_run {H : Prop} {C : Ctx} {draw : Bool} {all : List Oper} {k : List Item} {j j' : Nat} {l l' : List Oper} {F F' : Fp} {st st' : St} (g : H → GR C draw all k j' l' (F ++ F') st') (h : runO C.P C.hint all j l (.go [] st) = .stop j' l' F' st' := by
   (simp only [run, afterR, condC, exitC, exitTo, runO, step1, ofO, fpOf, fpK, writes, de, deT, deB, opD, dstOk, isCall, stepOp, finO, memPut, mset, entO, ent, core, constB, mkeyOf, mval, mrowOf, tupIf, liveM, kOf_i, kOf_s, mkEq_self, mhas_i, mhas_s, midx_i, midx_s, mrow_ii, mrow_ib, mrow_is, mrow_si, mrow_sb, mrow_ss, ment_ii, ment_ib, ment_is, ment_si, ment_sb, ment_ss, mset1_ii, mset1_ib, mset1_is, mset1_si, mset1_sb, mset1_ss, mput_ii, mput_ib, mput_is, mput_si, mput_sb, mput_ss, tst_map, coreB, lenA, minA, maxA, rowsB, appT, keyApp, keyV, keyL, liveC, liveB, liveZ, keyOf, oget, fget, lk, ofConst, cellsC, aggC, cell1, eff, binop, intOp, strOp, unop, ld, splice, fillP, aplace, placeOf, rowsN, oint, AV.cells, AV.pv, PV.std, AV.rows, pvs, appN, appC, rowsOk, irow, srw, brw, lrw, St.put, back, renA, ren1, ren0, renO, resOf, resAll, resOne, tupOf, fnOf, rk, inn, ok1, okB, okA, okT, okO, ok0, renB, liveP, liveZ0, nagg, one1, scH, bldZ, nvs, AV.nv, PV.sc, PV.isL, nilOrE, List.filter_cons, List.filter_nil, List.all_cons, List.all_nil,   unint, unint_map, bytesOf_eq, bnd_, rowsOk_irow, rowsOk_srw, rowsOk_brw, rowsOk_lrw, rowsOk_app, take_map_len, map_set_, set_map_,   List.range, List.range.loop, List.zip, List.zipWith, List.zip_cons_cons, List.zip_nil_left, List.zip_nil_right, List.length_cons, List.length_nil, List.length_map, List.length_append, List.map_cons, List.map_nil, List.map_append, List.getElem?_map, List.drop_succ_cons, List.drop_zero, List.drop_nil, List.take_succ_cons, List.take_zero, List.take_nil, List.take_length, List.set_cons_succ, List.set_cons_zero, List.head?_cons, List.head?_nil, List.getElem?_cons_succ, List.getElem?_cons_zero, List.append_nil, List.nil_append, List.cons_append, List.append_assoc, List.flatten_cons, List.flatten_nil, List.replicate_succ, List.replicate_zero, List.contains_cons, List.contains_nil, List.isEmpty_nil, List.isEmpty_cons, List.map_drop, List.map_take, List.map_replicate, List.length_replicate, List.length_set,   cond_true, cond_false, Option.map_some, Option.map_none, Option.bind_some, Option.bind_none, Option.getD_some, Option.getD_none, Option.isSome_some, Option.isSome_none, beq_self_eq_true, BEq.rfl, Nat.reduceBEq, Nat.reduceAdd, Nat.reduceSub, Nat.reduceMul, Nat.reduceLeDiff, Nat.reduceLT, Nat.reduceEqDiff, Nat.zero_add, Nat.add_zero, Nat.zero_mul, Nat.le_refl, and_self, and_true, true_and, if_true, reduceIte, ite_true, ite_false, Bool.and_true, Bool.true_and, Bool.and_false, Bool.false_and, Bool.not_true, Bool.not_false, Bool.or_true, Bool.or_false, Bool.true_or, Bool.false_or, Int.toNat_zero, Int.toNat_natCast, Int.reduceToNat, Int.reduceLE, Int.reduceLT, Int.reduceBEq, reduceCtorEq, decide_true, decide_false, Bool.false_eq_true, Nat.sub_zero, List.toList_toArray, List.foldl_cons, en178, ok178, en145, ok145, en148, ok148, en43, ok43, en88, ok88, en90, ok90, en49, ok49, en130_eq, ok130, en186, ok186, en137_eq, ok137, en192, ok192, tyF, *]; rfl)) : H → GR C draw all k j l F st := fun x => gr_run_ (g x) h
theorem gr_done {H : Prop} {C : Ctx} {draw : Bool} {all : List Oper} {k : List Item} {j : Nat} {F : Fp} {st : St} (g : H → Good C k st) (h : draw = true → chk all F = true := by first | (intro h_; cases h_; done) | (intro _; kernel_rfl)) : H → GR C draw all k j [] F st := fun x => gr_done_ (g x) h
theorem leA_ {a b : List AV} (h : F2 LeA a b := by
   ((try simp only [run, afterR, condC, exitC, exitTo, runO, step1, ofO, fpOf, fpK, writes, de, deT, deB, opD, dstOk, isCall, stepOp, finO, memPut, mset, entO, ent, core, constB, mkeyOf, mval, mrowOf, tupIf, liveM, kOf_i, kOf_s, mkEq_self, mhas_i, mhas_s, midx_i, midx_s, mrow_ii, mrow_ib, mrow_is, mrow_si, mrow_sb, mrow_ss, ment_ii, ment_ib, ment_is, ment_si, ment_sb, ment_ss, mset1_ii, mset1_ib, mset1_is, mset1_si, mset1_sb, mset1_ss, mput_ii, mput_ib, mput_is, mput_si, mput_sb, mput_ss, tst_map, coreB, lenA, minA, maxA, rowsB, appT, keyApp, keyV, keyL, liveC, liveB, liveZ, keyOf, oget, fget, lk, ofConst, cellsC, aggC, cell1, eff, binop, intOp, strOp, unop, ld, splice, fillP, aplace, placeOf, rowsN, oint, AV.cells, AV.pv, PV.std, AV.rows, pvs, appN, appC, rowsOk, irow, srw, brw, lrw, St.put, back, renA, ren1, ren0, renO, resOf, resAll, resOne, tupOf, fnOf, rk, inn, ok1, okB, okA, okT, okO, ok0, renB, liveP, liveZ0, nagg, one1, scH, bldZ, nvs, AV.nv, PV.sc, PV.isL, nilOrE, List.filter_cons, List.filter_nil, List.all_cons, List.all_nil,   unint, unint_map, bytesOf_eq, bnd_, rowsOk_irow, rowsOk_srw, rowsOk_brw, rowsOk_lrw, rowsOk_app, take_map_len, map_set_, set_map_,   List.range, List.range.loop, List.zip, List.zipWith, List.zip_cons_cons, List.zip_nil_left, List.zip_nil_right, List.length_cons, List.length_nil, List.length_map, List.length_append, List.map_cons, List.map_nil, List.map_append, List.getElem?_map, List.drop_succ_cons, List.drop_zero, List.drop_nil, List.take_succ_cons, List.take_zero, List.take_nil, List.take_length, List.set_cons_succ, List.set_cons_zero, List.head?_cons, List.head?_nil, List.getElem?_cons_succ, List.getElem?_cons_zero, List.append_nil, List.nil_append, List.cons_append, List.append_assoc, List.flatten_cons, List.flatten_nil, List.replicate_succ, List.replicate_zero, List.contains_cons, List.contains_nil, List.isEmpty_nil, List.isEmpty_cons, List.map_drop, List.map_take, List.map_replicate, List.length_replicate, List.length_set,   cond_true, cond_false, Option.map_some, Option.map_none, Option.bind_some, Option.bind_none, Option.getD_some, Option.getD_none, Option.isSome_some, Option.isSome_none, beq_self_eq_true, BEq.rfl, Nat.reduceBEq, Nat.reduceAdd, Nat.reduceSub, Nat.reduceMul, Nat.reduceLeDiff, Nat.reduceLT, Nat.reduceEqDiff, Nat.zero_add, Nat.add_zero, Nat.zero_mul, Nat.le_refl, and_self, and_true, true_and, if_true, reduceIte, ite_true, ite_false, Bool.and_true, Bool.true_and, Bool.and_false, Bool.false_and, Bool.not_true, Bool.not_false, Bool.or_true, Bool.or_false, Bool.true_or, Bool.false_or, Int.toNat_zero, Int.toNat_natCast, Int.reduceToNat, Int.reduceLE, Int.reduceLT, Int.reduceBEq, reduceCtorEq, decide_true, decide_false, Bool.false_eq_true, Nat.sub_zero, List.toList_toArray, List.foldl_cons, en178, ok178, en145, ok145, en148, ok148, en43, ok43, en88, ok88, en90, ok90, en49, ok49, en130_eq, ok130, en186, ok186, en137_eq, ok137, en192, ok192, tyF, *]); repeat' first | exact F2.nil | exact LeA.of _ _ (Le.refl _) | exact LeA.of _ _ (Le.nil _) | exact LeA.of _ _ (Le.full _) | exact LeA.of _ _ (Le.tip _ _ _) | exact LeA.of _ _ (Le.nwp _) | exact LeA.of _ _ (Le.odp _) | exact LeA.of _ _ (Le.u _) | exact Le.refl _ | exact Le.nil _ | exact Le.full _ | exact Le.tip _ _ _ | exact Le.nwp _ | exact Le.odp _ | exact Le.u _ | refine F2.cons ?_ ?_ | refine LeA.agg _ _ ?_)) : F2 LeA a b := h
theorem fits_ {σ : Sg} {mc m : Mem} (h : Fits σ mc m := by
     (first | exact fits_nil _ | (refine ⟨?_, by (first | decide | exact smd_), by (first | decide | exact smd_), by (first | decide | exact smd_)⟩; (repeat' first | exact all0 | refine all1 ?_ ?_); all_goals exact ⟨by (first | rfl | exact sm_), _, _, _, rfl, rfl, by
   (simp only [LeO, run, afterR, condC, exitC, exitTo, runO, step1, ofO, fpOf, fpK, writes, de, deT, deB, opD, dstOk, isCall, stepOp, finO, memPut, mset, entO, ent, core, constB, mkeyOf, mval, mrowOf, tupIf, liveM, kOf_i, kOf_s, mkEq_self, mhas_i, mhas_s, midx_i, midx_s, mrow_ii, mrow_ib, mrow_is, mrow_si, mrow_sb, mrow_ss, ment_ii, ment_ib, ment_is, ment_si, ment_sb, ment_ss, mset1_ii, mset1_ib, mset1_is, mset1_si, mset1_sb, mset1_ss, mput_ii, mput_ib, mput_is, mput_si, mput_sb, mput_ss, tst_map, coreB, lenA, minA, maxA, rowsB, appT, keyApp, keyV, keyL, liveC, liveB, liveZ, keyOf, oget, fget, lk, ofConst, cellsC, aggC, cell1, eff, binop, intOp, strOp, unop, ld, splice, fillP, aplace, placeOf, rowsN, oint, AV.cells, AV.pv, PV.std, AV.rows, pvs, appN, appC, rowsOk, irow, srw, brw, lrw, St.put, back, renA, ren1, ren0, renO, resOf, resAll, resOne, tupOf, fnOf, rk, inn, ok1, okB, okA, okT, okO, ok0, renB, liveP, liveZ0, nagg, one1, scH, bldZ, nvs, AV.nv, PV.sc, PV.isL, nilOrE, List.filter_cons, List.filter_nil, List.all_cons, List.all_nil,   unint, unint_map, bytesOf_eq, bnd_, rowsOk_irow, rowsOk_srw, rowsOk_brw, rowsOk_lrw, rowsOk_app, take_map_len, map_set_, set_map_,   List.range, List.range.loop, List.zip, List.zipWith, List.zip_cons_cons, List.zip_nil_left, List.zip_nil_right, List.length_cons, List.length_nil, List.length_map, List.length_append, List.map_cons, List.map_nil, List.map_append, List.getElem?_map, List.drop_succ_cons, List.drop_zero, List.drop_nil, List.take_succ_cons, List.take_zero, List.take_nil, List.take_length, List.set_cons_succ, List.set_cons_zero, List.head?_cons, List.head?_nil, List.getElem?_cons_succ, List.getElem?_cons_zero, List.append_nil, List.nil_append, List.cons_append, List.append_assoc, List.flatten_cons, List.flatten_nil, List.replicate_succ, List.replicate_zero, List.contains_cons, List.contains_nil, List.isEmpty_nil, List.isEmpty_cons, List.map_drop, List.map_take, List.map_replicate, List.length_replicate, List.length_set,   cond_true, cond_false, Option.map_some, Option.map_none, Option.bind_some, Option.bind_none, Option.getD_some, Option.getD_none, Option.isSome_some, Option.isSome_none, beq_self_eq_true, BEq.rfl, Nat.reduceBEq, Nat.reduceAdd, Nat.reduceSub, Nat.reduceMul, Nat.reduceLeDiff, Nat.reduceLT, Nat.reduceEqDiff, Nat.zero_add, Nat.add_zero, Nat.zero_mul, Nat.le_refl, and_self, and_true, true_and, if_true, reduceIte, ite_true, ite_false, Bool.and_true, Bool.true_and, Bool.and_false, Bool.false_and, Bool.not_true, Bool.not_false, Bool.or_true, Bool.or_false, Bool.true_or, Bool.false_or, Int.toNat_zero, Int.toNat_natCast, Int.reduceToNat, Int.reduceLE, Int.reduceLT, Int.reduceBEq, reduceCtorEq, decide_true, decide_false, Bool.false_eq_true, Nat.sub_zero, List.toList_toArray, List.foldl_cons, en178, ok178, en145, ok145, en148, ok148, en43, ok43, en88, ok88, en90, ok90, en49, ok49, en130_eq, ok130, en186, ok186, en137_eq, ok137, en192, ok192, tyF, *]; repeat' first | exact F2.nil | refine F2.cons ?_ ?_ | exact Le.refl _ | exact Le.nil _ | exact Le.full _ | exact Le.tip _ _ _ | exact Le.nwp _ | exact Le.odp _ | exact Le.u _ | refine And.intro ?_ ?_ | rfl | trivial)⟩))) : Fits σ mc m := h
theorem fitsOut_ {σ : Sg} {mc mc' m : Mem} (h : FitsOut σ mc mc' m := by
     (first | exact fitsOut_nil _ | (refine ⟨?_, by (first | decide | exact smd_), by (repeat' first | exact all0 | refine all1 rfl ?_)⟩; (repeat' first | exact all0 | refine all1 ?_ ?_); all_goals exact ⟨_, _, rfl, by first | exact Or.inl rfl | (right; first | exact sm_ | exact smo_ | exact smo0_ | decide)⟩))) : FitsOut σ mc mc' m := h
theorem endOk_ {σ : Sg} {m m' m0 : Mem} (h : EndOk σ m m' m0 := by
     (first | exact endOk_nil _ | exact ⟨fits_, by ((repeat' first | exact all0 | refine all1 ?_ ?_); all_goals first | exact Or.inl rfl | (right; first | exact sm_ | exact smo_ | exact smo0_ | decide)), by (repeat' first | exact all0 | refine all1 (by first | exact Nat.le_refl _ | exact smo_) ?_)⟩)) : EndOk σ m m' m0 := h
theorem gr_call {H : Prop} {C : Ctx} {draw : Bool} {all : List Oper} {k : List Item} {j : Nat} {o : Oper} {r : List Oper} {F : Fp} {st : St} {fv : Operand} {args : Array Operand} {ts : Array TypeId} {f : FuncId} {first caps : List AV} (σ : Sg) {cargs : List AV} {mc mc' : Mem} {v : AV}
   (hcon : Con C.hint.2.2 C.P f cargs mc v mc') (g : H → GR C draw all k (j + 1) r (F ++ σ.map (fun q => (j, q.2.2.1, true))) ({ st with mem := back σ st.mem mc' }.put o.dst (renA σ v)))
   (hop : o.op = .call { callee := .value fv, args := args, argTypes := ts } := by rfl)
   (h : de all st.fr o = .call := by exact sm_) (hd : dstOk C.hint.1 o.dst = true := by exact sms_) (hf : fnOf (oget st.fr fv) = some (f, first, caps) := by 
   exact smt_)
   (hargs : F2 LeA (first ++ args.toList.map (oget st.fr) ++ caps) (cargs.map (renA σ)) := by exact leA_) (hok : cargs.all (okA (inn σ mc)) = true := by (first | rfl | exact sm_)) (hm : Fits σ mc st.mem := by exact fits_)
   (ho : FitsOut σ mc mc' st.mem := by exact fitsOut_) : H → GR C draw all k j (o :: r) F st := fun x => gr_call_ σ hcon (g x) h hd hop hf hargs hok hm ho
theorem frle_ {fr fr' : List (Nat × AV)} (h : frLe fr fr' := by
   (simp only [frLe, run, afterR, condC, exitC, exitTo, runO, step1, ofO, fpOf, fpK, writes, de, deT, deB, opD, dstOk, isCall, stepOp, finO, memPut, mset, entO, ent, core, constB, mkeyOf, mval, mrowOf, tupIf, liveM, kOf_i, kOf_s, mkEq_self, mhas_i, mhas_s, midx_i, midx_s, mrow_ii, mrow_ib, mrow_is, mrow_si, mrow_sb, mrow_ss, ment_ii, ment_ib, ment_is, ment_si, ment_sb, ment_ss, mset1_ii, mset1_ib, mset1_is, mset1_si, mset1_sb, mset1_ss, mput_ii, mput_ib, mput_is, mput_si, mput_sb, mput_ss, tst_map, coreB, lenA, minA, maxA, rowsB, appT, keyApp, keyV, keyL, liveC, liveB, liveZ, keyOf, oget, fget, lk, ofConst, cellsC, aggC, cell1, eff, binop, intOp, strOp, unop, ld, splice, fillP, aplace, placeOf, rowsN, oint, AV.cells, AV.pv, PV.std, AV.rows, pvs, appN, appC, rowsOk, irow, srw, brw, lrw, St.put, back, renA, ren1, ren0, renO, resOf, resAll, resOne, tupOf, fnOf, rk, inn, ok1, okB, okA, okT, okO, ok0, renB, liveP, liveZ0, nagg, one1, scH, bldZ, nvs, AV.nv, PV.sc, PV.isL, nilOrE, List.filter_cons, List.filter_nil, List.all_cons, List.all_nil,   unint, unint_map, bytesOf_eq, bnd_, rowsOk_irow, rowsOk_srw, rowsOk_brw, rowsOk_lrw, rowsOk_app, take_map_len, map_set_, set_map_,   List.range, List.range.loop, List.zip, List.zipWith, List.zip_cons_cons, List.zip_nil_left, List.zip_nil_right, List.length_cons, List.length_nil, List.length_map, List.length_append, List.map_cons, List.map_nil, List.map_append, List.getElem?_map, List.drop_succ_cons, List.drop_zero, List.drop_nil, List.take_succ_cons, List.take_zero, List.take_nil, List.take_length, List.set_cons_succ, List.set_cons_zero, List.head?_cons, List.head?_nil, List.getElem?_cons_succ, List.getElem?_cons_zero, List.append_nil, List.nil_append, List.cons_append, List.append_assoc, List.flatten_cons, List.flatten_nil, List.replicate_succ, List.replicate_zero, List.contains_cons, List.contains_nil, List.isEmpty_nil, List.isEmpty_cons, List.map_drop, List.map_take, List.map_replicate, List.length_replicate, List.length_set,   cond_true, cond_false, Option.map_some, Option.map_none, Option.bind_some, Option.bind_none, Option.getD_some, Option.getD_none, Option.isSome_some, Option.isSome_none, beq_self_eq_true, BEq.rfl, Nat.reduceBEq, Nat.reduceAdd, Nat.reduceSub, Nat.reduceMul, Nat.reduceLeDiff, Nat.reduceLT, Nat.reduceEqDiff, Nat.zero_add, Nat.add_zero, Nat.zero_mul, Nat.le_refl, and_self, and_true, true_and, if_true, reduceIte, ite_true, ite_false, Bool.and_true, Bool.true_and, Bool.and_false, Bool.false_and, Bool.not_true, Bool.not_false, Bool.or_true, Bool.or_false, Bool.true_or, Bool.false_or, Int.toNat_zero, Int.toNat_natCast, Int.reduceToNat, Int.reduceLE, Int.reduceLT, Int.reduceBEq, reduceCtorEq, decide_true, decide_false, Bool.false_eq_true, Nat.sub_zero, List.toList_toArray, List.foldl_cons, en178, ok178, en145, ok145, en148, ok148, en43, ok43, en88, ok88, en90, ok90, en49, ok49, en130_eq, ok130, en186, ok186, en137_eq, ok137, en192, ok192, tyF, *]; repeat' first | trivial | exact LeA.of _ _ (Le.refl _) | exact LeA.of _ _ (Le.nil _) | exact LeA.of _ _ (Le.full _) | exact LeA.of _ _ (Le.tip _ _ _) | exact LeA.of _ _ (Le.nwp _) | exact LeA.of _ _ (Le.odp _) | exact LeA.of _ _ (Le.u _) | exact F2.nil | exact Le.refl _ | exact Le.nil _ | exact Le.full _ | exact Le.tip _ _ _ | exact Le.nwp _ | exact Le.odp _ | exact Le.u _ | refine F2.cons ?_ ?_ | refine LeA.agg _ _ ?_ | refine And.intro ?_ ?_)) : frLe fr fr' := h
theorem memle_ {m m' : Mem} (h : memLe m m' := by
   (simp only [memLe, leE, LeO, run, afterR, condC, exitC, exitTo, runO, step1, ofO, fpOf, fpK, writes, de, deT, deB, opD, dstOk, isCall, stepOp, finO, memPut, mset, entO, ent, core, constB, mkeyOf, mval, mrowOf, tupIf, liveM, kOf_i, kOf_s, mkEq_self, mhas_i, mhas_s, midx_i, midx_s, mrow_ii, mrow_ib, mrow_is, mrow_si, mrow_sb, mrow_ss, ment_ii, ment_ib, ment_is, ment_si, ment_sb, ment_ss, mset1_ii, mset1_ib, mset1_is, mset1_si, mset1_sb, mset1_ss, mput_ii, mput_ib, mput_is, mput_si, mput_sb, mput_ss, tst_map, coreB, lenA, minA, maxA, rowsB, appT, keyApp, keyV, keyL, liveC, liveB, liveZ, keyOf, oget, fget, lk, ofConst, cellsC, aggC, cell1, eff, binop, intOp, strOp, unop, ld, splice, fillP, aplace, placeOf, rowsN, oint, AV.cells, AV.pv, PV.std, AV.rows, pvs, appN, appC, rowsOk, irow, srw, brw, lrw, St.put, back, renA, ren1, ren0, renO, resOf, resAll, resOne, tupOf, fnOf, rk, inn, ok1, okB, okA, okT, okO, ok0, renB, liveP, liveZ0, nagg, one1, scH, bldZ, nvs, AV.nv, PV.sc, PV.isL, nilOrE, List.filter_cons, List.filter_nil, List.all_cons, List.all_nil,   unint, unint_map, bytesOf_eq, bnd_, rowsOk_irow, rowsOk_srw, rowsOk_brw, rowsOk_lrw, rowsOk_app, take_map_len, map_set_, set_map_,   List.range, List.range.loop, List.zip, List.zipWith, List.zip_cons_cons, List.zip_nil_left, List.zip_nil_right, List.length_cons, List.length_nil, List.length_map, List.length_append, List.map_cons, List.map_nil, List.map_append, List.getElem?_map, List.drop_succ_cons, List.drop_zero, List.drop_nil, List.take_succ_cons, List.take_zero, List.take_nil, List.take_length, List.set_cons_succ, List.set_cons_zero, List.head?_cons, List.head?_nil, List.getElem?_cons_succ, List.getElem?_cons_zero, List.append_nil, List.nil_append, List.cons_append, List.append_assoc, List.flatten_cons, List.flatten_nil, List.replicate_succ, List.replicate_zero, List.contains_cons, List.contains_nil, List.isEmpty_nil, List.isEmpty_cons, List.map_drop, List.map_take, List.map_replicate, List.length_replicate, List.length_set,   cond_true, cond_false, Option.map_some, Option.map_none, Option.bind_some, Option.bind_none, Option.getD_some, Option.getD_none, Option.isSome_some, Option.isSome_none, beq_self_eq_true, BEq.rfl, Nat.reduceBEq, Nat.reduceAdd, Nat.reduceSub, Nat.reduceMul, Nat.reduceLeDiff, Nat.reduceLT, Nat.reduceEqDiff, Nat.zero_add, Nat.add_zero, Nat.zero_mul, Nat.le_refl, and_self, and_true, true_and, if_true, reduceIte, ite_true, ite_false, Bool.and_true, Bool.true_and, Bool.and_false, Bool.false_and, Bool.not_true, Bool.not_false, Bool.or_true, Bool.or_false, Bool.true_or, Bool.false_or, Int.toNat_zero, Int.toNat_natCast, Int.reduceToNat, Int.reduceLE, Int.reduceLT, Int.reduceBEq, reduceCtorEq, decide_true, decide_false, Bool.false_eq_true, Nat.sub_zero, List.toList_toArray, List.foldl_cons, en178, ok178, en145, ok145, en148, ok148, en43, ok43, en88, ok88, en90, ok90, en49, ok49, en130_eq, ok130, en186, ok186, en137_eq, ok137, en192, ok192, tyF, *]; repeat' first | trivial | rfl | exact F2.nil | exact Le.refl _ | exact Le.nil _ | exact Le.full _ | exact Le.tip _ _ _ | exact Le.nwp _ | exact Le.odp _ | exact Le.u _ | refine F2.cons ?_ ?_ | refine And.intro ?_ ?_)) (hk : memKeys m m' := by exact ⟨by
   (simp only [run, afterR, condC, exitC, exitTo, runO, step1, ofO, fpOf, fpK, writes, de, deT, deB, opD, dstOk, isCall, stepOp, finO, memPut, mset, entO, ent, core, constB, mkeyOf, mval, mrowOf, tupIf, liveM, kOf_i, kOf_s, mkEq_self, mhas_i, mhas_s, midx_i, midx_s, mrow_ii, mrow_ib, mrow_is, mrow_si, mrow_sb, mrow_ss, ment_ii, ment_ib, ment_is, ment_si, ment_sb, ment_ss, mset1_ii, mset1_ib, mset1_is, mset1_si, mset1_sb, mset1_ss, mput_ii, mput_ib, mput_is, mput_si, mput_sb, mput_ss, tst_map, coreB, lenA, minA, maxA, rowsB, appT, keyApp, keyV, keyL, liveC, liveB, liveZ, keyOf, oget, fget, lk, ofConst, cellsC, aggC, cell1, eff, binop, intOp, strOp, unop, ld, splice, fillP, aplace, placeOf, rowsN, oint, AV.cells, AV.pv, PV.std, AV.rows, pvs, appN, appC, rowsOk, irow, srw, brw, lrw, St.put, back, renA, ren1, ren0, renO, resOf, resAll, resOne, tupOf, fnOf, rk, inn, ok1, okB, okA, okT, okO, ok0, renB, liveP, liveZ0, nagg, one1, scH, bldZ, nvs, AV.nv, PV.sc, PV.isL, nilOrE, List.filter_cons, List.filter_nil, List.all_cons, List.all_nil,   unint, unint_map, bytesOf_eq, bnd_, rowsOk_irow, rowsOk_srw, rowsOk_brw, rowsOk_lrw, rowsOk_app, take_map_len, map_set_, set_map_,   List.range, List.range.loop, List.zip, List.zipWith, List.zip_cons_cons, List.zip_nil_left, List.zip_nil_right, List.length_cons, List.length_nil, List.length_map, List.length_append, List.map_cons, List.map_nil, List.map_append, List.getElem?_map, List.drop_succ_cons, List.drop_zero, List.drop_nil, List.take_succ_cons, List.take_zero, List.take_nil, List.take_length, List.set_cons_succ, List.set_cons_zero, List.head?_cons, List.head?_nil, List.getElem?_cons_succ, List.getElem?_cons_zero, List.append_nil, List.nil_append, List.cons_append, List.append_assoc, List.flatten_cons, List.flatten_nil, List.replicate_succ, List.replicate_zero, List.contains_cons, List.contains_nil, List.isEmpty_nil, List.isEmpty_cons, List.map_drop, List.map_take, List.map_replicate, List.length_replicate, List.length_set,   cond_true, cond_false, Option.map_some, Option.map_none, Option.bind_some, Option.bind_none, Option.getD_some, Option.getD_none, Option.isSome_some, Option.isSome_none, beq_self_eq_true, BEq.rfl, Nat.reduceBEq, Nat.reduceAdd, Nat.reduceSub, Nat.reduceMul, Nat.reduceLeDiff, Nat.reduceLT, Nat.reduceEqDiff, Nat.zero_add, Nat.add_zero, Nat.zero_mul, Nat.le_refl, and_self, and_true, true_and, if_true, reduceIte, ite_true, ite_false, Bool.and_true, Bool.true_and, Bool.and_false, Bool.false_and, Bool.not_true, Bool.not_false, Bool.or_true, Bool.or_false, Bool.true_or, Bool.false_or, Int.toNat_zero, Int.toNat_natCast, Int.reduceToNat, Int.reduceLE, Int.reduceLT, Int.reduceBEq, reduceCtorEq, decide_true, decide_false, Bool.false_eq_true, Nat.sub_zero, List.toList_toArray, List.foldl_cons, en178, ok178, en145, ok145, en148, ok148, en43, ok43, en88, ok88, en90, ok90, en49, ok49, en130_eq, ok130, en186, ok186, en137_eq, ok137, en192, ok192, tyF, List.all_cons, List.all_nil]), by 
   (first | decide |
   (simp only [run, afterR, condC, exitC, exitTo, runO, step1, ofO, fpOf, fpK, writes, de, deT, deB, opD, dstOk, isCall, stepOp, finO, memPut, mset, entO, ent, core, constB, mkeyOf, mval, mrowOf, tupIf, liveM, kOf_i, kOf_s, mkEq_self, mhas_i, mhas_s, midx_i, midx_s, mrow_ii, mrow_ib, mrow_is, mrow_si, mrow_sb, mrow_ss, ment_ii, ment_ib, ment_is, ment_si, ment_sb, ment_ss, mset1_ii, mset1_ib, mset1_is, mset1_si, mset1_sb, mset1_ss, mput_ii, mput_ib, mput_is, mput_si, mput_sb, mput_ss, tst_map, coreB, lenA, minA, maxA, rowsB, appT, keyApp, keyV, keyL, liveC, liveB, liveZ, keyOf, oget, fget, lk, ofConst, cellsC, aggC, cell1, eff, binop, intOp, strOp, unop, ld, splice, fillP, aplace, placeOf, rowsN, oint, AV.cells, AV.pv, PV.std, AV.rows, pvs, appN, appC, rowsOk, irow, srw, brw, lrw, St.put, back, renA, ren1, ren0, renO, resOf, resAll, resOne, tupOf, fnOf, rk, inn, ok1, okB, okA, okT, okO, ok0, renB, liveP, liveZ0, nagg, one1, scH, bldZ, nvs, AV.nv, PV.sc, PV.isL, nilOrE, List.filter_cons, List.filter_nil, List.all_cons, List.all_nil,   unint, unint_map, bytesOf_eq, bnd_, rowsOk_irow, rowsOk_srw, rowsOk_brw, rowsOk_lrw, rowsOk_app, take_map_len, map_set_, set_map_,   List.range, List.range.loop, List.zip, List.zipWith, List.zip_cons_cons, List.zip_nil_left, List.zip_nil_right, List.length_cons, List.length_nil, List.length_map, List.length_append, List.map_cons, List.map_nil, List.map_append, List.getElem?_map, List.drop_succ_cons, List.drop_zero, List.drop_nil, List.take_succ_cons, List.take_zero, List.take_nil, List.take_length, List.set_cons_succ, List.set_cons_zero, List.head?_cons, List.head?_nil, List.getElem?_cons_succ, List.getElem?_cons_zero, List.append_nil, List.nil_append, List.cons_append, List.append_assoc, List.flatten_cons, List.flatten_nil, List.replicate_succ, List.replicate_zero, List.contains_cons, List.contains_nil, List.isEmpty_nil, List.isEmpty_cons, List.map_drop, List.map_take, List.map_replicate, List.length_replicate, List.length_set,   cond_true, cond_false, Option.map_some, Option.map_none, Option.bind_some, Option.bind_none, Option.getD_some, Option.getD_none, Option.isSome_some, Option.isSome_none, beq_self_eq_true, BEq.rfl, Nat.reduceBEq, Nat.reduceAdd, Nat.reduceSub, Nat.reduceMul, Nat.reduceLeDiff, Nat.reduceLT, Nat.reduceEqDiff, Nat.zero_add, Nat.add_zero, Nat.zero_mul, Nat.le_refl, and_self, and_true, true_and, if_true, reduceIte, ite_true, ite_false, Bool.and_true, Bool.true_and, Bool.and_false, Bool.false_and, Bool.not_true, Bool.not_false, Bool.or_true, Bool.or_false, Bool.true_or, Bool.false_or, Int.toNat_zero, Int.toNat_natCast, Int.reduceToNat, Int.reduceLE, Int.reduceLT, Int.reduceBEq, reduceCtorEq, decide_true, decide_false, Bool.false_eq_true, Nat.sub_zero, List.toList_toArray, List.foldl_cons, en178, ok178, en145, ok145, en148, ok148, en43, ok43, en88, ok88, en90, ok90, en49, ok49, en130_eq, ok130, en186, ok186, en137_eq, ok137, en192, ok192, tyF, *]; try decide))⟩) : memLe m m' ∧ memKeys m m' := ⟨h, hk⟩
theorem nf_ {p q : Prop} (h : p) (e : p = q := by ((try simp only [run, afterR, condC, exitC, exitTo, runO, step1, ofO, fpOf, fpK, writes, de, deT, deB, opD, dstOk, isCall, stepOp, finO, memPut, mset, entO, ent, core, constB, mkeyOf, mval, mrowOf, tupIf, liveM, kOf_i, kOf_s, mkEq_self, mhas_i, mhas_s, midx_i, midx_s, mrow_ii, mrow_ib, mrow_is, mrow_si, mrow_sb, mrow_ss, ment_ii, ment_ib, ment_is, ment_si, ment_sb, ment_ss, mset1_ii, mset1_ib, mset1_is, mset1_si, mset1_sb, mset1_ss, mput_ii, mput_ib, mput_is, mput_si, mput_sb, mput_ss, tst_map, coreB, lenA, minA, maxA, rowsB, appT, keyApp, keyV, keyL, liveC, liveB, liveZ, keyOf, oget, fget, lk, ofConst, cellsC, aggC, cell1, eff, binop, intOp, strOp, unop, ld, splice, fillP, aplace, placeOf, rowsN, oint, AV.cells, AV.pv, PV.std, AV.rows, pvs, appN, appC, rowsOk, irow, srw, brw, lrw, St.put, back, renA, ren1, ren0, renO, resOf, resAll, resOne, tupOf, fnOf, rk, inn, ok1, okB, okA, okT, okO, ok0, renB, liveP, liveZ0, nagg, one1, scH, bldZ, nvs, AV.nv, PV.sc, PV.isL, nilOrE, List.filter_cons, List.filter_nil, List.all_cons, List.all_nil,   unint, unint_map, bytesOf_eq, bnd_, rowsOk_irow, rowsOk_srw, rowsOk_brw, rowsOk_lrw, rowsOk_app, take_map_len, map_set_, set_map_,   List.range, List.range.loop, List.zip, List.zipWith, List.zip_cons_cons, List.zip_nil_left, List.zip_nil_right, List.length_cons, List.length_nil, List.length_map, List.length_append, List.map_cons, List.map_nil, List.map_append, List.getElem?_map, List.drop_succ_cons, List.drop_zero, List.drop_nil, List.take_succ_cons, List.take_zero, List.take_nil, List.take_length, List.set_cons_succ, List.set_cons_zero, List.head?_cons, List.head?_nil, List.getElem?_cons_succ, List.getElem?_cons_zero, List.append_nil, List.nil_append, List.cons_append, List.append_assoc, List.flatten_cons, List.flatten_nil, List.replicate_succ, List.replicate_zero, List.contains_cons, List.contains_nil, List.isEmpty_nil, List.isEmpty_cons, List.map_drop, List.map_take, List.map_replicate, List.length_replicate, List.length_set,   cond_true, cond_false, Option.map_some, Option.map_none, Option.bind_some, Option.bind_none, Option.getD_some, Option.getD_none, Option.isSome_some, Option.isSome_none, beq_self_eq_true, BEq.rfl, Nat.reduceBEq, Nat.reduceAdd, Nat.reduceSub, Nat.reduceMul, Nat.reduceLeDiff, Nat.reduceLT, Nat.reduceEqDiff, Nat.zero_add, Nat.add_zero, Nat.zero_mul, Nat.le_refl, and_self, and_true, true_and, if_true, reduceIte, ite_true, ite_false, Bool.and_true, Bool.true_and, Bool.and_false, Bool.false_and, Bool.not_true, Bool.not_false, Bool.or_true, Bool.or_false, Bool.true_or, Bool.false_or, Int.toNat_zero, Int.toNat_natCast, Int.reduceToNat, Int.reduceLE, Int.reduceLT, Int.reduceBEq, reduceCtorEq, decide_true, decide_false, Bool.false_eq_true, Nat.sub_zero, List.toList_toArray, List.foldl_cons, en178, ok178, en145, ok145, en148, ok148, en43, ok43, en88, ok88, en90, ok90, en49, ok49, en130_eq, ok130, en186, ok186, en137_eq, ok137, en192, ok192, tyF]); rfl)) : q := e ▸ h
theorem adopt_ {H : Prop} {C : Ctx} {it : List Item} {st : St} (s k z : Nat) (g : H → Good C it { fr := (s, .tip k ((ent st.mem k).1 + 1) []) :: st.fr, mem := mset st.mem k ((ent st.mem k).1 + 1, .tip z 0) }) (hs : fget st.fr s = .p .nilS := by 
   (simp only [run, afterR, condC, exitC, exitTo, runO, step1, ofO, fpOf, fpK, writes, de, deT, deB, opD, dstOk, isCall, stepOp, finO, memPut, mset, entO, ent, core, constB, mkeyOf, mval, mrowOf, tupIf, liveM, kOf_i, kOf_s, mkEq_self, mhas_i, mhas_s, midx_i, midx_s, mrow_ii, mrow_ib, mrow_is, mrow_si, mrow_sb, mrow_ss, ment_ii, ment_ib, ment_is, ment_si, ment_sb, ment_ss, mset1_ii, mset1_ib, mset1_is, mset1_si, mset1_sb, mset1_ss, mput_ii, mput_ib, mput_is, mput_si, mput_sb, mput_ss, tst_map, coreB, lenA, minA, maxA, rowsB, appT, keyApp, keyV, keyL, liveC, liveB, liveZ, keyOf, oget, fget, lk, ofConst, cellsC, aggC, cell1, eff, binop, intOp, strOp, unop, ld, splice, fillP, aplace, placeOf, rowsN, oint, AV.cells, AV.pv, PV.std, AV.rows, pvs, appN, appC, rowsOk, irow, srw, brw, lrw, St.put, back, renA, ren1, ren0, renO, resOf, resAll, resOne, tupOf, fnOf, rk, inn, ok1, okB, okA, okT, okO, ok0, renB, liveP, liveZ0, nagg, one1, scH, bldZ, nvs, AV.nv, PV.sc, PV.isL, nilOrE, List.filter_cons, List.filter_nil, List.all_cons, List.all_nil,   unint, unint_map, bytesOf_eq, bnd_, rowsOk_irow, rowsOk_srw, rowsOk_brw, rowsOk_lrw, rowsOk_app, take_map_len, map_set_, set_map_,   List.range, List.range.loop, List.zip, List.zipWith, List.zip_cons_cons, List.zip_nil_left, List.zip_nil_right, List.length_cons, List.length_nil, List.length_map, List.length_append, List.map_cons, List.map_nil, List.map_append, List.getElem?_map, List.drop_succ_cons, List.drop_zero, List.drop_nil, List.take_succ_cons, List.take_zero, List.take_nil, List.take_length, List.set_cons_succ, List.set_cons_zero, List.head?_cons, List.head?_nil, List.getElem?_cons_succ, List.getElem?_cons_zero, List.append_nil, List.nil_append, List.cons_append, List.append_assoc, List.flatten_cons, List.flatten_nil, List.replicate_succ, List.replicate_zero, List.contains_cons, List.contains_nil, List.isEmpty_nil, List.isEmpty_cons, List.map_drop, List.map_take, List.map_replicate, List.length_replicate, List.length_set,   cond_true, cond_false, Option.map_some, Option.map_none, Option.bind_some, Option.bind_none, Option.getD_some, Option.getD_none, Option.isSome_some, Option.isSome_none, beq_self_eq_true, BEq.rfl, Nat.reduceBEq, Nat.reduceAdd, Nat.reduceSub, Nat.reduceMul, Nat.reduceLeDiff, Nat.reduceLT, Nat.reduceEqDiff, Nat.zero_add, Nat.add_zero, Nat.zero_mul, Nat.le_refl, and_self, and_true, true_and, if_true, reduceIte, ite_true, ite_false, Bool.and_true, Bool.true_and, Bool.and_false, Bool.false_and, Bool.not_true, Bool.not_false, Bool.or_true, Bool.or_false, Bool.true_or, Bool.false_or, Int.toNat_zero, Int.toNat_natCast, Int.reduceToNat, Int.reduceLE, Int.reduceLT, Int.reduceBEq, reduceCtorEq, decide_true, decide_false, Bool.false_eq_true, Nat.sub_zero, List.toList_toArray, List.foldl_cons, en178, ok178, en145, ok145, en148, ok148, en43, ok43, en88, ok88, en90, ok90, en49, ok49, en130_eq, ok130, en186, ok186, en137_eq, ok137, en192, ok192, tyF, *])) : H → Good C it st := fun x => good_adopt s k z hs (g x)
theorem adoptF_ {H : Prop} {C : Ctx} {it : List Item} {st : St} {rows : Rows} (s k z : Nat) (g : H → Good C it { fr := (s, .tip k ((ent st.mem k).1 + 1) rows) :: st.fr, mem := mset st.mem k ((ent st.mem k).1 + 1, .tip z rows.length) }) (hs : fget st.fr s = .p (.lst true rows) := by 
   exact smt_) (hz : rowsOk z rows = true := by
   (first | rfl | simp only [run, afterR, condC, exitC, exitTo, runO, step1, ofO, fpOf, fpK, writes, de, deT, deB, opD, dstOk, isCall, stepOp, finO, memPut, mset, entO, ent, core, constB, mkeyOf, mval, mrowOf, tupIf, liveM, kOf_i, kOf_s, mkEq_self, mhas_i, mhas_s, midx_i, midx_s, mrow_ii, mrow_ib, mrow_is, mrow_si, mrow_sb, mrow_ss, ment_ii, ment_ib, ment_is, ment_si, ment_sb, ment_ss, mset1_ii, mset1_ib, mset1_is, mset1_si, mset1_sb, mset1_ss, mput_ii, mput_ib, mput_is, mput_si, mput_sb, mput_ss, tst_map, coreB, lenA, minA, maxA, rowsB, appT, keyApp, keyV, keyL, liveC, liveB, liveZ, keyOf, oget, fget, lk, ofConst, cellsC, aggC, cell1, eff, binop, intOp, strOp, unop, ld, splice, fillP, aplace, placeOf, rowsN, oint, AV.cells, AV.pv, PV.std, AV.rows, pvs, appN, appC, rowsOk, irow, srw, brw, lrw, St.put, back, renA, ren1, ren0, renO, resOf, resAll, resOne, tupOf, fnOf, rk, inn, ok1, okB, okA, okT, okO, ok0, renB, liveP, liveZ0, nagg, one1, scH, bldZ, nvs, AV.nv, PV.sc, PV.isL, nilOrE, List.filter_cons, List.filter_nil, List.all_cons, List.all_nil,   unint, unint_map, bytesOf_eq, bnd_, rowsOk_irow, rowsOk_srw, rowsOk_brw, rowsOk_lrw, rowsOk_app, take_map_len, map_set_, set_map_,   List.range, List.range.loop, List.zip, List.zipWith, List.zip_cons_cons, List.zip_nil_left, List.zip_nil_right, List.length_cons, List.length_nil, List.length_map, List.length_append, List.map_cons, List.map_nil, List.map_append, List.getElem?_map, List.drop_succ_cons, List.drop_zero, List.drop_nil, List.take_succ_cons, List.take_zero, List.take_nil, List.take_length, List.set_cons_succ, List.set_cons_zero, List.head?_cons, List.head?_nil, List.getElem?_cons_succ, List.getElem?_cons_zero, List.append_nil, List.nil_append, List.cons_append, List.append_assoc, List.flatten_cons, List.flatten_nil, List.replicate_succ, List.replicate_zero, List.contains_cons, List.contains_nil, List.isEmpty_nil, List.isEmpty_cons, List.map_drop, List.map_take, List.map_replicate, List.length_replicate, List.length_set,   cond_true, cond_false, Option.map_some, Option.map_none, Option.bind_some, Option.bind_none, Option.getD_some, Option.getD_none, Option.isSome_some, Option.isSome_none, beq_self_eq_true, BEq.rfl, Nat.reduceBEq, Nat.reduceAdd, Nat.reduceSub, Nat.reduceMul, Nat.reduceLeDiff, Nat.reduceLT, Nat.reduceEqDiff, Nat.zero_add, Nat.add_zero, Nat.zero_mul, Nat.le_refl, and_self, and_true, true_and, if_true, reduceIte, ite_true, ite_false, Bool.and_true, Bool.true_and, Bool.and_false, Bool.false_and, Bool.not_true, Bool.not_false, Bool.or_true, Bool.or_false, Bool.true_or, Bool.false_or, Int.toNat_zero, Int.toNat_natCast, Int.reduceToNat, Int.reduceLE, Int.reduceLT, Int.reduceBEq, reduceCtorEq, decide_true, decide_false, Bool.false_eq_true, Nat.sub_zero, List.toList_toArray, List.foldl_cons, en178, ok178, en145, ok145, en148, ok148, en43, ok43, en88, ok88, en90, ok90, en49, ok49, en130_eq, ok130, en186, ok186, en137_eq, ok137, en192, ok192, tyF])) : H → Good C it st := fun x => good_adoptF s k z hz hs (g x)
theorem adoptc_ {H : Prop} {C : Ctx} {it : List Item} {st : St} (k0 o k z : Nat) {g0 : Nat} {cs : List AV} (g : H → Good C it { st with mem := mset (mset st.mem k ((ent st.mem k).1 + 1, .tip z 0)) k0 (g0, .cells (cs.set o (.tip k ((ent st.mem k).1 + 1) []))) }) (hs : lk st.mem k0 = some (g0, .cells cs) := by 
   exact smr_) (hc : cs[o]? = some (.p .nilS) := by 
   (simp only [run, afterR, condC, exitC, exitTo, runO, step1, ofO, fpOf, fpK, writes, de, deT, deB, opD, dstOk, isCall, stepOp, finO, memPut, mset, entO, ent, core, constB, mkeyOf, mval, mrowOf, tupIf, liveM, kOf_i, kOf_s, mkEq_self, mhas_i, mhas_s, midx_i, midx_s, mrow_ii, mrow_ib, mrow_is, mrow_si, mrow_sb, mrow_ss, ment_ii, ment_ib, ment_is, ment_si, ment_sb, ment_ss, mset1_ii, mset1_ib, mset1_is, mset1_si, mset1_sb, mset1_ss, mput_ii, mput_ib, mput_is, mput_si, mput_sb, mput_ss, tst_map, coreB, lenA, minA, maxA, rowsB, appT, keyApp, keyV, keyL, liveC, liveB, liveZ, keyOf, oget, fget, lk, ofConst, cellsC, aggC, cell1, eff, binop, intOp, strOp, unop, ld, splice, fillP, aplace, placeOf, rowsN, oint, AV.cells, AV.pv, PV.std, AV.rows, pvs, appN, appC, rowsOk, irow, srw, brw, lrw, St.put, back, renA, ren1, ren0, renO, resOf, resAll, resOne, tupOf, fnOf, rk, inn, ok1, okB, okA, okT, okO, ok0, renB, liveP, liveZ0, nagg, one1, scH, bldZ, nvs, AV.nv, PV.sc, PV.isL, nilOrE, List.filter_cons, List.filter_nil, List.all_cons, List.all_nil,   unint, unint_map, bytesOf_eq, bnd_, rowsOk_irow, rowsOk_srw, rowsOk_brw, rowsOk_lrw, rowsOk_app, take_map_len, map_set_, set_map_,   List.range, List.range.loop, List.zip, List.zipWith, List.zip_cons_cons, List.zip_nil_left, List.zip_nil_right, List.length_cons, List.length_nil, List.length_map, List.length_append, List.map_cons, List.map_nil, List.map_append, List.getElem?_map, List.drop_succ_cons, List.drop_zero, List.drop_nil, List.take_succ_cons, List.take_zero, List.take_nil, List.take_length, List.set_cons_succ, List.set_cons_zero, List.head?_cons, List.head?_nil, List.getElem?_cons_succ, List.getElem?_cons_zero, List.append_nil, List.nil_append, List.cons_append, List.append_assoc, List.flatten_cons, List.flatten_nil, List.replicate_succ, List.replicate_zero, List.contains_cons, List.contains_nil, List.isEmpty_nil, List.isEmpty_cons, List.map_drop, List.map_take, List.map_replicate, List.length_replicate, List.length_set,   cond_true, cond_false, Option.map_some, Option.map_none, Option.bind_some, Option.bind_none, Option.getD_some, Option.getD_none, Option.isSome_some, Option.isSome_none, beq_self_eq_true, BEq.rfl, Nat.reduceBEq, Nat.reduceAdd, Nat.reduceSub, Nat.reduceMul, Nat.reduceLeDiff, Nat.reduceLT, Nat.reduceEqDiff, Nat.zero_add, Nat.add_zero, Nat.zero_mul, Nat.le_refl, and_self, and_true, true_and, if_true, reduceIte, ite_true, ite_false, Bool.and_true, Bool.true_and, Bool.and_false, Bool.false_and, Bool.not_true, Bool.not_false, Bool.or_true, Bool.or_false, Bool.true_or, Bool.false_or, Int.toNat_zero, Int.toNat_natCast, Int.reduceToNat, Int.reduceLE, Int.reduceLT, Int.reduceBEq, reduceCtorEq, decide_true, decide_false, Bool.false_eq_true, Nat.sub_zero, List.toList_toArray, List.foldl_cons, en178, ok178, en145, ok145, en148, ok148, en43, ok43, en88, ok88, en90, ok90, en49, ok49, en130_eq, ok130, en186, ok186, en137_eq, ok137, en192, ok192, tyF, *])) (hk : k ≠ k0 := by decide) : H → Good C it st := fun x => good_adoptc k0 o k z g0 cs hs hc hk (g x)
theorem adoptcF_ {H : Prop} {C : Ctx} {it : List Item} {st : St} {rows : Rows} (k0 o k z : Nat) {g0 : Nat} {cs : List AV} (g : H → Good C it { st with mem := mset (mset st.mem k ((ent st.mem k).1 + 1, .tip z rows.length)) k0 (g0, .cells (cs.set o (.tip k ((ent st.mem k).1 + 1) rows))) }) (hs : lk st.mem k0 = some (g0, .cells cs) := by 
   exact smr_) (hc : cs[o]? = some (.p (.lst true rows)) := by 
   exact smt_) (hk : k ≠ k0 := by decide) (hz : rowsOk z rows = true := by
   (first | rfl | simp only [run, afterR, condC, exitC, exitTo, runO, step1, ofO, fpOf, fpK, writes, de, deT, deB, opD, dstOk, isCall, stepOp, finO, memPut, mset, entO, ent, core, constB, mkeyOf, mval, mrowOf, tupIf, liveM, kOf_i, kOf_s, mkEq_self, mhas_i, mhas_s, midx_i, midx_s, mrow_ii, mrow_ib, mrow_is, mrow_si, mrow_sb, mrow_ss, ment_ii, ment_ib, ment_is, ment_si, ment_sb, ment_ss, mset1_ii, mset1_ib, mset1_is, mset1_si, mset1_sb, mset1_ss, mput_ii, mput_ib, mput_is, mput_si, mput_sb, mput_ss, tst_map, coreB, lenA, minA, maxA, rowsB, appT, keyApp, keyV, keyL, liveC, liveB, liveZ, keyOf, oget, fget, lk, ofConst, cellsC, aggC, cell1, eff, binop, intOp, strOp, unop, ld, splice, fillP, aplace, placeOf, rowsN, oint, AV.cells, AV.pv, PV.std, AV.rows, pvs, appN, appC, rowsOk, irow, srw, brw, lrw, St.put, back, renA, ren1, ren0, renO, resOf, resAll, resOne, tupOf, fnOf, rk, inn, ok1, okB, okA, okT, okO, ok0, renB, liveP, liveZ0, nagg, one1, scH, bldZ, nvs, AV.nv, PV.sc, PV.isL, nilOrE, List.filter_cons, List.filter_nil, List.all_cons, List.all_nil,   unint, unint_map, bytesOf_eq, bnd_, rowsOk_irow, rowsOk_srw, rowsOk_brw, rowsOk_lrw, rowsOk_app, take_map_len, map_set_, set_map_,   List.range, List.range.loop, List.zip, List.zipWith, List.zip_cons_cons, List.zip_nil_left, List.zip_nil_right, List.length_cons, List.length_nil, List.length_map, List.length_append, List.map_cons, List.map_nil, List.map_append, List.getElem?_map, List.drop_succ_cons, List.drop_zero, List.drop_nil, List.take_succ_cons, List.take_zero, List.take_nil, List.take_length, List.set_cons_succ, List.set_cons_zero, List.head?_cons, List.head?_nil, List.getElem?_cons_succ, List.getElem?_cons_zero, List.append_nil, List.nil_append, List.cons_append, List.append_assoc, List.flatten_cons, List.flatten_nil, List.replicate_succ, List.replicate_zero, List.contains_cons, List.contains_nil, List.isEmpty_nil, List.isEmpty_cons, List.map_drop, List.map_take, List.map_replicate, List.length_replicate, List.length_set,   cond_true, cond_false, Option.map_some, Option.map_none, Option.bind_some, Option.bind_none, Option.getD_some, Option.getD_none, Option.isSome_some, Option.isSome_none, beq_self_eq_true, BEq.rfl, Nat.reduceBEq, Nat.reduceAdd, Nat.reduceSub, Nat.reduceMul, Nat.reduceLeDiff, Nat.reduceLT, Nat.reduceEqDiff, Nat.zero_add, Nat.add_zero, Nat.zero_mul, Nat.le_refl, and_self, and_true, true_and, if_true, reduceIte, ite_true, ite_false, Bool.and_true, Bool.true_and, Bool.and_false, Bool.false_and, Bool.not_true, Bool.not_false, Bool.or_true, Bool.or_false, Bool.true_or, Bool.false_or, Int.toNat_zero, Int.toNat_natCast, Int.reduceToNat, Int.reduceLE, Int.reduceLT, Int.reduceBEq, reduceCtorEq, decide_true, decide_false, Bool.false_eq_true, Nat.sub_zero, List.toList_toArray, List.foldl_cons, en178, ok178, en145, ok145, en148, ok148, en43, ok43, en88, ok88, en90, ok90, en49, ok49, en130_eq, ok130, en186, ok186, en137_eq, ok137, en192, ok192, tyF])) : H → Good C it st := fun x => good_adoptcF k0 o k z g0 cs hs hz hc hk (g x)
theorem freeze_ {H : Prop} {C : Ctx} {it : List Item} {st : St} (s : Nat) {k g lo n z : Nat} {rows : Rows}
  (h : H → Good C it { fr := (s, .p (.lst false ((rows.drop lo).take n))) :: st.fr, mem := mset st.mem k (g, .gone) }) (hs : fget st.fr s = .buf k g lo n := by 
   exact smr_) (hk : lk st.mem k = some (g, .buf z rows) := by 
   exact smr_) : H → Good C it st := fun x => good_freeze s hs hk (h x)
theorem freezeN_ {H : Prop} {C : Ctx} {it : List Item} {st : St} (s : Nat) {k g lo n z : Nat} {rows : Rows}
  (h : H → Good C it { fr := (s, .nw (.lst false ((rows.drop lo).take n))) :: st.fr, mem := mset st.mem k (g, .gone) }) (hs : fget st.fr s = .buf k g lo n := by 
   exact smr_) (hk : lk st.mem k = some (g, .bufn z rows) := by 
   exact smr_) : H → Good C it st := fun x => good_freezeN s hs hk (h x)
theorem adoptB_ {H : Prop} {C : Ctx} {it : List Item} {st : St} (s k z : Nat) (g : H → Good C it { fr := (s, .buf k ((ent st.mem k).1 + 1) 0 0) :: st.fr, mem := mset st.mem k ((ent st.mem k).1 + 1, .buf z []) }) (hs : nilOrE (fget st.fr s) = true := by 
   (simp only [run, afterR, condC, exitC, exitTo, runO, step1, ofO, fpOf, fpK, writes, de, deT, deB, opD, dstOk, isCall, stepOp, finO, memPut, mset, entO, ent, core, constB, mkeyOf, mval, mrowOf, tupIf, liveM, kOf_i, kOf_s, mkEq_self, mhas_i, mhas_s, midx_i, midx_s, mrow_ii, mrow_ib, mrow_is, mrow_si, mrow_sb, mrow_ss, ment_ii, ment_ib, ment_is, ment_si, ment_sb, ment_ss, mset1_ii, mset1_ib, mset1_is, mset1_si, mset1_sb, mset1_ss, mput_ii, mput_ib, mput_is, mput_si, mput_sb, mput_ss, tst_map, coreB, lenA, minA, maxA, rowsB, appT, keyApp, keyV, keyL, liveC, liveB, liveZ, keyOf, oget, fget, lk, ofConst, cellsC, aggC, cell1, eff, binop, intOp, strOp, unop, ld, splice, fillP, aplace, placeOf, rowsN, oint, AV.cells, AV.pv, PV.std, AV.rows, pvs, appN, appC, rowsOk, irow, srw, brw, lrw, St.put, back, renA, ren1, ren0, renO, resOf, resAll, resOne, tupOf, fnOf, rk, inn, ok1, okB, okA, okT, okO, ok0, renB, liveP, liveZ0, nagg, one1, scH, bldZ, nvs, AV.nv, PV.sc, PV.isL, nilOrE, List.filter_cons, List.filter_nil, List.all_cons, List.all_nil,   unint, unint_map, bytesOf_eq, bnd_, rowsOk_irow, rowsOk_srw, rowsOk_brw, rowsOk_lrw, rowsOk_app, take_map_len, map_set_, set_map_,   List.range, List.range.loop, List.zip, List.zipWith, List.zip_cons_cons, List.zip_nil_left, List.zip_nil_right, List.length_cons, List.length_nil, List.length_map, List.length_append, List.map_cons, List.map_nil, List.map_append, List.getElem?_map, List.drop_succ_cons, List.drop_zero, List.drop_nil, List.take_succ_cons, List.take_zero, List.take_nil, List.take_length, List.set_cons_succ, List.set_cons_zero, List.head?_cons, List.head?_nil, List.getElem?_cons_succ, List.getElem?_cons_zero, List.append_nil, List.nil_append, List.cons_append, List.append_assoc, List.flatten_cons, List.flatten_nil, List.replicate_succ, List.replicate_zero, List.contains_cons, List.contains_nil, List.isEmpty_nil, List.isEmpty_cons, List.map_drop, List.map_take, List.map_replicate, List.length_replicate, List.length_set,   cond_true, cond_false, Option.map_some, Option.map_none, Option.bind_some, Option.bind_none, Option.getD_some, Option.getD_none, Option.isSome_some, Option.isSome_none, beq_self_eq_true, BEq.rfl, Nat.reduceBEq, Nat.reduceAdd, Nat.reduceSub, Nat.reduceMul, Nat.reduceLeDiff, Nat.reduceLT, Nat.reduceEqDiff, Nat.zero_add, Nat.add_zero, Nat.zero_mul, Nat.le_refl, and_self, and_true, true_and, if_true, reduceIte, ite_true, ite_false, Bool.and_true, Bool.true_and, Bool.and_false, Bool.false_and, Bool.not_true, Bool.not_false, Bool.or_true, Bool.or_false, Bool.true_or, Bool.false_or, Int.toNat_zero, Int.toNat_natCast, Int.reduceToNat, Int.reduceLE, Int.reduceLT, Int.reduceBEq, reduceCtorEq, decide_true, decide_false, Bool.false_eq_true, Nat.sub_zero, List.toList_toArray, List.foldl_cons, en178, ok178, en145, ok145, en148, ok148, en43, ok43, en88, ok88, en90, ok90, en49, ok49, en130_eq, ok130, en186, ok186, en137_eq, ok137, en192, ok192, tyF, *])) : H → Good C it st := fun x => good_adoptB s k z hs (g x)
def poolSt (d : Nat) (st : St) : St := { fr := st.fr.map (fun q => (q.1, poolA d ((ent st.mem d).1 + 1) q.2)), mem := mset (poolM d ((ent st.mem d).1 + 1) st.mem) d ((ent st.mem d).1 + 1, .pool) }
theorem cleanBuf {α : Type} (s : Nat) (f : α → List PV) (l : List α) (h : ∀ x, (f x).all pc = true) : cleanO (.buf s (List.map f l)) = true := by
  simp only [cleanO, List.all_eq_true, List.mem_map]; rintro r ⟨x, _, rfl⟩; exact List.all_eq_true.1 (h x)
theorem pool_ {H : Prop} {C : Ctx} {it : List Item} {st : St} (d : Nat) (st' st2 : St) (g : H → Good C it st2) (hN : C.w0.heap.size ≤ C.ι0.fr.N := by assumption) (hf : frLe st.fr st'.fr := by exact frle_) (hm : memLe st.mem st'.mem ∧ memKeys st.mem st'.mem := by exact memle_)
   (hcl : st'.fr.all (fun q => cleanA q.2) = true := by rfl) (hco : ∀ q ∈ st'.mem, cleanO q.2.2 = true := by ((repeat' first | exact all0 | refine all1 ?_ ?_); all_goals first | rfl | exact cleanBuf _ _ _ (fun x => rfl))) (hd : (ent st'.mem d).2 = .gone := by rfl) (e : poolSt d st' = st2 := by rfl) : H → Good C it st := fun x =>
  good_weak st' hf hm (good_pool d hN hcl (List.all_eq_true.2 fun q hq => hco q hq) hd (by have := g x; rw [← e] at this; exact this))
theorem ret_ {C : Ctx} {fn : Func} {k : List Item} {st : St} {v : AV} (hfn : C.P.funcs[C.f]? = some fn) (σ : Sg) (hr : resOf C.P fn.results.toList st = some v := by 
   exact smr_) (hle : LeT v (renA σ C.res) := by
   (simp only [run, afterR, condC, exitC, exitTo, runO, step1, ofO, fpOf, fpK, writes, de, deT, deB, opD, dstOk, isCall, stepOp, finO, memPut, mset, entO, ent, core, constB, mkeyOf, mval, mrowOf, tupIf, liveM, kOf_i, kOf_s, mkEq_self, mhas_i, mhas_s, midx_i, midx_s, mrow_ii, mrow_ib, mrow_is, mrow_si, mrow_sb, mrow_ss, ment_ii, ment_ib, ment_is, ment_si, ment_sb, ment_ss, mset1_ii, mset1_ib, mset1_is, mset1_si, mset1_sb, mset1_ss, mput_ii, mput_ib, mput_is, mput_si, mput_sb, mput_ss, tst_map, coreB, lenA, minA, maxA, rowsB, appT, keyApp, keyV, keyL, liveC, liveB, liveZ, keyOf, oget, fget, lk, ofConst, cellsC, aggC, cell1, eff, binop, intOp, strOp, unop, ld, splice, fillP, aplace, placeOf, rowsN, oint, AV.cells, AV.pv, PV.std, AV.rows, pvs, appN, appC, rowsOk, irow, srw, brw, lrw, St.put, back, renA, ren1, ren0, renO, resOf, resAll, resOne, tupOf, fnOf, rk, inn, ok1, okB, okA, okT, okO, ok0, renB, liveP, liveZ0, nagg, one1, scH, bldZ, nvs, AV.nv, PV.sc, PV.isL, nilOrE, List.filter_cons, List.filter_nil, List.all_cons, List.all_nil,   unint, unint_map, bytesOf_eq, bnd_, rowsOk_irow, rowsOk_srw, rowsOk_brw, rowsOk_lrw, rowsOk_app, take_map_len, map_set_, set_map_,   List.range, List.range.loop, List.zip, List.zipWith, List.zip_cons_cons, List.zip_nil_left, List.zip_nil_right, List.length_cons, List.length_nil, List.length_map, List.length_append, List.map_cons, List.map_nil, List.map_append, List.getElem?_map, List.drop_succ_cons, List.drop_zero, List.drop_nil, List.take_succ_cons, List.take_zero, List.take_nil, List.take_length, List.set_cons_succ, List.set_cons_zero, List.head?_cons, List.head?_nil, List.getElem?_cons_succ, List.getElem?_cons_zero, List.append_nil, List.nil_append, List.cons_append, List.append_assoc, List.flatten_cons, List.flatten_nil, List.replicate_succ, List.replicate_zero, List.contains_cons, List.contains_nil, List.isEmpty_nil, List.isEmpty_cons, List.map_drop, List.map_take, List.map_replicate, List.length_replicate, List.length_set,   cond_true, cond_false, Option.map_some, Option.map_none, Option.bind_some, Option.bind_none, Option.getD_some, Option.getD_none, Option.isSome_some, Option.isSome_none, beq_self_eq_true, BEq.rfl, Nat.reduceBEq, Nat.reduceAdd, Nat.reduceSub, Nat.reduceMul, Nat.reduceLeDiff, Nat.reduceLT, Nat.reduceEqDiff, Nat.zero_add, Nat.add_zero, Nat.zero_mul, Nat.le_refl, and_self, and_true, true_and, if_true, reduceIte, ite_true, ite_false, Bool.and_true, Bool.true_and, Bool.and_false, Bool.false_and, Bool.not_true, Bool.not_false, Bool.or_true, Bool.or_false, Bool.true_or, Bool.false_or, Int.toNat_zero, Int.toNat_natCast, Int.reduceToNat, Int.reduceLE, Int.reduceLT, Int.reduceBEq, reduceCtorEq, decide_true, decide_false, Bool.false_eq_true, Nat.sub_zero, List.toList_toArray, List.foldl_cons, en178, ok178, en145, ok145, en148, ok148, en43, ok43, en88, ok88, en90, ok90, en49, ok49, en130_eq, ok130, en186, ok186, en137_eq, ok137, en192, ok192, tyF, *]; repeat' first | exact LeT.of _ _ (LeA.of _ _ (Le.refl _)) | exact LeT.of _ _ (LeA.of _ _ (Le.nil _)) | exact LeT.of _ _ (LeA.of _ _ (Le.full _)) | exact LeT.of _ _ (LeA.of _ _ (Le.tip _ _ _)) | exact LeA.of _ _ (Le.refl _) | exact LeA.of _ _ (Le.nil _) | exact LeA.of _ _ (Le.full _) | exact LeA.of _ _ (Le.tip _ _ _) | exact LeA.of _ _ (Le.nwp _) | exact LeA.of _ _ (Le.odp _) | exact F2.nil | exact Le.refl _ | exact Le.nil _ | exact Le.full _ | exact Le.tip _ _ _ | exact Le.nwp _ | exact Le.odp _ | refine F2.cons ?_ ?_ | refine LeT.tup _ _ ?_ | refine LeT.of _ _ (LeA.agg _ _ ?_) | refine LeA.agg _ _ ?_)) (hok : okT (inn σ C.mem) C.res = true := by (first | rfl | exact sm_)) (hm : EndOk σ st.mem C.mem C.m0 := by exact endOk_) : Good C (.code .ret :: k) st := good_ret_ σ hfn hr hle hok hm
theorem end_ {C : Ctx} {fn : Func} {st : St} {v : AV} (hfn : C.P.funcs[C.f]? = some fn) (σ : Sg) (hr : resOf C.P fn.results.toList st = some v := by 
   exact smr_) (hle : LeT v (renA σ C.res) := by
   (simp only [run, afterR, condC, exitC, exitTo, runO, step1, ofO, fpOf, fpK, writes, de, deT, deB, opD, dstOk, isCall, stepOp, finO, memPut, mset, entO, ent, core, constB, mkeyOf, mval, mrowOf, tupIf, liveM, kOf_i, kOf_s, mkEq_self, mhas_i, mhas_s, midx_i, midx_s, mrow_ii, mrow_ib, mrow_is, mrow_si, mrow_sb, mrow_ss, ment_ii, ment_ib, ment_is, ment_si, ment_sb, ment_ss, mset1_ii, mset1_ib, mset1_is, mset1_si, mset1_sb, mset1_ss, mput_ii, mput_ib, mput_is, mput_si, mput_sb, mput_ss, tst_map, coreB, lenA, minA, maxA, rowsB, appT, keyApp, keyV, keyL, liveC, liveB, liveZ, keyOf, oget, fget, lk, ofConst, cellsC, aggC, cell1, eff, binop, intOp, strOp, unop, ld, splice, fillP, aplace, placeOf, rowsN, oint, AV.cells, AV.pv, PV.std, AV.rows, pvs, appN, appC, rowsOk, irow, srw, brw, lrw, St.put, back, renA, ren1, ren0, renO, resOf, resAll, resOne, tupOf, fnOf, rk, inn, ok1, okB, okA, okT, okO, ok0, renB, liveP, liveZ0, nagg, one1, scH, bldZ, nvs, AV.nv, PV.sc, PV.isL, nilOrE, List.filter_cons, List.filter_nil, List.all_cons, List.all_nil,   unint, unint_map, bytesOf_eq, bnd_, rowsOk_irow, rowsOk_srw, rowsOk_brw, rowsOk_lrw, rowsOk_app, take_map_len, map_set_, set_map_,   List.range, List.range.loop, List.zip, List.zipWith, List.zip_cons_cons, List.zip_nil_left, List.zip_nil_right, List.length_cons, List.length_nil, List.length_map, List.length_append, List.map_cons, List.map_nil, List.map_append, List.getElem?_map, List.drop_succ_cons, List.drop_zero, List.drop_nil, List.take_succ_cons, List.take_zero, List.take_nil, List.take_length, List.set_cons_succ, List.set_cons_zero, List.head?_cons, List.head?_nil, List.getElem?_cons_succ, List.getElem?_cons_zero, List.append_nil, List.nil_append, List.cons_append, List.append_assoc, List.flatten_cons, List.flatten_nil, List.replicate_succ, List.replicate_zero, List.contains_cons, List.contains_nil, List.isEmpty_nil, List.isEmpty_cons, List.map_drop, List.map_take, List.map_replicate, List.length_replicate, List.length_set,   cond_true, cond_false, Option.map_some, Option.map_none, Option.bind_some, Option.bind_none, Option.getD_some, Option.getD_none, Option.isSome_some, Option.isSome_none, beq_self_eq_true, BEq.rfl, Nat.reduceBEq, Nat.reduceAdd, Nat.reduceSub, Nat.reduceMul, Nat.reduceLeDiff, Nat.reduceLT, Nat.reduceEqDiff, Nat.zero_add, Nat.add_zero, Nat.zero_mul, Nat.le_refl, and_self, and_true, true_and, if_true, reduceIte, ite_true, ite_false, Bool.and_true, Bool.true_and, Bool.and_false, Bool.false_and, Bool.not_true, Bool.not_false, Bool.or_true, Bool.or_false, Bool.true_or, Bool.false_or, Int.toNat_zero, Int.toNat_natCast, Int.reduceToNat, Int.reduceLE, Int.reduceLT, Int.reduceBEq, reduceCtorEq, decide_true, decide_false, Bool.false_eq_true, Nat.sub_zero, List.toList_toArray, List.foldl_cons, en178, ok178, en145, ok145, en148, ok148, en43, ok43, en88, ok88, en90, ok90, en49, ok49, en130_eq, ok130, en186, ok186, en137_eq, ok137, en192, ok192, tyF, *]; repeat' first | exact LeT.of _ _ (LeA.of _ _ (Le.refl _)) | exact LeT.of _ _ (LeA.of _ _ (Le.nil _)) | exact LeT.of _ _ (LeA.of _ _ (Le.full _)) | exact LeT.of _ _ (LeA.of _ _ (Le.tip _ _ _)) | exact LeA.of _ _ (Le.refl _) | exact LeA.of _ _ (Le.nil _) | exact LeA.of _ _ (Le.full _) | exact LeA.of _ _ (Le.tip _ _ _) | exact LeA.of _ _ (Le.nwp _) | exact LeA.of _ _ (Le.odp _) | exact F2.nil | exact Le.refl _ | exact Le.nil _ | exact Le.full _ | exact Le.tip _ _ _ | exact Le.nwp _ | exact Le.odp _ | refine F2.cons ?_ ?_ | refine LeT.tup _ _ ?_ | refine LeT.of _ _ (LeA.agg _ _ ?_) | refine LeA.agg _ _ ?_)) (hok : okT (inn σ C.mem) C.res = true := by (first | rfl | exact sm_)) (hm : EndOk σ st.mem C.mem C.m0 := by exact endOk_) : Good C [] st := good_end_ σ hfn hr hle hok hm

end Go.Ab
