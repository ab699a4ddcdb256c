/- Facts of this program's types; its struct types; the rules, each with what closes its sides. No condition. -/
import Derived.Test.YtkjoeomgnkfljaaGreatDoorAbR
import Derived.Test.YtkjoeomgnkfljaaGreatDoorProg
import Derived.KernelRfl
import Derived.Lib.LaidTab
import Derived.Lib.ItoaNum
namespace Go.Ab
open Go.Proofs
set_option linter.unusedVariables false
set_option linter.unusedSimpArgs false
/-- The table internal/strconv.uint64pow10 is the program's. -/
def Gp (w : World) : Prop := Lib.TabIs Tryz.prog w "internal/strconv.uint64pow10" .u64 Lib.pow10Tab
/-- strconv.ErrSyntax and strconv.ErrRange hold some error. -/
def Ge (w : World) : Prop := (∃ ev, w.cell? ⟨2, 0, none⟩ = some ev ∧ (ev = .nilIface ∨ ∃ te pe, ev = .iface te pe)) ∧ (∃ ev, w.cell? ⟨3, 0, none⟩ = some ev ∧ (ev = .nilIface ∨ ∃ te pe, ev = .iface te pe))
/-- What must be known of the world. -/
class KOk (K : Kn) : Prop where
 known : ∀ w : World, Knows K w → Gp w ∧ Ge w

set_option maxRecDepth 100000 in
theorem tyF : isAggB Tryz.prog 2 = some false ∧
 tsize Tryz.prog 2 = some 1 ∧
 zeroCells Tryz.prog 2 = some [.p (.int .i64 0)] ∧
 tkind Tryz.prog 2 = .int .i64 ∧
 notIntT Tryz.prog 2 = false ∧
 szPos Tryz.prog 2 = true ∧
 isAggB Tryz.prog 3 = some false ∧
 tsize Tryz.prog 3 = some 1 ∧
 zeroCells Tryz.prog 3 = some [.p (.int .i64 0)] ∧
 tkind Tryz.prog 3 = .int .i64 ∧
 notIntT Tryz.prog 3 = false ∧
 szPos Tryz.prog 3 = true ∧
 isAggB Tryz.prog 4 = some false ∧
 tsize Tryz.prog 4 = some 1 ∧
 zeroCells Tryz.prog 4 = some [.p (.bool false)] ∧
 tkind Tryz.prog 4 = .other ∧
 isBoolT Tryz.prog 4 = true ∧
 notIntT Tryz.prog 4 = true ∧
 szPos Tryz.prog 4 = true ∧
 isAggB Tryz.prog 5 = some false ∧
 tsize Tryz.prog 5 = some 1 ∧
 zeroCells Tryz.prog 5 = some [.p (.int .u8 0)] ∧
 tkind Tryz.prog 5 = .int .u8 ∧
 notIntT Tryz.prog 5 = false ∧
 szPos Tryz.prog 5 = true ∧
 isAggB Tryz.prog 9 = some false ∧
 tsize Tryz.prog 9 = some 1 ∧
 zeroCells Tryz.prog 9 = some [.p (.str (⟨#[]⟩ : ByteArray))] ∧
 tkind Tryz.prog 9 = .str ∧
 notIntT Tryz.prog 9 = true ∧
 szPos Tryz.prog 9 = true ∧
 isStrT Tryz.prog 9 = true ∧
 isAggB Tryz.prog 22 = some false ∧
 tsize Tryz.prog 22 = some 1 ∧
 sliceOf Tryz.prog 22 = some 3 ∧
 core.elemZero Tryz.prog 22 = some [.p (.int .i64 0), .p .nilS, .p .nilS] ∧
 zeroCells Tryz.prog 22 = some [.p .nilS] ∧
 tkind Tryz.prog 22 = .other ∧
 notIntT Tryz.prog 22 = true ∧
 szPos Tryz.prog 22 = true ∧
 isAggB Tryz.prog 23 = some false ∧
 tsize Tryz.prog 23 = some 1 ∧
 sliceOf Tryz.prog 23 = some 5 ∧
 core.elemZero Tryz.prog 23 = some [.p (.int .i64 0), .p (.str (⟨#[]⟩ : ByteArray)), .p (.int .i64 0), .p (.int .i64 0), .p .nilS] ∧
 zeroCells Tryz.prog 23 = some [.p .nilS] ∧
 tkind Tryz.prog 23 = .other ∧
 notIntT Tryz.prog 23 = true ∧
 szPos Tryz.prog 23 = true ∧
 isAggB Tryz.prog 25 = some true ∧
 tsize Tryz.prog 25 = some 2 ∧
 sizedB Tryz.prog 25 = true ∧
 fieldOf Tryz.prog 25 0 = some (0, 22) ∧
 fieldOf Tryz.prog 25 1 = some (1, 23) ∧
 arrOf Tryz.prog 25 = none ∧
 zeroCells Tryz.prog 25 = some [.p .nilS, .p .nilS] ∧
 tkind Tryz.prog 25 = .other ∧
 notIntT Tryz.prog 25 = true ∧
 szPos Tryz.prog 25 = true ∧
 isAggB Tryz.prog 27 = some false ∧
 tsize Tryz.prog 27 = some 1 ∧
 sliceOf Tryz.prog 27 = some 1 ∧
 core.elemZero Tryz.prog 27 = some [.p (.int .i64 0)] ∧
 zeroCells Tryz.prog 27 = some [.p .nilS] ∧
 tkind Tryz.prog 27 = .other ∧
 notIntT Tryz.prog 27 = true ∧
 szPos Tryz.prog 27 = true ∧
 isAggB Tryz.prog 29 = some false ∧
 tsize Tryz.prog 29 = some 1 ∧
 sliceOf Tryz.prog 29 = some 3 ∧
 core.elemZero Tryz.prog 29 = some [.p (.int .i64 0), .p .nilS, .p .nilS] ∧
 zeroCells Tryz.prog 29 = some [.p .nilS] ∧
 tkind Tryz.prog 29 = .other ∧
 notIntT Tryz.prog 29 = true ∧
 szPos Tryz.prog 29 = true ∧
 isAggB Tryz.prog 30 = some false ∧
 tsize Tryz.prog 30 = some 1 ∧
 sliceOf Tryz.prog 30 = some 5 ∧
 core.elemZero Tryz.prog 30 = some [.p (.int .i64 0), .p (.str (⟨#[]⟩ : ByteArray)), .p (.int .i64 0), .p (.int .i64 0), .p .nilS] ∧
 zeroCells Tryz.prog 30 = some [.p .nilS] ∧
 tkind Tryz.prog 30 = .other ∧
 notIntT Tryz.prog 30 = true ∧
 szPos Tryz.prog 30 = true ∧
 isAggB Tryz.prog 32 = some true ∧
 tsize Tryz.prog 32 = some 2 ∧
 sizedB Tryz.prog 32 = true ∧
 fieldOf Tryz.prog 32 0 = some (0, 29) ∧
 fieldOf Tryz.prog 32 1 = some (1, 30) ∧
 arrOf Tryz.prog 32 = none ∧
 zeroCells Tryz.prog 32 = some [.p .nilS, .p .nilS] ∧
 tkind Tryz.prog 32 = .other ∧
 notIntT Tryz.prog 32 = true ∧
 szPos Tryz.prog 32 = true ∧
 isAggB Tryz.prog 39 = some false ∧
 tsize Tryz.prog 39 = some 1 ∧
 sliceOf Tryz.prog 39 = some 2 ∧
 core.elemZero Tryz.prog 39 = some [.p (.int .i64 0), .p (.int .i64 0)] ∧
 zeroCells Tryz.prog 39 = some [.p .nilS] ∧
 tkind Tryz.prog 39 = .other ∧
 notIntT Tryz.prog 39 = true ∧
 szPos Tryz.prog 39 = true ∧
 isAggB Tryz.prog 41 = some true ∧
 tsize Tryz.prog 41 = some 4 ∧
 sizedB Tryz.prog 41 = true ∧
 fieldOf Tryz.prog 41 0 = some (0, 2) ∧
 fieldOf Tryz.prog 41 1 = some (1, 2) ∧
 fieldOf Tryz.prog 41 2 = some (2, 39) ∧
 fieldOf Tryz.prog 41 3 = some (3, 27) ∧
 arrOf Tryz.prog 41 = none ∧
 zeroCells Tryz.prog 41 = some [.p (.int .i64 0), .p (.int .i64 0), .p .nilS, .p .nilS] ∧
 tkind Tryz.prog 41 = .other ∧
 notIntT Tryz.prog 41 = true ∧
 szPos Tryz.prog 41 = true ∧
 isAggB Tryz.prog 44 = some false ∧
 tsize Tryz.prog 44 = some 1 ∧
 sliceOf Tryz.prog 44 = some 2 ∧
 core.elemZero Tryz.prog 44 = some [.p (.int .i64 0), .p (.int .i64 0)] ∧
 zeroCells Tryz.prog 44 = some [.p .nilS] ∧
 tkind Tryz.prog 44 = .other ∧
 notIntT Tryz.prog 44 = true ∧
 szPos Tryz.prog 44 = true ∧
 isAggB Tryz.prog 46 = some true ∧
 tsize Tryz.prog 46 = some 4 ∧
 sizedB Tryz.prog 46 = true ∧
 fieldOf Tryz.prog 46 0 = some (0, 2) ∧
 fieldOf Tryz.prog 46 1 = some (1, 2) ∧
 fieldOf Tryz.prog 46 2 = some (2, 44) ∧
 fieldOf Tryz.prog 46 3 = some (3, 27) ∧
 arrOf Tryz.prog 46 = none ∧
 zeroCells Tryz.prog 46 = some [.p (.int .i64 0), .p (.int .i64 0), .p .nilS, .p .nilS] ∧
 tkind Tryz.prog 46 = .other ∧
 notIntT Tryz.prog 46 = true ∧
 szPos Tryz.prog 46 = true ∧
 isAggB Tryz.prog 50 = some false ∧
 tsize Tryz.prog 50 = some 1 ∧
 sliceOf Tryz.prog 50 = some 3 ∧
 core.elemZero Tryz.prog 50 = some [.p (.int .i64 0), .p (.str (⟨#[]⟩ : ByteArray)), .p (.int .i64 0)] ∧
 zeroCells Tryz.prog 50 = some [.p .nilS] ∧
 tkind Tryz.prog 50 = .other ∧
 notIntT Tryz.prog 50 = true ∧
 szPos Tryz.prog 50 = true ∧
 isAggB Tryz.prog 52 = some false ∧
 tsize Tryz.prog 52 = some 1 ∧
 sliceOf Tryz.prog 52 = some 1 ∧
 core.elemZero Tryz.prog 52 = some [.p (.str (⟨#[]⟩ : ByteArray))] ∧
 zeroCells Tryz.prog 52 = some [.p .nilS] ∧
 tkind Tryz.prog 52 = .other ∧
 notIntT Tryz.prog 52 = true ∧
 szPos Tryz.prog 52 = true ∧
 isAggB Tryz.prog 54 = some false ∧
 tsize Tryz.prog 54 = some 1 ∧
 sliceOf Tryz.prog 54 = some 3 ∧
 core.elemZero Tryz.prog 54 = some [.p (.int .i64 0), .p (.str (⟨#[]⟩ : ByteArray)), .p (.int .i64 0)] ∧
 zeroCells Tryz.prog 54 = some [.p .nilS] ∧
 tkind Tryz.prog 54 = .other ∧
 notIntT Tryz.prog 54 = true ∧
 szPos Tryz.prog 54 = true ∧
 isAggB Tryz.prog 61 = some false ∧
 tsize Tryz.prog 61 = some 1 ∧
 sliceOf Tryz.prog 61 = some 12 ∧
 core.elemZero Tryz.prog 61 = some [.p (.int .i64 0), .p (.int .i64 0), .p .nilS, .p .nilS, .p (.int .i64 0), .p (.str (⟨#[]⟩ : ByteArray)), .p (.int .i64 0), .p (.int .i64 0), .p .nilS, .p (.str (⟨#[]⟩ : ByteArray)), .p (.str (⟨#[]⟩ : ByteArray)), .p (.str (⟨#[]⟩ : ByteArray))] ∧
 zeroCells Tryz.prog 61 = some [.p .nilS] ∧
 tkind Tryz.prog 61 = .other ∧
 notIntT Tryz.prog 61 = true ∧
 szPos Tryz.prog 61 = true ∧
 isAggB Tryz.prog 64 = some false ∧
 tsize Tryz.prog 64 = some 1 ∧
 sliceOf Tryz.prog 64 = some 12 ∧
 core.elemZero Tryz.prog 64 = some [.p (.int .i64 0), .p (.int .i64 0), .p .nilS, .p .nilS, .p (.int .i64 0), .p (.str (⟨#[]⟩ : ByteArray)), .p (.int .i64 0), .p (.int .i64 0), .p .nilS, .p (.str (⟨#[]⟩ : ByteArray)), .p (.str (⟨#[]⟩ : ByteArray)), .p (.str (⟨#[]⟩ : ByteArray))] ∧
 zeroCells Tryz.prog 64 = some [.p .nilS] ∧
 tkind Tryz.prog 64 = .other ∧
 notIntT Tryz.prog 64 = true ∧
 szPos Tryz.prog 64 = true ∧
 isAggB Tryz.prog 73 = some true ∧
 tsize Tryz.prog 73 = some 1 ∧
 sizedB Tryz.prog 73 = true ∧
 fieldOf Tryz.prog 73 0 = some (0, 27) ∧
 arrOf Tryz.prog 73 = none ∧
 zeroCells Tryz.prog 73 = some [.p .nilS] ∧
 tkind Tryz.prog 73 = .other ∧
 notIntT Tryz.prog 73 = true ∧
 szPos Tryz.prog 73 = true ∧
 isAggB Tryz.prog 76 = some true ∧
 tsize Tryz.prog 76 = some 1 ∧
 sizedB Tryz.prog 76 = true ∧
 fieldOf Tryz.prog 76 0 = some (0, 27) ∧
 arrOf Tryz.prog 76 = none ∧
 zeroCells Tryz.prog 76 = some [.p .nilS] ∧
 tkind Tryz.prog 76 = .other ∧
 notIntT Tryz.prog 76 = true ∧
 szPos Tryz.prog 76 = true ∧
 isAggB Tryz.prog 81 = some true ∧
 tsize Tryz.prog 81 = some 3 ∧
 sizedB Tryz.prog 81 = true ∧
 fieldOf Tryz.prog 81 0 = some (0, 2) ∧
 fieldOf Tryz.prog 81 1 = some (1, 27) ∧
 fieldOf Tryz.prog 81 2 = some (2, 27) ∧
 arrOf Tryz.prog 81 = none ∧
 zeroCells Tryz.prog 81 = some [.p (.int .i64 0), .p .nilS, .p .nilS] ∧
 tkind Tryz.prog 81 = .other ∧
 notIntT Tryz.prog 81 = true ∧
 szPos Tryz.prog 81 = true ∧
 isAggB Tryz.prog 84 = some true ∧
 tsize Tryz.prog 84 = some 3 ∧
 sizedB Tryz.prog 84 = true ∧
 fieldOf Tryz.prog 84 0 = some (0, 2) ∧
 fieldOf Tryz.prog 84 1 = some (1, 27) ∧
 fieldOf Tryz.prog 84 2 = some (2, 27) ∧
 arrOf Tryz.prog 84 = none ∧
 zeroCells Tryz.prog 84 = some [.p (.int .i64 0), .p .nilS, .p .nilS] ∧
 tkind Tryz.prog 84 = .other ∧
 notIntT Tryz.prog 84 = true ∧
 szPos Tryz.prog 84 = true ∧
 isAggB Tryz.prog 90 = some false ∧
 tsize Tryz.prog 90 = some 1 ∧
 sliceOf Tryz.prog 90 = some 1 ∧
 core.elemZero Tryz.prog 90 = some [.p (.int .i64 0)] ∧
 zeroCells Tryz.prog 90 = some [.p .nilS] ∧
 tkind Tryz.prog 90 = .other ∧
 notIntT Tryz.prog 90 = true ∧
 szPos Tryz.prog 90 = true ∧
 isAggB Tryz.prog 93 = some false ∧
 tsize Tryz.prog 93 = some 1 ∧
 sliceOf Tryz.prog 93 = some 2 ∧
 core.elemZero Tryz.prog 93 = some [.p (.str (⟨#[]⟩ : ByteArray)), .p (.str (⟨#[]⟩ : ByteArray))] ∧
 zeroCells Tryz.prog 93 = some [.p .nilS] ∧
 tkind Tryz.prog 93 = .other ∧
 notIntT Tryz.prog 93 = true ∧
 szPos Tryz.prog 93 = true ∧
 isAggB Tryz.prog 95 = some true ∧
 tsize Tryz.prog 95 = some 3 ∧
 sizedB Tryz.prog 95 = true ∧
 fieldOf Tryz.prog 95 0 = some (0, 2) ∧
 fieldOf Tryz.prog 95 1 = some (1, 52) ∧
 fieldOf Tryz.prog 95 2 = some (2, 93) ∧
 arrOf Tryz.prog 95 = none ∧
 zeroCells Tryz.prog 95 = some [.p (.int .i64 0), .p .nilS, .p .nilS] ∧
 tkind Tryz.prog 95 = .other ∧
 notIntT Tryz.prog 95 = true ∧
 szPos Tryz.prog 95 = true ∧
 isAggB Tryz.prog 108 = some true ∧
 tsize Tryz.prog 108 = some 2 ∧
 sizedB Tryz.prog 108 = true ∧
 fieldOf Tryz.prog 108 0 = some (0, 2) ∧
 fieldOf Tryz.prog 108 1 = some (1, 2) ∧
 arrOf Tryz.prog 108 = none ∧
 zeroCells Tryz.prog 108 = some [.p (.int .i64 0), .p (.int .i64 0)] ∧
 tkind Tryz.prog 108 = .other ∧
 notIntT Tryz.prog 108 = true ∧
 szPos Tryz.prog 108 = true ∧
 isAggB Tryz.prog 111 = some true ∧
 tsize Tryz.prog 111 = some 5 ∧
 sizedB Tryz.prog 111 = true ∧
 fieldOf Tryz.prog 111 0 = some (0, 2) ∧
 fieldOf Tryz.prog 111 1 = some (1, 9) ∧
 fieldOf Tryz.prog 111 2 = some (2, 2) ∧
 fieldOf Tryz.prog 111 3 = some (3, 2) ∧
 fieldOf Tryz.prog 111 4 = some (4, 93) ∧
 arrOf Tryz.prog 111 = none ∧
 zeroCells Tryz.prog 111 = some [.p (.int .i64 0), .p (.str (⟨#[]⟩ : ByteArray)), .p (.int .i64 0), .p (.int .i64 0), .p .nilS] ∧
 tkind Tryz.prog 111 = .other ∧
 notIntT Tryz.prog 111 = true ∧
 szPos Tryz.prog 111 = true ∧
 isAggB Tryz.prog 121 = some true ∧
 tsize Tryz.prog 121 = some 3 ∧
 sizedB Tryz.prog 121 = true ∧
 fieldOf Tryz.prog 121 0 = some (0, 2) ∧
 fieldOf Tryz.prog 121 1 = some (1, 9) ∧
 fieldOf Tryz.prog 121 2 = some (2, 2) ∧
 arrOf Tryz.prog 121 = none ∧
 zeroCells Tryz.prog 121 = some [.p (.int .i64 0), .p (.str (⟨#[]⟩ : ByteArray)), .p (.int .i64 0)] ∧
 tkind Tryz.prog 121 = .other ∧
 notIntT Tryz.prog 121 = true ∧
 szPos Tryz.prog 121 = true ∧
 isAggB Tryz.prog 125 = some true ∧
 tsize Tryz.prog 125 = some 3 ∧
 sizedB Tryz.prog 125 = true ∧
 fieldOf Tryz.prog 125 0 = some (0, 2) ∧
 fieldOf Tryz.prog 125 1 = some (1, 9) ∧
 fieldOf Tryz.prog 125 2 = some (2, 2) ∧
 arrOf Tryz.prog 125 = none ∧
 zeroCells Tryz.prog 125 = some [.p (.int .i64 0), .p (.str (⟨#[]⟩ : ByteArray)), .p (.int .i64 0)] ∧
 tkind Tryz.prog 125 = .other ∧
 notIntT Tryz.prog 125 = true ∧
 szPos Tryz.prog 125 = true ∧
 isAggB Tryz.prog 127 = some false ∧
 tsize Tryz.prog 127 = some 1 ∧
 sliceOf Tryz.prog 127 = some 4 ∧
 core.elemZero Tryz.prog 127 = some [.p (.int .i64 0), .p (.str (⟨#[]⟩ : ByteArray)), .p (.int .i64 0), .p .nilS] ∧
 zeroCells Tryz.prog 127 = some [.p .nilS] ∧
 tkind Tryz.prog 127 = .other ∧
 notIntT Tryz.prog 127 = true ∧
 szPos Tryz.prog 127 = true ∧
 isAggB Tryz.prog 129 = some true ∧
 tsize Tryz.prog 129 = some 4 ∧
 sizedB Tryz.prog 129 = true ∧
 fieldOf Tryz.prog 129 0 = some (0, 125) ∧
 fieldOf Tryz.prog 129 1 = some (3, 127) ∧
 arrOf Tryz.prog 129 = none ∧
 zeroCells Tryz.prog 129 = some [.p (.int .i64 0), .p (.str (⟨#[]⟩ : ByteArray)), .p (.int .i64 0), .p .nilS] ∧
 tkind Tryz.prog 129 = .other ∧
 notIntT Tryz.prog 129 = true ∧
 szPos Tryz.prog 129 = true ∧
 isAggB Tryz.prog 136 = some false ∧
 tsize Tryz.prog 136 = some 1 ∧
 sliceOf Tryz.prog 136 = some 2 ∧
 core.elemZero Tryz.prog 136 = some [.p (.str (⟨#[]⟩ : ByteArray)), .p (.str (⟨#[]⟩ : ByteArray))] ∧
 zeroCells Tryz.prog 136 = some [.p .nilS] ∧
 tkind Tryz.prog 136 = .other ∧
 notIntT Tryz.prog 136 = true ∧
 szPos Tryz.prog 136 = true ∧
 isAggB Tryz.prog 138 = some true ∧
 tsize Tryz.prog 138 = some 3 ∧
 sizedB Tryz.prog 138 = true ∧
 fieldOf Tryz.prog 138 0 = some (0, 2) ∧
 fieldOf Tryz.prog 138 1 = some (1, 52) ∧
 fieldOf Tryz.prog 138 2 = some (2, 136) ∧
 arrOf Tryz.prog 138 = none ∧
 zeroCells Tryz.prog 138 = some [.p (.int .i64 0), .p .nilS, .p .nilS] ∧
 tkind Tryz.prog 138 = .other ∧
 notIntT Tryz.prog 138 = true ∧
 szPos Tryz.prog 138 = true ∧
 isAggB Tryz.prog 140 = some true ∧
 tsize Tryz.prog 140 = some 5 ∧
 sizedB Tryz.prog 140 = true ∧
 fieldOf Tryz.prog 140 0 = some (0, 2) ∧
 fieldOf Tryz.prog 140 1 = some (1, 9) ∧
 fieldOf Tryz.prog 140 2 = some (2, 2) ∧
 fieldOf Tryz.prog 140 3 = some (3, 2) ∧
 fieldOf Tryz.prog 140 4 = some (4, 136) ∧
 arrOf Tryz.prog 140 = none ∧
 zeroCells Tryz.prog 140 = some [.p (.int .i64 0), .p (.str (⟨#[]⟩ : ByteArray)), .p (.int .i64 0), .p (.int .i64 0), .p .nilS] ∧
 tkind Tryz.prog 140 = .other ∧
 notIntT Tryz.prog 140 = true ∧
 szPos Tryz.prog 140 = true ∧
 isAggB Tryz.prog 142 = some true ∧
 tsize Tryz.prog 142 = some 12 ∧
 sizedB Tryz.prog 142 = true ∧
 fieldOf Tryz.prog 142 0 = some (0, 2) ∧
 fieldOf Tryz.prog 142 1 = some (1, 138) ∧
 fieldOf Tryz.prog 142 2 = some (4, 140) ∧
 fieldOf Tryz.prog 142 3 = some (9, 9) ∧
 fieldOf Tryz.prog 142 4 = some (10, 9) ∧
 fieldOf Tryz.prog 142 5 = some (11, 9) ∧
 arrOf Tryz.prog 142 = none ∧
 zeroCells Tryz.prog 142 = some [.p (.int .i64 0), .p (.int .i64 0), .p .nilS, .p .nilS, .p (.int .i64 0), .p (.str (⟨#[]⟩ : ByteArray)), .p (.int .i64 0), .p (.int .i64 0), .p .nilS, .p (.str (⟨#[]⟩ : ByteArray)), .p (.str (⟨#[]⟩ : ByteArray)), .p (.str (⟨#[]⟩ : ByteArray))] ∧
 tkind Tryz.prog 142 = .other ∧
 notIntT Tryz.prog 142 = true ∧
 szPos Tryz.prog 142 = true ∧
 isAggB Tryz.prog 146 = some true ∧
 tsize Tryz.prog 146 = some 12 ∧
 sizedB Tryz.prog 146 = true ∧
 fieldOf Tryz.prog 146 0 = some (0, 2) ∧
 fieldOf Tryz.prog 146 1 = some (1, 95) ∧
 fieldOf Tryz.prog 146 2 = some (4, 111) ∧
 fieldOf Tryz.prog 146 3 = some (9, 9) ∧
 fieldOf Tryz.prog 146 4 = some (10, 9) ∧
 fieldOf Tryz.prog 146 5 = some (11, 9) ∧
 arrOf Tryz.prog 146 = none ∧
 zeroCells Tryz.prog 146 = some [.p (.int .i64 0), .p (.int .i64 0), .p .nilS, .p .nilS, .p (.int .i64 0), .p (.str (⟨#[]⟩ : ByteArray)), .p (.int .i64 0), .p (.int .i64 0), .p .nilS, .p (.str (⟨#[]⟩ : ByteArray)), .p (.str (⟨#[]⟩ : ByteArray)), .p (.str (⟨#[]⟩ : ByteArray))] ∧
 tkind Tryz.prog 146 = .other ∧
 notIntT Tryz.prog 146 = true ∧
 szPos Tryz.prog 146 = true ∧
 isAggB Tryz.prog 149 = some false ∧
 tsize Tryz.prog 149 = some 1 ∧
 sliceOf Tryz.prog 149 = some 1 ∧
 core.elemZero Tryz.prog 149 = some [.p .nilS] ∧
 zeroCells Tryz.prog 149 = some [.p .nilS] ∧
 tkind Tryz.prog 149 = .other ∧
 notIntT Tryz.prog 149 = true ∧
 szPos Tryz.prog 149 = true ∧
 isAggB Tryz.prog 151 = some true ∧
 tsize Tryz.prog 151 = some 1 ∧
 sizedB Tryz.prog 151 = true ∧
 fieldOf Tryz.prog 151 0 = some (0, 149) ∧
 arrOf Tryz.prog 151 = none ∧
 zeroCells Tryz.prog 151 = some [.p .nilS] ∧
 tkind Tryz.prog 151 = .other ∧
 notIntT Tryz.prog 151 = true ∧
 szPos Tryz.prog 151 = true ∧
 isAggB Tryz.prog 153 = some false ∧
 tsize Tryz.prog 153 = some 1 ∧
 sliceOf Tryz.prog 153 = some 1 ∧
 core.elemZero Tryz.prog 153 = some [.p (.bool false)] ∧
 zeroCells Tryz.prog 153 = some [.p .nilS] ∧
 tkind Tryz.prog 153 = .other ∧
 notIntT Tryz.prog 153 = true ∧
 szPos Tryz.prog 153 = true ∧
 isAggB Tryz.prog 156 = some false ∧
 tsize Tryz.prog 156 = some 1 ∧
 sliceOf Tryz.prog 156 = some 6 ∧
 core.elemZero Tryz.prog 156 = some [.p (.int .i64 0), .p (.int .i64 0), .p (.int .i64 0), .p (.str (⟨#[]⟩ : ByteArray)), .p .nilS, .p .nilS] ∧
 zeroCells Tryz.prog 156 = some [.p .nilS] ∧
 tkind Tryz.prog 156 = .other ∧
 notIntT Tryz.prog 156 = true ∧
 szPos Tryz.prog 156 = true ∧
 isAggB Tryz.prog 158 = some true ∧
 tsize Tryz.prog 158 = some 6 ∧
 sizedB Tryz.prog 158 = true ∧
 fieldOf Tryz.prog 158 0 = some (0, 2) ∧
 fieldOf Tryz.prog 158 1 = some (1, 2) ∧
 fieldOf Tryz.prog 158 2 = some (2, 2) ∧
 fieldOf Tryz.prog 158 3 = some (3, 9) ∧
 fieldOf Tryz.prog 158 4 = some (4, 156) ∧
 fieldOf Tryz.prog 158 5 = some (5, 52) ∧
 arrOf Tryz.prog 158 = none ∧
 zeroCells Tryz.prog 158 = some [.p (.int .i64 0), .p (.int .i64 0), .p (.int .i64 0), .p (.str (⟨#[]⟩ : ByteArray)), .p .nilS, .p .nilS] ∧
 tkind Tryz.prog 158 = .other ∧
 notIntT Tryz.prog 158 = true ∧
 szPos Tryz.prog 158 = true ∧
 isAggB Tryz.prog 163 = some false ∧
 tsize Tryz.prog 163 = some 1 ∧
 sliceOf Tryz.prog 163 = some 6 ∧
 core.elemZero Tryz.prog 163 = some [.p (.int .i64 0), .p (.int .i64 0), .p (.int .i64 0), .p (.str (⟨#[]⟩ : ByteArray)), .p .nilS, .p .nilS] ∧
 zeroCells Tryz.prog 163 = some [.p .nilS] ∧
 tkind Tryz.prog 163 = .other ∧
 notIntT Tryz.prog 163 = true ∧
 szPos Tryz.prog 163 = true ∧
 isAggB Tryz.prog 165 = some true ∧
 tsize Tryz.prog 165 = some 6 ∧
 sizedB Tryz.prog 165 = true ∧
 fieldOf Tryz.prog 165 0 = some (0, 2) ∧
 fieldOf Tryz.prog 165 1 = some (1, 2) ∧
 fieldOf Tryz.prog 165 2 = some (2, 2) ∧
 fieldOf Tryz.prog 165 3 = some (3, 9) ∧
 fieldOf Tryz.prog 165 4 = some (4, 52) ∧
 fieldOf Tryz.prog 165 5 = some (5, 163) ∧
 arrOf Tryz.prog 165 = none ∧
 zeroCells Tryz.prog 165 = some [.p (.int .i64 0), .p (.int .i64 0), .p (.int .i64 0), .p (.str (⟨#[]⟩ : ByteArray)), .p .nilS, .p .nilS] ∧
 tkind Tryz.prog 165 = .other ∧
 notIntT Tryz.prog 165 = true ∧
 szPos Tryz.prog 165 = true ∧
 isAggB Tryz.prog 171 = some false ∧
 tsize Tryz.prog 171 = some 1 ∧
 zeroCells Tryz.prog 171 = some [.p .nilP] ∧
 tkind Tryz.prog 171 = .other ∧
 notIntT Tryz.prog 171 = true ∧
 szPos Tryz.prog 171 = true ∧
 isAggB Tryz.prog 175 = some false ∧
 tsize Tryz.prog 175 = some 1 ∧
 zeroCells Tryz.prog 175 = some [.p .nilP] ∧
 tkind Tryz.prog 175 = .other ∧
 notIntT Tryz.prog 175 = true ∧
 szPos Tryz.prog 175 = true ∧
 isAggB Tryz.prog 178 = some true ∧
 tsize Tryz.prog 178 = some 5 ∧
 sizedB Tryz.prog 178 = true ∧
 fieldOf Tryz.prog 178 0 = some (0, 32) ∧
 fieldOf Tryz.prog 178 1 = some (2, 153) ∧
 fieldOf Tryz.prog 178 2 = some (3, 153) ∧
 fieldOf Tryz.prog 178 3 = some (4, 153) ∧
 arrOf Tryz.prog 178 = none ∧
 zeroCells Tryz.prog 178 = some [.p .nilS, .p .nilS, .p .nilS, .p .nilS, .p .nilS] ∧
 tkind Tryz.prog 178 = .other ∧
 notIntT Tryz.prog 178 = true ∧
 szPos Tryz.prog 178 = true ∧
 isAggB Tryz.prog 184 = some false ∧
 tsize Tryz.prog 184 = some 1 ∧
 sliceOf Tryz.prog 184 = some 1 ∧
 core.elemZero Tryz.prog 184 = some [.p .nilS] ∧
 zeroCells Tryz.prog 184 = some [.p .nilS] ∧
 tkind Tryz.prog 184 = .other ∧
 notIntT Tryz.prog 184 = true ∧
 szPos Tryz.prog 184 = true ∧
 isAggB Tryz.prog 189 = some false ∧
 tsize Tryz.prog 189 = some 1 ∧
 zeroCells Tryz.prog 189 = some [.p .nilM] ∧
 tkind Tryz.prog 189 = .other ∧
 notIntT Tryz.prog 189 = true ∧
 szPos Tryz.prog 189 = true ∧
 isAggB Tryz.prog 194 = some true ∧
 tsize Tryz.prog 194 = some 2 ∧
 sizedB Tryz.prog 194 = true ∧
 fieldOf Tryz.prog 194 0 = some (0, 9) ∧
 fieldOf Tryz.prog 194 1 = some (1, 9) ∧
 arrOf Tryz.prog 194 = none ∧
 zeroCells Tryz.prog 194 = some [.p (.str (⟨#[]⟩ : ByteArray)), .p (.str (⟨#[]⟩ : ByteArray))] ∧
 tkind Tryz.prog 194 = .other ∧
 notIntT Tryz.prog 194 = true ∧
 szPos Tryz.prog 194 = true ∧
 isAggB Tryz.prog 196 = some false ∧
 tsize Tryz.prog 196 = some 1 ∧
 zeroCells Tryz.prog 196 = some [.p .nilM] ∧
 tkind Tryz.prog 196 = .other ∧
 mapTy Tryz.prog 196 = some (.str, false, [.int .i64 0]) ∧
 notIntT Tryz.prog 196 = true ∧
 szPos Tryz.prog 196 = true ∧
 isAggB Tryz.prog 198 = some true ∧
 tsize Tryz.prog 198 = some 2 ∧
 sizedB Tryz.prog 198 = true ∧
 fieldOf Tryz.prog 198 0 = some (0, 2) ∧
 fieldOf Tryz.prog 198 1 = some (1, 2) ∧
 arrOf Tryz.prog 198 = none ∧
 zeroCells Tryz.prog 198 = some [.p (.int .i64 0), .p (.int .i64 0)] ∧
 tkind Tryz.prog 198 = .other ∧
 notIntT Tryz.prog 198 = true ∧
 szPos Tryz.prog 198 = true ∧
 isAggB Tryz.prog 199 = some false ∧
 tsize Tryz.prog 199 = some 1 ∧
 zeroCells Tryz.prog 199 = some [.p .nilF] ∧
 tkind Tryz.prog 199 = .other ∧
 notIntT Tryz.prog 199 = true ∧
 szPos Tryz.prog 199 = true ∧
 isAggB Tryz.prog 206 = some true ∧
 tsize Tryz.prog 206 = some 2 ∧
 sizedB Tryz.prog 206 = true ∧
 fieldOf Tryz.prog 206 0 = some (0, 2) ∧
 fieldOf Tryz.prog 206 1 = some (1, 2) ∧
 arrOf Tryz.prog 206 = none ∧
 zeroCells Tryz.prog 206 = some [.p (.int .i64 0), .p (.int .i64 0)] ∧
 tkind Tryz.prog 206 = .other ∧
 notIntT Tryz.prog 206 = true ∧
 szPos Tryz.prog 206 = true ∧
 isAggB Tryz.prog 207 = some false ∧
 tsize Tryz.prog 207 = some 1 ∧
 zeroCells Tryz.prog 207 = some [.p .nilM] ∧
 tkind Tryz.prog 207 = .other ∧
 mapTy Tryz.prog 207 = some (.int .i64, false, [.int .i64 0]) ∧
 notIntT Tryz.prog 207 = true ∧
 szPos Tryz.prog 207 = true ∧
 isAggB Tryz.prog 215 = some false ∧
 tsize Tryz.prog 215 = some 1 ∧
 zeroCells Tryz.prog 215 = some [.p .nilF] ∧
 tkind Tryz.prog 215 = .other ∧
 notIntT Tryz.prog 215 = true ∧
 szPos Tryz.prog 215 = true ∧
 isAggB Tryz.prog 217 = some false ∧
 tsize Tryz.prog 217 = some 1 ∧
 sliceOf Tryz.prog 217 = some 1 ∧
 core.elemZero Tryz.prog 217 = some [.p (.int .u8 0)] ∧
 zeroCells Tryz.prog 217 = some [.p .nilS] ∧
 tkind Tryz.prog 217 = .bytes ∧
 notIntT Tryz.prog 217 = true ∧
 szPos Tryz.prog 217 = true ∧
 isAggB Tryz.prog 222 = some true ∧
 tsize Tryz.prog 222 = some 2 ∧
 sizedB Tryz.prog 222 = true ∧
 bldE Tryz.prog 222 = some 5 ∧
 fieldOf Tryz.prog 222 0 = some (0, 220) ∧
 fieldOf Tryz.prog 222 1 = some (1, 217) ∧
 arrOf Tryz.prog 222 = none ∧
 zeroCells Tryz.prog 222 = some [.p .nilP, .p .nilS] ∧
 tkind Tryz.prog 222 = .other ∧
 notIntT Tryz.prog 222 = true ∧
 szPos Tryz.prog 222 = true ∧
 isAggB Tryz.prog 224 = some false ∧
 tsize Tryz.prog 224 = some 1 ∧
 zeroCells Tryz.prog 224 = some [.p .nilI] ∧
 tkind Tryz.prog 224 = .other ∧
 isIfcT Tryz.prog 224 = true ∧
 notIntT Tryz.prog 224 = true ∧
 szPos Tryz.prog 224 = true ∧
 isAggB Tryz.prog 228 = some false ∧
 tsize Tryz.prog 228 = some 1 ∧
 zeroCells Tryz.prog 228 = some [.p .nilM] ∧
 tkind Tryz.prog 228 = .other ∧
 mapTy Tryz.prog 228 = some (.int .i64, false, [.int .i64 0]) ∧
 notIntT Tryz.prog 228 = true ∧
 szPos Tryz.prog 228 = true ∧
 isAggB Tryz.prog 232 = some true ∧
 tsize Tryz.prog 232 = some 3 ∧
 sizedB Tryz.prog 232 = true ∧
 fieldOf Tryz.prog 232 0 = some (0, 9) ∧
 fieldOf Tryz.prog 232 1 = some (1, 3) ∧
 fieldOf Tryz.prog 232 2 = some (2, 4) ∧
 arrOf Tryz.prog 232 = none ∧
 zeroCells Tryz.prog 232 = some [.p (.str (⟨#[]⟩ : ByteArray)), .p (.int .i64 0), .p (.bool false)] ∧
 tkind Tryz.prog 232 = .other ∧
 notIntT Tryz.prog 232 = true ∧
 szPos Tryz.prog 232 = true ∧
 isAggB Tryz.prog 238 = some true ∧
 tsize Tryz.prog 238 = some 6 ∧
 sizedB Tryz.prog 238 = true ∧
 fieldOf Tryz.prog 238 0 = some (0, 32) ∧
 fieldOf Tryz.prog 238 1 = some (2, 32) ∧
 fieldOf Tryz.prog 238 2 = some (4, 189) ∧
 fieldOf Tryz.prog 238 3 = some (5, 189) ∧
 arrOf Tryz.prog 238 = none ∧
 zeroCells Tryz.prog 238 = some [.p .nilS, .p .nilS, .p .nilS, .p .nilS, .p .nilM, .p .nilM] ∧
 tkind Tryz.prog 238 = .other ∧
 notIntT Tryz.prog 238 = true ∧
 szPos Tryz.prog 238 = true ∧
 isAggB Tryz.prog 240 = some false ∧
 tsize Tryz.prog 240 = some 1 ∧
 zeroCells Tryz.prog 240 = some [.p .nilP] ∧
 tkind Tryz.prog 240 = .other ∧
 notIntT Tryz.prog 240 = true ∧
 szPos Tryz.prog 240 = true ∧
 isAggB Tryz.prog 243 = some false ∧
 tsize Tryz.prog 243 = some 1 ∧
 zeroCells Tryz.prog 243 = some [.p .nilM] ∧
 tkind Tryz.prog 243 = .other ∧
 mapTy Tryz.prog 243 = some (.int .i64, false, [.bool false]) ∧
 notIntT Tryz.prog 243 = true ∧
 szPos Tryz.prog 243 = true ∧
 isAggB Tryz.prog 245 = some true ∧
 tsize Tryz.prog 245 = some 4 ∧
 sizedB Tryz.prog 245 = true ∧
 fieldOf Tryz.prog 245 0 = some (0, 30) ∧
 fieldOf Tryz.prog 245 1 = some (1, 243) ∧
 fieldOf Tryz.prog 245 2 = some (2, 243) ∧
 fieldOf Tryz.prog 245 3 = some (3, 207) ∧
 arrOf Tryz.prog 245 = none ∧
 zeroCells Tryz.prog 245 = some [.p .nilS, .p .nilM, .p .nilM, .p .nilM] ∧
 tkind Tryz.prog 245 = .other ∧
 notIntT Tryz.prog 245 = true ∧
 szPos Tryz.prog 245 = true ∧
 isAggB Tryz.prog 269 = some true ∧
 tsize Tryz.prog 269 = some 2 ∧
 sizedB Tryz.prog 269 = true ∧
 fieldOf Tryz.prog 269 0 = some (0, 9) ∧
 fieldOf Tryz.prog 269 1 = some (1, 3) ∧
 arrOf Tryz.prog 269 = none ∧
 zeroCells Tryz.prog 269 = some [.p (.str (⟨#[]⟩ : ByteArray)), .p (.int .i64 0)] ∧
 tkind Tryz.prog 269 = .other ∧
 notIntT Tryz.prog 269 = true ∧
 szPos Tryz.prog 269 = true ∧
 isAggB Tryz.prog 272 = some true ∧
 tsize Tryz.prog 272 = some 2 ∧
 sizedB Tryz.prog 272 = true ∧
 fieldOf Tryz.prog 272 0 = some (0, 9) ∧
 fieldOf Tryz.prog 272 1 = some (1, 9) ∧
 arrOf Tryz.prog 272 = none ∧
 zeroCells Tryz.prog 272 = some [.p (.str (⟨#[]⟩ : ByteArray)), .p (.str (⟨#[]⟩ : ByteArray))] ∧
 tkind Tryz.prog 272 = .other ∧
 notIntT Tryz.prog 272 = true ∧
 szPos Tryz.prog 272 = true := by
 repeat' refine And.intro ?_ ?_
 all_goals kernel_rfl
structure S193 where
 f0 : ByteArray
 f1 : ByteArray
 deriving Inhabited
def en193 (x : S193) : List PV := [.str x.f0, .str x.f1]
theorem ok193 (l : List S193) : rowsOk 2 (List.map en193 l) = true := rowsOk_map _ _ (fun x => by simp [en193]) l
structure S137 where
 f0 : Int
 f1 : (List ByteArray)
 f2 : (List S193)
 deriving Inhabited
def en137 (x : S137) : List PV := [.int .i64 x.f0, .lst false (List.map srw x.f1), .lst false (List.map en193 x.f2)]
theorem ok137 (l : List S137) : rowsOk 3 (List.map en137 l) = true := rowsOk_map _ _ (fun x => by simp [en137]) l
structure S139 where
 f0 : Int
 f1 : ByteArray
 f2 : Int
 f3 : Int
 f4 : (List S193)
 deriving Inhabited
def en139 (x : S139) : List PV := [.int .i64 x.f0, .str x.f1, .int .i64 x.f2, .int .i64 x.f3, .lst false (List.map en193 x.f4)]
theorem ok139 (l : List S139) : rowsOk 5 (List.map en139 l) = true := rowsOk_map _ _ (fun x => by simp [en139]) l
structure S24 where
 f0 : (List S137)
 f1 : (List S139)
 deriving Inhabited
def en24 (x : S24) : List PV := [.lst false (List.map en137 x.f0), .lst false (List.map en139 x.f1)]
theorem ok24 (l : List S24) : rowsOk 2 (List.map en24 l) = true := rowsOk_map _ _ (fun x => by simp [en24]) l
structure S80 where
 f0 : Int
 f1 : (List Int)
 f2 : (List Int)
 deriving Inhabited
def en80 (x : S80) : List PV := [.int .i64 x.f0, .lst false (List.map (irow .i64) x.f1), .lst false (List.map (irow .i64) x.f2)]
theorem ok80 (l : List S80) : rowsOk 3 (List.map en80 l) = true := rowsOk_map _ _ (fun x => by simp [en80]) l
structure S94 where
 f0 : Int
 f1 : (List ByteArray)
 f2 : (List S193)
 deriving Inhabited
def en94 (x : S94) : List PV := [.int .i64 x.f0, .lst false (List.map srw x.f1), .lst false (List.map en193 x.f2)]
theorem ok94 (l : List S94) : rowsOk 3 (List.map en94 l) = true := rowsOk_map _ _ (fun x => by simp [en94]) l
structure S110 where
 f0 : Int
 f1 : ByteArray
 f2 : Int
 f3 : Int
 f4 : (List S193)
 deriving Inhabited
def en110 (x : S110) : List PV := [.int .i64 x.f0, .str x.f1, .int .i64 x.f2, .int .i64 x.f3, .lst false (List.map en193 x.f4)]
theorem ok110 (l : List S110) : rowsOk 5 (List.map en110 l) = true := rowsOk_map _ _ (fun x => by simp [en110]) l
structure S31 where
 f0 : (List S94)
 f1 : (List S110)
 deriving Inhabited
def en31 (x : S31) : List PV := [.lst false (List.map en94 x.f0), .lst false (List.map en110 x.f1)]
theorem ok31 (l : List S31) : rowsOk 2 (List.map en31 l) = true := rowsOk_map _ _ (fun x => by simp [en31]) l
structure S157 where
 f0 : Int
 f1 : Int
 f2 : Int
 f3 : ByteArray
 f4 : (List S157)
 f5 : (List ByteArray)
 deriving Inhabited
def en157 (x : S157) : List PV := [.int .i64 x.f0, .int .i64 x.f1, .int .i64 x.f2, .str x.f3, .lst false (x.f4.attach.map fun y => en157 y.1), .lst false (List.map srw x.f5)]
termination_by SizeOf.sizeOf x
decreasing_by (have h_ := List.sizeOf_lt_of_mem y.2; cases x; simp_all; omega)
theorem en157_eq (x : S157) : en157 x = [.int .i64 x.f0, .int .i64 x.f1, .int .i64 x.f2, .str x.f3, .lst false (List.map en157 x.f4), .lst false (List.map srw x.f5)] := by rw [en157]; simp
theorem ok157 (l : List S157) : rowsOk 6 (List.map en157 l) = true := rowsOk_map _ _ (fun x => by simp [en157_eq]) l
structure S231 where
 f0 : ByteArray
 f1 : Int
 f2 : Bool
 deriving Inhabited
def en231 (x : S231) : List PV := [.str x.f0, .int .i64 x.f1, .bool x.f2]
theorem ok231 (l : List S231) : rowsOk 3 (List.map en231 l) = true := rowsOk_map _ _ (fun x => by simp [en231]) l
structure S177 where
 f0 : S31
 f1 : (List Bool)
 f2 : (List Bool)
 f3 : (List Bool)
 deriving Inhabited
def en177 (x : S177) : List PV := [.lst false (List.map en94 x.f0.f0), .lst false (List.map en110 x.f0.f1), .lst false (List.map brw x.f1), .lst false (List.map brw x.f2), .lst false (List.map brw x.f3)]
theorem ok177 (l : List S177) : rowsOk 5 (List.map en177 l) = true := rowsOk_map _ _ (fun x => by simp [en177]) l
structure S164 where
 f0 : Int
 f1 : Int
 f2 : Int
 f3 : ByteArray
 f4 : (List ByteArray)
 f5 : (List S164)
 deriving Inhabited
def en164 (x : S164) : List PV := [.int .i64 x.f0, .int .i64 x.f1, .int .i64 x.f2, .str x.f3, .lst false (List.map srw x.f4), .lst false (x.f5.attach.map fun y => en164 y.1)]
termination_by SizeOf.sizeOf x
decreasing_by (have h_ := List.sizeOf_lt_of_mem y.2; cases x; simp_all; omega)
theorem en164_eq (x : S164) : en164 x = [.int .i64 x.f0, .int .i64 x.f1, .int .i64 x.f2, .str x.f3, .lst false (List.map srw x.f4), .lst false (List.map en164 x.f5)] := by rw [en164]; simp
theorem ok164 (l : List S164) : rowsOk 6 (List.map en164 l) = true := rowsOk_map _ _ (fun x => by simp [en164_eq]) l
structure S268 where
 f0 : ByteArray
 f1 : Int
 deriving Inhabited
def en268 (x : S268) : List PV := [.str x.f0, .int .i64 x.f1]
theorem ok268 (l : List S268) : rowsOk 2 (List.map en268 l) = true := rowsOk_map _ _ (fun x => by simp [en268]) l

theorem sm_ {p : Prop} (h : p := by simp only [run, afterR, condC, exitC, exitTo, runO, step1, ofO, fpOf, fpK, writes, de, deT, deB, opD, dstOk, isCall, stepOp, finO, memPut, mset, entO, ent, core, constB, mkeyOf, mval, mrowOf, tupIf, liveM, kOf_i, kOf_s, mkEq_self, mhas_i, mhas_s, midx_i, midx_s, mrow_ii, mrow_ib, mrow_is, mrow_si, mrow_sb, mrow_ss, ment_ii, ment_ib, ment_is, ment_si, ment_sb, ment_ss, mset1_ii, mset1_ib, mset1_is, mset1_si, mset1_sb, mset1_ss, mput_ii, mput_ib, mput_is, mput_si, mput_sb, mput_ss, tst_map, coreB, lenA, minA, maxA, rowsB, appT, appS, appB, fullR, keyApp, keyV, keyL, liveC, liveB, liveZ, keyOf, oget, fget, lk, ofConst, cellsC, aggC, cell1, eff, binop, intOp, strOp, unop, ld, splice, fillP, aplace, placeOf, rowsN, oint, AV.cells, AV.pv, PV.std, AV.rows, pvs, appN, appC, rowsOk, irow, srw, brw, lrw, St.put, back, renA, ren1, ren0, renO, resOf, resAll, resOne, tupOf, fnOf, rk, inn, ok1, okB, okA, okT, okO, ok0, renB, liveP, liveZ0, nagg, one1, scH, bldZ, nvs, AV.nv, PV.sc, PV.isL, nilOrE, List.filter_cons, List.filter_nil, List.all_cons, List.all_nil,   unint, unint_map, bytesOf_eq, bnd_, rowsOk_irow, rowsOk_srw, rowsOk_brw, rowsOk_lrw, rowsOk_app, take_map_len, map_set_, set_map_,   List.range, List.range.loop, List.zip, List.zipWith, List.zip_cons_cons, List.zip_nil_left, List.zip_nil_right, List.length_cons, List.length_nil, List.length_map, List.length_append, List.map_cons, List.map_nil, List.map_append, List.getElem?_map, List.drop_succ_cons, List.drop_zero, List.drop_nil, List.take_succ_cons, List.take_zero, List.take_nil, List.take_length, List.set_cons_succ, List.set_cons_zero, List.head?_cons, List.head?_nil, List.getElem?_cons_succ, List.getElem?_cons_zero, List.append_nil, List.nil_append, List.cons_append, List.append_assoc, List.flatten_cons, List.flatten_nil, List.replicate_succ, List.replicate_zero, List.contains_cons, List.contains_nil, List.isEmpty_nil, List.isEmpty_cons, List.map_drop, List.map_take, List.map_replicate, List.length_replicate, List.length_set,   cond_true, cond_false, Option.map_some, Option.map_none, Option.bind_some, Option.bind_none, Option.getD_some, Option.getD_none, Option.isSome_some, Option.isSome_none, beq_self_eq_true, BEq.rfl, Nat.reduceBEq, Nat.reduceAdd, Nat.reduceSub, Nat.reduceMul, Nat.reduceLeDiff, Nat.reduceLT, Nat.reduceEqDiff, Nat.zero_add, Nat.add_zero, Nat.zero_mul, Nat.le_refl, and_self, and_true, true_and, if_true, reduceIte, ite_true, ite_false, Bool.and_true, Bool.true_and, Bool.and_false, Bool.false_and, Bool.not_true, Bool.not_false, Bool.or_true, Bool.or_false, Bool.true_or, Bool.false_or, Int.toNat_zero, Int.toNat_natCast, Int.reduceToNat, Int.reduceLE, Int.reduceLT, Int.reduceBEq, reduceCtorEq, decide_true, decide_false, Bool.false_eq_true, Nat.sub_zero, List.toList_toArray, List.foldl_cons, en193, ok193, en137, ok137, en139, ok139, en24, ok24, en80, ok80, en94, ok94, en110, ok110, en31, ok31, en157_eq, ok157, en231, ok231, en177, ok177, en164_eq, ok164, en268, ok268, tyF, *]) : p := h
theorem sms_ {p : Prop} (h : p := by simp only [run, afterR, condC, exitC, exitTo, runO, step1, ofO, fpOf, fpK, writes, de, deT, deB, opD, dstOk, isCall, stepOp, finO, memPut, mset, entO, ent, core, constB, mkeyOf, mval, mrowOf, tupIf, liveM, kOf_i, kOf_s, mkEq_self, mhas_i, mhas_s, midx_i, midx_s, mrow_ii, mrow_ib, mrow_is, mrow_si, mrow_sb, mrow_ss, ment_ii, ment_ib, ment_is, ment_si, ment_sb, ment_ss, mset1_ii, mset1_ib, mset1_is, mset1_si, mset1_sb, mset1_ss, mput_ii, mput_ib, mput_is, mput_si, mput_sb, mput_ss, tst_map, coreB, lenA, minA, maxA, rowsB, appT, appS, appB, fullR, keyApp, keyV, keyL, liveC, liveB, liveZ, keyOf, oget, fget, lk, ofConst, cellsC, aggC, cell1, eff, binop, intOp, strOp, unop, ld, splice, fillP, aplace, placeOf, rowsN, oint, AV.cells, AV.pv, PV.std, AV.rows, pvs, appN, appC, rowsOk, irow, srw, brw, lrw, St.put, back, renA, ren1, ren0, renO, resOf, resAll, resOne, tupOf, fnOf, rk, inn, ok1, okB, okA, okT, okO, ok0, renB, liveP, liveZ0, nagg, one1, scH, bldZ, nvs, AV.nv, PV.sc, PV.isL, nilOrE, List.filter_cons, List.filter_nil, List.all_cons, List.all_nil,   unint, unint_map, bytesOf_eq, bnd_, rowsOk_irow, rowsOk_srw, rowsOk_brw, rowsOk_lrw, rowsOk_app, take_map_len, map_set_, set_map_,   List.range, List.range.loop, List.zip, List.zipWith, List.zip_cons_cons, List.zip_nil_left, List.zip_nil_right, List.length_cons, List.length_nil, List.length_map, List.length_append, List.map_cons, List.map_nil, List.map_append, List.getElem?_map, List.drop_succ_cons, List.drop_zero, List.drop_nil, List.take_succ_cons, List.take_zero, List.take_nil, List.take_length, List.set_cons_succ, List.set_cons_zero, List.head?_cons, List.head?_nil, List.getElem?_cons_succ, List.getElem?_cons_zero, List.append_nil, List.nil_append, List.cons_append, List.append_assoc, List.flatten_cons, List.flatten_nil, List.replicate_succ, List.replicate_zero, List.contains_cons, List.contains_nil, List.isEmpty_nil, List.isEmpty_cons, List.map_drop, List.map_take, List.map_replicate, List.length_replicate, List.length_set,   cond_true, cond_false, Option.map_some, Option.map_none, Option.bind_some, Option.bind_none, Option.getD_some, Option.getD_none, Option.isSome_some, Option.isSome_none, beq_self_eq_true, BEq.rfl, Nat.reduceBEq, Nat.reduceAdd, Nat.reduceSub, Nat.reduceMul, Nat.reduceLeDiff, Nat.reduceLT, Nat.reduceEqDiff, Nat.zero_add, Nat.add_zero, Nat.zero_mul, Nat.le_refl, and_self, and_true, true_and, if_true, reduceIte, ite_true, ite_false, Bool.and_true, Bool.true_and, Bool.and_false, Bool.false_and, Bool.not_true, Bool.not_false, Bool.or_true, Bool.or_false, Bool.true_or, Bool.false_or, Int.toNat_zero, Int.toNat_natCast, Int.reduceToNat, Int.reduceLE, Int.reduceLT, Int.reduceBEq, reduceCtorEq, decide_true, decide_false, Bool.false_eq_true, Nat.sub_zero, List.toList_toArray, List.foldl_cons, en193, ok193, en137, ok137, en139, ok139, en24, ok24, en80, ok80, en94, ok94, en110, ok110, en31, ok31, en157_eq, ok157, en231, ok231, en177, ok177, en164_eq, ok164, en268, ok268, tyF]) : p := h
theorem smr_ {p : Prop} (h : p := by (simp only [run, afterR, condC, exitC, exitTo, runO, step1, ofO, fpOf, fpK, writes, de, deT, deB, opD, dstOk, isCall, stepOp, finO, memPut, mset, entO, ent, core, constB, mkeyOf, mval, mrowOf, tupIf, liveM, kOf_i, kOf_s, mkEq_self, mhas_i, mhas_s, midx_i, midx_s, mrow_ii, mrow_ib, mrow_is, mrow_si, mrow_sb, mrow_ss, ment_ii, ment_ib, ment_is, ment_si, ment_sb, ment_ss, mset1_ii, mset1_ib, mset1_is, mset1_si, mset1_sb, mset1_ss, mput_ii, mput_ib, mput_is, mput_si, mput_sb, mput_ss, tst_map, coreB, lenA, minA, maxA, rowsB, appT, appS, appB, fullR, keyApp, keyV, keyL, liveC, liveB, liveZ, keyOf, oget, fget, lk, ofConst, cellsC, aggC, cell1, eff, binop, intOp, strOp, unop, ld, splice, fillP, aplace, placeOf, rowsN, oint, AV.cells, AV.pv, PV.std, AV.rows, pvs, appN, appC, rowsOk, irow, srw, brw, lrw, St.put, back, renA, ren1, ren0, renO, resOf, resAll, resOne, tupOf, fnOf, rk, inn, ok1, okB, okA, okT, okO, ok0, renB, liveP, liveZ0, nagg, one1, scH, bldZ, nvs, AV.nv, PV.sc, PV.isL, nilOrE, List.filter_cons, List.filter_nil, List.all_cons, List.all_nil,   unint, unint_map, bytesOf_eq, bnd_, rowsOk_irow, rowsOk_srw, rowsOk_brw, rowsOk_lrw, rowsOk_app, take_map_len, map_set_, set_map_,   List.range, List.range.loop, List.zip, List.zipWith, List.zip_cons_cons, List.zip_nil_left, List.zip_nil_right, List.length_cons, List.length_nil, List.length_map, List.length_append, List.map_cons, List.map_nil, List.map_append, List.getElem?_map, List.drop_succ_cons, List.drop_zero, List.drop_nil, List.take_succ_cons, List.take_zero, List.take_nil, List.take_length, List.set_cons_succ, List.set_cons_zero, List.head?_cons, List.head?_nil, List.getElem?_cons_succ, List.getElem?_cons_zero, List.append_nil, List.nil_append, List.cons_append, List.append_assoc, List.flatten_cons, List.flatten_nil, List.replicate_succ, List.replicate_zero, List.contains_cons, List.contains_nil, List.isEmpty_nil, List.isEmpty_cons, List.map_drop, List.map_take, List.map_replicate, List.length_replicate, List.length_set,   cond_true, cond_false, Option.map_some, Option.map_none, Option.bind_some, Option.bind_none, Option.getD_some, Option.getD_none, Option.isSome_some, Option.isSome_none, beq_self_eq_true, BEq.rfl, Nat.reduceBEq, Nat.reduceAdd, Nat.reduceSub, Nat.reduceMul, Nat.reduceLeDiff, Nat.reduceLT, Nat.reduceEqDiff, Nat.zero_add, Nat.add_zero, Nat.zero_mul, Nat.le_refl, and_self, and_true, true_and, if_true, reduceIte, ite_true, ite_false, Bool.and_true, Bool.true_and, Bool.and_false, Bool.false_and, Bool.not_true, Bool.not_false, Bool.or_true, Bool.or_false, Bool.true_or, Bool.false_or, Int.toNat_zero, Int.toNat_natCast, Int.reduceToNat, Int.reduceLE, Int.reduceLT, Int.reduceBEq, reduceCtorEq, decide_true, decide_false, Bool.false_eq_true, Nat.sub_zero, List.toList_toArray, List.foldl_cons, en193, ok193, en137, ok137, en139, ok139, en24, ok24, en80, ok80, en94, ok94, en110, ok110, en31, ok31, en157_eq, ok157, en231, ok231, en177, ok177, en164_eq, ok164, en268, ok268, tyF, *]; rfl)) : p := h
theorem smt_ {p : Prop} (h : p := by (simp only [run, afterR, condC, exitC, exitTo, runO, step1, ofO, fpOf, fpK, writes, de, deT, deB, opD, dstOk, isCall, stepOp, finO, memPut, mset, entO, ent, core, constB, mkeyOf, mval, mrowOf, tupIf, liveM, kOf_i, kOf_s, mkEq_self, mhas_i, mhas_s, midx_i, midx_s, mrow_ii, mrow_ib, mrow_is, mrow_si, mrow_sb, mrow_ss, ment_ii, ment_ib, ment_is, ment_si, ment_sb, ment_ss, mset1_ii, mset1_ib, mset1_is, mset1_si, mset1_sb, mset1_ss, mput_ii, mput_ib, mput_is, mput_si, mput_sb, mput_ss, tst_map, coreB, lenA, minA, maxA, rowsB, appT, appS, appB, fullR, keyApp, keyV, keyL, liveC, liveB, liveZ, keyOf, oget, fget, lk, ofConst, cellsC, aggC, cell1, eff, binop, intOp, strOp, unop, ld, splice, fillP, aplace, placeOf, rowsN, oint, AV.cells, AV.pv, PV.std, AV.rows, pvs, appN, appC, rowsOk, irow, srw, brw, lrw, St.put, back, renA, ren1, ren0, renO, resOf, resAll, resOne, tupOf, fnOf, rk, inn, ok1, okB, okA, okT, okO, ok0, renB, liveP, liveZ0, nagg, one1, scH, bldZ, nvs, AV.nv, PV.sc, PV.isL, nilOrE, List.filter_cons, List.filter_nil, List.all_cons, List.all_nil,   unint, unint_map, bytesOf_eq, bnd_, rowsOk_irow, rowsOk_srw, rowsOk_brw, rowsOk_lrw, rowsOk_app, take_map_len, map_set_, set_map_,   List.range, List.range.loop, List.zip, List.zipWith, List.zip_cons_cons, List.zip_nil_left, List.zip_nil_right, List.length_cons, List.length_nil, List.length_map, List.length_append, List.map_cons, List.map_nil, List.map_append, List.getElem?_map, List.drop_succ_cons, List.drop_zero, List.drop_nil, List.take_succ_cons, List.take_zero, List.take_nil, List.take_length, List.set_cons_succ, List.set_cons_zero, List.head?_cons, List.head?_nil, List.getElem?_cons_succ, List.getElem?_cons_zero, List.append_nil, List.nil_append, List.cons_append, List.append_assoc, List.flatten_cons, List.flatten_nil, List.replicate_succ, List.replicate_zero, List.contains_cons, List.contains_nil, List.isEmpty_nil, List.isEmpty_cons, List.map_drop, List.map_take, List.map_replicate, List.length_replicate, List.length_set,   cond_true, cond_false, Option.map_some, Option.map_none, Option.bind_some, Option.bind_none, Option.getD_some, Option.getD_none, Option.isSome_some, Option.isSome_none, beq_self_eq_true, BEq.rfl, Nat.reduceBEq, Nat.reduceAdd, Nat.reduceSub, Nat.reduceMul, Nat.reduceLeDiff, Nat.reduceLT, Nat.reduceEqDiff, Nat.zero_add, Nat.add_zero, Nat.zero_mul, Nat.le_refl, and_self, and_true, true_and, if_true, reduceIte, ite_true, ite_false, Bool.and_true, Bool.true_and, Bool.and_false, Bool.false_and, Bool.not_true, Bool.not_false, Bool.or_true, Bool.or_false, Bool.true_or, Bool.false_or, Int.toNat_zero, Int.toNat_natCast, Int.reduceToNat, Int.reduceLE, Int.reduceLT, Int.reduceBEq, reduceCtorEq, decide_true, decide_false, Bool.false_eq_true, Nat.sub_zero, List.toList_toArray, List.foldl_cons, en193, ok193, en137, ok137, en139, ok139, en24, ok24, en80, ok80, en94, ok94, en110, ok110, en31, ok31, en157_eq, ok157, en231, ok231, en177, ok177, en164_eq, ok164, en268, ok268, tyF, *]; try rfl)) : p := h
theorem smo_ {p : Prop} (h : p := by (simp only [run, afterR, condC, exitC, exitTo, runO, step1, ofO, fpOf, fpK, writes, de, deT, deB, opD, dstOk, isCall, stepOp, finO, memPut, mset, entO, ent, core, constB, mkeyOf, mval, mrowOf, tupIf, liveM, kOf_i, kOf_s, mkEq_self, mhas_i, mhas_s, midx_i, midx_s, mrow_ii, mrow_ib, mrow_is, mrow_si, mrow_sb, mrow_ss, ment_ii, ment_ib, ment_is, ment_si, ment_sb, ment_ss, mset1_ii, mset1_ib, mset1_is, mset1_si, mset1_sb, mset1_ss, mput_ii, mput_ib, mput_is, mput_si, mput_sb, mput_ss, tst_map, coreB, lenA, minA, maxA, rowsB, appT, appS, appB, fullR, keyApp, keyV, keyL, liveC, liveB, liveZ, keyOf, oget, fget, lk, ofConst, cellsC, aggC, cell1, eff, binop, intOp, strOp, unop, ld, splice, fillP, aplace, placeOf, rowsN, oint, AV.cells, AV.pv, PV.std, AV.rows, pvs, appN, appC, rowsOk, irow, srw, brw, lrw, St.put, back, renA, ren1, ren0, renO, resOf, resAll, resOne, tupOf, fnOf, rk, inn, ok1, okB, okA, okT, okO, ok0, renB, liveP, liveZ0, nagg, one1, scH, bldZ, nvs, AV.nv, PV.sc, PV.isL, nilOrE, List.filter_cons, List.filter_nil, List.all_cons, List.all_nil,   unint, unint_map, bytesOf_eq, bnd_, rowsOk_irow, rowsOk_srw, rowsOk_brw, rowsOk_lrw, rowsOk_app, take_map_len, map_set_, set_map_,   List.range, List.range.loop, List.zip, List.zipWith, List.zip_cons_cons, List.zip_nil_left, List.zip_nil_right, List.length_cons, List.length_nil, List.length_map, List.length_append, List.map_cons, List.map_nil, List.map_append, List.getElem?_map, List.drop_succ_cons, List.drop_zero, List.drop_nil, List.take_succ_cons, List.take_zero, List.take_nil, List.take_length, List.set_cons_succ, List.set_cons_zero, List.head?_cons, List.head?_nil, List.getElem?_cons_succ, List.getElem?_cons_zero, List.append_nil, List.nil_append, List.cons_append, List.append_assoc, List.flatten_cons, List.flatten_nil, List.replicate_succ, List.replicate_zero, List.contains_cons, List.contains_nil, List.isEmpty_nil, List.isEmpty_cons, List.map_drop, List.map_take, List.map_replicate, List.length_replicate, List.length_set,   cond_true, cond_false, Option.map_some, Option.map_none, Option.bind_some, Option.bind_none, Option.getD_some, Option.getD_none, Option.isSome_some, Option.isSome_none, beq_self_eq_true, BEq.rfl, Nat.reduceBEq, Nat.reduceAdd, Nat.reduceSub, Nat.reduceMul, Nat.reduceLeDiff, Nat.reduceLT, Nat.reduceEqDiff, Nat.zero_add, Nat.add_zero, Nat.zero_mul, Nat.le_refl, and_self, and_true, true_and, if_true, reduceIte, ite_true, ite_false, Bool.and_true, Bool.true_and, Bool.and_false, Bool.false_and, Bool.not_true, Bool.not_false, Bool.or_true, Bool.or_false, Bool.true_or, Bool.false_or, Int.toNat_zero, Int.toNat_natCast, Int.reduceToNat, Int.reduceLE, Int.reduceLT, Int.reduceBEq, reduceCtorEq, decide_true, decide_false, Bool.false_eq_true, Nat.sub_zero, List.toList_toArray, List.foldl_cons, en193, ok193, en137, ok137, en139, ok139, en24, ok24, en80, ok80, en94, ok94, en110, ok110, en31, ok31, en157_eq, ok157, en231, ok231, en177, ok177, en164_eq, ok164, en268, ok268, tyF, *]; omega)) : p := h
theorem smo0_ {p : Prop} (h : p := by (simp only [run, afterR, condC, exitC, exitTo, runO, step1, ofO, fpOf, fpK, writes, de, deT, deB, opD, dstOk, isCall, stepOp, finO, memPut, mset, entO, ent, core, constB, mkeyOf, mval, mrowOf, tupIf, liveM, kOf_i, kOf_s, mkEq_self, mhas_i, mhas_s, midx_i, midx_s, mrow_ii, mrow_ib, mrow_is, mrow_si, mrow_sb, mrow_ss, ment_ii, ment_ib, ment_is, ment_si, ment_sb, ment_ss, mset1_ii, mset1_ib, mset1_is, mset1_si, mset1_sb, mset1_ss, mput_ii, mput_ib, mput_is, mput_si, mput_sb, mput_ss, tst_map, coreB, lenA, minA, maxA, rowsB, appT, appS, appB, fullR, keyApp, keyV, keyL, liveC, liveB, liveZ, keyOf, oget, fget, lk, ofConst, cellsC, aggC, cell1, eff, binop, intOp, strOp, unop, ld, splice, fillP, aplace, placeOf, rowsN, oint, AV.cells, AV.pv, PV.std, AV.rows, pvs, appN, appC, rowsOk, irow, srw, brw, lrw, St.put, back, renA, ren1, ren0, renO, resOf, resAll, resOne, tupOf, fnOf, rk, inn, ok1, okB, okA, okT, okO, ok0, renB, liveP, liveZ0, nagg, one1, scH, bldZ, nvs, AV.nv, PV.sc, PV.isL, nilOrE, List.filter_cons, List.filter_nil, List.all_cons, List.all_nil,   unint, unint_map, bytesOf_eq, bnd_, rowsOk_irow, rowsOk_srw, rowsOk_brw, rowsOk_lrw, rowsOk_app, take_map_len, map_set_, set_map_,   List.range, List.range.loop, List.zip, List.zipWith, List.zip_cons_cons, List.zip_nil_left, List.zip_nil_right, List.length_cons, List.length_nil, List.length_map, List.length_append, List.map_cons, List.map_nil, List.map_append, List.getElem?_map, List.drop_succ_cons, List.drop_zero, List.drop_nil, List.take_succ_cons, List.take_zero, List.take_nil, List.take_length, List.set_cons_succ, List.set_cons_zero, List.head?_cons, List.head?_nil, List.getElem?_cons_succ, List.getElem?_cons_zero, List.append_nil, List.nil_append, List.cons_append, List.append_assoc, List.flatten_cons, List.flatten_nil, List.replicate_succ, List.replicate_zero, List.contains_cons, List.contains_nil, List.isEmpty_nil, List.isEmpty_cons, List.map_drop, List.map_take, List.map_replicate, List.length_replicate, List.length_set,   cond_true, cond_false, Option.map_some, Option.map_none, Option.bind_some, Option.bind_none, Option.getD_some, Option.getD_none, Option.isSome_some, Option.isSome_none, beq_self_eq_true, BEq.rfl, Nat.reduceBEq, Nat.reduceAdd, Nat.reduceSub, Nat.reduceMul, Nat.reduceLeDiff, Nat.reduceLT, Nat.reduceEqDiff, Nat.zero_add, Nat.add_zero, Nat.zero_mul, Nat.le_refl, and_self, and_true, true_and, if_true, reduceIte, ite_true, ite_false, Bool.and_true, Bool.true_and, Bool.and_false, Bool.false_and, Bool.not_true, Bool.not_false, Bool.or_true, Bool.or_false, Bool.true_or, Bool.false_or, Int.toNat_zero, Int.toNat_natCast, Int.reduceToNat, Int.reduceLE, Int.reduceLT, Int.reduceBEq, reduceCtorEq, decide_true, decide_false, Bool.false_eq_true, Nat.sub_zero, List.toList_toArray, List.foldl_cons, en193, ok193, en137, ok137, en139, ok139, en24, ok24, en80, ok80, en94, ok94, en110, ok110, en31, ok31, en157_eq, ok157, en231, ok231, en177, ok177, en164_eq, ok164, en268, ok268, tyF]; omega)) : p := h
theorem smd_ {p : Prop} (h : p := by (simp only [run, afterR, condC, exitC, exitTo, runO, step1, ofO, fpOf, fpK, writes, de, deT, deB, opD, dstOk, isCall, stepOp, finO, memPut, mset, entO, ent, core, constB, mkeyOf, mval, mrowOf, tupIf, liveM, kOf_i, kOf_s, mkEq_self, mhas_i, mhas_s, midx_i, midx_s, mrow_ii, mrow_ib, mrow_is, mrow_si, mrow_sb, mrow_ss, ment_ii, ment_ib, ment_is, ment_si, ment_sb, ment_ss, mset1_ii, mset1_ib, mset1_is, mset1_si, mset1_sb, mset1_ss, mput_ii, mput_ib, mput_is, mput_si, mput_sb, mput_ss, tst_map, coreB, lenA, minA, maxA, rowsB, appT, appS, appB, fullR, keyApp, keyV, keyL, liveC, liveB, liveZ, keyOf, oget, fget, lk, ofConst, cellsC, aggC, cell1, eff, binop, intOp, strOp, unop, ld, splice, fillP, aplace, placeOf, rowsN, oint, AV.cells, AV.pv, PV.std, AV.rows, pvs, appN, appC, rowsOk, irow, srw, brw, lrw, St.put, back, renA, ren1, ren0, renO, resOf, resAll, resOne, tupOf, fnOf, rk, inn, ok1, okB, okA, okT, okO, ok0, renB, liveP, liveZ0, nagg, one1, scH, bldZ, nvs, AV.nv, PV.sc, PV.isL, nilOrE, List.filter_cons, List.filter_nil, List.all_cons, List.all_nil,   unint, unint_map, bytesOf_eq, bnd_, rowsOk_irow, rowsOk_srw, rowsOk_brw, rowsOk_lrw, rowsOk_app, take_map_len, map_set_, set_map_,   List.range, List.range.loop, List.zip, List.zipWith, List.zip_cons_cons, List.zip_nil_left, List.zip_nil_right, List.length_cons, List.length_nil, List.length_map, List.length_append, List.map_cons, List.map_nil, List.map_append, List.getElem?_map, List.drop_succ_cons, List.drop_zero, List.drop_nil, List.take_succ_cons, List.take_zero, List.take_nil, List.take_length, List.set_cons_succ, List.set_cons_zero, List.head?_cons, List.head?_nil, List.getElem?_cons_succ, List.getElem?_cons_zero, List.append_nil, List.nil_append, List.cons_append, List.append_assoc, List.flatten_cons, List.flatten_nil, List.replicate_succ, List.replicate_zero, List.contains_cons, List.contains_nil, List.isEmpty_nil, List.isEmpty_cons, List.map_drop, List.map_take, List.map_replicate, List.length_replicate, List.length_set,   cond_true, cond_false, Option.map_some, Option.map_none, Option.bind_some, Option.bind_none, Option.getD_some, Option.getD_none, Option.isSome_some, Option.isSome_none, beq_self_eq_true, BEq.rfl, Nat.reduceBEq, Nat.reduceAdd, Nat.reduceSub, Nat.reduceMul, Nat.reduceLeDiff, Nat.reduceLT, Nat.reduceEqDiff, Nat.zero_add, Nat.add_zero, Nat.zero_mul, Nat.le_refl, and_self, and_true, true_and, if_true, reduceIte, ite_true, ite_false, Bool.and_true, Bool.true_and, Bool.and_false, Bool.false_and, Bool.not_true, Bool.not_false, Bool.or_true, Bool.or_false, Bool.true_or, Bool.false_or, Int.toNat_zero, Int.toNat_natCast, Int.reduceToNat, Int.reduceLE, Int.reduceLT, Int.reduceBEq, reduceCtorEq, decide_true, decide_false, Bool.false_eq_true, Nat.sub_zero, List.toList_toArray, List.foldl_cons, en193, ok193, en137, ok137, en139, ok139, en24, ok24, en80, ok80, en94, ok94, en110, ok110, en31, ok31, en157_eq, ok157, en231, ok231, en177, ok177, en164_eq, ok164, en268, ok268, tyF, List.map_cons, List.map_nil]; decide)) : p := h
theorem go (n : Nat) {H : Prop} {C : Ctx} {it it' : List Item} {st st' : St} (g : H → Good C it' st') (h : run C.P C.hint n (.on it st) = .stop it' st' := by
   (simp only [run, afterR, condC, exitC, exitTo, runO, step1, ofO, fpOf, fpK, writes, de, deT, deB, opD, dstOk, isCall, stepOp, finO, memPut, mset, entO, ent, core, constB, mkeyOf, mval, mrowOf, tupIf, liveM, kOf_i, kOf_s, mkEq_self, mhas_i, mhas_s, midx_i, midx_s, mrow_ii, mrow_ib, mrow_is, mrow_si, mrow_sb, mrow_ss, ment_ii, ment_ib, ment_is, ment_si, ment_sb, ment_ss, mset1_ii, mset1_ib, mset1_is, mset1_si, mset1_sb, mset1_ss, mput_ii, mput_ib, mput_is, mput_si, mput_sb, mput_ss, tst_map, coreB, lenA, minA, maxA, rowsB, appT, appS, appB, fullR, keyApp, keyV, keyL, liveC, liveB, liveZ, keyOf, oget, fget, lk, ofConst, cellsC, aggC, cell1, eff, binop, intOp, strOp, unop, ld, splice, fillP, aplace, placeOf, rowsN, oint, AV.cells, AV.pv, PV.std, AV.rows, pvs, appN, appC, rowsOk, irow, srw, brw, lrw, St.put, back, renA, ren1, ren0, renO, resOf, resAll, resOne, tupOf, fnOf, rk, inn, ok1, okB, okA, okT, okO, ok0, renB, liveP, liveZ0, nagg, one1, scH, bldZ, nvs, AV.nv, PV.sc, PV.isL, nilOrE, List.filter_cons, List.filter_nil, List.all_cons, List.all_nil,   unint, unint_map, bytesOf_eq, bnd_, rowsOk_irow, rowsOk_srw, rowsOk_brw, rowsOk_lrw, rowsOk_app, take_map_len, map_set_, set_map_,   List.range, List.range.loop, List.zip, List.zipWith, List.zip_cons_cons, List.zip_nil_left, List.zip_nil_right, List.length_cons, List.length_nil, List.length_map, List.length_append, List.map_cons, List.map_nil, List.map_append, List.getElem?_map, List.drop_succ_cons, List.drop_zero, List.drop_nil, List.take_succ_cons, List.take_zero, List.take_nil, List.take_length, List.set_cons_succ, List.set_cons_zero, List.head?_cons, List.head?_nil, List.getElem?_cons_succ, List.getElem?_cons_zero, List.append_nil, List.nil_append, List.cons_append, List.append_assoc, List.flatten_cons, List.flatten_nil, List.replicate_succ, List.replicate_zero, List.contains_cons, List.contains_nil, List.isEmpty_nil, List.isEmpty_cons, List.map_drop, List.map_take, List.map_replicate, List.length_replicate, List.length_set,   cond_true, cond_false, Option.map_some, Option.map_none, Option.bind_some, Option.bind_none, Option.getD_some, Option.getD_none, Option.isSome_some, Option.isSome_none, beq_self_eq_true, BEq.rfl, Nat.reduceBEq, Nat.reduceAdd, Nat.reduceSub, Nat.reduceMul, Nat.reduceLeDiff, Nat.reduceLT, Nat.reduceEqDiff, Nat.zero_add, Nat.add_zero, Nat.zero_mul, Nat.le_refl, and_self, and_true, true_and, if_true, reduceIte, ite_true, ite_false, Bool.and_true, Bool.true_and, Bool.and_false, Bool.false_and, Bool.not_true, Bool.not_false, Bool.or_true, Bool.or_false, Bool.true_or, Bool.false_or, Int.toNat_zero, Int.toNat_natCast, Int.reduceToNat, Int.reduceLE, Int.reduceLT, Int.reduceBEq, reduceCtorEq, decide_true, decide_false, Bool.false_eq_true, Nat.sub_zero, List.toList_toArray, List.foldl_cons, en193, ok193, en137, ok137, en139, ok139, en24, ok24, en80, ok80, en94, ok94, en110, ok110, en31, ok31, en157_eq, ok157, en231, ok231, en177, ok177, en164_eq, ok164, en268, ok268, tyF, *]; rfl)) : H → Good C it st := fun x => run_good h (g x)
theorem grs {H : Prop} {C : Ctx} {id : Nat} {ops : Array Oper} {draw : Bool} {k : List Item} {st : St} (g : H → GR C draw ops.toList k 0 ops.toList [] st) (hm : C.P.follows .mixedOrders = true := by kernel_rfl) : H → Good C (.code (.region id ops draw) :: k) st := fun x => gr_start (g x) hm
theorem gr_run {H : Prop} {C : Ctx} {draw : Bool} {all : List Oper} {k : List Item} {j j' : Nat} {l l' : List Oper} {F F' : Fp} {st st' : St} (g : H → GR C draw all k j' l' (F ++ F') st') (h : runO C.P C.hint all j l (.go [] st) = .stop j' l' F' st' := by
   (simp only [run, afterR, condC, exitC, exitTo, runO, step1, ofO, fpOf, fpK, writes, de, deT, deB, opD, dstOk, isCall, stepOp, finO, memPut, mset, entO, ent, core, constB, mkeyOf, mval, mrowOf, tupIf, liveM, kOf_i, kOf_s, mkEq_self, mhas_i, mhas_s, midx_i, midx_s, mrow_ii, mrow_ib, mrow_is, mrow_si, mrow_sb, mrow_ss, ment_ii, ment_ib, ment_is, ment_si, ment_sb, ment_ss, mset1_ii, mset1_ib, mset1_is, mset1_si, mset1_sb, mset1_ss, mput_ii, mput_ib, mput_is, mput_si, mput_sb, mput_ss, tst_map, coreB, lenA, minA, maxA, rowsB, appT, appS, appB, fullR, keyApp, keyV, keyL, liveC, liveB, liveZ, keyOf, oget, fget, lk, ofConst, cellsC, aggC, cell1, eff, binop, intOp, strOp, unop, ld, splice, fillP, aplace, placeOf, rowsN, oint, AV.cells, AV.pv, PV.std, AV.rows, pvs, appN, appC, rowsOk, irow, srw, brw, lrw, St.put, back, renA, ren1, ren0, renO, resOf, resAll, resOne, tupOf, fnOf, rk, inn, ok1, okB, okA, okT, okO, ok0, renB, liveP, liveZ0, nagg, one1, scH, bldZ, nvs, AV.nv, PV.sc, PV.isL, nilOrE, List.filter_cons, List.filter_nil, List.all_cons, List.all_nil,   unint, unint_map, bytesOf_eq, bnd_, rowsOk_irow, rowsOk_srw, rowsOk_brw, rowsOk_lrw, rowsOk_app, take_map_len, map_set_, set_map_,   List.range, List.range.loop, List.zip, List.zipWith, List.zip_cons_cons, List.zip_nil_left, List.zip_nil_right, List.length_cons, List.length_nil, List.length_map, List.length_append, List.map_cons, List.map_nil, List.map_append, List.getElem?_map, List.drop_succ_cons, List.drop_zero, List.drop_nil, List.take_succ_cons, List.take_zero, List.take_nil, List.take_length, List.set_cons_succ, List.set_cons_zero, List.head?_cons, List.head?_nil, List.getElem?_cons_succ, List.getElem?_cons_zero, List.append_nil, List.nil_append, List.cons_append, List.append_assoc, List.flatten_cons, List.flatten_nil, List.replicate_succ, List.replicate_zero, List.contains_cons, List.contains_nil, List.isEmpty_nil, List.isEmpty_cons, List.map_drop, List.map_take, List.map_replicate, List.length_replicate, List.length_set,   cond_true, cond_false, Option.map_some, Option.map_none, Option.bind_some, Option.bind_none, Option.getD_some, Option.getD_none, Option.isSome_some, Option.isSome_none, beq_self_eq_true, BEq.rfl, Nat.reduceBEq, Nat.reduceAdd, Nat.reduceSub, Nat.reduceMul, Nat.reduceLeDiff, Nat.reduceLT, Nat.reduceEqDiff, Nat.zero_add, Nat.add_zero, Nat.zero_mul, Nat.le_refl, and_self, and_true, true_and, if_true, reduceIte, ite_true, ite_false, Bool.and_true, Bool.true_and, Bool.and_false, Bool.false_and, Bool.not_true, Bool.not_false, Bool.or_true, Bool.or_false, Bool.true_or, Bool.false_or, Int.toNat_zero, Int.toNat_natCast, Int.reduceToNat, Int.reduceLE, Int.reduceLT, Int.reduceBEq, reduceCtorEq, decide_true, decide_false, Bool.false_eq_true, Nat.sub_zero, List.toList_toArray, List.foldl_cons, en193, ok193, en137, ok137, en139, ok139, en24, ok24, en80, ok80, en94, ok94, en110, ok110, en31, ok31, en157_eq, ok157, en231, ok231, en177, ok177, en164_eq, ok164, en268, ok268, tyF, *]; rfl)) : H → GR C draw all k j l F st := fun x => gr_run_ (g x) h
theorem gr_done {H : Prop} {C : Ctx} {draw : Bool} {all : List Oper} {k : List Item} {j : Nat} {F : Fp} {st : St} (g : H → Good C k st) (h : draw = true → chk all F = true := by first | (intro h_; cases h_; done) | (intro _; kernel_rfl)) : H → GR C draw all k j [] F st := fun x => gr_done_ (g x) h
theorem leA_ {a b : List AV} (h : F2 LeA a b := by
   ((try simp only [run, afterR, condC, exitC, exitTo, runO, step1, ofO, fpOf, fpK, writes, de, deT, deB, opD, dstOk, isCall, stepOp, finO, memPut, mset, entO, ent, core, constB, mkeyOf, mval, mrowOf, tupIf, liveM, kOf_i, kOf_s, mkEq_self, mhas_i, mhas_s, midx_i, midx_s, mrow_ii, mrow_ib, mrow_is, mrow_si, mrow_sb, mrow_ss, ment_ii, ment_ib, ment_is, ment_si, ment_sb, ment_ss, mset1_ii, mset1_ib, mset1_is, mset1_si, mset1_sb, mset1_ss, mput_ii, mput_ib, mput_is, mput_si, mput_sb, mput_ss, tst_map, coreB, lenA, minA, maxA, rowsB, appT, appS, appB, fullR, keyApp, keyV, keyL, liveC, liveB, liveZ, keyOf, oget, fget, lk, ofConst, cellsC, aggC, cell1, eff, binop, intOp, strOp, unop, ld, splice, fillP, aplace, placeOf, rowsN, oint, AV.cells, AV.pv, PV.std, AV.rows, pvs, appN, appC, rowsOk, irow, srw, brw, lrw, St.put, back, renA, ren1, ren0, renO, resOf, resAll, resOne, tupOf, fnOf, rk, inn, ok1, okB, okA, okT, okO, ok0, renB, liveP, liveZ0, nagg, one1, scH, bldZ, nvs, AV.nv, PV.sc, PV.isL, nilOrE, List.filter_cons, List.filter_nil, List.all_cons, List.all_nil,   unint, unint_map, bytesOf_eq, bnd_, rowsOk_irow, rowsOk_srw, rowsOk_brw, rowsOk_lrw, rowsOk_app, take_map_len, map_set_, set_map_,   List.range, List.range.loop, List.zip, List.zipWith, List.zip_cons_cons, List.zip_nil_left, List.zip_nil_right, List.length_cons, List.length_nil, List.length_map, List.length_append, List.map_cons, List.map_nil, List.map_append, List.getElem?_map, List.drop_succ_cons, List.drop_zero, List.drop_nil, List.take_succ_cons, List.take_zero, List.take_nil, List.take_length, List.set_cons_succ, List.set_cons_zero, List.head?_cons, List.head?_nil, List.getElem?_cons_succ, List.getElem?_cons_zero, List.append_nil, List.nil_append, List.cons_append, List.append_assoc, List.flatten_cons, List.flatten_nil, List.replicate_succ, List.replicate_zero, List.contains_cons, List.contains_nil, List.isEmpty_nil, List.isEmpty_cons, List.map_drop, List.map_take, List.map_replicate, List.length_replicate, List.length_set,   cond_true, cond_false, Option.map_some, Option.map_none, Option.bind_some, Option.bind_none, Option.getD_some, Option.getD_none, Option.isSome_some, Option.isSome_none, beq_self_eq_true, BEq.rfl, Nat.reduceBEq, Nat.reduceAdd, Nat.reduceSub, Nat.reduceMul, Nat.reduceLeDiff, Nat.reduceLT, Nat.reduceEqDiff, Nat.zero_add, Nat.add_zero, Nat.zero_mul, Nat.le_refl, and_self, and_true, true_and, if_true, reduceIte, ite_true, ite_false, Bool.and_true, Bool.true_and, Bool.and_false, Bool.false_and, Bool.not_true, Bool.not_false, Bool.or_true, Bool.or_false, Bool.true_or, Bool.false_or, Int.toNat_zero, Int.toNat_natCast, Int.reduceToNat, Int.reduceLE, Int.reduceLT, Int.reduceBEq, reduceCtorEq, decide_true, decide_false, Bool.false_eq_true, Nat.sub_zero, List.toList_toArray, List.foldl_cons, en193, ok193, en137, ok137, en139, ok139, en24, ok24, en80, ok80, en94, ok94, en110, ok110, en31, ok31, en157_eq, ok157, en231, ok231, en177, ok177, en164_eq, ok164, en268, ok268, tyF, *]); repeat' first | exact F2.nil | exact LeA.of _ _ (Le.refl _) | exact LeA.of _ _ (Le.nil _) | exact LeA.of _ _ (Le.full _) | exact LeA.of _ _ (Le.tip _ _ _) | exact LeA.of _ _ (Le.nwp _) | exact LeA.of _ _ (Le.odp _) | exact LeA.of _ _ (Le.u _) | exact Le.refl _ | exact Le.nil _ | exact Le.full _ | exact Le.tip _ _ _ | exact Le.nwp _ | exact Le.odp _ | exact Le.u _ | refine F2.cons ?_ ?_ | refine LeA.agg _ _ ?_)) : F2 LeA a b := h
theorem fits_ {σ : Sg} {mc m : Mem} (h : Fits σ mc m := by
     (first | exact fits_nil _ | (refine ⟨?_, by (first | decide | exact smd_), by (first | decide | exact smd_), by (first | decide | exact smd_)⟩; (repeat' first | exact all0 | refine all1 ?_ ?_); all_goals exact ⟨by (first | rfl | exact sm_), _, _, _, rfl, rfl, by
   (simp only [LeO, run, afterR, condC, exitC, exitTo, runO, step1, ofO, fpOf, fpK, writes, de, deT, deB, opD, dstOk, isCall, stepOp, finO, memPut, mset, entO, ent, core, constB, mkeyOf, mval, mrowOf, tupIf, liveM, kOf_i, kOf_s, mkEq_self, mhas_i, mhas_s, midx_i, midx_s, mrow_ii, mrow_ib, mrow_is, mrow_si, mrow_sb, mrow_ss, ment_ii, ment_ib, ment_is, ment_si, ment_sb, ment_ss, mset1_ii, mset1_ib, mset1_is, mset1_si, mset1_sb, mset1_ss, mput_ii, mput_ib, mput_is, mput_si, mput_sb, mput_ss, tst_map, coreB, lenA, minA, maxA, rowsB, appT, appS, appB, fullR, keyApp, keyV, keyL, liveC, liveB, liveZ, keyOf, oget, fget, lk, ofConst, cellsC, aggC, cell1, eff, binop, intOp, strOp, unop, ld, splice, fillP, aplace, placeOf, rowsN, oint, AV.cells, AV.pv, PV.std, AV.rows, pvs, appN, appC, rowsOk, irow, srw, brw, lrw, St.put, back, renA, ren1, ren0, renO, resOf, resAll, resOne, tupOf, fnOf, rk, inn, ok1, okB, okA, okT, okO, ok0, renB, liveP, liveZ0, nagg, one1, scH, bldZ, nvs, AV.nv, PV.sc, PV.isL, nilOrE, List.filter_cons, List.filter_nil, List.all_cons, List.all_nil,   unint, unint_map, bytesOf_eq, bnd_, rowsOk_irow, rowsOk_srw, rowsOk_brw, rowsOk_lrw, rowsOk_app, take_map_len, map_set_, set_map_,   List.range, List.range.loop, List.zip, List.zipWith, List.zip_cons_cons, List.zip_nil_left, List.zip_nil_right, List.length_cons, List.length_nil, List.length_map, List.length_append, List.map_cons, List.map_nil, List.map_append, List.getElem?_map, List.drop_succ_cons, List.drop_zero, List.drop_nil, List.take_succ_cons, List.take_zero, List.take_nil, List.take_length, List.set_cons_succ, List.set_cons_zero, List.head?_cons, List.head?_nil, List.getElem?_cons_succ, List.getElem?_cons_zero, List.append_nil, List.nil_append, List.cons_append, List.append_assoc, List.flatten_cons, List.flatten_nil, List.replicate_succ, List.replicate_zero, List.contains_cons, List.contains_nil, List.isEmpty_nil, List.isEmpty_cons, List.map_drop, List.map_take, List.map_replicate, List.length_replicate, List.length_set,   cond_true, cond_false, Option.map_some, Option.map_none, Option.bind_some, Option.bind_none, Option.getD_some, Option.getD_none, Option.isSome_some, Option.isSome_none, beq_self_eq_true, BEq.rfl, Nat.reduceBEq, Nat.reduceAdd, Nat.reduceSub, Nat.reduceMul, Nat.reduceLeDiff, Nat.reduceLT, Nat.reduceEqDiff, Nat.zero_add, Nat.add_zero, Nat.zero_mul, Nat.le_refl, and_self, and_true, true_and, if_true, reduceIte, ite_true, ite_false, Bool.and_true, Bool.true_and, Bool.and_false, Bool.false_and, Bool.not_true, Bool.not_false, Bool.or_true, Bool.or_false, Bool.true_or, Bool.false_or, Int.toNat_zero, Int.toNat_natCast, Int.reduceToNat, Int.reduceLE, Int.reduceLT, Int.reduceBEq, reduceCtorEq, decide_true, decide_false, Bool.false_eq_true, Nat.sub_zero, List.toList_toArray, List.foldl_cons, en193, ok193, en137, ok137, en139, ok139, en24, ok24, en80, ok80, en94, ok94, en110, ok110, en31, ok31, en157_eq, ok157, en231, ok231, en177, ok177, en164_eq, ok164, en268, ok268, tyF, *]; repeat' first | exact F2.nil | refine F2.cons ?_ ?_ | exact Le.refl _ | exact Le.nil _ | exact Le.full _ | exact Le.tip _ _ _ | exact Le.nwp _ | exact Le.odp _ | exact Le.u _ | refine And.intro ?_ ?_ | rfl | trivial)⟩))) : Fits σ mc m := h
theorem fitsOut_ {σ : Sg} {mc mc' m : Mem} (h : FitsOut σ mc mc' m := by
     (first | exact fitsOut_nil _ | (refine ⟨?_, by (first | decide | exact smd_), by (repeat' first | exact all0 | refine all1 rfl ?_)⟩; (repeat' first | exact all0 | refine all1 ?_ ?_); all_goals exact ⟨_, _, rfl, by first | exact Or.inl rfl | (right; first | exact sm_ | exact smo_ | exact smo0_ | decide)⟩))) : FitsOut σ mc mc' m := h
theorem endOk_ {σ : Sg} {m m' m0 : Mem} (h : EndOk σ m m' m0 := by
     (first | exact endOk_nil _ | exact ⟨fits_, by ((repeat' first | exact all0 | refine all1 ?_ ?_); all_goals first | exact Or.inl rfl | (right; first | exact sm_ | exact smo_ | exact smo0_ | decide)), by (repeat' first | exact all0 | refine all1 (by first | exact Nat.le_refl _ | exact smo_) ?_)⟩)) : EndOk σ m m' m0 := h
theorem gr_call {H : Prop} {C : Ctx} {draw : Bool} {all : List Oper} {k : List Item} {j : Nat} {o : Oper} {r : List Oper} {F : Fp} {st : St} {fv : Operand} {args : Array Operand} {ts : Array TypeId} {f : FuncId} {first caps : List AV} (σ : Sg) {cargs : List AV} {mc mc' : Mem} {v : AV}
   (hcon : Con C.hint.2.2 C.P f cargs mc v mc') (g : H → GR C draw all k (j + 1) r (F ++ σ.map (fun q => (j, q.2.2.1, true))) ({ st with mem := back σ st.mem mc' }.put o.dst (renA σ v)))
   (hop : o.op = .call { callee := .value fv, args := args, argTypes := ts } := by rfl)
   (h : de all st.fr o = .call := by exact sm_) (hd : dstOk C.hint.1 o.dst = true := by exact sms_) (hf : fnOf (oget st.fr fv) = some (f, first, caps) := by 
   exact smt_)
   (hargs : F2 LeA (first ++ args.toList.map (oget st.fr) ++ caps) (cargs.map (renA σ)) := by exact leA_) (hok : cargs.all (okA (inn σ mc)) = true := by (first | rfl | exact sm_)) (hm : Fits σ mc st.mem := by exact fits_)
   (ho : FitsOut σ mc mc' st.mem := by exact fitsOut_) : H → GR C draw all k j (o :: r) F st := fun x => gr_call_ σ hcon (g x) h hd hop hf hargs hok hm ho
theorem frle_ {fr fr' : List (Nat × AV)} (h : frLe fr fr' := by
   (simp only [frLe, run, afterR, condC, exitC, exitTo, runO, step1, ofO, fpOf, fpK, writes, de, deT, deB, opD, dstOk, isCall, stepOp, finO, memPut, mset, entO, ent, core, constB, mkeyOf, mval, mrowOf, tupIf, liveM, kOf_i, kOf_s, mkEq_self, mhas_i, mhas_s, midx_i, midx_s, mrow_ii, mrow_ib, mrow_is, mrow_si, mrow_sb, mrow_ss, ment_ii, ment_ib, ment_is, ment_si, ment_sb, ment_ss, mset1_ii, mset1_ib, mset1_is, mset1_si, mset1_sb, mset1_ss, mput_ii, mput_ib, mput_is, mput_si, mput_sb, mput_ss, tst_map, coreB, lenA, minA, maxA, rowsB, appT, appS, appB, fullR, keyApp, keyV, keyL, liveC, liveB, liveZ, keyOf, oget, fget, lk, ofConst, cellsC, aggC, cell1, eff, binop, intOp, strOp, unop, ld, splice, fillP, aplace, placeOf, rowsN, oint, AV.cells, AV.pv, PV.std, AV.rows, pvs, appN, appC, rowsOk, irow, srw, brw, lrw, St.put, back, renA, ren1, ren0, renO, resOf, resAll, resOne, tupOf, fnOf, rk, inn, ok1, okB, okA, okT, okO, ok0, renB, liveP, liveZ0, nagg, one1, scH, bldZ, nvs, AV.nv, PV.sc, PV.isL, nilOrE, List.filter_cons, List.filter_nil, List.all_cons, List.all_nil,   unint, unint_map, bytesOf_eq, bnd_, rowsOk_irow, rowsOk_srw, rowsOk_brw, rowsOk_lrw, rowsOk_app, take_map_len, map_set_, set_map_,   List.range, List.range.loop, List.zip, List.zipWith, List.zip_cons_cons, List.zip_nil_left, List.zip_nil_right, List.length_cons, List.length_nil, List.length_map, List.length_append, List.map_cons, List.map_nil, List.map_append, List.getElem?_map, List.drop_succ_cons, List.drop_zero, List.drop_nil, List.take_succ_cons, List.take_zero, List.take_nil, List.take_length, List.set_cons_succ, List.set_cons_zero, List.head?_cons, List.head?_nil, List.getElem?_cons_succ, List.getElem?_cons_zero, List.append_nil, List.nil_append, List.cons_append, List.append_assoc, List.flatten_cons, List.flatten_nil, List.replicate_succ, List.replicate_zero, List.contains_cons, List.contains_nil, List.isEmpty_nil, List.isEmpty_cons, List.map_drop, List.map_take, List.map_replicate, List.length_replicate, List.length_set,   cond_true, cond_false, Option.map_some, Option.map_none, Option.bind_some, Option.bind_none, Option.getD_some, Option.getD_none, Option.isSome_some, Option.isSome_none, beq_self_eq_true, BEq.rfl, Nat.reduceBEq, Nat.reduceAdd, Nat.reduceSub, Nat.reduceMul, Nat.reduceLeDiff, Nat.reduceLT, Nat.reduceEqDiff, Nat.zero_add, Nat.add_zero, Nat.zero_mul, Nat.le_refl, and_self, and_true, true_and, if_true, reduceIte, ite_true, ite_false, Bool.and_true, Bool.true_and, Bool.and_false, Bool.false_and, Bool.not_true, Bool.not_false, Bool.or_true, Bool.or_false, Bool.true_or, Bool.false_or, Int.toNat_zero, Int.toNat_natCast, Int.reduceToNat, Int.reduceLE, Int.reduceLT, Int.reduceBEq, reduceCtorEq, decide_true, decide_false, Bool.false_eq_true, Nat.sub_zero, List.toList_toArray, List.foldl_cons, en193, ok193, en137, ok137, en139, ok139, en24, ok24, en80, ok80, en94, ok94, en110, ok110, en31, ok31, en157_eq, ok157, en231, ok231, en177, ok177, en164_eq, ok164, en268, ok268, tyF, *]; repeat' first | trivial | exact LeA.of _ _ (Le.refl _) | exact LeA.of _ _ (Le.nil _) | exact LeA.of _ _ (Le.full _) | exact LeA.of _ _ (Le.tip _ _ _) | exact LeA.of _ _ (Le.nwp _) | exact LeA.of _ _ (Le.odp _) | exact LeA.of _ _ (Le.u _) | exact F2.nil | exact Le.refl _ | exact Le.nil _ | exact Le.full _ | exact Le.tip _ _ _ | exact Le.nwp _ | exact Le.odp _ | exact Le.u _ | refine F2.cons ?_ ?_ | refine LeA.agg _ _ ?_ | refine And.intro ?_ ?_)) : frLe fr fr' := h
theorem memle_ {m m' : Mem} (h : memLe m m' := by
   (simp only [memLe, leE, LeO, run, afterR, condC, exitC, exitTo, runO, step1, ofO, fpOf, fpK, writes, de, deT, deB, opD, dstOk, isCall, stepOp, finO, memPut, mset, entO, ent, core, constB, mkeyOf, mval, mrowOf, tupIf, liveM, kOf_i, kOf_s, mkEq_self, mhas_i, mhas_s, midx_i, midx_s, mrow_ii, mrow_ib, mrow_is, mrow_si, mrow_sb, mrow_ss, ment_ii, ment_ib, ment_is, ment_si, ment_sb, ment_ss, mset1_ii, mset1_ib, mset1_is, mset1_si, mset1_sb, mset1_ss, mput_ii, mput_ib, mput_is, mput_si, mput_sb, mput_ss, tst_map, coreB, lenA, minA, maxA, rowsB, appT, appS, appB, fullR, keyApp, keyV, keyL, liveC, liveB, liveZ, keyOf, oget, fget, lk, ofConst, cellsC, aggC, cell1, eff, binop, intOp, strOp, unop, ld, splice, fillP, aplace, placeOf, rowsN, oint, AV.cells, AV.pv, PV.std, AV.rows, pvs, appN, appC, rowsOk, irow, srw, brw, lrw, St.put, back, renA, ren1, ren0, renO, resOf, resAll, resOne, tupOf, fnOf, rk, inn, ok1, okB, okA, okT, okO, ok0, renB, liveP, liveZ0, nagg, one1, scH, bldZ, nvs, AV.nv, PV.sc, PV.isL, nilOrE, List.filter_cons, List.filter_nil, List.all_cons, List.all_nil,   unint, unint_map, bytesOf_eq, bnd_, rowsOk_irow, rowsOk_srw, rowsOk_brw, rowsOk_lrw, rowsOk_app, take_map_len, map_set_, set_map_,   List.range, List.range.loop, List.zip, List.zipWith, List.zip_cons_cons, List.zip_nil_left, List.zip_nil_right, List.length_cons, List.length_nil, List.length_map, List.length_append, List.map_cons, List.map_nil, List.map_append, List.getElem?_map, List.drop_succ_cons, List.drop_zero, List.drop_nil, List.take_succ_cons, List.take_zero, List.take_nil, List.take_length, List.set_cons_succ, List.set_cons_zero, List.head?_cons, List.head?_nil, List.getElem?_cons_succ, List.getElem?_cons_zero, List.append_nil, List.nil_append, List.cons_append, List.append_assoc, List.flatten_cons, List.flatten_nil, List.replicate_succ, List.replicate_zero, List.contains_cons, List.contains_nil, List.isEmpty_nil, List.isEmpty_cons, List.map_drop, List.map_take, List.map_replicate, List.length_replicate, List.length_set,   cond_true, cond_false, Option.map_some, Option.map_none, Option.bind_some, Option.bind_none, Option.getD_some, Option.getD_none, Option.isSome_some, Option.isSome_none, beq_self_eq_true, BEq.rfl, Nat.reduceBEq, Nat.reduceAdd, Nat.reduceSub, Nat.reduceMul, Nat.reduceLeDiff, Nat.reduceLT, Nat.reduceEqDiff, Nat.zero_add, Nat.add_zero, Nat.zero_mul, Nat.le_refl, and_self, and_true, true_and, if_true, reduceIte, ite_true, ite_false, Bool.and_true, Bool.true_and, Bool.and_false, Bool.false_and, Bool.not_true, Bool.not_false, Bool.or_true, Bool.or_false, Bool.true_or, Bool.false_or, Int.toNat_zero, Int.toNat_natCast, Int.reduceToNat, Int.reduceLE, Int.reduceLT, Int.reduceBEq, reduceCtorEq, decide_true, decide_false, Bool.false_eq_true, Nat.sub_zero, List.toList_toArray, List.foldl_cons, en193, ok193, en137, ok137, en139, ok139, en24, ok24, en80, ok80, en94, ok94, en110, ok110, en31, ok31, en157_eq, ok157, en231, ok231, en177, ok177, en164_eq, ok164, en268, ok268, tyF, *]; repeat' first | trivial | rfl | exact F2.nil | exact Le.refl _ | exact Le.nil _ | exact Le.full _ | exact Le.tip _ _ _ | exact Le.nwp _ | exact Le.odp _ | exact Le.u _ | refine F2.cons ?_ ?_ | refine And.intro ?_ ?_)) (hk : memKeys m m' := by exact ⟨by
   (simp only [run, afterR, condC, exitC, exitTo, runO, step1, ofO, fpOf, fpK, writes, de, deT, deB, opD, dstOk, isCall, stepOp, finO, memPut, mset, entO, ent, core, constB, mkeyOf, mval, mrowOf, tupIf, liveM, kOf_i, kOf_s, mkEq_self, mhas_i, mhas_s, midx_i, midx_s, mrow_ii, mrow_ib, mrow_is, mrow_si, mrow_sb, mrow_ss, ment_ii, ment_ib, ment_is, ment_si, ment_sb, ment_ss, mset1_ii, mset1_ib, mset1_is, mset1_si, mset1_sb, mset1_ss, mput_ii, mput_ib, mput_is, mput_si, mput_sb, mput_ss, tst_map, coreB, lenA, minA, maxA, rowsB, appT, appS, appB, fullR, keyApp, keyV, keyL, liveC, liveB, liveZ, keyOf, oget, fget, lk, ofConst, cellsC, aggC, cell1, eff, binop, intOp, strOp, unop, ld, splice, fillP, aplace, placeOf, rowsN, oint, AV.cells, AV.pv, PV.std, AV.rows, pvs, appN, appC, rowsOk, irow, srw, brw, lrw, St.put, back, renA, ren1, ren0, renO, resOf, resAll, resOne, tupOf, fnOf, rk, inn, ok1, okB, okA, okT, okO, ok0, renB, liveP, liveZ0, nagg, one1, scH, bldZ, nvs, AV.nv, PV.sc, PV.isL, nilOrE, List.filter_cons, List.filter_nil, List.all_cons, List.all_nil,   unint, unint_map, bytesOf_eq, bnd_, rowsOk_irow, rowsOk_srw, rowsOk_brw, rowsOk_lrw, rowsOk_app, take_map_len, map_set_, set_map_,   List.range, List.range.loop, List.zip, List.zipWith, List.zip_cons_cons, List.zip_nil_left, List.zip_nil_right, List.length_cons, List.length_nil, List.length_map, List.length_append, List.map_cons, List.map_nil, List.map_append, List.getElem?_map, List.drop_succ_cons, List.drop_zero, List.drop_nil, List.take_succ_cons, List.take_zero, List.take_nil, List.take_length, List.set_cons_succ, List.set_cons_zero, List.head?_cons, List.head?_nil, List.getElem?_cons_succ, List.getElem?_cons_zero, List.append_nil, List.nil_append, List.cons_append, List.append_assoc, List.flatten_cons, List.flatten_nil, List.replicate_succ, List.replicate_zero, List.contains_cons, List.contains_nil, List.isEmpty_nil, List.isEmpty_cons, List.map_drop, List.map_take, List.map_replicate, List.length_replicate, List.length_set,   cond_true, cond_false, Option.map_some, Option.map_none, Option.bind_some, Option.bind_none, Option.getD_some, Option.getD_none, Option.isSome_some, Option.isSome_none, beq_self_eq_true, BEq.rfl, Nat.reduceBEq, Nat.reduceAdd, Nat.reduceSub, Nat.reduceMul, Nat.reduceLeDiff, Nat.reduceLT, Nat.reduceEqDiff, Nat.zero_add, Nat.add_zero, Nat.zero_mul, Nat.le_refl, and_self, and_true, true_and, if_true, reduceIte, ite_true, ite_false, Bool.and_true, Bool.true_and, Bool.and_false, Bool.false_and, Bool.not_true, Bool.not_false, Bool.or_true, Bool.or_false, Bool.true_or, Bool.false_or, Int.toNat_zero, Int.toNat_natCast, Int.reduceToNat, Int.reduceLE, Int.reduceLT, Int.reduceBEq, reduceCtorEq, decide_true, decide_false, Bool.false_eq_true, Nat.sub_zero, List.toList_toArray, List.foldl_cons, en193, ok193, en137, ok137, en139, ok139, en24, ok24, en80, ok80, en94, ok94, en110, ok110, en31, ok31, en157_eq, ok157, en231, ok231, en177, ok177, en164_eq, ok164, en268, ok268, tyF, List.all_cons, List.all_nil]), by 
   (first | decide |
   (simp only [run, afterR, condC, exitC, exitTo, runO, step1, ofO, fpOf, fpK, writes, de, deT, deB, opD, dstOk, isCall, stepOp, finO, memPut, mset, entO, ent, core, constB, mkeyOf, mval, mrowOf, tupIf, liveM, kOf_i, kOf_s, mkEq_self, mhas_i, mhas_s, midx_i, midx_s, mrow_ii, mrow_ib, mrow_is, mrow_si, mrow_sb, mrow_ss, ment_ii, ment_ib, ment_is, ment_si, ment_sb, ment_ss, mset1_ii, mset1_ib, mset1_is, mset1_si, mset1_sb, mset1_ss, mput_ii, mput_ib, mput_is, mput_si, mput_sb, mput_ss, tst_map, coreB, lenA, minA, maxA, rowsB, appT, appS, appB, fullR, keyApp, keyV, keyL, liveC, liveB, liveZ, keyOf, oget, fget, lk, ofConst, cellsC, aggC, cell1, eff, binop, intOp, strOp, unop, ld, splice, fillP, aplace, placeOf, rowsN, oint, AV.cells, AV.pv, PV.std, AV.rows, pvs, appN, appC, rowsOk, irow, srw, brw, lrw, St.put, back, renA, ren1, ren0, renO, resOf, resAll, resOne, tupOf, fnOf, rk, inn, ok1, okB, okA, okT, okO, ok0, renB, liveP, liveZ0, nagg, one1, scH, bldZ, nvs, AV.nv, PV.sc, PV.isL, nilOrE, List.filter_cons, List.filter_nil, List.all_cons, List.all_nil,   unint, unint_map, bytesOf_eq, bnd_, rowsOk_irow, rowsOk_srw, rowsOk_brw, rowsOk_lrw, rowsOk_app, take_map_len, map_set_, set_map_,   List.range, List.range.loop, List.zip, List.zipWith, List.zip_cons_cons, List.zip_nil_left, List.zip_nil_right, List.length_cons, List.length_nil, List.length_map, List.length_append, List.map_cons, List.map_nil, List.map_append, List.getElem?_map, List.drop_succ_cons, List.drop_zero, List.drop_nil, List.take_succ_cons, List.take_zero, List.take_nil, List.take_length, List.set_cons_succ, List.set_cons_zero, List.head?_cons, List.head?_nil, List.getElem?_cons_succ, List.getElem?_cons_zero, List.append_nil, List.nil_append, List.cons_append, List.append_assoc, List.flatten_cons, List.flatten_nil, List.replicate_succ, List.replicate_zero, List.contains_cons, List.contains_nil, List.isEmpty_nil, List.isEmpty_cons, List.map_drop, List.map_take, List.map_replicate, List.length_replicate, List.length_set,   cond_true, cond_false, Option.map_some, Option.map_none, Option.bind_some, Option.bind_none, Option.getD_some, Option.getD_none, Option.isSome_some, Option.isSome_none, beq_self_eq_true, BEq.rfl, Nat.reduceBEq, Nat.reduceAdd, Nat.reduceSub, Nat.reduceMul, Nat.reduceLeDiff, Nat.reduceLT, Nat.reduceEqDiff, Nat.zero_add, Nat.add_zero, Nat.zero_mul, Nat.le_refl, and_self, and_true, true_and, if_true, reduceIte, ite_true, ite_false, Bool.and_true, Bool.true_and, Bool.and_false, Bool.false_and, Bool.not_true, Bool.not_false, Bool.or_true, Bool.or_false, Bool.true_or, Bool.false_or, Int.toNat_zero, Int.toNat_natCast, Int.reduceToNat, Int.reduceLE, Int.reduceLT, Int.reduceBEq, reduceCtorEq, decide_true, decide_false, Bool.false_eq_true, Nat.sub_zero, List.toList_toArray, List.foldl_cons, en193, ok193, en137, ok137, en139, ok139, en24, ok24, en80, ok80, en94, ok94, en110, ok110, en31, ok31, en157_eq, ok157, en231, ok231, en177, ok177, en164_eq, ok164, en268, ok268, tyF, *]; try decide))⟩) : memLe m m' ∧ memKeys m m' := ⟨h, hk⟩
theorem nf_ {p q : Prop} (h : p) (e : p = q := by ((try simp only [run, afterR, condC, exitC, exitTo, runO, step1, ofO, fpOf, fpK, writes, de, deT, deB, opD, dstOk, isCall, stepOp, finO, memPut, mset, entO, ent, core, constB, mkeyOf, mval, mrowOf, tupIf, liveM, kOf_i, kOf_s, mkEq_self, mhas_i, mhas_s, midx_i, midx_s, mrow_ii, mrow_ib, mrow_is, mrow_si, mrow_sb, mrow_ss, ment_ii, ment_ib, ment_is, ment_si, ment_sb, ment_ss, mset1_ii, mset1_ib, mset1_is, mset1_si, mset1_sb, mset1_ss, mput_ii, mput_ib, mput_is, mput_si, mput_sb, mput_ss, tst_map, coreB, lenA, minA, maxA, rowsB, appT, appS, appB, fullR, keyApp, keyV, keyL, liveC, liveB, liveZ, keyOf, oget, fget, lk, ofConst, cellsC, aggC, cell1, eff, binop, intOp, strOp, unop, ld, splice, fillP, aplace, placeOf, rowsN, oint, AV.cells, AV.pv, PV.std, AV.rows, pvs, appN, appC, rowsOk, irow, srw, brw, lrw, St.put, back, renA, ren1, ren0, renO, resOf, resAll, resOne, tupOf, fnOf, rk, inn, ok1, okB, okA, okT, okO, ok0, renB, liveP, liveZ0, nagg, one1, scH, bldZ, nvs, AV.nv, PV.sc, PV.isL, nilOrE, List.filter_cons, List.filter_nil, List.all_cons, List.all_nil,   unint, unint_map, bytesOf_eq, bnd_, rowsOk_irow, rowsOk_srw, rowsOk_brw, rowsOk_lrw, rowsOk_app, take_map_len, map_set_, set_map_,   List.range, List.range.loop, List.zip, List.zipWith, List.zip_cons_cons, List.zip_nil_left, List.zip_nil_right, List.length_cons, List.length_nil, List.length_map, List.length_append, List.map_cons, List.map_nil, List.map_append, List.getElem?_map, List.drop_succ_cons, List.drop_zero, List.drop_nil, List.take_succ_cons, List.take_zero, List.take_nil, List.take_length, List.set_cons_succ, List.set_cons_zero, List.head?_cons, List.head?_nil, List.getElem?_cons_succ, List.getElem?_cons_zero, List.append_nil, List.nil_append, List.cons_append, List.append_assoc, List.flatten_cons, List.flatten_nil, List.replicate_succ, List.replicate_zero, List.contains_cons, List.contains_nil, List.isEmpty_nil, List.isEmpty_cons, List.map_drop, List.map_take, List.map_replicate, List.length_replicate, List.length_set,   cond_true, cond_false, Option.map_some, Option.map_none, Option.bind_some, Option.bind_none, Option.getD_some, Option.getD_none, Option.isSome_some, Option.isSome_none, beq_self_eq_true, BEq.rfl, Nat.reduceBEq, Nat.reduceAdd, Nat.reduceSub, Nat.reduceMul, Nat.reduceLeDiff, Nat.reduceLT, Nat.reduceEqDiff, Nat.zero_add, Nat.add_zero, Nat.zero_mul, Nat.le_refl, and_self, and_true, true_and, if_true, reduceIte, ite_true, ite_false, Bool.and_true, Bool.true_and, Bool.and_false, Bool.false_and, Bool.not_true, Bool.not_false, Bool.or_true, Bool.or_false, Bool.true_or, Bool.false_or, Int.toNat_zero, Int.toNat_natCast, Int.reduceToNat, Int.reduceLE, Int.reduceLT, Int.reduceBEq, reduceCtorEq, decide_true, decide_false, Bool.false_eq_true, Nat.sub_zero, List.toList_toArray, List.foldl_cons, en193, ok193, en137, ok137, en139, ok139, en24, ok24, en80, ok80, en94, ok94, en110, ok110, en31, ok31, en157_eq, ok157, en231, ok231, en177, ok177, en164_eq, ok164, en268, ok268, tyF]); rfl)) : q := e ▸ h
theorem adopt_ {H : Prop} {C : Ctx} {it : List Item} {st : St} (s k z : Nat) (g : H → Good C it { fr := (s, .tip k ((ent st.mem k).1 + 1) []) :: st.fr, mem := mset st.mem k ((ent st.mem k).1 + 1, .tip z 0) }) (hs : fget st.fr s = .p .nilS := by 
   (simp only [run, afterR, condC, exitC, exitTo, runO, step1, ofO, fpOf, fpK, writes, de, deT, deB, opD, dstOk, isCall, stepOp, finO, memPut, mset, entO, ent, core, constB, mkeyOf, mval, mrowOf, tupIf, liveM, kOf_i, kOf_s, mkEq_self, mhas_i, mhas_s, midx_i, midx_s, mrow_ii, mrow_ib, mrow_is, mrow_si, mrow_sb, mrow_ss, ment_ii, ment_ib, ment_is, ment_si, ment_sb, ment_ss, mset1_ii, mset1_ib, mset1_is, mset1_si, mset1_sb, mset1_ss, mput_ii, mput_ib, mput_is, mput_si, mput_sb, mput_ss, tst_map, coreB, lenA, minA, maxA, rowsB, appT, appS, appB, fullR, keyApp, keyV, keyL, liveC, liveB, liveZ, keyOf, oget, fget, lk, ofConst, cellsC, aggC, cell1, eff, binop, intOp, strOp, unop, ld, splice, fillP, aplace, placeOf, rowsN, oint, AV.cells, AV.pv, PV.std, AV.rows, pvs, appN, appC, rowsOk, irow, srw, brw, lrw, St.put, back, renA, ren1, ren0, renO, resOf, resAll, resOne, tupOf, fnOf, rk, inn, ok1, okB, okA, okT, okO, ok0, renB, liveP, liveZ0, nagg, one1, scH, bldZ, nvs, AV.nv, PV.sc, PV.isL, nilOrE, List.filter_cons, List.filter_nil, List.all_cons, List.all_nil,   unint, unint_map, bytesOf_eq, bnd_, rowsOk_irow, rowsOk_srw, rowsOk_brw, rowsOk_lrw, rowsOk_app, take_map_len, map_set_, set_map_,   List.range, List.range.loop, List.zip, List.zipWith, List.zip_cons_cons, List.zip_nil_left, List.zip_nil_right, List.length_cons, List.length_nil, List.length_map, List.length_append, List.map_cons, List.map_nil, List.map_append, List.getElem?_map, List.drop_succ_cons, List.drop_zero, List.drop_nil, List.take_succ_cons, List.take_zero, List.take_nil, List.take_length, List.set_cons_succ, List.set_cons_zero, List.head?_cons, List.head?_nil, List.getElem?_cons_succ, List.getElem?_cons_zero, List.append_nil, List.nil_append, List.cons_append, List.append_assoc, List.flatten_cons, List.flatten_nil, List.replicate_succ, List.replicate_zero, List.contains_cons, List.contains_nil, List.isEmpty_nil, List.isEmpty_cons, List.map_drop, List.map_take, List.map_replicate, List.length_replicate, List.length_set,   cond_true, cond_false, Option.map_some, Option.map_none, Option.bind_some, Option.bind_none, Option.getD_some, Option.getD_none, Option.isSome_some, Option.isSome_none, beq_self_eq_true, BEq.rfl, Nat.reduceBEq, Nat.reduceAdd, Nat.reduceSub, Nat.reduceMul, Nat.reduceLeDiff, Nat.reduceLT, Nat.reduceEqDiff, Nat.zero_add, Nat.add_zero, Nat.zero_mul, Nat.le_refl, and_self, and_true, true_and, if_true, reduceIte, ite_true, ite_false, Bool.and_true, Bool.true_and, Bool.and_false, Bool.false_and, Bool.not_true, Bool.not_false, Bool.or_true, Bool.or_false, Bool.true_or, Bool.false_or, Int.toNat_zero, Int.toNat_natCast, Int.reduceToNat, Int.reduceLE, Int.reduceLT, Int.reduceBEq, reduceCtorEq, decide_true, decide_false, Bool.false_eq_true, Nat.sub_zero, List.toList_toArray, List.foldl_cons, en193, ok193, en137, ok137, en139, ok139, en24, ok24, en80, ok80, en94, ok94, en110, ok110, en31, ok31, en157_eq, ok157, en231, ok231, en177, ok177, en164_eq, ok164, en268, ok268, tyF, *])) : H → Good C it st := fun x => good_adopt s k z hs (g x)
theorem adoptF_ {H : Prop} {C : Ctx} {it : List Item} {st : St} {rows : Rows} (s k z : Nat) (g : H → Good C it { fr := (s, .tip k ((ent st.mem k).1 + 1) rows) :: st.fr, mem := mset st.mem k ((ent st.mem k).1 + 1, .tip z rows.length) }) (hs : fget st.fr s = .p (.lst true rows) := by 
   exact smt_) (hz : rowsOk z rows = true := by
   (first | rfl | simp only [run, afterR, condC, exitC, exitTo, runO, step1, ofO, fpOf, fpK, writes, de, deT, deB, opD, dstOk, isCall, stepOp, finO, memPut, mset, entO, ent, core, constB, mkeyOf, mval, mrowOf, tupIf, liveM, kOf_i, kOf_s, mkEq_self, mhas_i, mhas_s, midx_i, midx_s, mrow_ii, mrow_ib, mrow_is, mrow_si, mrow_sb, mrow_ss, ment_ii, ment_ib, ment_is, ment_si, ment_sb, ment_ss, mset1_ii, mset1_ib, mset1_is, mset1_si, mset1_sb, mset1_ss, mput_ii, mput_ib, mput_is, mput_si, mput_sb, mput_ss, tst_map, coreB, lenA, minA, maxA, rowsB, appT, appS, appB, fullR, keyApp, keyV, keyL, liveC, liveB, liveZ, keyOf, oget, fget, lk, ofConst, cellsC, aggC, cell1, eff, binop, intOp, strOp, unop, ld, splice, fillP, aplace, placeOf, rowsN, oint, AV.cells, AV.pv, PV.std, AV.rows, pvs, appN, appC, rowsOk, irow, srw, brw, lrw, St.put, back, renA, ren1, ren0, renO, resOf, resAll, resOne, tupOf, fnOf, rk, inn, ok1, okB, okA, okT, okO, ok0, renB, liveP, liveZ0, nagg, one1, scH, bldZ, nvs, AV.nv, PV.sc, PV.isL, nilOrE, List.filter_cons, List.filter_nil, List.all_cons, List.all_nil,   unint, unint_map, bytesOf_eq, bnd_, rowsOk_irow, rowsOk_srw, rowsOk_brw, rowsOk_lrw, rowsOk_app, take_map_len, map_set_, set_map_,   List.range, List.range.loop, List.zip, List.zipWith, List.zip_cons_cons, List.zip_nil_left, List.zip_nil_right, List.length_cons, List.length_nil, List.length_map, List.length_append, List.map_cons, List.map_nil, List.map_append, List.getElem?_map, List.drop_succ_cons, List.drop_zero, List.drop_nil, List.take_succ_cons, List.take_zero, List.take_nil, List.take_length, List.set_cons_succ, List.set_cons_zero, List.head?_cons, List.head?_nil, List.getElem?_cons_succ, List.getElem?_cons_zero, List.append_nil, List.nil_append, List.cons_append, List.append_assoc, List.flatten_cons, List.flatten_nil, List.replicate_succ, List.replicate_zero, List.contains_cons, List.contains_nil, List.isEmpty_nil, List.isEmpty_cons, List.map_drop, List.map_take, List.map_replicate, List.length_replicate, List.length_set,   cond_true, cond_false, Option.map_some, Option.map_none, Option.bind_some, Option.bind_none, Option.getD_some, Option.getD_none, Option.isSome_some, Option.isSome_none, beq_self_eq_true, BEq.rfl, Nat.reduceBEq, Nat.reduceAdd, Nat.reduceSub, Nat.reduceMul, Nat.reduceLeDiff, Nat.reduceLT, Nat.reduceEqDiff, Nat.zero_add, Nat.add_zero, Nat.zero_mul, Nat.le_refl, and_self, and_true, true_and, if_true, reduceIte, ite_true, ite_false, Bool.and_true, Bool.true_and, Bool.and_false, Bool.false_and, Bool.not_true, Bool.not_false, Bool.or_true, Bool.or_false, Bool.true_or, Bool.false_or, Int.toNat_zero, Int.toNat_natCast, Int.reduceToNat, Int.reduceLE, Int.reduceLT, Int.reduceBEq, reduceCtorEq, decide_true, decide_false, Bool.false_eq_true, Nat.sub_zero, List.toList_toArray, List.foldl_cons, en193, ok193, en137, ok137, en139, ok139, en24, ok24, en80, ok80, en94, ok94, en110, ok110, en31, ok31, en157_eq, ok157, en231, ok231, en177, ok177, en164_eq, ok164, en268, ok268, tyF])) : H → Good C it st := fun x => good_adoptF s k z hz hs (g x)
theorem adoptc_ {H : Prop} {C : Ctx} {it : List Item} {st : St} (k0 o k z : Nat) {g0 : Nat} {cs : List AV} (g : H → Good C it { st with mem := mset (mset st.mem k ((ent st.mem k).1 + 1, .tip z 0)) k0 (g0, .cells (cs.set o (.tip k ((ent st.mem k).1 + 1) []))) }) (hs : lk st.mem k0 = some (g0, .cells cs) := by 
   exact smr_) (hc : cs[o]? = some (.p .nilS) := by 
   (simp only [run, afterR, condC, exitC, exitTo, runO, step1, ofO, fpOf, fpK, writes, de, deT, deB, opD, dstOk, isCall, stepOp, finO, memPut, mset, entO, ent, core, constB, mkeyOf, mval, mrowOf, tupIf, liveM, kOf_i, kOf_s, mkEq_self, mhas_i, mhas_s, midx_i, midx_s, mrow_ii, mrow_ib, mrow_is, mrow_si, mrow_sb, mrow_ss, ment_ii, ment_ib, ment_is, ment_si, ment_sb, ment_ss, mset1_ii, mset1_ib, mset1_is, mset1_si, mset1_sb, mset1_ss, mput_ii, mput_ib, mput_is, mput_si, mput_sb, mput_ss, tst_map, coreB, lenA, minA, maxA, rowsB, appT, appS, appB, fullR, keyApp, keyV, keyL, liveC, liveB, liveZ, keyOf, oget, fget, lk, ofConst, cellsC, aggC, cell1, eff, binop, intOp, strOp, unop, ld, splice, fillP, aplace, placeOf, rowsN, oint, AV.cells, AV.pv, PV.std, AV.rows, pvs, appN, appC, rowsOk, irow, srw, brw, lrw, St.put, back, renA, ren1, ren0, renO, resOf, resAll, resOne, tupOf, fnOf, rk, inn, ok1, okB, okA, okT, okO, ok0, renB, liveP, liveZ0, nagg, one1, scH, bldZ, nvs, AV.nv, PV.sc, PV.isL, nilOrE, List.filter_cons, List.filter_nil, List.all_cons, List.all_nil,   unint, unint_map, bytesOf_eq, bnd_, rowsOk_irow, rowsOk_srw, rowsOk_brw, rowsOk_lrw, rowsOk_app, take_map_len, map_set_, set_map_,   List.range, List.range.loop, List.zip, List.zipWith, List.zip_cons_cons, List.zip_nil_left, List.zip_nil_right, List.length_cons, List.length_nil, List.length_map, List.length_append, List.map_cons, List.map_nil, List.map_append, List.getElem?_map, List.drop_succ_cons, List.drop_zero, List.drop_nil, List.take_succ_cons, List.take_zero, List.take_nil, List.take_length, List.set_cons_succ, List.set_cons_zero, List.head?_cons, List.head?_nil, List.getElem?_cons_succ, List.getElem?_cons_zero, List.append_nil, List.nil_append, List.cons_append, List.append_assoc, List.flatten_cons, List.flatten_nil, List.replicate_succ, List.replicate_zero, List.contains_cons, List.contains_nil, List.isEmpty_nil, List.isEmpty_cons, List.map_drop, List.map_take, List.map_replicate, List.length_replicate, List.length_set,   cond_true, cond_false, Option.map_some, Option.map_none, Option.bind_some, Option.bind_none, Option.getD_some, Option.getD_none, Option.isSome_some, Option.isSome_none, beq_self_eq_true, BEq.rfl, Nat.reduceBEq, Nat.reduceAdd, Nat.reduceSub, Nat.reduceMul, Nat.reduceLeDiff, Nat.reduceLT, Nat.reduceEqDiff, Nat.zero_add, Nat.add_zero, Nat.zero_mul, Nat.le_refl, and_self, and_true, true_and, if_true, reduceIte, ite_true, ite_false, Bool.and_true, Bool.true_and, Bool.and_false, Bool.false_and, Bool.not_true, Bool.not_false, Bool.or_true, Bool.or_false, Bool.true_or, Bool.false_or, Int.toNat_zero, Int.toNat_natCast, Int.reduceToNat, Int.reduceLE, Int.reduceLT, Int.reduceBEq, reduceCtorEq, decide_true, decide_false, Bool.false_eq_true, Nat.sub_zero, List.toList_toArray, List.foldl_cons, en193, ok193, en137, ok137, en139, ok139, en24, ok24, en80, ok80, en94, ok94, en110, ok110, en31, ok31, en157_eq, ok157, en231, ok231, en177, ok177, en164_eq, ok164, en268, ok268, tyF, *])) (hk : k ≠ k0 := by decide) : H → Good C it st := fun x => good_adoptc k0 o k z g0 cs hs hc hk (g x)
theorem adoptcF_ {H : Prop} {C : Ctx} {it : List Item} {st : St} {rows : Rows} (k0 o k z : Nat) {g0 : Nat} {cs : List AV} (g : H → Good C it { st with mem := mset (mset st.mem k ((ent st.mem k).1 + 1, .tip z rows.length)) k0 (g0, .cells (cs.set o (.tip k ((ent st.mem k).1 + 1) rows))) }) (hs : lk st.mem k0 = some (g0, .cells cs) := by 
   exact smr_) (hc : cs[o]? = some (.p (.lst true rows)) := by 
   exact smt_) (hk : k ≠ k0 := by decide) (hz : rowsOk z rows = true := by
   (first | rfl | simp only [run, afterR, condC, exitC, exitTo, runO, step1, ofO, fpOf, fpK, writes, de, deT, deB, opD, dstOk, isCall, stepOp, finO, memPut, mset, entO, ent, core, constB, mkeyOf, mval, mrowOf, tupIf, liveM, kOf_i, kOf_s, mkEq_self, mhas_i, mhas_s, midx_i, midx_s, mrow_ii, mrow_ib, mrow_is, mrow_si, mrow_sb, mrow_ss, ment_ii, ment_ib, ment_is, ment_si, ment_sb, ment_ss, mset1_ii, mset1_ib, mset1_is, mset1_si, mset1_sb, mset1_ss, mput_ii, mput_ib, mput_is, mput_si, mput_sb, mput_ss, tst_map, coreB, lenA, minA, maxA, rowsB, appT, appS, appB, fullR, keyApp, keyV, keyL, liveC, liveB, liveZ, keyOf, oget, fget, lk, ofConst, cellsC, aggC, cell1, eff, binop, intOp, strOp, unop, ld, splice, fillP, aplace, placeOf, rowsN, oint, AV.cells, AV.pv, PV.std, AV.rows, pvs, appN, appC, rowsOk, irow, srw, brw, lrw, St.put, back, renA, ren1, ren0, renO, resOf, resAll, resOne, tupOf, fnOf, rk, inn, ok1, okB, okA, okT, okO, ok0, renB, liveP, liveZ0, nagg, one1, scH, bldZ, nvs, AV.nv, PV.sc, PV.isL, nilOrE, List.filter_cons, List.filter_nil, List.all_cons, List.all_nil,   unint, unint_map, bytesOf_eq, bnd_, rowsOk_irow, rowsOk_srw, rowsOk_brw, rowsOk_lrw, rowsOk_app, take_map_len, map_set_, set_map_,   List.range, List.range.loop, List.zip, List.zipWith, List.zip_cons_cons, List.zip_nil_left, List.zip_nil_right, List.length_cons, List.length_nil, List.length_map, List.length_append, List.map_cons, List.map_nil, List.map_append, List.getElem?_map, List.drop_succ_cons, List.drop_zero, List.drop_nil, List.take_succ_cons, List.take_zero, List.take_nil, List.take_length, List.set_cons_succ, List.set_cons_zero, List.head?_cons, List.head?_nil, List.getElem?_cons_succ, List.getElem?_cons_zero, List.append_nil, List.nil_append, List.cons_append, List.append_assoc, List.flatten_cons, List.flatten_nil, List.replicate_succ, List.replicate_zero, List.contains_cons, List.contains_nil, List.isEmpty_nil, List.isEmpty_cons, List.map_drop, List.map_take, List.map_replicate, List.length_replicate, List.length_set,   cond_true, cond_false, Option.map_some, Option.map_none, Option.bind_some, Option.bind_none, Option.getD_some, Option.getD_none, Option.isSome_some, Option.isSome_none, beq_self_eq_true, BEq.rfl, Nat.reduceBEq, Nat.reduceAdd, Nat.reduceSub, Nat.reduceMul, Nat.reduceLeDiff, Nat.reduceLT, Nat.reduceEqDiff, Nat.zero_add, Nat.add_zero, Nat.zero_mul, Nat.le_refl, and_self, and_true, true_and, if_true, reduceIte, ite_true, ite_false, Bool.and_true, Bool.true_and, Bool.and_false, Bool.false_and, Bool.not_true, Bool.not_false, Bool.or_true, Bool.or_false, Bool.true_or, Bool.false_or, Int.toNat_zero, Int.toNat_natCast, Int.reduceToNat, Int.reduceLE, Int.reduceLT, Int.reduceBEq, reduceCtorEq, decide_true, decide_false, Bool.false_eq_true, Nat.sub_zero, List.toList_toArray, List.foldl_cons, en193, ok193, en137, ok137, en139, ok139, en24, ok24, en80, ok80, en94, ok94, en110, ok110, en31, ok31, en157_eq, ok157, en231, ok231, en177, ok177, en164_eq, ok164, en268, ok268, tyF])) : H → Good C it st := fun x => good_adoptcF k0 o k z g0 cs hs hz hc hk (g x)
theorem freeze_ {H : Prop} {C : Ctx} {it : List Item} {st : St} (s : Nat) {k g lo n z : Nat} {rows : Rows}
  (h : H → Good C it { fr := (s, .p (.lst false ((rows.drop lo).take n))) :: st.fr, mem := mset st.mem k (g, .gone) }) (hs : fget st.fr s = .buf k g lo n := by 
   exact smr_) (hk : lk st.mem k = some (g, .buf z rows) := by 
   exact smr_) : H → Good C it st := fun x => good_freeze s hs hk (h x)
theorem freezec_ {H : Prop} {C : Ctx} {it : List Item} {st : St} (k0 o : Nat) {g0 k g lo n z : Nat} {rows : Rows} {cs : List AV} (h : H → Good C it { st with mem := mset (mset st.mem k (g, .gone)) k0 (g0, .cells (cs.set o (.p (.lst false ((rows.drop lo).take n))))) }) (hs : lk st.mem k0 = some (g0, .cells cs) := by 
   exact smr_) (hc : cs[o]? = some (.buf k g lo n) := by 
   exact smt_) (hk : lk st.mem k = some (g, .buf z rows) := by 
   exact smr_) (hne : k ≠ k0 := by decide) : H → Good C it st := fun x => good_freezec k0 o hs hc hk hne (h x)
theorem movec_ {H : Prop} {C : Ctx} {it : List Item} {st : St} (k0 o k1 k2 : Nat) {g0 g2 : Nat} {mk : MK} {ag : Bool} {es : Ents} {cs : List AV} (h : H → Good C it { st with mem := mset (mset (mset st.mem k2 (g2, .gone)) k1 ((ent st.mem k1).1 + 1, .map mk ag es)) k0 (g0, .cells (cs.set o (.mp k1 ((ent st.mem k1).1 + 1)))) }) (hs : lk st.mem k0 = some (g0, .cells cs) := by 
   exact smr_) (hc : cs[o]? = some (.mp k2 g2) := by 
   exact smt_) (hk : lk st.mem k2 = some (g2, .map mk ag es) := by 
   exact smr_) (hne : k1 ≠ k2 ∧ k1 ≠ k0 ∧ k2 ≠ k0 := by decide) : H → Good C it st := fun x => good_movec k0 o k1 k2 hs hc hk hne (h x)
theorem move_ {H : Prop} {C : Ctx} {it : List Item} {st : St} (s k1 k2 : Nat) {g2 : Nat} {mk : MK} {ag : Bool} {es : Ents} (h : H → Good C it { fr := (s, .mp k1 ((ent st.mem k1).1 + 1)) :: st.fr, mem := mset (mset st.mem k2 (g2, .gone)) k1 ((ent st.mem k1).1 + 1, .map mk ag es) }) (hs : fget st.fr s = .mp k2 g2 := by 
   exact smr_) (hk : lk st.mem k2 = some (g2, .map mk ag es) := by 
   exact smr_) (hne : k1 ≠ k2 := by decide) : H → Good C it st := fun x => good_move s k1 k2 hs hk hne (h x)
theorem freezeN_ {H : Prop} {C : Ctx} {it : List Item} {st : St} (s : Nat) {k g lo n z : Nat} {rows : Rows}
  (h : H → Good C it { fr := (s, .nw (.lst false ((rows.drop lo).take n))) :: st.fr, mem := mset st.mem k (g, .gone) }) (hs : fget st.fr s = .buf k g lo n := by 
   exact smr_) (hk : lk st.mem k = some (g, .bufn z rows) := by 
   exact smr_) : H → Good C it st := fun x => good_freezeN s hs hk (h x)
theorem adoptB_ {H : Prop} {C : Ctx} {it : List Item} {st : St} (s k z : Nat) (g : H → Good C it { fr := (s, .buf k ((ent st.mem k).1 + 1) 0 0) :: st.fr, mem := mset st.mem k ((ent st.mem k).1 + 1, .buf z []) }) (hs : nilOrE (fget st.fr s) = true := by 
   (simp only [run, afterR, condC, exitC, exitTo, runO, step1, ofO, fpOf, fpK, writes, de, deT, deB, opD, dstOk, isCall, stepOp, finO, memPut, mset, entO, ent, core, constB, mkeyOf, mval, mrowOf, tupIf, liveM, kOf_i, kOf_s, mkEq_self, mhas_i, mhas_s, midx_i, midx_s, mrow_ii, mrow_ib, mrow_is, mrow_si, mrow_sb, mrow_ss, ment_ii, ment_ib, ment_is, ment_si, ment_sb, ment_ss, mset1_ii, mset1_ib, mset1_is, mset1_si, mset1_sb, mset1_ss, mput_ii, mput_ib, mput_is, mput_si, mput_sb, mput_ss, tst_map, coreB, lenA, minA, maxA, rowsB, appT, appS, appB, fullR, keyApp, keyV, keyL, liveC, liveB, liveZ, keyOf, oget, fget, lk, ofConst, cellsC, aggC, cell1, eff, binop, intOp, strOp, unop, ld, splice, fillP, aplace, placeOf, rowsN, oint, AV.cells, AV.pv, PV.std, AV.rows, pvs, appN, appC, rowsOk, irow, srw, brw, lrw, St.put, back, renA, ren1, ren0, renO, resOf, resAll, resOne, tupOf, fnOf, rk, inn, ok1, okB, okA, okT, okO, ok0, renB, liveP, liveZ0, nagg, one1, scH, bldZ, nvs, AV.nv, PV.sc, PV.isL, nilOrE, List.filter_cons, List.filter_nil, List.all_cons, List.all_nil,   unint, unint_map, bytesOf_eq, bnd_, rowsOk_irow, rowsOk_srw, rowsOk_brw, rowsOk_lrw, rowsOk_app, take_map_len, map_set_, set_map_,   List.range, List.range.loop, List.zip, List.zipWith, List.zip_cons_cons, List.zip_nil_left, List.zip_nil_right, List.length_cons, List.length_nil, List.length_map, List.length_append, List.map_cons, List.map_nil, List.map_append, List.getElem?_map, List.drop_succ_cons, List.drop_zero, List.drop_nil, List.take_succ_cons, List.take_zero, List.take_nil, List.take_length, List.set_cons_succ, List.set_cons_zero, List.head?_cons, List.head?_nil, List.getElem?_cons_succ, List.getElem?_cons_zero, List.append_nil, List.nil_append, List.cons_append, List.append_assoc, List.flatten_cons, List.flatten_nil, List.replicate_succ, List.replicate_zero, List.contains_cons, List.contains_nil, List.isEmpty_nil, List.isEmpty_cons, List.map_drop, List.map_take, List.map_replicate, List.length_replicate, List.length_set,   cond_true, cond_false, Option.map_some, Option.map_none, Option.bind_some, Option.bind_none, Option.getD_some, Option.getD_none, Option.isSome_some, Option.isSome_none, beq_self_eq_true, BEq.rfl, Nat.reduceBEq, Nat.reduceAdd, Nat.reduceSub, Nat.reduceMul, Nat.reduceLeDiff, Nat.reduceLT, Nat.reduceEqDiff, Nat.zero_add, Nat.add_zero, Nat.zero_mul, Nat.le_refl, and_self, and_true, true_and, if_true, reduceIte, ite_true, ite_false, Bool.and_true, Bool.true_and, Bool.and_false, Bool.false_and, Bool.not_true, Bool.not_false, Bool.or_true, Bool.or_false, Bool.true_or, Bool.false_or, Int.toNat_zero, Int.toNat_natCast, Int.reduceToNat, Int.reduceLE, Int.reduceLT, Int.reduceBEq, reduceCtorEq, decide_true, decide_false, Bool.false_eq_true, Nat.sub_zero, List.toList_toArray, List.foldl_cons, en193, ok193, en137, ok137, en139, ok139, en24, ok24, en80, ok80, en94, ok94, en110, ok110, en31, ok31, en157_eq, ok157, en231, ok231, en177, ok177, en164_eq, ok164, en268, ok268, tyF, *])) : H → Good C it st := fun x => good_adoptB s k z hs (g x)
def poolSt (d : Nat) (st : St) : St := { fr := st.fr.map (fun q => (q.1, poolA d ((ent st.mem d).1 + 1) q.2)), mem := mset (poolM d ((ent st.mem d).1 + 1) st.mem) d ((ent st.mem d).1 + 1, .pool) }
theorem cleanBuf {α : Type} (s : Nat) (f : α → List PV) (l : List α) (h : ∀ x, (f x).all pc = true) : cleanO (.buf s (List.map f l)) = true := by
  simp only [cleanO, List.all_eq_true, List.mem_map]; rintro r ⟨x, _, rfl⟩; exact List.all_eq_true.1 (h x)
theorem pool_ {H : Prop} {C : Ctx} {it : List Item} {st : St} (d : Nat) (st' st2 : St) (g : H → Good C it st2) (hN : C.w0.heap.size ≤ C.ι0.fr.N := by assumption) (hf : frLe st.fr st'.fr := by exact frle_) (hm : memLe st.mem st'.mem ∧ memKeys st.mem st'.mem := by exact memle_)
   (hcl : st'.fr.all (fun q => cleanA q.2) = true := by rfl) (hco : ∀ q ∈ st'.mem, cleanO q.2.2 = true := by ((repeat' first | exact all0 | refine all1 ?_ ?_); all_goals first | rfl | exact cleanBuf _ _ _ (fun x => rfl))) (hd : (ent st'.mem d).2 = .gone := by rfl) (e : poolSt d st' = st2 := by rfl) : H → Good C it st := fun x =>
  good_weak st' hf hm (good_pool d hN hcl (List.all_eq_true.2 fun q hq => hco q hq) hd (by have := g x; rw [← e] at this; exact this))
theorem ret_ {C : Ctx} {fn : Func} {k : List Item} {st : St} {v : AV} (hfn : C.P.funcs[C.f]? = some fn) (σ : Sg) (hr : resOf C.P fn.results.toList st = some v := by 
   exact smr_) (hle : LeT v (renA σ C.res) := by
   (simp only [run, afterR, condC, exitC, exitTo, runO, step1, ofO, fpOf, fpK, writes, de, deT, deB, opD, dstOk, isCall, stepOp, finO, memPut, mset, entO, ent, core, constB, mkeyOf, mval, mrowOf, tupIf, liveM, kOf_i, kOf_s, mkEq_self, mhas_i, mhas_s, midx_i, midx_s, mrow_ii, mrow_ib, mrow_is, mrow_si, mrow_sb, mrow_ss, ment_ii, ment_ib, ment_is, ment_si, ment_sb, ment_ss, mset1_ii, mset1_ib, mset1_is, mset1_si, mset1_sb, mset1_ss, mput_ii, mput_ib, mput_is, mput_si, mput_sb, mput_ss, tst_map, coreB, lenA, minA, maxA, rowsB, appT, appS, appB, fullR, keyApp, keyV, keyL, liveC, liveB, liveZ, keyOf, oget, fget, lk, ofConst, cellsC, aggC, cell1, eff, binop, intOp, strOp, unop, ld, splice, fillP, aplace, placeOf, rowsN, oint, AV.cells, AV.pv, PV.std, AV.rows, pvs, appN, appC, rowsOk, irow, srw, brw, lrw, St.put, back, renA, ren1, ren0, renO, resOf, resAll, resOne, tupOf, fnOf, rk, inn, ok1, okB, okA, okT, okO, ok0, renB, liveP, liveZ0, nagg, one1, scH, bldZ, nvs, AV.nv, PV.sc, PV.isL, nilOrE, List.filter_cons, List.filter_nil, List.all_cons, List.all_nil,   unint, unint_map, bytesOf_eq, bnd_, rowsOk_irow, rowsOk_srw, rowsOk_brw, rowsOk_lrw, rowsOk_app, take_map_len, map_set_, set_map_,   List.range, List.range.loop, List.zip, List.zipWith, List.zip_cons_cons, List.zip_nil_left, List.zip_nil_right, List.length_cons, List.length_nil, List.length_map, List.length_append, List.map_cons, List.map_nil, List.map_append, List.getElem?_map, List.drop_succ_cons, List.drop_zero, List.drop_nil, List.take_succ_cons, List.take_zero, List.take_nil, List.take_length, List.set_cons_succ, List.set_cons_zero, List.head?_cons, List.head?_nil, List.getElem?_cons_succ, List.getElem?_cons_zero, List.append_nil, List.nil_append, List.cons_append, List.append_assoc, List.flatten_cons, List.flatten_nil, List.replicate_succ, List.replicate_zero, List.contains_cons, List.contains_nil, List.isEmpty_nil, List.isEmpty_cons, List.map_drop, List.map_take, List.map_replicate, List.length_replicate, List.length_set,   cond_true, cond_false, Option.map_some, Option.map_none, Option.bind_some, Option.bind_none, Option.getD_some, Option.getD_none, Option.isSome_some, Option.isSome_none, beq_self_eq_true, BEq.rfl, Nat.reduceBEq, Nat.reduceAdd, Nat.reduceSub, Nat.reduceMul, Nat.reduceLeDiff, Nat.reduceLT, Nat.reduceEqDiff, Nat.zero_add, Nat.add_zero, Nat.zero_mul, Nat.le_refl, and_self, and_true, true_and, if_true, reduceIte, ite_true, ite_false, Bool.and_true, Bool.true_and, Bool.and_false, Bool.false_and, Bool.not_true, Bool.not_false, Bool.or_true, Bool.or_false, Bool.true_or, Bool.false_or, Int.toNat_zero, Int.toNat_natCast, Int.reduceToNat, Int.reduceLE, Int.reduceLT, Int.reduceBEq, reduceCtorEq, decide_true, decide_false, Bool.false_eq_true, Nat.sub_zero, List.toList_toArray, List.foldl_cons, en193, ok193, en137, ok137, en139, ok139, en24, ok24, en80, ok80, en94, ok94, en110, ok110, en31, ok31, en157_eq, ok157, en231, ok231, en177, ok177, en164_eq, ok164, en268, ok268, tyF, *]; repeat' first | exact LeT.of _ _ (LeA.of _ _ (Le.refl _)) | exact LeT.of _ _ (LeA.of _ _ (Le.nil _)) | exact LeT.of _ _ (LeA.of _ _ (Le.full _)) | exact LeT.of _ _ (LeA.of _ _ (Le.tip _ _ _)) | exact LeA.of _ _ (Le.refl _) | exact LeA.of _ _ (Le.nil _) | exact LeA.of _ _ (Le.full _) | exact LeA.of _ _ (Le.tip _ _ _) | exact LeA.of _ _ (Le.nwp _) | exact LeA.of _ _ (Le.odp _) | exact F2.nil | exact Le.refl _ | exact Le.nil _ | exact Le.full _ | exact Le.tip _ _ _ | exact Le.nwp _ | exact Le.odp _ | refine F2.cons ?_ ?_ | refine LeT.tup _ _ ?_ | refine LeT.of _ _ (LeA.agg _ _ ?_) | refine LeA.agg _ _ ?_)) (hok : okT (inn σ C.mem) C.res = true := by (first | rfl | exact sm_)) (hm : EndOk σ st.mem C.mem C.m0 := by exact endOk_) : Good C (.code .ret :: k) st := good_ret_ σ hfn hr hle hok hm
theorem end_ {C : Ctx} {fn : Func} {st : St} {v : AV} (hfn : C.P.funcs[C.f]? = some fn) (σ : Sg) (hr : resOf C.P fn.results.toList st = some v := by 
   exact smr_) (hle : LeT v (renA σ C.res) := by
   (simp only [run, afterR, condC, exitC, exitTo, runO, step1, ofO, fpOf, fpK, writes, de, deT, deB, opD, dstOk, isCall, stepOp, finO, memPut, mset, entO, ent, core, constB, mkeyOf, mval, mrowOf, tupIf, liveM, kOf_i, kOf_s, mkEq_self, mhas_i, mhas_s, midx_i, midx_s, mrow_ii, mrow_ib, mrow_is, mrow_si, mrow_sb, mrow_ss, ment_ii, ment_ib, ment_is, ment_si, ment_sb, ment_ss, mset1_ii, mset1_ib, mset1_is, mset1_si, mset1_sb, mset1_ss, mput_ii, mput_ib, mput_is, mput_si, mput_sb, mput_ss, tst_map, coreB, lenA, minA, maxA, rowsB, appT, appS, appB, fullR, keyApp, keyV, keyL, liveC, liveB, liveZ, keyOf, oget, fget, lk, ofConst, cellsC, aggC, cell1, eff, binop, intOp, strOp, unop, ld, splice, fillP, aplace, placeOf, rowsN, oint, AV.cells, AV.pv, PV.std, AV.rows, pvs, appN, appC, rowsOk, irow, srw, brw, lrw, St.put, back, renA, ren1, ren0, renO, resOf, resAll, resOne, tupOf, fnOf, rk, inn, ok1, okB, okA, okT, okO, ok0, renB, liveP, liveZ0, nagg, one1, scH, bldZ, nvs, AV.nv, PV.sc, PV.isL, nilOrE, List.filter_cons, List.filter_nil, List.all_cons, List.all_nil,   unint, unint_map, bytesOf_eq, bnd_, rowsOk_irow, rowsOk_srw, rowsOk_brw, rowsOk_lrw, rowsOk_app, take_map_len, map_set_, set_map_,   List.range, List.range.loop, List.zip, List.zipWith, List.zip_cons_cons, List.zip_nil_left, List.zip_nil_right, List.length_cons, List.length_nil, List.length_map, List.length_append, List.map_cons, List.map_nil, List.map_append, List.getElem?_map, List.drop_succ_cons, List.drop_zero, List.drop_nil, List.take_succ_cons, List.take_zero, List.take_nil, List.take_length, List.set_cons_succ, List.set_cons_zero, List.head?_cons, List.head?_nil, List.getElem?_cons_succ, List.getElem?_cons_zero, List.append_nil, List.nil_append, List.cons_append, List.append_assoc, List.flatten_cons, List.flatten_nil, List.replicate_succ, List.replicate_zero, List.contains_cons, List.contains_nil, List.isEmpty_nil, List.isEmpty_cons, List.map_drop, List.map_take, List.map_replicate, List.length_replicate, List.length_set,   cond_true, cond_false, Option.map_some, Option.map_none, Option.bind_some, Option.bind_none, Option.getD_some, Option.getD_none, Option.isSome_some, Option.isSome_none, beq_self_eq_true, BEq.rfl, Nat.reduceBEq, Nat.reduceAdd, Nat.reduceSub, Nat.reduceMul, Nat.reduceLeDiff, Nat.reduceLT, Nat.reduceEqDiff, Nat.zero_add, Nat.add_zero, Nat.zero_mul, Nat.le_refl, and_self, and_true, true_and, if_true, reduceIte, ite_true, ite_false, Bool.and_true, Bool.true_and, Bool.and_false, Bool.false_and, Bool.not_true, Bool.not_false, Bool.or_true, Bool.or_false, Bool.true_or, Bool.false_or, Int.toNat_zero, Int.toNat_natCast, Int.reduceToNat, Int.reduceLE, Int.reduceLT, Int.reduceBEq, reduceCtorEq, decide_true, decide_false, Bool.false_eq_true, Nat.sub_zero, List.toList_toArray, List.foldl_cons, en193, ok193, en137, ok137, en139, ok139, en24, ok24, en80, ok80, en94, ok94, en110, ok110, en31, ok31, en157_eq, ok157, en231, ok231, en177, ok177, en164_eq, ok164, en268, ok268, tyF, *]; repeat' first | exact LeT.of _ _ (LeA.of _ _ (Le.refl _)) | exact LeT.of _ _ (LeA.of _ _ (Le.nil _)) | exact LeT.of _ _ (LeA.of _ _ (Le.full _)) | exact LeT.of _ _ (LeA.of _ _ (Le.tip _ _ _)) | exact LeA.of _ _ (Le.refl _) | exact LeA.of _ _ (Le.nil _) | exact LeA.of _ _ (Le.full _) | exact LeA.of _ _ (Le.tip _ _ _) | exact LeA.of _ _ (Le.nwp _) | exact LeA.of _ _ (Le.odp _) | exact F2.nil | exact Le.refl _ | exact Le.nil _ | exact Le.full _ | exact Le.tip _ _ _ | exact Le.nwp _ | exact Le.odp _ | refine F2.cons ?_ ?_ | refine LeT.tup _ _ ?_ | refine LeT.of _ _ (LeA.agg _ _ ?_) | refine LeA.agg _ _ ?_)) (hok : okT (inn σ C.mem) C.res = true := by (first | rfl | exact sm_)) (hm : EndOk σ st.mem C.mem C.m0 := by exact endOk_) : Good C [] st := good_end_ σ hfn hr hle hok hm

end Go.Ab
