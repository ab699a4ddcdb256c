/- Facts of this program's types; its struct types; the rules, each with what closes its sides. No condition. -/
import Derived.Test.YtaddedbombndlaaAbR
import Derived.Test.YtaddedbombndlaaProg
import Derived.KernelRfl
import Derived.Lib.LaidTab
import Derived.Lib.ItoaNum
namespace Go.Ab
open Go.Proofs
set_option linter.unusedVariables false
set_option linter.unusedSimpArgs false

/-- What must be known of the world. -/
class KOk (K : Kn) : Prop where
 known : ∀ w : World, Knows K w → True

set_option maxRecDepth 100000 in
theorem tyF : isAggB Try.prog 2 = some false ∧
 tsize Try.prog 2 = some 1 ∧
 zeroCells Try.prog 2 = some [.p (.int .i64 0)] ∧
 tkind Try.prog 2 = .int .i64 ∧
 notIntT Try.prog 2 = false ∧
 szPos Try.prog 2 = true ∧
 isAggB Try.prog 3 = some false ∧
 tsize Try.prog 3 = some 1 ∧
 zeroCells Try.prog 3 = some [.p (.int .i64 0)] ∧
 tkind Try.prog 3 = .int .i64 ∧
 notIntT Try.prog 3 = false ∧
 szPos Try.prog 3 = true ∧
 isAggB Try.prog 4 = some false ∧
 tsize Try.prog 4 = some 1 ∧
 zeroCells Try.prog 4 = some [.p (.bool false)] ∧
 tkind Try.prog 4 = .other ∧
 isBoolT Try.prog 4 = true ∧
 notIntT Try.prog 4 = true ∧
 szPos Try.prog 4 = true ∧
 isAggB Try.prog 5 = some false ∧
 tsize Try.prog 5 = some 1 ∧
 zeroCells Try.prog 5 = some [.p (.int .u8 0)] ∧
 tkind Try.prog 5 = .int .u8 ∧
 notIntT Try.prog 5 = false ∧
 szPos Try.prog 5 = true ∧
 isAggB Try.prog 9 = some false ∧
 tsize Try.prog 9 = some 1 ∧
 zeroCells Try.prog 9 = some [.p (.str (⟨#[]⟩ : ByteArray))] ∧
 tkind Try.prog 9 = .str ∧
 notIntT Try.prog 9 = true ∧
 szPos Try.prog 9 = true ∧
 isStrT Try.prog 9 = true ∧
 isAggB Try.prog 21 = some false ∧
 tsize Try.prog 21 = some 1 ∧
 zeroCells Try.prog 21 = some [.p (.int .i32 0)] ∧
 tkind Try.prog 21 = .int .i32 ∧
 notIntT Try.prog 21 = false ∧
 szPos Try.prog 21 = true ∧
 isAggB Try.prog 22 = some false ∧
 tsize Try.prog 22 = some 1 ∧
 sliceOf Try.prog 22 = some 4 ∧
 core.elemZero Try.prog 22 = some [.p (.str (⟨#[]⟩ : ByteArray)), .p .nilS, .p .nilS, .p (.bool false)] ∧
 zeroCells Try.prog 22 = some [.p .nilS] ∧
 tkind Try.prog 22 = .other ∧
 notIntT Try.prog 22 = true ∧
 szPos Try.prog 22 = true ∧
 isAggB Try.prog 23 = some false ∧
 tsize Try.prog 23 = some 1 ∧
 sliceOf Try.prog 23 = some 7 ∧
 core.elemZero Try.prog 23 = some [.p (.str (⟨#[]⟩ : ByteArray)), .p (.str (⟨#[]⟩ : ByteArray)), .p (.str (⟨#[]⟩ : ByteArray)), .p .nilS, .p (.int .i64 0), .p (.int .i64 0), .p (.int .i64 0)] ∧
 zeroCells Try.prog 23 = some [.p .nilS] ∧
 tkind Try.prog 23 = .other ∧
 notIntT Try.prog 23 = true ∧
 szPos Try.prog 23 = true ∧
 isAggB Try.prog 24 = some false ∧
 tsize Try.prog 24 = some 1 ∧
 sliceOf Try.prog 24 = some 2 ∧
 core.elemZero Try.prog 24 = some [.p (.str (⟨#[]⟩ : ByteArray)), .p .nilS] ∧
 zeroCells Try.prog 24 = some [.p .nilS] ∧
 tkind Try.prog 24 = .other ∧
 notIntT Try.prog 24 = true ∧
 szPos Try.prog 24 = true ∧
 isAggB Try.prog 26 = some true ∧
 tsize Try.prog 26 = some 4 ∧
 sizedB Try.prog 26 = true ∧
 fieldOf Try.prog 26 0 = some (0, 22) ∧
 fieldOf Try.prog 26 1 = some (1, 23) ∧
 fieldOf Try.prog 26 2 = some (2, 24) ∧
 fieldOf Try.prog 26 3 = some (3, 4) ∧
 arrOf Try.prog 26 = none ∧
 zeroCells Try.prog 26 = some [.p .nilS, .p .nilS, .p .nilS, .p (.bool false)] ∧
 tkind Try.prog 26 = .other ∧
 notIntT Try.prog 26 = true ∧
 szPos Try.prog 26 = true ∧
 isAggB Try.prog 28 = some false ∧
 tsize Try.prog 28 = some 1 ∧
 sliceOf Try.prog 28 = some 1 ∧
 core.elemZero Try.prog 28 = some [.p (.str (⟨#[]⟩ : ByteArray))] ∧
 zeroCells Try.prog 28 = some [.p .nilS] ∧
 tkind Try.prog 28 = .other ∧
 notIntT Try.prog 28 = true ∧
 szPos Try.prog 28 = true ∧
 isAggB Try.prog 30 = some false ∧
 tsize Try.prog 30 = some 1 ∧
 sliceOf Try.prog 30 = some 4 ∧
 core.elemZero Try.prog 30 = some [.p (.str (⟨#[]⟩ : ByteArray)), .p .nilS, .p .nilS, .p (.bool false)] ∧
 zeroCells Try.prog 30 = some [.p .nilS] ∧
 tkind Try.prog 30 = .other ∧
 notIntT Try.prog 30 = true ∧
 szPos Try.prog 30 = true ∧
 isAggB Try.prog 31 = some false ∧
 tsize Try.prog 31 = some 1 ∧
 sliceOf Try.prog 31 = some 7 ∧
 core.elemZero Try.prog 31 = some [.p (.str (⟨#[]⟩ : ByteArray)), .p (.str (⟨#[]⟩ : ByteArray)), .p (.str (⟨#[]⟩ : ByteArray)), .p .nilS, .p (.int .i64 0), .p (.int .i64 0), .p (.int .i64 0)] ∧
 zeroCells Try.prog 31 = some [.p .nilS] ∧
 tkind Try.prog 31 = .other ∧
 notIntT Try.prog 31 = true ∧
 szPos Try.prog 31 = true ∧
 isAggB Try.prog 32 = some false ∧
 tsize Try.prog 32 = some 1 ∧
 sliceOf Try.prog 32 = some 2 ∧
 core.elemZero Try.prog 32 = some [.p (.str (⟨#[]⟩ : ByteArray)), .p .nilS] ∧
 zeroCells Try.prog 32 = some [.p .nilS] ∧
 tkind Try.prog 32 = .other ∧
 notIntT Try.prog 32 = true ∧
 szPos Try.prog 32 = true ∧
 isAggB Try.prog 34 = some true ∧
 tsize Try.prog 34 = some 4 ∧
 sizedB Try.prog 34 = true ∧
 fieldOf Try.prog 34 0 = some (0, 30) ∧
 fieldOf Try.prog 34 1 = some (1, 31) ∧
 fieldOf Try.prog 34 2 = some (2, 32) ∧
 fieldOf Try.prog 34 3 = some (3, 4) ∧
 arrOf Try.prog 34 = none ∧
 zeroCells Try.prog 34 = some [.p .nilS, .p .nilS, .p .nilS, .p (.bool false)] ∧
 tkind Try.prog 34 = .other ∧
 notIntT Try.prog 34 = true ∧
 szPos Try.prog 34 = true ∧
 isAggB Try.prog 41 = some false ∧
 tsize Try.prog 41 = some 1 ∧
 sliceOf Try.prog 41 = some 2 ∧
 core.elemZero Try.prog 41 = some [.p (.str (⟨#[]⟩ : ByteArray)), .p (.str (⟨#[]⟩ : ByteArray))] ∧
 zeroCells Try.prog 41 = some [.p .nilS] ∧
 tkind Try.prog 41 = .other ∧
 notIntT Try.prog 41 = true ∧
 szPos Try.prog 41 = true ∧
 isAggB Try.prog 42 = some false ∧
 tsize Try.prog 42 = some 1 ∧
 sliceOf Try.prog 42 = some 6 ∧
 core.elemZero Try.prog 42 = some [.p (.str (⟨#[]⟩ : ByteArray)), .p .nilS, .p (.int .i64 0), .p (.bool false), .p (.int .i64 0), .p (.int .i64 0)] ∧
 zeroCells Try.prog 42 = some [.p .nilS] ∧
 tkind Try.prog 42 = .other ∧
 notIntT Try.prog 42 = true ∧
 szPos Try.prog 42 = true ∧
 isAggB Try.prog 44 = some true ∧
 tsize Try.prog 44 = some 5 ∧
 sizedB Try.prog 44 = true ∧
 fieldOf Try.prog 44 0 = some (0, 9) ∧
 fieldOf Try.prog 44 1 = some (1, 2) ∧
 fieldOf Try.prog 44 2 = some (2, 4) ∧
 fieldOf Try.prog 44 3 = some (3, 41) ∧
 fieldOf Try.prog 44 4 = some (4, 42) ∧
 arrOf Try.prog 44 = none ∧
 zeroCells Try.prog 44 = some [.p (.str (⟨#[]⟩ : ByteArray)), .p (.int .i64 0), .p (.bool false), .p .nilS, .p .nilS] ∧
 tkind Try.prog 44 = .other ∧
 notIntT Try.prog 44 = true ∧
 szPos Try.prog 44 = true ∧
 isAggB Try.prog 47 = some false ∧
 tsize Try.prog 47 = some 1 ∧
 sliceOf Try.prog 47 = some 2 ∧
 core.elemZero Try.prog 47 = some [.p (.str (⟨#[]⟩ : ByteArray)), .p (.str (⟨#[]⟩ : ByteArray))] ∧
 zeroCells Try.prog 47 = some [.p .nilS] ∧
 tkind Try.prog 47 = .other ∧
 notIntT Try.prog 47 = true ∧
 szPos Try.prog 47 = true ∧
 isAggB Try.prog 48 = some false ∧
 tsize Try.prog 48 = some 1 ∧
 sliceOf Try.prog 48 = some 6 ∧
 core.elemZero Try.prog 48 = some [.p (.str (⟨#[]⟩ : ByteArray)), .p .nilS, .p (.int .i64 0), .p (.bool false), .p (.int .i64 0), .p (.int .i64 0)] ∧
 zeroCells Try.prog 48 = some [.p .nilS] ∧
 tkind Try.prog 48 = .other ∧
 notIntT Try.prog 48 = true ∧
 szPos Try.prog 48 = true ∧
 isAggB Try.prog 50 = some true ∧
 tsize Try.prog 50 = some 5 ∧
 sizedB Try.prog 50 = true ∧
 fieldOf Try.prog 50 0 = some (0, 9) ∧
 fieldOf Try.prog 50 1 = some (1, 2) ∧
 fieldOf Try.prog 50 2 = some (2, 4) ∧
 fieldOf Try.prog 50 3 = some (3, 47) ∧
 fieldOf Try.prog 50 4 = some (4, 48) ∧
 arrOf Try.prog 50 = none ∧
 zeroCells Try.prog 50 = some [.p (.str (⟨#[]⟩ : ByteArray)), .p (.int .i64 0), .p (.bool false), .p .nilS, .p .nilS] ∧
 tkind Try.prog 50 = .other ∧
 notIntT Try.prog 50 = true ∧
 szPos Try.prog 50 = true ∧
 isAggB Try.prog 85 = some false ∧
 tsize Try.prog 85 = some 1 ∧
 sliceOf Try.prog 85 = some 3 ∧
 core.elemZero Try.prog 85 = some [.p (.str (⟨#[]⟩ : ByteArray)), .p (.int .i64 0), .p (.bool false)] ∧
 zeroCells Try.prog 85 = some [.p .nilS] ∧
 tkind Try.prog 85 = .other ∧
 notIntT Try.prog 85 = true ∧
 szPos Try.prog 85 = true ∧
 isAggB Try.prog 87 = some true ∧
 tsize Try.prog 87 = some 4 ∧
 sizedB Try.prog 87 = true ∧
 fieldOf Try.prog 87 0 = some (0, 9) ∧
 fieldOf Try.prog 87 1 = some (1, 28) ∧
 fieldOf Try.prog 87 2 = some (2, 85) ∧
 fieldOf Try.prog 87 3 = some (3, 4) ∧
 arrOf Try.prog 87 = none ∧
 zeroCells Try.prog 87 = some [.p (.str (⟨#[]⟩ : ByteArray)), .p .nilS, .p .nilS, .p (.bool false)] ∧
 tkind Try.prog 87 = .other ∧
 notIntT Try.prog 87 = true ∧
 szPos Try.prog 87 = true ∧
 isAggB Try.prog 90 = some true ∧
 tsize Try.prog 90 = some 7 ∧
 sizedB Try.prog 90 = true ∧
 fieldOf Try.prog 90 0 = some (0, 9) ∧
 fieldOf Try.prog 90 1 = some (1, 9) ∧
 fieldOf Try.prog 90 2 = some (2, 9) ∧
 fieldOf Try.prog 90 3 = some (3, 85) ∧
 fieldOf Try.prog 90 4 = some (4, 2) ∧
 fieldOf Try.prog 90 5 = some (5, 2) ∧
 fieldOf Try.prog 90 6 = some (6, 2) ∧
 arrOf Try.prog 90 = none ∧
 zeroCells Try.prog 90 = some [.p (.str (⟨#[]⟩ : ByteArray)), .p (.str (⟨#[]⟩ : ByteArray)), .p (.str (⟨#[]⟩ : ByteArray)), .p .nilS, .p (.int .i64 0), .p (.int .i64 0), .p (.int .i64 0)] ∧
 tkind Try.prog 90 = .other ∧
 notIntT Try.prog 90 = true ∧
 szPos Try.prog 90 = true ∧
 isAggB Try.prog 93 = some true ∧
 tsize Try.prog 93 = some 2 ∧
 sizedB Try.prog 93 = true ∧
 fieldOf Try.prog 93 0 = some (0, 9) ∧
 fieldOf Try.prog 93 1 = some (1, 28) ∧
 arrOf Try.prog 93 = none ∧
 zeroCells Try.prog 93 = some [.p (.str (⟨#[]⟩ : ByteArray)), .p .nilS] ∧
 tkind Try.prog 93 = .other ∧
 notIntT Try.prog 93 = true ∧
 szPos Try.prog 93 = true ∧
 isAggB Try.prog 95 = some false ∧
 tsize Try.prog 95 = some 1 ∧
 sliceOf Try.prog 95 = some 3 ∧
 core.elemZero Try.prog 95 = some [.p (.str (⟨#[]⟩ : ByteArray)), .p (.int .i64 0), .p (.bool false)] ∧
 zeroCells Try.prog 95 = some [.p .nilS] ∧
 tkind Try.prog 95 = .other ∧
 notIntT Try.prog 95 = true ∧
 szPos Try.prog 95 = true ∧
 isAggB Try.prog 97 = some true ∧
 tsize Try.prog 97 = some 4 ∧
 sizedB Try.prog 97 = true ∧
 fieldOf Try.prog 97 0 = some (0, 9) ∧
 fieldOf Try.prog 97 1 = some (1, 28) ∧
 fieldOf Try.prog 97 2 = some (2, 95) ∧
 fieldOf Try.prog 97 3 = some (3, 4) ∧
 arrOf Try.prog 97 = none ∧
 zeroCells Try.prog 97 = some [.p (.str (⟨#[]⟩ : ByteArray)), .p .nilS, .p .nilS, .p (.bool false)] ∧
 tkind Try.prog 97 = .other ∧
 notIntT Try.prog 97 = true ∧
 szPos Try.prog 97 = true ∧
 isAggB Try.prog 100 = some true ∧
 tsize Try.prog 100 = some 7 ∧
 sizedB Try.prog 100 = true ∧
 fieldOf Try.prog 100 0 = some (0, 9) ∧
 fieldOf Try.prog 100 1 = some (1, 9) ∧
 fieldOf Try.prog 100 2 = some (2, 9) ∧
 fieldOf Try.prog 100 3 = some (3, 95) ∧
 fieldOf Try.prog 100 4 = some (4, 2) ∧
 fieldOf Try.prog 100 5 = some (5, 2) ∧
 fieldOf Try.prog 100 6 = some (6, 2) ∧
 arrOf Try.prog 100 = none ∧
 zeroCells Try.prog 100 = some [.p (.str (⟨#[]⟩ : ByteArray)), .p (.str (⟨#[]⟩ : ByteArray)), .p (.str (⟨#[]⟩ : ByteArray)), .p .nilS, .p (.int .i64 0), .p (.int .i64 0), .p (.int .i64 0)] ∧
 tkind Try.prog 100 = .other ∧
 notIntT Try.prog 100 = true ∧
 szPos Try.prog 100 = true ∧
 isAggB Try.prog 102 = some true ∧
 tsize Try.prog 102 = some 2 ∧
 sizedB Try.prog 102 = true ∧
 fieldOf Try.prog 102 0 = some (0, 9) ∧
 fieldOf Try.prog 102 1 = some (1, 28) ∧
 arrOf Try.prog 102 = none ∧
 zeroCells Try.prog 102 = some [.p (.str (⟨#[]⟩ : ByteArray)), .p .nilS] ∧
 tkind Try.prog 102 = .other ∧
 notIntT Try.prog 102 = true ∧
 szPos Try.prog 102 = true ∧
 isAggB Try.prog 114 = some true ∧
 tsize Try.prog 114 = some 3 ∧
 sizedB Try.prog 114 = true ∧
 fieldOf Try.prog 114 0 = some (0, 9) ∧
 fieldOf Try.prog 114 1 = some (1, 2) ∧
 fieldOf Try.prog 114 2 = some (2, 4) ∧
 arrOf Try.prog 114 = none ∧
 zeroCells Try.prog 114 = some [.p (.str (⟨#[]⟩ : ByteArray)), .p (.int .i64 0), .p (.bool false)] ∧
 tkind Try.prog 114 = .other ∧
 notIntT Try.prog 114 = true ∧
 szPos Try.prog 114 = true ∧
 isAggB Try.prog 118 = some false ∧
 tsize Try.prog 118 = some 1 ∧
 zeroCells Try.prog 118 = some [.p .nilF] ∧
 tkind Try.prog 118 = .other ∧
 notIntT Try.prog 118 = true ∧
 szPos Try.prog 118 = true ∧
 isAggB Try.prog 122 = some false ∧
 tsize Try.prog 122 = some 1 ∧
 sliceOf Try.prog 122 = some 1 ∧
 core.elemZero Try.prog 122 = some [.p (.int .u8 0)] ∧
 zeroCells Try.prog 122 = some [.p .nilS] ∧
 tkind Try.prog 122 = .bytes ∧
 notIntT Try.prog 122 = true ∧
 szPos Try.prog 122 = true ∧
 isAggB Try.prog 125 = some true ∧
 tsize Try.prog 125 = some 2 ∧
 sizedB Try.prog 125 = true ∧
 fieldOf Try.prog 125 0 = some (0, 9) ∧
 fieldOf Try.prog 125 1 = some (1, 9) ∧
 arrOf Try.prog 125 = none ∧
 zeroCells Try.prog 125 = some [.p (.str (⟨#[]⟩ : ByteArray)), .p (.str (⟨#[]⟩ : ByteArray))] ∧
 tkind Try.prog 125 = .other ∧
 notIntT Try.prog 125 = true ∧
 szPos Try.prog 125 = true ∧
 isAggB Try.prog 128 = some true ∧
 tsize Try.prog 128 = some 6 ∧
 sizedB Try.prog 128 = true ∧
 fieldOf Try.prog 128 0 = some (0, 9) ∧
 fieldOf Try.prog 128 1 = some (1, 28) ∧
 fieldOf Try.prog 128 2 = some (2, 2) ∧
 fieldOf Try.prog 128 3 = some (3, 4) ∧
 fieldOf Try.prog 128 4 = some (4, 2) ∧
 fieldOf Try.prog 128 5 = some (5, 2) ∧
 arrOf Try.prog 128 = none ∧
 zeroCells Try.prog 128 = some [.p (.str (⟨#[]⟩ : ByteArray)), .p .nilS, .p (.int .i64 0), .p (.bool false), .p (.int .i64 0), .p (.int .i64 0)] ∧
 tkind Try.prog 128 = .other ∧
 notIntT Try.prog 128 = true ∧
 szPos Try.prog 128 = true ∧
 isAggB Try.prog 129 = some true ∧
 tsize Try.prog 129 = some 2 ∧
 sizedB Try.prog 129 = true ∧
 fieldOf Try.prog 129 0 = some (0, 9) ∧
 fieldOf Try.prog 129 1 = some (1, 9) ∧
 arrOf Try.prog 129 = none ∧
 zeroCells Try.prog 129 = some [.p (.str (⟨#[]⟩ : ByteArray)), .p (.str (⟨#[]⟩ : ByteArray))] ∧
 tkind Try.prog 129 = .other ∧
 notIntT Try.prog 129 = true ∧
 szPos Try.prog 129 = true ∧
 isAggB Try.prog 132 = some true ∧
 tsize Try.prog 132 = some 6 ∧
 sizedB Try.prog 132 = true ∧
 fieldOf Try.prog 132 0 = some (0, 9) ∧
 fieldOf Try.prog 132 1 = some (1, 28) ∧
 fieldOf Try.prog 132 2 = some (2, 2) ∧
 fieldOf Try.prog 132 3 = some (3, 4) ∧
 fieldOf Try.prog 132 4 = some (4, 2) ∧
 fieldOf Try.prog 132 5 = some (5, 2) ∧
 arrOf Try.prog 132 = none ∧
 zeroCells Try.prog 132 = some [.p (.str (⟨#[]⟩ : ByteArray)), .p .nilS, .p (.int .i64 0), .p (.bool false), .p (.int .i64 0), .p (.int .i64 0)] ∧
 tkind Try.prog 132 = .other ∧
 notIntT Try.prog 132 = true ∧
 szPos Try.prog 132 = true ∧
 isAggB Try.prog 135 = some false ∧
 tsize Try.prog 135 = some 1 ∧
 zeroCells Try.prog 135 = some [.p .nilM] ∧
 tkind Try.prog 135 = .other ∧
 mapTy Try.prog 135 = some (.str, false, [.int .i64 0]) ∧
 notIntT Try.prog 135 = true ∧
 szPos Try.prog 135 = true ∧
 isAggB Try.prog 145 = some true ∧
 tsize Try.prog 145 = some 3 ∧
 sizedB Try.prog 145 = true ∧
 fieldOf Try.prog 145 0 = some (0, 9) ∧
 fieldOf Try.prog 145 1 = some (1, 3) ∧
 fieldOf Try.prog 145 2 = some (2, 4) ∧
 arrOf Try.prog 145 = none ∧
 zeroCells Try.prog 145 = some [.p (.str (⟨#[]⟩ : ByteArray)), .p (.int .i64 0), .p (.bool false)] ∧
 tkind Try.prog 145 = .other ∧
 notIntT Try.prog 145 = true ∧
 szPos Try.prog 145 = true ∧
 isAggB Try.prog 148 = some false ∧
 tsize Try.prog 148 = some 1 ∧
 sliceOf Try.prog 148 = some 3 ∧
 core.elemZero Try.prog 148 = some [.p (.int .u8 0), .p (.str (⟨#[]⟩ : ByteArray)), .p .nilS] ∧
 zeroCells Try.prog 148 = some [.p .nilS] ∧
 tkind Try.prog 148 = .other ∧
 notIntT Try.prog 148 = true ∧
 szPos Try.prog 148 = true ∧
 isAggB Try.prog 150 = some true ∧
 tsize Try.prog 150 = some 3 ∧
 sizedB Try.prog 150 = true ∧
 fieldOf Try.prog 150 0 = some (0, 5) ∧
 fieldOf Try.prog 150 1 = some (1, 9) ∧
 fieldOf Try.prog 150 2 = some (2, 148) ∧
 arrOf Try.prog 150 = none ∧
 zeroCells Try.prog 150 = some [.p (.int .u8 0), .p (.str (⟨#[]⟩ : ByteArray)), .p .nilS] ∧
 tkind Try.prog 150 = .other ∧
 notIntT Try.prog 150 = true ∧
 szPos Try.prog 150 = true ∧
 isAggB Try.prog 154 = some true ∧
 tsize Try.prog 154 = some 3 ∧
 sizedB Try.prog 154 = true ∧
 fieldOf Try.prog 154 0 = some (0, 9) ∧
 fieldOf Try.prog 154 1 = some (1, 2) ∧
 fieldOf Try.prog 154 2 = some (2, 4) ∧
 arrOf Try.prog 154 = none ∧
 zeroCells Try.prog 154 = some [.p (.str (⟨#[]⟩ : ByteArray)), .p (.int .i64 0), .p (.bool false)] ∧
 tkind Try.prog 154 = .other ∧
 notIntT Try.prog 154 = true ∧
 szPos Try.prog 154 = true ∧
 isAggB Try.prog 159 = some true ∧
 tsize Try.prog 159 = some 4 ∧
 sizedB Try.prog 159 = true ∧
 fieldOf Try.prog 159 0 = some (0, 9) ∧
 fieldOf Try.prog 159 1 = some (1, 3) ∧
 fieldOf Try.prog 159 2 = some (2, 3) ∧
 fieldOf Try.prog 159 3 = some (3, 4) ∧
 arrOf Try.prog 159 = none ∧
 zeroCells Try.prog 159 = some [.p (.str (⟨#[]⟩ : ByteArray)), .p (.int .i64 0), .p (.int .i64 0), .p (.bool false)] ∧
 tkind Try.prog 159 = .other ∧
 notIntT Try.prog 159 = true ∧
 szPos Try.prog 159 = true ∧
 isAggB Try.prog 164 = some true ∧
 tsize Try.prog 164 = some 4 ∧
 sizedB Try.prog 164 = true ∧
 fieldOf Try.prog 164 0 = some (0, 9) ∧
 fieldOf Try.prog 164 1 = some (1, 3) ∧
 fieldOf Try.prog 164 2 = some (2, 3) ∧
 fieldOf Try.prog 164 3 = some (3, 4) ∧
 arrOf Try.prog 164 = none ∧
 zeroCells Try.prog 164 = some [.p (.str (⟨#[]⟩ : ByteArray)), .p (.int .i64 0), .p (.int .i64 0), .p (.bool false)] ∧
 tkind Try.prog 164 = .other ∧
 notIntT Try.prog 164 = true ∧
 szPos Try.prog 164 = true := by
 repeat' refine And.intro ?_ ?_
 all_goals kernel_rfl
structure S113 where
 f0 : ByteArray
 f1 : Int
 f2 : Bool
 deriving Inhabited
def en113 (x : S113) : List PV := [.str x.f0, .int .i64 x.f1, .bool x.f2]
theorem ok113 (l : List S113) : rowsOk 3 (List.map en113 l) = true := rowsOk_map _ _ (fun x => by simp [en113]) l
structure S86 where
 f0 : ByteArray
 f1 : (List ByteArray)
 f2 : (List S113)
 f3 : Bool
 deriving Inhabited
def en86 (x : S86) : List PV := [.str x.f0, .lst false (List.map srw x.f1), .lst false (List.map en113 x.f2), .bool x.f3]
theorem ok86 (l : List S86) : rowsOk 4 (List.map en86 l) = true := rowsOk_map _ _ (fun x => by simp [en86]) l
structure S89 where
 f0 : ByteArray
 f1 : ByteArray
 f2 : ByteArray
 f3 : (List S113)
 f4 : Int
 f5 : Int
 f6 : Int
 deriving Inhabited
def en89 (x : S89) : List PV := [.str x.f0, .str x.f1, .str x.f2, .lst false (List.map en113 x.f3), .int .i64 x.f4, .int .i64 x.f5, .int .i64 x.f6]
theorem ok89 (l : List S89) : rowsOk 7 (List.map en89 l) = true := rowsOk_map _ _ (fun x => by simp [en89]) l
structure S92 where
 f0 : ByteArray
 f1 : (List ByteArray)
 deriving Inhabited
def en92 (x : S92) : List PV := [.str x.f0, .lst false (List.map srw x.f1)]
theorem ok92 (l : List S92) : rowsOk 2 (List.map en92 l) = true := rowsOk_map _ _ (fun x => by simp [en92]) l
structure S25 where
 f0 : (List S86)
 f1 : (List S89)
 f2 : (List S92)
 f3 : Bool
 deriving Inhabited
def en25 (x : S25) : List PV := [.lst false (List.map en86 x.f0), .lst false (List.map en89 x.f1), .lst false (List.map en92 x.f2), .bool x.f3]
theorem ok25 (l : List S25) : rowsOk 4 (List.map en25 l) = true := rowsOk_map _ _ (fun x => by simp [en25]) l
structure S96 where
 f0 : ByteArray
 f1 : (List ByteArray)
 f2 : (List S113)
 f3 : Bool
 deriving Inhabited
def en96 (x : S96) : List PV := [.str x.f0, .lst false (List.map srw x.f1), .lst false (List.map en113 x.f2), .bool x.f3]
theorem ok96 (l : List S96) : rowsOk 4 (List.map en96 l) = true := rowsOk_map _ _ (fun x => by simp [en96]) l
structure S99 where
 f0 : ByteArray
 f1 : ByteArray
 f2 : ByteArray
 f3 : (List S113)
 f4 : Int
 f5 : Int
 f6 : Int
 deriving Inhabited
def en99 (x : S99) : List PV := [.str x.f0, .str x.f1, .str x.f2, .lst false (List.map en113 x.f3), .int .i64 x.f4, .int .i64 x.f5, .int .i64 x.f6]
theorem ok99 (l : List S99) : rowsOk 7 (List.map en99 l) = true := rowsOk_map _ _ (fun x => by simp [en99]) l
structure S33 where
 f0 : (List S96)
 f1 : (List S99)
 f2 : (List S92)
 f3 : Bool
 deriving Inhabited
def en33 (x : S33) : List PV := [.lst false (List.map en96 x.f0), .lst false (List.map en99 x.f1), .lst false (List.map en92 x.f2), .bool x.f3]
theorem ok33 (l : List S33) : rowsOk 4 (List.map en33 l) = true := rowsOk_map _ _ (fun x => by simp [en33]) l

theorem sm_ {p : Prop} (h : p := by simp only [run, afterR, condC, exitC, exitTo, runO, step1, ofO, fpOf, fpK, writes, de, deT, deB, opD, dstOk, isCall, stepOp, finO, memPut, mset, entO, ent, core, constB, mkeyOf, mval, mrowOf, tupIf, liveM, kOf_i, kOf_s, mkEq_self, mhas_i, mhas_s, midx_i, midx_s, mrow_ii, mrow_ib, mrow_is, mrow_si, mrow_sb, mrow_ss, ment_ii, ment_ib, ment_is, ment_si, ment_sb, ment_ss, mset1_ii, mset1_ib, mset1_is, mset1_si, mset1_sb, mset1_ss, mput_ii, mput_ib, mput_is, mput_si, mput_sb, mput_ss, tst_map, coreB, lenA, minA, maxA, rowsB, appT, appS, appB, fullR, keyApp, keyV, keyL, liveC, liveB, liveZ, keyOf, oget, fget, lk, ofConst, cellsC, aggC, cell1, eff, binop, intOp, strOp, unop, ld, splice, fillP, aplace, placeOf, rowsN, oint, AV.cells, AV.pv, PV.std, AV.rows, pvs, appN, appC, rowsOk, irow, srw, brw, lrw, St.put, back, renA, ren1, ren0, renO, resOf, resAll, resOne, tupOf, fnOf, rk, inn, ok1, okB, okA, okT, okO, ok0, renB, liveP, liveZ0, nagg, one1, scH, bldZ, nvs, AV.nv, PV.sc, PV.isL, nilOrE, List.filter_cons, List.filter_nil, List.all_cons, List.all_nil,   unint, unint_map, bytesOf_eq, bnd_, rowsOk_irow, rowsOk_srw, rowsOk_brw, rowsOk_lrw, rowsOk_app, take_map_len, map_set_, set_map_,   List.range, List.range.loop, List.zip, List.zipWith, List.zip_cons_cons, List.zip_nil_left, List.zip_nil_right, List.length_cons, List.length_nil, List.length_map, List.length_append, List.map_cons, List.map_nil, List.map_append, List.getElem?_map, List.drop_succ_cons, List.drop_zero, List.drop_nil, List.take_succ_cons, List.take_zero, List.take_nil, List.take_length, List.set_cons_succ, List.set_cons_zero, List.head?_cons, List.head?_nil, List.getElem?_cons_succ, List.getElem?_cons_zero, List.append_nil, List.nil_append, List.cons_append, List.append_assoc, List.flatten_cons, List.flatten_nil, List.replicate_succ, List.replicate_zero, List.contains_cons, List.contains_nil, List.isEmpty_nil, List.isEmpty_cons, List.map_drop, List.map_take, List.map_replicate, List.length_replicate, List.length_set,   cond_true, cond_false, Option.map_some, Option.map_none, Option.bind_some, Option.bind_none, Option.getD_some, Option.getD_none, Option.isSome_some, Option.isSome_none, beq_self_eq_true, BEq.rfl, Nat.reduceBEq, Nat.reduceAdd, Nat.reduceSub, Nat.reduceMul, Nat.reduceLeDiff, Nat.reduceLT, Nat.reduceEqDiff, Nat.zero_add, Nat.add_zero, Nat.zero_mul, Nat.le_refl, and_self, and_true, true_and, if_true, reduceIte, ite_true, ite_false, Bool.and_true, Bool.true_and, Bool.and_false, Bool.false_and, Bool.not_true, Bool.not_false, Bool.or_true, Bool.or_false, Bool.true_or, Bool.false_or, Int.toNat_zero, Int.toNat_natCast, Int.reduceToNat, Int.reduceLE, Int.reduceLT, Int.reduceBEq, reduceCtorEq, decide_true, decide_false, Bool.false_eq_true, Nat.sub_zero, List.toList_toArray, List.foldl_cons, en113, ok113, en86, ok86, en89, ok89, en92, ok92, en25, ok25, en96, ok96, en99, ok99, en33, ok33, tyF, *]) : p := h
theorem sms_ {p : Prop} (h : p := by simp only [run, afterR, condC, exitC, exitTo, runO, step1, ofO, fpOf, fpK, writes, de, deT, deB, opD, dstOk, isCall, stepOp, finO, memPut, mset, entO, ent, core, constB, mkeyOf, mval, mrowOf, tupIf, liveM, kOf_i, kOf_s, mkEq_self, mhas_i, mhas_s, midx_i, midx_s, mrow_ii, mrow_ib, mrow_is, mrow_si, mrow_sb, mrow_ss, ment_ii, ment_ib, ment_is, ment_si, ment_sb, ment_ss, mset1_ii, mset1_ib, mset1_is, mset1_si, mset1_sb, mset1_ss, mput_ii, mput_ib, mput_is, mput_si, mput_sb, mput_ss, tst_map, coreB, lenA, minA, maxA, rowsB, appT, appS, appB, fullR, keyApp, keyV, keyL, liveC, liveB, liveZ, keyOf, oget, fget, lk, ofConst, cellsC, aggC, cell1, eff, binop, intOp, strOp, unop, ld, splice, fillP, aplace, placeOf, rowsN, oint, AV.cells, AV.pv, PV.std, AV.rows, pvs, appN, appC, rowsOk, irow, srw, brw, lrw, St.put, back, renA, ren1, ren0, renO, resOf, resAll, resOne, tupOf, fnOf, rk, inn, ok1, okB, okA, okT, okO, ok0, renB, liveP, liveZ0, nagg, one1, scH, bldZ, nvs, AV.nv, PV.sc, PV.isL, nilOrE, List.filter_cons, List.filter_nil, List.all_cons, List.all_nil,   unint, unint_map, bytesOf_eq, bnd_, rowsOk_irow, rowsOk_srw, rowsOk_brw, rowsOk_lrw, rowsOk_app, take_map_len, map_set_, set_map_,   List.range, List.range.loop, List.zip, List.zipWith, List.zip_cons_cons, List.zip_nil_left, List.zip_nil_right, List.length_cons, List.length_nil, List.length_map, List.length_append, List.map_cons, List.map_nil, List.map_append, List.getElem?_map, List.drop_succ_cons, List.drop_zero, List.drop_nil, List.take_succ_cons, List.take_zero, List.take_nil, List.take_length, List.set_cons_succ, List.set_cons_zero, List.head?_cons, List.head?_nil, List.getElem?_cons_succ, List.getElem?_cons_zero, List.append_nil, List.nil_append, List.cons_append, List.append_assoc, List.flatten_cons, List.flatten_nil, List.replicate_succ, List.replicate_zero, List.contains_cons, List.contains_nil, List.isEmpty_nil, List.isEmpty_cons, List.map_drop, List.map_take, List.map_replicate, List.length_replicate, List.length_set,   cond_true, cond_false, Option.map_some, Option.map_none, Option.bind_some, Option.bind_none, Option.getD_some, Option.getD_none, Option.isSome_some, Option.isSome_none, beq_self_eq_true, BEq.rfl, Nat.reduceBEq, Nat.reduceAdd, Nat.reduceSub, Nat.reduceMul, Nat.reduceLeDiff, Nat.reduceLT, Nat.reduceEqDiff, Nat.zero_add, Nat.add_zero, Nat.zero_mul, Nat.le_refl, and_self, and_true, true_and, if_true, reduceIte, ite_true, ite_false, Bool.and_true, Bool.true_and, Bool.and_false, Bool.false_and, Bool.not_true, Bool.not_false, Bool.or_true, Bool.or_false, Bool.true_or, Bool.false_or, Int.toNat_zero, Int.toNat_natCast, Int.reduceToNat, Int.reduceLE, Int.reduceLT, Int.reduceBEq, reduceCtorEq, decide_true, decide_false, Bool.false_eq_true, Nat.sub_zero, List.toList_toArray, List.foldl_cons, en113, ok113, en86, ok86, en89, ok89, en92, ok92, en25, ok25, en96, ok96, en99, ok99, en33, ok33, tyF]) : p := h
theorem smr_ {p : Prop} (h : p := by (simp only [run, afterR, condC, exitC, exitTo, runO, step1, ofO, fpOf, fpK, writes, de, deT, deB, opD, dstOk, isCall, stepOp, finO, memPut, mset, entO, ent, core, constB, mkeyOf, mval, mrowOf, tupIf, liveM, kOf_i, kOf_s, mkEq_self, mhas_i, mhas_s, midx_i, midx_s, mrow_ii, mrow_ib, mrow_is, mrow_si, mrow_sb, mrow_ss, ment_ii, ment_ib, ment_is, ment_si, ment_sb, ment_ss, mset1_ii, mset1_ib, mset1_is, mset1_si, mset1_sb, mset1_ss, mput_ii, mput_ib, mput_is, mput_si, mput_sb, mput_ss, tst_map, coreB, lenA, minA, maxA, rowsB, appT, appS, appB, fullR, keyApp, keyV, keyL, liveC, liveB, liveZ, keyOf, oget, fget, lk, ofConst, cellsC, aggC, cell1, eff, binop, intOp, strOp, unop, ld, splice, fillP, aplace, placeOf, rowsN, oint, AV.cells, AV.pv, PV.std, AV.rows, pvs, appN, appC, rowsOk, irow, srw, brw, lrw, St.put, back, renA, ren1, ren0, renO, resOf, resAll, resOne, tupOf, fnOf, rk, inn, ok1, okB, okA, okT, okO, ok0, renB, liveP, liveZ0, nagg, one1, scH, bldZ, nvs, AV.nv, PV.sc, PV.isL, nilOrE, List.filter_cons, List.filter_nil, List.all_cons, List.all_nil,   unint, unint_map, bytesOf_eq, bnd_, rowsOk_irow, rowsOk_srw, rowsOk_brw, rowsOk_lrw, rowsOk_app, take_map_len, map_set_, set_map_,   List.range, List.range.loop, List.zip, List.zipWith, List.zip_cons_cons, List.zip_nil_left, List.zip_nil_right, List.length_cons, List.length_nil, List.length_map, List.length_append, List.map_cons, List.map_nil, List.map_append, List.getElem?_map, List.drop_succ_cons, List.drop_zero, List.drop_nil, List.take_succ_cons, List.take_zero, List.take_nil, List.take_length, List.set_cons_succ, List.set_cons_zero, List.head?_cons, List.head?_nil, List.getElem?_cons_succ, List.getElem?_cons_zero, List.append_nil, List.nil_append, List.cons_append, List.append_assoc, List.flatten_cons, List.flatten_nil, List.replicate_succ, List.replicate_zero, List.contains_cons, List.contains_nil, List.isEmpty_nil, List.isEmpty_cons, List.map_drop, List.map_take, List.map_replicate, List.length_replicate, List.length_set,   cond_true, cond_false, Option.map_some, Option.map_none, Option.bind_some, Option.bind_none, Option.getD_some, Option.getD_none, Option.isSome_some, Option.isSome_none, beq_self_eq_true, BEq.rfl, Nat.reduceBEq, Nat.reduceAdd, Nat.reduceSub, Nat.reduceMul, Nat.reduceLeDiff, Nat.reduceLT, Nat.reduceEqDiff, Nat.zero_add, Nat.add_zero, Nat.zero_mul, Nat.le_refl, and_self, and_true, true_and, if_true, reduceIte, ite_true, ite_false, Bool.and_true, Bool.true_and, Bool.and_false, Bool.false_and, Bool.not_true, Bool.not_false, Bool.or_true, Bool.or_false, Bool.true_or, Bool.false_or, Int.toNat_zero, Int.toNat_natCast, Int.reduceToNat, Int.reduceLE, Int.reduceLT, Int.reduceBEq, reduceCtorEq, decide_true, decide_false, Bool.false_eq_true, Nat.sub_zero, List.toList_toArray, List.foldl_cons, en113, ok113, en86, ok86, en89, ok89, en92, ok92, en25, ok25, en96, ok96, en99, ok99, en33, ok33, tyF, *]; rfl)) : p := h
theorem smt_ {p : Prop} (h : p := by (simp only [run, afterR, condC, exitC, exitTo, runO, step1, ofO, fpOf, fpK, writes, de, deT, deB, opD, dstOk, isCall, stepOp, finO, memPut, mset, entO, ent, core, constB, mkeyOf, mval, mrowOf, tupIf, liveM, kOf_i, kOf_s, mkEq_self, mhas_i, mhas_s, midx_i, midx_s, mrow_ii, mrow_ib, mrow_is, mrow_si, mrow_sb, mrow_ss, ment_ii, ment_ib, ment_is, ment_si, ment_sb, ment_ss, mset1_ii, mset1_ib, mset1_is, mset1_si, mset1_sb, mset1_ss, mput_ii, mput_ib, mput_is, mput_si, mput_sb, mput_ss, tst_map, coreB, lenA, minA, maxA, rowsB, appT, appS, appB, fullR, keyApp, keyV, keyL, liveC, liveB, liveZ, keyOf, oget, fget, lk, ofConst, cellsC, aggC, cell1, eff, binop, intOp, strOp, unop, ld, splice, fillP, aplace, placeOf, rowsN, oint, AV.cells, AV.pv, PV.std, AV.rows, pvs, appN, appC, rowsOk, irow, srw, brw, lrw, St.put, back, renA, ren1, ren0, renO, resOf, resAll, resOne, tupOf, fnOf, rk, inn, ok1, okB, okA, okT, okO, ok0, renB, liveP, liveZ0, nagg, one1, scH, bldZ, nvs, AV.nv, PV.sc, PV.isL, nilOrE, List.filter_cons, List.filter_nil, List.all_cons, List.all_nil,   unint, unint_map, bytesOf_eq, bnd_, rowsOk_irow, rowsOk_srw, rowsOk_brw, rowsOk_lrw, rowsOk_app, take_map_len, map_set_, set_map_,   List.range, List.range.loop, List.zip, List.zipWith, List.zip_cons_cons, List.zip_nil_left, List.zip_nil_right, List.length_cons, List.length_nil, List.length_map, List.length_append, List.map_cons, List.map_nil, List.map_append, List.getElem?_map, List.drop_succ_cons, List.drop_zero, List.drop_nil, List.take_succ_cons, List.take_zero, List.take_nil, List.take_length, List.set_cons_succ, List.set_cons_zero, List.head?_cons, List.head?_nil, List.getElem?_cons_succ, List.getElem?_cons_zero, List.append_nil, List.nil_append, List.cons_append, List.append_assoc, List.flatten_cons, List.flatten_nil, List.replicate_succ, List.replicate_zero, List.contains_cons, List.contains_nil, List.isEmpty_nil, List.isEmpty_cons, List.map_drop, List.map_take, List.map_replicate, List.length_replicate, List.length_set,   cond_true, cond_false, Option.map_some, Option.map_none, Option.bind_some, Option.bind_none, Option.getD_some, Option.getD_none, Option.isSome_some, Option.isSome_none, beq_self_eq_true, BEq.rfl, Nat.reduceBEq, Nat.reduceAdd, Nat.reduceSub, Nat.reduceMul, Nat.reduceLeDiff, Nat.reduceLT, Nat.reduceEqDiff, Nat.zero_add, Nat.add_zero, Nat.zero_mul, Nat.le_refl, and_self, and_true, true_and, if_true, reduceIte, ite_true, ite_false, Bool.and_true, Bool.true_and, Bool.and_false, Bool.false_and, Bool.not_true, Bool.not_false, Bool.or_true, Bool.or_false, Bool.true_or, Bool.false_or, Int.toNat_zero, Int.toNat_natCast, Int.reduceToNat, Int.reduceLE, Int.reduceLT, Int.reduceBEq, reduceCtorEq, decide_true, decide_false, Bool.false_eq_true, Nat.sub_zero, List.toList_toArray, List.foldl_cons, en113, ok113, en86, ok86, en89, ok89, en92, ok92, en25, ok25, en96, ok96, en99, ok99, en33, ok33, tyF, *]; try rfl)) : p := h
theorem smo_ {p : Prop} (h : p := by (simp only [run, afterR, condC, exitC, exitTo, runO, step1, ofO, fpOf, fpK, writes, de, deT, deB, opD, dstOk, isCall, stepOp, finO, memPut, mset, entO, ent, core, constB, mkeyOf, mval, mrowOf, tupIf, liveM, kOf_i, kOf_s, mkEq_self, mhas_i, mhas_s, midx_i, midx_s, mrow_ii, mrow_ib, mrow_is, mrow_si, mrow_sb, mrow_ss, ment_ii, ment_ib, ment_is, ment_si, ment_sb, ment_ss, mset1_ii, mset1_ib, mset1_is, mset1_si, mset1_sb, mset1_ss, mput_ii, mput_ib, mput_is, mput_si, mput_sb, mput_ss, tst_map, coreB, lenA, minA, maxA, rowsB, appT, appS, appB, fullR, keyApp, keyV, keyL, liveC, liveB, liveZ, keyOf, oget, fget, lk, ofConst, cellsC, aggC, cell1, eff, binop, intOp, strOp, unop, ld, splice, fillP, aplace, placeOf, rowsN, oint, AV.cells, AV.pv, PV.std, AV.rows, pvs, appN, appC, rowsOk, irow, srw, brw, lrw, St.put, back, renA, ren1, ren0, renO, resOf, resAll, resOne, tupOf, fnOf, rk, inn, ok1, okB, okA, okT, okO, ok0, renB, liveP, liveZ0, nagg, one1, scH, bldZ, nvs, AV.nv, PV.sc, PV.isL, nilOrE, List.filter_cons, List.filter_nil, List.all_cons, List.all_nil,   unint, unint_map, bytesOf_eq, bnd_, rowsOk_irow, rowsOk_srw, rowsOk_brw, rowsOk_lrw, rowsOk_app, take_map_len, map_set_, set_map_,   List.range, List.range.loop, List.zip, List.zipWith, List.zip_cons_cons, List.zip_nil_left, List.zip_nil_right, List.length_cons, List.length_nil, List.length_map, List.length_append, List.map_cons, List.map_nil, List.map_append, List.getElem?_map, List.drop_succ_cons, List.drop_zero, List.drop_nil, List.take_succ_cons, List.take_zero, List.take_nil, List.take_length, List.set_cons_succ, List.set_cons_zero, List.head?_cons, List.head?_nil, List.getElem?_cons_succ, List.getElem?_cons_zero, List.append_nil, List.nil_append, List.cons_append, List.append_assoc, List.flatten_cons, List.flatten_nil, List.replicate_succ, List.replicate_zero, List.contains_cons, List.contains_nil, List.isEmpty_nil, List.isEmpty_cons, List.map_drop, List.map_take, List.map_replicate, List.length_replicate, List.length_set,   cond_true, cond_false, Option.map_some, Option.map_none, Option.bind_some, Option.bind_none, Option.getD_some, Option.getD_none, Option.isSome_some, Option.isSome_none, beq_self_eq_true, BEq.rfl, Nat.reduceBEq, Nat.reduceAdd, Nat.reduceSub, Nat.reduceMul, Nat.reduceLeDiff, Nat.reduceLT, Nat.reduceEqDiff, Nat.zero_add, Nat.add_zero, Nat.zero_mul, Nat.le_refl, and_self, and_true, true_and, if_true, reduceIte, ite_true, ite_false, Bool.and_true, Bool.true_and, Bool.and_false, Bool.false_and, Bool.not_true, Bool.not_false, Bool.or_true, Bool.or_false, Bool.true_or, Bool.false_or, Int.toNat_zero, Int.toNat_natCast, Int.reduceToNat, Int.reduceLE, Int.reduceLT, Int.reduceBEq, reduceCtorEq, decide_true, decide_false, Bool.false_eq_true, Nat.sub_zero, List.toList_toArray, List.foldl_cons, en113, ok113, en86, ok86, en89, ok89, en92, ok92, en25, ok25, en96, ok96, en99, ok99, en33, ok33, tyF, *]; omega)) : p := h
theorem smo0_ {p : Prop} (h : p := by (simp only [run, afterR, condC, exitC, exitTo, runO, step1, ofO, fpOf, fpK, writes, de, deT, deB, opD, dstOk, isCall, stepOp, finO, memPut, mset, entO, ent, core, constB, mkeyOf, mval, mrowOf, tupIf, liveM, kOf_i, kOf_s, mkEq_self, mhas_i, mhas_s, midx_i, midx_s, mrow_ii, mrow_ib, mrow_is, mrow_si, mrow_sb, mrow_ss, ment_ii, ment_ib, ment_is, ment_si, ment_sb, ment_ss, mset1_ii, mset1_ib, mset1_is, mset1_si, mset1_sb, mset1_ss, mput_ii, mput_ib, mput_is, mput_si, mput_sb, mput_ss, tst_map, coreB, lenA, minA, maxA, rowsB, appT, appS, appB, fullR, keyApp, keyV, keyL, liveC, liveB, liveZ, keyOf, oget, fget, lk, ofConst, cellsC, aggC, cell1, eff, binop, intOp, strOp, unop, ld, splice, fillP, aplace, placeOf, rowsN, oint, AV.cells, AV.pv, PV.std, AV.rows, pvs, appN, appC, rowsOk, irow, srw, brw, lrw, St.put, back, renA, ren1, ren0, renO, resOf, resAll, resOne, tupOf, fnOf, rk, inn, ok1, okB, okA, okT, okO, ok0, renB, liveP, liveZ0, nagg, one1, scH, bldZ, nvs, AV.nv, PV.sc, PV.isL, nilOrE, List.filter_cons, List.filter_nil, List.all_cons, List.all_nil,   unint, unint_map, bytesOf_eq, bnd_, rowsOk_irow, rowsOk_srw, rowsOk_brw, rowsOk_lrw, rowsOk_app, take_map_len, map_set_, set_map_,   List.range, List.range.loop, List.zip, List.zipWith, List.zip_cons_cons, List.zip_nil_left, List.zip_nil_right, List.length_cons, List.length_nil, List.length_map, List.length_append, List.map_cons, List.map_nil, List.map_append, List.getElem?_map, List.drop_succ_cons, List.drop_zero, List.drop_nil, List.take_succ_cons, List.take_zero, List.take_nil, List.take_length, List.set_cons_succ, List.set_cons_zero, List.head?_cons, List.head?_nil, List.getElem?_cons_succ, List.getElem?_cons_zero, List.append_nil, List.nil_append, List.cons_append, List.append_assoc, List.flatten_cons, List.flatten_nil, List.replicate_succ, List.replicate_zero, List.contains_cons, List.contains_nil, List.isEmpty_nil, List.isEmpty_cons, List.map_drop, List.map_take, List.map_replicate, List.length_replicate, List.length_set,   cond_true, cond_false, Option.map_some, Option.map_none, Option.bind_some, Option.bind_none, Option.getD_some, Option.getD_none, Option.isSome_some, Option.isSome_none, beq_self_eq_true, BEq.rfl, Nat.reduceBEq, Nat.reduceAdd, Nat.reduceSub, Nat.reduceMul, Nat.reduceLeDiff, Nat.reduceLT, Nat.reduceEqDiff, Nat.zero_add, Nat.add_zero, Nat.zero_mul, Nat.le_refl, and_self, and_true, true_and, if_true, reduceIte, ite_true, ite_false, Bool.and_true, Bool.true_and, Bool.and_false, Bool.false_and, Bool.not_true, Bool.not_false, Bool.or_true, Bool.or_false, Bool.true_or, Bool.false_or, Int.toNat_zero, Int.toNat_natCast, Int.reduceToNat, Int.reduceLE, Int.reduceLT, Int.reduceBEq, reduceCtorEq, decide_true, decide_false, Bool.false_eq_true, Nat.sub_zero, List.toList_toArray, List.foldl_cons, en113, ok113, en86, ok86, en89, ok89, en92, ok92, en25, ok25, en96, ok96, en99, ok99, en33, ok33, tyF]; omega)) : p := h
theorem smd_ {p : Prop} (h : p := by (simp only [run, afterR, condC, exitC, exitTo, runO, step1, ofO, fpOf, fpK, writes, de, deT, deB, opD, dstOk, isCall, stepOp, finO, memPut, mset, entO, ent, core, constB, mkeyOf, mval, mrowOf, tupIf, liveM, kOf_i, kOf_s, mkEq_self, mhas_i, mhas_s, midx_i, midx_s, mrow_ii, mrow_ib, mrow_is, mrow_si, mrow_sb, mrow_ss, ment_ii, ment_ib, ment_is, ment_si, ment_sb, ment_ss, mset1_ii, mset1_ib, mset1_is, mset1_si, mset1_sb, mset1_ss, mput_ii, mput_ib, mput_is, mput_si, mput_sb, mput_ss, tst_map, coreB, lenA, minA, maxA, rowsB, appT, appS, appB, fullR, keyApp, keyV, keyL, liveC, liveB, liveZ, keyOf, oget, fget, lk, ofConst, cellsC, aggC, cell1, eff, binop, intOp, strOp, unop, ld, splice, fillP, aplace, placeOf, rowsN, oint, AV.cells, AV.pv, PV.std, AV.rows, pvs, appN, appC, rowsOk, irow, srw, brw, lrw, St.put, back, renA, ren1, ren0, renO, resOf, resAll, resOne, tupOf, fnOf, rk, inn, ok1, okB, okA, okT, okO, ok0, renB, liveP, liveZ0, nagg, one1, scH, bldZ, nvs, AV.nv, PV.sc, PV.isL, nilOrE, List.filter_cons, List.filter_nil, List.all_cons, List.all_nil,   unint, unint_map, bytesOf_eq, bnd_, rowsOk_irow, rowsOk_srw, rowsOk_brw, rowsOk_lrw, rowsOk_app, take_map_len, map_set_, set_map_,   List.range, List.range.loop, List.zip, List.zipWith, List.zip_cons_cons, List.zip_nil_left, List.zip_nil_right, List.length_cons, List.length_nil, List.length_map, List.length_append, List.map_cons, List.map_nil, List.map_append, List.getElem?_map, List.drop_succ_cons, List.drop_zero, List.drop_nil, List.take_succ_cons, List.take_zero, List.take_nil, List.take_length, List.set_cons_succ, List.set_cons_zero, List.head?_cons, List.head?_nil, List.getElem?_cons_succ, List.getElem?_cons_zero, List.append_nil, List.nil_append, List.cons_append, List.append_assoc, List.flatten_cons, List.flatten_nil, List.replicate_succ, List.replicate_zero, List.contains_cons, List.contains_nil, List.isEmpty_nil, List.isEmpty_cons, List.map_drop, List.map_take, List.map_replicate, List.length_replicate, List.length_set,   cond_true, cond_false, Option.map_some, Option.map_none, Option.bind_some, Option.bind_none, Option.getD_some, Option.getD_none, Option.isSome_some, Option.isSome_none, beq_self_eq_true, BEq.rfl, Nat.reduceBEq, Nat.reduceAdd, Nat.reduceSub, Nat.reduceMul, Nat.reduceLeDiff, Nat.reduceLT, Nat.reduceEqDiff, Nat.zero_add, Nat.add_zero, Nat.zero_mul, Nat.le_refl, and_self, and_true, true_and, if_true, reduceIte, ite_true, ite_false, Bool.and_true, Bool.true_and, Bool.and_false, Bool.false_and, Bool.not_true, Bool.not_false, Bool.or_true, Bool.or_false, Bool.true_or, Bool.false_or, Int.toNat_zero, Int.toNat_natCast, Int.reduceToNat, Int.reduceLE, Int.reduceLT, Int.reduceBEq, reduceCtorEq, decide_true, decide_false, Bool.false_eq_true, Nat.sub_zero, List.toList_toArray, List.foldl_cons, en113, ok113, en86, ok86, en89, ok89, en92, ok92, en25, ok25, en96, ok96, en99, ok99, en33, ok33, tyF, List.map_cons, List.map_nil]; decide)) : p := h
theorem go (n : Nat) {H : Prop} {C : Ctx} {it it' : List Item} {st st' : St} (g : H → Good C it' st') (h : run C.P C.hint n (.on it st) = .stop it' st' := by
   (simp only [run, afterR, condC, exitC, exitTo, runO, step1, ofO, fpOf, fpK, writes, de, deT, deB, opD, dstOk, isCall, stepOp, finO, memPut, mset, entO, ent, core, constB, mkeyOf, mval, mrowOf, tupIf, liveM, kOf_i, kOf_s, mkEq_self, mhas_i, mhas_s, midx_i, midx_s, mrow_ii, mrow_ib, mrow_is, mrow_si, mrow_sb, mrow_ss, ment_ii, ment_ib, ment_is, ment_si, ment_sb, ment_ss, mset1_ii, mset1_ib, mset1_is, mset1_si, mset1_sb, mset1_ss, mput_ii, mput_ib, mput_is, mput_si, mput_sb, mput_ss, tst_map, coreB, lenA, minA, maxA, rowsB, appT, appS, appB, fullR, keyApp, keyV, keyL, liveC, liveB, liveZ, keyOf, oget, fget, lk, ofConst, cellsC, aggC, cell1, eff, binop, intOp, strOp, unop, ld, splice, fillP, aplace, placeOf, rowsN, oint, AV.cells, AV.pv, PV.std, AV.rows, pvs, appN, appC, rowsOk, irow, srw, brw, lrw, St.put, back, renA, ren1, ren0, renO, resOf, resAll, resOne, tupOf, fnOf, rk, inn, ok1, okB, okA, okT, okO, ok0, renB, liveP, liveZ0, nagg, one1, scH, bldZ, nvs, AV.nv, PV.sc, PV.isL, nilOrE, List.filter_cons, List.filter_nil, List.all_cons, List.all_nil,   unint, unint_map, bytesOf_eq, bnd_, rowsOk_irow, rowsOk_srw, rowsOk_brw, rowsOk_lrw, rowsOk_app, take_map_len, map_set_, set_map_,   List.range, List.range.loop, List.zip, List.zipWith, List.zip_cons_cons, List.zip_nil_left, List.zip_nil_right, List.length_cons, List.length_nil, List.length_map, List.length_append, List.map_cons, List.map_nil, List.map_append, List.getElem?_map, List.drop_succ_cons, List.drop_zero, List.drop_nil, List.take_succ_cons, List.take_zero, List.take_nil, List.take_length, List.set_cons_succ, List.set_cons_zero, List.head?_cons, List.head?_nil, List.getElem?_cons_succ, List.getElem?_cons_zero, List.append_nil, List.nil_append, List.cons_append, List.append_assoc, List.flatten_cons, List.flatten_nil, List.replicate_succ, List.replicate_zero, List.contains_cons, List.contains_nil, List.isEmpty_nil, List.isEmpty_cons, List.map_drop, List.map_take, List.map_replicate, List.length_replicate, List.length_set,   cond_true, cond_false, Option.map_some, Option.map_none, Option.bind_some, Option.bind_none, Option.getD_some, Option.getD_none, Option.isSome_some, Option.isSome_none, beq_self_eq_true, BEq.rfl, Nat.reduceBEq, Nat.reduceAdd, Nat.reduceSub, Nat.reduceMul, Nat.reduceLeDiff, Nat.reduceLT, Nat.reduceEqDiff, Nat.zero_add, Nat.add_zero, Nat.zero_mul, Nat.le_refl, and_self, and_true, true_and, if_true, reduceIte, ite_true, ite_false, Bool.and_true, Bool.true_and, Bool.and_false, Bool.false_and, Bool.not_true, Bool.not_false, Bool.or_true, Bool.or_false, Bool.true_or, Bool.false_or, Int.toNat_zero, Int.toNat_natCast, Int.reduceToNat, Int.reduceLE, Int.reduceLT, Int.reduceBEq, reduceCtorEq, decide_true, decide_false, Bool.false_eq_true, Nat.sub_zero, List.toList_toArray, List.foldl_cons, en113, ok113, en86, ok86, en89, ok89, en92, ok92, en25, ok25, en96, ok96, en99, ok99, en33, ok33, tyF, *]; rfl)) : H → Good C it st := fun x => run_good h (g x)
theorem grs {H : Prop} {C : Ctx} {id : Nat} {ops : Array Oper} {draw : Bool} {k : List Item} {st : St} (g : H → GR C draw ops.toList k 0 ops.toList [] st) (hm : C.P.follows .mixedOrders = true := by kernel_rfl) : H → Good C (.code (.region id ops draw) :: k) st := fun x => gr_start (g x) hm
theorem gr_run {H : Prop} {C : Ctx} {draw : Bool} {all : List Oper} {k : List Item} {j j' : Nat} {l l' : List Oper} {F F' : Fp} {st st' : St} (g : H → GR C draw all k j' l' (F ++ F') st') (h : runO C.P C.hint all j l (.go [] st) = .stop j' l' F' st' := by
   (simp only [run, afterR, condC, exitC, exitTo, runO, step1, ofO, fpOf, fpK, writes, de, deT, deB, opD, dstOk, isCall, stepOp, finO, memPut, mset, entO, ent, core, constB, mkeyOf, mval, mrowOf, tupIf, liveM, kOf_i, kOf_s, mkEq_self, mhas_i, mhas_s, midx_i, midx_s, mrow_ii, mrow_ib, mrow_is, mrow_si, mrow_sb, mrow_ss, ment_ii, ment_ib, ment_is, ment_si, ment_sb, ment_ss, mset1_ii, mset1_ib, mset1_is, mset1_si, mset1_sb, mset1_ss, mput_ii, mput_ib, mput_is, mput_si, mput_sb, mput_ss, tst_map, coreB, lenA, minA, maxA, rowsB, appT, appS, appB, fullR, keyApp, keyV, keyL, liveC, liveB, liveZ, keyOf, oget, fget, lk, ofConst, cellsC, aggC, cell1, eff, binop, intOp, strOp, unop, ld, splice, fillP, aplace, placeOf, rowsN, oint, AV.cells, AV.pv, PV.std, AV.rows, pvs, appN, appC, rowsOk, irow, srw, brw, lrw, St.put, back, renA, ren1, ren0, renO, resOf, resAll, resOne, tupOf, fnOf, rk, inn, ok1, okB, okA, okT, okO, ok0, renB, liveP, liveZ0, nagg, one1, scH, bldZ, nvs, AV.nv, PV.sc, PV.isL, nilOrE, List.filter_cons, List.filter_nil, List.all_cons, List.all_nil,   unint, unint_map, bytesOf_eq, bnd_, rowsOk_irow, rowsOk_srw, rowsOk_brw, rowsOk_lrw, rowsOk_app, take_map_len, map_set_, set_map_,   List.range, List.range.loop, List.zip, List.zipWith, List.zip_cons_cons, List.zip_nil_left, List.zip_nil_right, List.length_cons, List.length_nil, List.length_map, List.length_append, List.map_cons, List.map_nil, List.map_append, List.getElem?_map, List.drop_succ_cons, List.drop_zero, List.drop_nil, List.take_succ_cons, List.take_zero, List.take_nil, List.take_length, List.set_cons_succ, List.set_cons_zero, List.head?_cons, List.head?_nil, List.getElem?_cons_succ, List.getElem?_cons_zero, List.append_nil, List.nil_append, List.cons_append, List.append_assoc, List.flatten_cons, List.flatten_nil, List.replicate_succ, List.replicate_zero, List.contains_cons, List.contains_nil, List.isEmpty_nil, List.isEmpty_cons, List.map_drop, List.map_take, List.map_replicate, List.length_replicate, List.length_set,   cond_true, cond_false, Option.map_some, Option.map_none, Option.bind_some, Option.bind_none, Option.getD_some, Option.getD_none, Option.isSome_some, Option.isSome_none, beq_self_eq_true, BEq.rfl, Nat.reduceBEq, Nat.reduceAdd, Nat.reduceSub, Nat.reduceMul, Nat.reduceLeDiff, Nat.reduceLT, Nat.reduceEqDiff, Nat.zero_add, Nat.add_zero, Nat.zero_mul, Nat.le_refl, and_self, and_true, true_and, if_true, reduceIte, ite_true, ite_false, Bool.and_true, Bool.true_and, Bool.and_false, Bool.false_and, Bool.not_true, Bool.not_false, Bool.or_true, Bool.or_false, Bool.true_or, Bool.false_or, Int.toNat_zero, Int.toNat_natCast, Int.reduceToNat, Int.reduceLE, Int.reduceLT, Int.reduceBEq, reduceCtorEq, decide_true, decide_false, Bool.false_eq_true, Nat.sub_zero, List.toList_toArray, List.foldl_cons, en113, ok113, en86, ok86, en89, ok89, en92, ok92, en25, ok25, en96, ok96, en99, ok99, en33, ok33, tyF, *]; rfl)) : H → GR C draw all k j l F st := fun x => gr_run_ (g x) h
theorem gr_done {H : Prop} {C : Ctx} {draw : Bool} {all : List Oper} {k : List Item} {j : Nat} {F : Fp} {st : St} (g : H → Good C k st) (h : draw = true → chk all F = true := by first | (intro h_; cases h_; done) | (intro _; kernel_rfl)) : H → GR C draw all k j [] F st := fun x => gr_done_ (g x) h
theorem leA_ {a b : List AV} (h : F2 LeA a b := by
   ((try simp only [run, afterR, condC, exitC, exitTo, runO, step1, ofO, fpOf, fpK, writes, de, deT, deB, opD, dstOk, isCall, stepOp, finO, memPut, mset, entO, ent, core, constB, mkeyOf, mval, mrowOf, tupIf, liveM, kOf_i, kOf_s, mkEq_self, mhas_i, mhas_s, midx_i, midx_s, mrow_ii, mrow_ib, mrow_is, mrow_si, mrow_sb, mrow_ss, ment_ii, ment_ib, ment_is, ment_si, ment_sb, ment_ss, mset1_ii, mset1_ib, mset1_is, mset1_si, mset1_sb, mset1_ss, mput_ii, mput_ib, mput_is, mput_si, mput_sb, mput_ss, tst_map, coreB, lenA, minA, maxA, rowsB, appT, appS, appB, fullR, keyApp, keyV, keyL, liveC, liveB, liveZ, keyOf, oget, fget, lk, ofConst, cellsC, aggC, cell1, eff, binop, intOp, strOp, unop, ld, splice, fillP, aplace, placeOf, rowsN, oint, AV.cells, AV.pv, PV.std, AV.rows, pvs, appN, appC, rowsOk, irow, srw, brw, lrw, St.put, back, renA, ren1, ren0, renO, resOf, resAll, resOne, tupOf, fnOf, rk, inn, ok1, okB, okA, okT, okO, ok0, renB, liveP, liveZ0, nagg, one1, scH, bldZ, nvs, AV.nv, PV.sc, PV.isL, nilOrE, List.filter_cons, List.filter_nil, List.all_cons, List.all_nil,   unint, unint_map, bytesOf_eq, bnd_, rowsOk_irow, rowsOk_srw, rowsOk_brw, rowsOk_lrw, rowsOk_app, take_map_len, map_set_, set_map_,   List.range, List.range.loop, List.zip, List.zipWith, List.zip_cons_cons, List.zip_nil_left, List.zip_nil_right, List.length_cons, List.length_nil, List.length_map, List.length_append, List.map_cons, List.map_nil, List.map_append, List.getElem?_map, List.drop_succ_cons, List.drop_zero, List.drop_nil, List.take_succ_cons, List.take_zero, List.take_nil, List.take_length, List.set_cons_succ, List.set_cons_zero, List.head?_cons, List.head?_nil, List.getElem?_cons_succ, List.getElem?_cons_zero, List.append_nil, List.nil_append, List.cons_append, List.append_assoc, List.flatten_cons, List.flatten_nil, List.replicate_succ, List.replicate_zero, List.contains_cons, List.contains_nil, List.isEmpty_nil, List.isEmpty_cons, List.map_drop, List.map_take, List.map_replicate, List.length_replicate, List.length_set,   cond_true, cond_false, Option.map_some, Option.map_none, Option.bind_some, Option.bind_none, Option.getD_some, Option.getD_none, Option.isSome_some, Option.isSome_none, beq_self_eq_true, BEq.rfl, Nat.reduceBEq, Nat.reduceAdd, Nat.reduceSub, Nat.reduceMul, Nat.reduceLeDiff, Nat.reduceLT, Nat.reduceEqDiff, Nat.zero_add, Nat.add_zero, Nat.zero_mul, Nat.le_refl, and_self, and_true, true_and, if_true, reduceIte, ite_true, ite_false, Bool.and_true, Bool.true_and, Bool.and_false, Bool.false_and, Bool.not_true, Bool.not_false, Bool.or_true, Bool.or_false, Bool.true_or, Bool.false_or, Int.toNat_zero, Int.toNat_natCast, Int.reduceToNat, Int.reduceLE, Int.reduceLT, Int.reduceBEq, reduceCtorEq, decide_true, decide_false, Bool.false_eq_true, Nat.sub_zero, List.toList_toArray, List.foldl_cons, en113, ok113, en86, ok86, en89, ok89, en92, ok92, en25, ok25, en96, ok96, en99, ok99, en33, ok33, tyF, *]); repeat' first | exact F2.nil | exact LeA.of _ _ (Le.refl _) | exact LeA.of _ _ (Le.nil _) | exact LeA.of _ _ (Le.full _) | exact LeA.of _ _ (Le.tip _ _ _) | exact LeA.of _ _ (Le.nwp _) | exact LeA.of _ _ (Le.odp _) | exact LeA.of _ _ (Le.u _) | exact Le.refl _ | exact Le.nil _ | exact Le.full _ | exact Le.tip _ _ _ | exact Le.nwp _ | exact Le.odp _ | exact Le.u _ | refine F2.cons ?_ ?_ | refine LeA.agg _ _ ?_)) : F2 LeA a b := h
theorem fits_ {σ : Sg} {mc m : Mem} (h : Fits σ mc m := by
     (first | exact fits_nil _ | (refine ⟨?_, by (first | decide | exact smd_), by (first | decide | exact smd_), by (first | decide | exact smd_)⟩; (repeat' first | exact all0 | refine all1 ?_ ?_); all_goals exact ⟨by (first | rfl | exact sm_), _, _, _, rfl, rfl, by
   (simp only [LeO, run, afterR, condC, exitC, exitTo, runO, step1, ofO, fpOf, fpK, writes, de, deT, deB, opD, dstOk, isCall, stepOp, finO, memPut, mset, entO, ent, core, constB, mkeyOf, mval, mrowOf, tupIf, liveM, kOf_i, kOf_s, mkEq_self, mhas_i, mhas_s, midx_i, midx_s, mrow_ii, mrow_ib, mrow_is, mrow_si, mrow_sb, mrow_ss, ment_ii, ment_ib, ment_is, ment_si, ment_sb, ment_ss, mset1_ii, mset1_ib, mset1_is, mset1_si, mset1_sb, mset1_ss, mput_ii, mput_ib, mput_is, mput_si, mput_sb, mput_ss, tst_map, coreB, lenA, minA, maxA, rowsB, appT, appS, appB, fullR, keyApp, keyV, keyL, liveC, liveB, liveZ, keyOf, oget, fget, lk, ofConst, cellsC, aggC, cell1, eff, binop, intOp, strOp, unop, ld, splice, fillP, aplace, placeOf, rowsN, oint, AV.cells, AV.pv, PV.std, AV.rows, pvs, appN, appC, rowsOk, irow, srw, brw, lrw, St.put, back, renA, ren1, ren0, renO, resOf, resAll, resOne, tupOf, fnOf, rk, inn, ok1, okB, okA, okT, okO, ok0, renB, liveP, liveZ0, nagg, one1, scH, bldZ, nvs, AV.nv, PV.sc, PV.isL, nilOrE, List.filter_cons, List.filter_nil, List.all_cons, List.all_nil,   unint, unint_map, bytesOf_eq, bnd_, rowsOk_irow, rowsOk_srw, rowsOk_brw, rowsOk_lrw, rowsOk_app, take_map_len, map_set_, set_map_,   List.range, List.range.loop, List.zip, List.zipWith, List.zip_cons_cons, List.zip_nil_left, List.zip_nil_right, List.length_cons, List.length_nil, List.length_map, List.length_append, List.map_cons, List.map_nil, List.map_append, List.getElem?_map, List.drop_succ_cons, List.drop_zero, List.drop_nil, List.take_succ_cons, List.take_zero, List.take_nil, List.take_length, List.set_cons_succ, List.set_cons_zero, List.head?_cons, List.head?_nil, List.getElem?_cons_succ, List.getElem?_cons_zero, List.append_nil, List.nil_append, List.cons_append, List.append_assoc, List.flatten_cons, List.flatten_nil, List.replicate_succ, List.replicate_zero, List.contains_cons, List.contains_nil, List.isEmpty_nil, List.isEmpty_cons, List.map_drop, List.map_take, List.map_replicate, List.length_replicate, List.length_set,   cond_true, cond_false, Option.map_some, Option.map_none, Option.bind_some, Option.bind_none, Option.getD_some, Option.getD_none, Option.isSome_some, Option.isSome_none, beq_self_eq_true, BEq.rfl, Nat.reduceBEq, Nat.reduceAdd, Nat.reduceSub, Nat.reduceMul, Nat.reduceLeDiff, Nat.reduceLT, Nat.reduceEqDiff, Nat.zero_add, Nat.add_zero, Nat.zero_mul, Nat.le_refl, and_self, and_true, true_and, if_true, reduceIte, ite_true, ite_false, Bool.and_true, Bool.true_and, Bool.and_false, Bool.false_and, Bool.not_true, Bool.not_false, Bool.or_true, Bool.or_false, Bool.true_or, Bool.false_or, Int.toNat_zero, Int.toNat_natCast, Int.reduceToNat, Int.reduceLE, Int.reduceLT, Int.reduceBEq, reduceCtorEq, decide_true, decide_false, Bool.false_eq_true, Nat.sub_zero, List.toList_toArray, List.foldl_cons, en113, ok113, en86, ok86, en89, ok89, en92, ok92, en25, ok25, en96, ok96, en99, ok99, en33, ok33, tyF, *]; repeat' first | exact F2.nil | refine F2.cons ?_ ?_ | exact Le.refl _ | exact Le.nil _ | exact Le.full _ | exact Le.tip _ _ _ | exact Le.nwp _ | exact Le.odp _ | exact Le.u _ | refine And.intro ?_ ?_ | rfl | trivial)⟩))) : Fits σ mc m := h
theorem fitsOut_ {σ : Sg} {mc mc' m : Mem} (h : FitsOut σ mc mc' m := by
     (first | exact fitsOut_nil _ | (refine ⟨?_, by (first | decide | exact smd_), by (repeat' first | exact all0 | refine all1 rfl ?_)⟩; (repeat' first | exact all0 | refine all1 ?_ ?_); all_goals exact ⟨_, _, rfl, by first | exact Or.inl rfl | (right; first | exact smo_ | exact sm_ | exact smo0_ | decide)⟩))) : FitsOut σ mc mc' m := h
theorem endOk_ {σ : Sg} {m m' m0 : Mem} (h : EndOk σ m m' m0 := by
     (first | exact endOk_nil _ | exact ⟨fits_, by ((repeat' first | exact all0 | refine all1 ?_ ?_); all_goals first | exact Or.inl rfl | (right; first | exact sm_ | exact smo_ | exact smo0_ | decide)), by (repeat' first | exact all0 | refine all1 (by first | exact Nat.le_refl _ | exact smo_) ?_)⟩)) : EndOk σ m m' m0 := h
theorem gr_call {H : Prop} {C : Ctx} {draw : Bool} {all : List Oper} {k : List Item} {j : Nat} {o : Oper} {r : List Oper} {F : Fp} {st : St} {fv : Operand} {args : Array Operand} {ts : Array TypeId} {f : FuncId} {first caps : List AV} (σ : Sg) {cargs : List AV} {mc mc' : Mem} {v : AV}
   (hcon : Con C.hint.2.2 C.P f cargs mc v mc') (g : H → GR C draw all k (j + 1) r (F ++ σ.map (fun q => (j, q.2.2.1, true))) ({ st with mem := back σ st.mem mc' }.put o.dst (renA σ v)))
   (hop : o.op = .call { callee := .value fv, args := args, argTypes := ts } := by rfl)
   (h : de all st.fr o = .call := by exact sm_) (hd : dstOk C.hint.1 o.dst = true := by exact sms_) (hf : fnOf (oget st.fr fv) = some (f, first, caps) := by 
   exact smt_)
   (hargs : F2 LeA (first ++ args.toList.map (oget st.fr) ++ caps) (cargs.map (renA σ)) := by exact leA_) (hok : cargs.all (okA (inn σ mc)) = true := by (first | rfl | exact sm_)) (hm : Fits σ mc st.mem := by exact fits_)
   (ho : FitsOut σ mc mc' st.mem := by exact fitsOut_) : H → GR C draw all k j (o :: r) F st := fun x => gr_call_ σ hcon (g x) h hd hop hf hargs hok hm ho
theorem frle_ {fr fr' : List (Nat × AV)} (h : frLe fr fr' := by
   (simp only [frLe, run, afterR, condC, exitC, exitTo, runO, step1, ofO, fpOf, fpK, writes, de, deT, deB, opD, dstOk, isCall, stepOp, finO, memPut, mset, entO, ent, core, constB, mkeyOf, mval, mrowOf, tupIf, liveM, kOf_i, kOf_s, mkEq_self, mhas_i, mhas_s, midx_i, midx_s, mrow_ii, mrow_ib, mrow_is, mrow_si, mrow_sb, mrow_ss, ment_ii, ment_ib, ment_is, ment_si, ment_sb, ment_ss, mset1_ii, mset1_ib, mset1_is, mset1_si, mset1_sb, mset1_ss, mput_ii, mput_ib, mput_is, mput_si, mput_sb, mput_ss, tst_map, coreB, lenA, minA, maxA, rowsB, appT, appS, appB, fullR, keyApp, keyV, keyL, liveC, liveB, liveZ, keyOf, oget, fget, lk, ofConst, cellsC, aggC, cell1, eff, binop, intOp, strOp, unop, ld, splice, fillP, aplace, placeOf, rowsN, oint, AV.cells, AV.pv, PV.std, AV.rows, pvs, appN, appC, rowsOk, irow, srw, brw, lrw, St.put, back, renA, ren1, ren0, renO, resOf, resAll, resOne, tupOf, fnOf, rk, inn, ok1, okB, okA, okT, okO, ok0, renB, liveP, liveZ0, nagg, one1, scH, bldZ, nvs, AV.nv, PV.sc, PV.isL, nilOrE, List.filter_cons, List.filter_nil, List.all_cons, List.all_nil,   unint, unint_map, bytesOf_eq, bnd_, rowsOk_irow, rowsOk_srw, rowsOk_brw, rowsOk_lrw, rowsOk_app, take_map_len, map_set_, set_map_,   List.range, List.range.loop, List.zip, List.zipWith, List.zip_cons_cons, List.zip_nil_left, List.zip_nil_right, List.length_cons, List.length_nil, List.length_map, List.length_append, List.map_cons, List.map_nil, List.map_append, List.getElem?_map, List.drop_succ_cons, List.drop_zero, List.drop_nil, List.take_succ_cons, List.take_zero, List.take_nil, List.take_length, List.set_cons_succ, List.set_cons_zero, List.head?_cons, List.head?_nil, List.getElem?_cons_succ, List.getElem?_cons_zero, List.append_nil, List.nil_append, List.cons_append, List.append_assoc, List.flatten_cons, List.flatten_nil, List.replicate_succ, List.replicate_zero, List.contains_cons, List.contains_nil, List.isEmpty_nil, List.isEmpty_cons, List.map_drop, List.map_take, List.map_replicate, List.length_replicate, List.length_set,   cond_true, cond_false, Option.map_some, Option.map_none, Option.bind_some, Option.bind_none, Option.getD_some, Option.getD_none, Option.isSome_some, Option.isSome_none, beq_self_eq_true, BEq.rfl, Nat.reduceBEq, Nat.reduceAdd, Nat.reduceSub, Nat.reduceMul, Nat.reduceLeDiff, Nat.reduceLT, Nat.reduceEqDiff, Nat.zero_add, Nat.add_zero, Nat.zero_mul, Nat.le_refl, and_self, and_true, true_and, if_true, reduceIte, ite_true, ite_false, Bool.and_true, Bool.true_and, Bool.and_false, Bool.false_and, Bool.not_true, Bool.not_false, Bool.or_true, Bool.or_false, Bool.true_or, Bool.false_or, Int.toNat_zero, Int.toNat_natCast, Int.reduceToNat, Int.reduceLE, Int.reduceLT, Int.reduceBEq, reduceCtorEq, decide_true, decide_false, Bool.false_eq_true, Nat.sub_zero, List.toList_toArray, List.foldl_cons, en113, ok113, en86, ok86, en89, ok89, en92, ok92, en25, ok25, en96, ok96, en99, ok99, en33, ok33, tyF, *]; repeat' first | trivial | exact LeA.of _ _ (Le.refl _) | exact LeA.of _ _ (Le.nil _) | exact LeA.of _ _ (Le.full _) | exact LeA.of _ _ (Le.tip _ _ _) | exact LeA.of _ _ (Le.nwp _) | exact LeA.of _ _ (Le.odp _) | exact LeA.of _ _ (Le.u _) | exact F2.nil | exact Le.refl _ | exact Le.nil _ | exact Le.full _ | exact Le.tip _ _ _ | exact Le.nwp _ | exact Le.odp _ | exact Le.u _ | refine F2.cons ?_ ?_ | refine LeA.agg _ _ ?_ | refine And.intro ?_ ?_)) : frLe fr fr' := h
theorem memle_ {m m' : Mem} (h : memLe m m' := by
   (simp only [memLe, leE, LeO, run, afterR, condC, exitC, exitTo, runO, step1, ofO, fpOf, fpK, writes, de, deT, deB, opD, dstOk, isCall, stepOp, finO, memPut, mset, entO, ent, core, constB, mkeyOf, mval, mrowOf, tupIf, liveM, kOf_i, kOf_s, mkEq_self, mhas_i, mhas_s, midx_i, midx_s, mrow_ii, mrow_ib, mrow_is, mrow_si, mrow_sb, mrow_ss, ment_ii, ment_ib, ment_is, ment_si, ment_sb, ment_ss, mset1_ii, mset1_ib, mset1_is, mset1_si, mset1_sb, mset1_ss, mput_ii, mput_ib, mput_is, mput_si, mput_sb, mput_ss, tst_map, coreB, lenA, minA, maxA, rowsB, appT, appS, appB, fullR, keyApp, keyV, keyL, liveC, liveB, liveZ, keyOf, oget, fget, lk, ofConst, cellsC, aggC, cell1, eff, binop, intOp, strOp, unop, ld, splice, fillP, aplace, placeOf, rowsN, oint, AV.cells, AV.pv, PV.std, AV.rows, pvs, appN, appC, rowsOk, irow, srw, brw, lrw, St.put, back, renA, ren1, ren0, renO, resOf, resAll, resOne, tupOf, fnOf, rk, inn, ok1, okB, okA, okT, okO, ok0, renB, liveP, liveZ0, nagg, one1, scH, bldZ, nvs, AV.nv, PV.sc, PV.isL, nilOrE, List.filter_cons, List.filter_nil, List.all_cons, List.all_nil,   unint, unint_map, bytesOf_eq, bnd_, rowsOk_irow, rowsOk_srw, rowsOk_brw, rowsOk_lrw, rowsOk_app, take_map_len, map_set_, set_map_,   List.range, List.range.loop, List.zip, List.zipWith, List.zip_cons_cons, List.zip_nil_left, List.zip_nil_right, List.length_cons, List.length_nil, List.length_map, List.length_append, List.map_cons, List.map_nil, List.map_append, List.getElem?_map, List.drop_succ_cons, List.drop_zero, List.drop_nil, List.take_succ_cons, List.take_zero, List.take_nil, List.take_length, List.set_cons_succ, List.set_cons_zero, List.head?_cons, List.head?_nil, List.getElem?_cons_succ, List.getElem?_cons_zero, List.append_nil, List.nil_append, List.cons_append, List.append_assoc, List.flatten_cons, List.flatten_nil, List.replicate_succ, List.replicate_zero, List.contains_cons, List.contains_nil, List.isEmpty_nil, List.isEmpty_cons, List.map_drop, List.map_take, List.map_replicate, List.length_replicate, List.length_set,   cond_true, cond_false, Option.map_some, Option.map_none, Option.bind_some, Option.bind_none, Option.getD_some, Option.getD_none, Option.isSome_some, Option.isSome_none, beq_self_eq_true, BEq.rfl, Nat.reduceBEq, Nat.reduceAdd, Nat.reduceSub, Nat.reduceMul, Nat.reduceLeDiff, Nat.reduceLT, Nat.reduceEqDiff, Nat.zero_add, Nat.add_zero, Nat.zero_mul, Nat.le_refl, and_self, and_true, true_and, if_true, reduceIte, ite_true, ite_false, Bool.and_true, Bool.true_and, Bool.and_false, Bool.false_and, Bool.not_true, Bool.not_false, Bool.or_true, Bool.or_false, Bool.true_or, Bool.false_or, Int.toNat_zero, Int.toNat_natCast, Int.reduceToNat, Int.reduceLE, Int.reduceLT, Int.reduceBEq, reduceCtorEq, decide_true, decide_false, Bool.false_eq_true, Nat.sub_zero, List.toList_toArray, List.foldl_cons, en113, ok113, en86, ok86, en89, ok89, en92, ok92, en25, ok25, en96, ok96, en99, ok99, en33, ok33, tyF, *]; repeat' first | trivial | rfl | exact F2.nil | exact Le.refl _ | exact Le.nil _ | exact Le.full _ | exact Le.tip _ _ _ | exact Le.nwp _ | exact Le.odp _ | exact Le.u _ | refine F2.cons ?_ ?_ | refine And.intro ?_ ?_)) (hk : memKeys m m' := by exact ⟨by
   (simp only [run, afterR, condC, exitC, exitTo, runO, step1, ofO, fpOf, fpK, writes, de, deT, deB, opD, dstOk, isCall, stepOp, finO, memPut, mset, entO, ent, core, constB, mkeyOf, mval, mrowOf, tupIf, liveM, kOf_i, kOf_s, mkEq_self, mhas_i, mhas_s, midx_i, midx_s, mrow_ii, mrow_ib, mrow_is, mrow_si, mrow_sb, mrow_ss, ment_ii, ment_ib, ment_is, ment_si, ment_sb, ment_ss, mset1_ii, mset1_ib, mset1_is, mset1_si, mset1_sb, mset1_ss, mput_ii, mput_ib, mput_is, mput_si, mput_sb, mput_ss, tst_map, coreB, lenA, minA, maxA, rowsB, appT, appS, appB, fullR, keyApp, keyV, keyL, liveC, liveB, liveZ, keyOf, oget, fget, lk, ofConst, cellsC, aggC, cell1, eff, binop, intOp, strOp, unop, ld, splice, fillP, aplace, placeOf, rowsN, oint, AV.cells, AV.pv, PV.std, AV.rows, pvs, appN, appC, rowsOk, irow, srw, brw, lrw, St.put, back, renA, ren1, ren0, renO, resOf, resAll, resOne, tupOf, fnOf, rk, inn, ok1, okB, okA, okT, okO, ok0, renB, liveP, liveZ0, nagg, one1, scH, bldZ, nvs, AV.nv, PV.sc, PV.isL, nilOrE, List.filter_cons, List.filter_nil, List.all_cons, List.all_nil,   unint, unint_map, bytesOf_eq, bnd_, rowsOk_irow, rowsOk_srw, rowsOk_brw, rowsOk_lrw, rowsOk_app, take_map_len, map_set_, set_map_,   List.range, List.range.loop, List.zip, List.zipWith, List.zip_cons_cons, List.zip_nil_left, List.zip_nil_right, List.length_cons, List.length_nil, List.length_map, List.length_append, List.map_cons, List.map_nil, List.map_append, List.getElem?_map, List.drop_succ_cons, List.drop_zero, List.drop_nil, List.take_succ_cons, List.take_zero, List.take_nil, List.take_length, List.set_cons_succ, List.set_cons_zero, List.head?_cons, List.head?_nil, List.getElem?_cons_succ, List.getElem?_cons_zero, List.append_nil, List.nil_append, List.cons_append, List.append_assoc, List.flatten_cons, List.flatten_nil, List.replicate_succ, List.replicate_zero, List.contains_cons, List.contains_nil, List.isEmpty_nil, List.isEmpty_cons, List.map_drop, List.map_take, List.map_replicate, List.length_replicate, List.length_set,   cond_true, cond_false, Option.map_some, Option.map_none, Option.bind_some, Option.bind_none, Option.getD_some, Option.getD_none, Option.isSome_some, Option.isSome_none, beq_self_eq_true, BEq.rfl, Nat.reduceBEq, Nat.reduceAdd, Nat.reduceSub, Nat.reduceMul, Nat.reduceLeDiff, Nat.reduceLT, Nat.reduceEqDiff, Nat.zero_add, Nat.add_zero, Nat.zero_mul, Nat.le_refl, and_self, and_true, true_and, if_true, reduceIte, ite_true, ite_false, Bool.and_true, Bool.true_and, Bool.and_false, Bool.false_and, Bool.not_true, Bool.not_false, Bool.or_true, Bool.or_false, Bool.true_or, Bool.false_or, Int.toNat_zero, Int.toNat_natCast, Int.reduceToNat, Int.reduceLE, Int.reduceLT, Int.reduceBEq, reduceCtorEq, decide_true, decide_false, Bool.false_eq_true, Nat.sub_zero, List.toList_toArray, List.foldl_cons, en113, ok113, en86, ok86, en89, ok89, en92, ok92, en25, ok25, en96, ok96, en99, ok99, en33, ok33, tyF, List.all_cons, List.all_nil]), by 
   (first | decide |
   (simp only [run, afterR, condC, exitC, exitTo, runO, step1, ofO, fpOf, fpK, writes, de, deT, deB, opD, dstOk, isCall, stepOp, finO, memPut, mset, entO, ent, core, constB, mkeyOf, mval, mrowOf, tupIf, liveM, kOf_i, kOf_s, mkEq_self, mhas_i, mhas_s, midx_i, midx_s, mrow_ii, mrow_ib, mrow_is, mrow_si, mrow_sb, mrow_ss, ment_ii, ment_ib, ment_is, ment_si, ment_sb, ment_ss, mset1_ii, mset1_ib, mset1_is, mset1_si, mset1_sb, mset1_ss, mput_ii, mput_ib, mput_is, mput_si, mput_sb, mput_ss, tst_map, coreB, lenA, minA, maxA, rowsB, appT, appS, appB, fullR, keyApp, keyV, keyL, liveC, liveB, liveZ, keyOf, oget, fget, lk, ofConst, cellsC, aggC, cell1, eff, binop, intOp, strOp, unop, ld, splice, fillP, aplace, placeOf, rowsN, oint, AV.cells, AV.pv, PV.std, AV.rows, pvs, appN, appC, rowsOk, irow, srw, brw, lrw, St.put, back, renA, ren1, ren0, renO, resOf, resAll, resOne, tupOf, fnOf, rk, inn, ok1, okB, okA, okT, okO, ok0, renB, liveP, liveZ0, nagg, one1, scH, bldZ, nvs, AV.nv, PV.sc, PV.isL, nilOrE, List.filter_cons, List.filter_nil, List.all_cons, List.all_nil,   unint, unint_map, bytesOf_eq, bnd_, rowsOk_irow, rowsOk_srw, rowsOk_brw, rowsOk_lrw, rowsOk_app, take_map_len, map_set_, set_map_,   List.range, List.range.loop, List.zip, List.zipWith, List.zip_cons_cons, List.zip_nil_left, List.zip_nil_right, List.length_cons, List.length_nil, List.length_map, List.length_append, List.map_cons, List.map_nil, List.map_append, List.getElem?_map, List.drop_succ_cons, List.drop_zero, List.drop_nil, List.take_succ_cons, List.take_zero, List.take_nil, List.take_length, List.set_cons_succ, List.set_cons_zero, List.head?_cons, List.head?_nil, List.getElem?_cons_succ, List.getElem?_cons_zero, List.append_nil, List.nil_append, List.cons_append, List.append_assoc, List.flatten_cons, List.flatten_nil, List.replicate_succ, List.replicate_zero, List.contains_cons, List.contains_nil, List.isEmpty_nil, List.isEmpty_cons, List.map_drop, List.map_take, List.map_replicate, List.length_replicate, List.length_set,   cond_true, cond_false, Option.map_some, Option.map_none, Option.bind_some, Option.bind_none, Option.getD_some, Option.getD_none, Option.isSome_some, Option.isSome_none, beq_self_eq_true, BEq.rfl, Nat.reduceBEq, Nat.reduceAdd, Nat.reduceSub, Nat.reduceMul, Nat.reduceLeDiff, Nat.reduceLT, Nat.reduceEqDiff, Nat.zero_add, Nat.add_zero, Nat.zero_mul, Nat.le_refl, and_self, and_true, true_and, if_true, reduceIte, ite_true, ite_false, Bool.and_true, Bool.true_and, Bool.and_false, Bool.false_and, Bool.not_true, Bool.not_false, Bool.or_true, Bool.or_false, Bool.true_or, Bool.false_or, Int.toNat_zero, Int.toNat_natCast, Int.reduceToNat, Int.reduceLE, Int.reduceLT, Int.reduceBEq, reduceCtorEq, decide_true, decide_false, Bool.false_eq_true, Nat.sub_zero, List.toList_toArray, List.foldl_cons, en113, ok113, en86, ok86, en89, ok89, en92, ok92, en25, ok25, en96, ok96, en99, ok99, en33, ok33, tyF, *]; try decide))⟩) : memLe m m' ∧ memKeys m m' := ⟨h, hk⟩
theorem nf_ {p q : Prop} (h : p) (e : p = q := by ((try simp only [run, afterR, condC, exitC, exitTo, runO, step1, ofO, fpOf, fpK, writes, de, deT, deB, opD, dstOk, isCall, stepOp, finO, memPut, mset, entO, ent, core, constB, mkeyOf, mval, mrowOf, tupIf, liveM, kOf_i, kOf_s, mkEq_self, mhas_i, mhas_s, midx_i, midx_s, mrow_ii, mrow_ib, mrow_is, mrow_si, mrow_sb, mrow_ss, ment_ii, ment_ib, ment_is, ment_si, ment_sb, ment_ss, mset1_ii, mset1_ib, mset1_is, mset1_si, mset1_sb, mset1_ss, mput_ii, mput_ib, mput_is, mput_si, mput_sb, mput_ss, tst_map, coreB, lenA, minA, maxA, rowsB, appT, appS, appB, fullR, keyApp, keyV, keyL, liveC, liveB, liveZ, keyOf, oget, fget, lk, ofConst, cellsC, aggC, cell1, eff, binop, intOp, strOp, unop, ld, splice, fillP, aplace, placeOf, rowsN, oint, AV.cells, AV.pv, PV.std, AV.rows, pvs, appN, appC, rowsOk, irow, srw, brw, lrw, St.put, back, renA, ren1, ren0, renO, resOf, resAll, resOne, tupOf, fnOf, rk, inn, ok1, okB, okA, okT, okO, ok0, renB, liveP, liveZ0, nagg, one1, scH, bldZ, nvs, AV.nv, PV.sc, PV.isL, nilOrE, List.filter_cons, List.filter_nil, List.all_cons, List.all_nil,   unint, unint_map, bytesOf_eq, bnd_, rowsOk_irow, rowsOk_srw, rowsOk_brw, rowsOk_lrw, rowsOk_app, take_map_len, map_set_, set_map_,   List.range, List.range.loop, List.zip, List.zipWith, List.zip_cons_cons, List.zip_nil_left, List.zip_nil_right, List.length_cons, List.length_nil, List.length_map, List.length_append, List.map_cons, List.map_nil, List.map_append, List.getElem?_map, List.drop_succ_cons, List.drop_zero, List.drop_nil, List.take_succ_cons, List.take_zero, List.take_nil, List.take_length, List.set_cons_succ, List.set_cons_zero, List.head?_cons, List.head?_nil, List.getElem?_cons_succ, List.getElem?_cons_zero, List.append_nil, List.nil_append, List.cons_append, List.append_assoc, List.flatten_cons, List.flatten_nil, List.replicate_succ, List.replicate_zero, List.contains_cons, List.contains_nil, List.isEmpty_nil, List.isEmpty_cons, List.map_drop, List.map_take, List.map_replicate, List.length_replicate, List.length_set,   cond_true, cond_false, Option.map_some, Option.map_none, Option.bind_some, Option.bind_none, Option.getD_some, Option.getD_none, Option.isSome_some, Option.isSome_none, beq_self_eq_true, BEq.rfl, Nat.reduceBEq, Nat.reduceAdd, Nat.reduceSub, Nat.reduceMul, Nat.reduceLeDiff, Nat.reduceLT, Nat.reduceEqDiff, Nat.zero_add, Nat.add_zero, Nat.zero_mul, Nat.le_refl, and_self, and_true, true_and, if_true, reduceIte, ite_true, ite_false, Bool.and_true, Bool.true_and, Bool.and_false, Bool.false_and, Bool.not_true, Bool.not_false, Bool.or_true, Bool.or_false, Bool.true_or, Bool.false_or, Int.toNat_zero, Int.toNat_natCast, Int.reduceToNat, Int.reduceLE, Int.reduceLT, Int.reduceBEq, reduceCtorEq, decide_true, decide_false, Bool.false_eq_true, Nat.sub_zero, List.toList_toArray, List.foldl_cons, en113, ok113, en86, ok86, en89, ok89, en92, ok92, en25, ok25, en96, ok96, en99, ok99, en33, ok33, tyF]); rfl)) : q := e ▸ h
theorem adopt_ {H : Prop} {C : Ctx} {it : List Item} {st : St} (s k z : Nat) (g : H → Good C it { fr := (s, .tip k ((ent st.mem k).1 + 1) []) :: st.fr, mem := mset st.mem k ((ent st.mem k).1 + 1, .tip z 0) }) (hs : fget st.fr s = .p .nilS := by 
   (simp only [run, afterR, condC, exitC, exitTo, runO, step1, ofO, fpOf, fpK, writes, de, deT, deB, opD, dstOk, isCall, stepOp, finO, memPut, mset, entO, ent, core, constB, mkeyOf, mval, mrowOf, tupIf, liveM, kOf_i, kOf_s, mkEq_self, mhas_i, mhas_s, midx_i, midx_s, mrow_ii, mrow_ib, mrow_is, mrow_si, mrow_sb, mrow_ss, ment_ii, ment_ib, ment_is, ment_si, ment_sb, ment_ss, mset1_ii, mset1_ib, mset1_is, mset1_si, mset1_sb, mset1_ss, mput_ii, mput_ib, mput_is, mput_si, mput_sb, mput_ss, tst_map, coreB, lenA, minA, maxA, rowsB, appT, appS, appB, fullR, keyApp, keyV, keyL, liveC, liveB, liveZ, keyOf, oget, fget, lk, ofConst, cellsC, aggC, cell1, eff, binop, intOp, strOp, unop, ld, splice, fillP, aplace, placeOf, rowsN, oint, AV.cells, AV.pv, PV.std, AV.rows, pvs, appN, appC, rowsOk, irow, srw, brw, lrw, St.put, back, renA, ren1, ren0, renO, resOf, resAll, resOne, tupOf, fnOf, rk, inn, ok1, okB, okA, okT, okO, ok0, renB, liveP, liveZ0, nagg, one1, scH, bldZ, nvs, AV.nv, PV.sc, PV.isL, nilOrE, List.filter_cons, List.filter_nil, List.all_cons, List.all_nil,   unint, unint_map, bytesOf_eq, bnd_, rowsOk_irow, rowsOk_srw, rowsOk_brw, rowsOk_lrw, rowsOk_app, take_map_len, map_set_, set_map_,   List.range, List.range.loop, List.zip, List.zipWith, List.zip_cons_cons, List.zip_nil_left, List.zip_nil_right, List.length_cons, List.length_nil, List.length_map, List.length_append, List.map_cons, List.map_nil, List.map_append, List.getElem?_map, List.drop_succ_cons, List.drop_zero, List.drop_nil, List.take_succ_cons, List.take_zero, List.take_nil, List.take_length, List.set_cons_succ, List.set_cons_zero, List.head?_cons, List.head?_nil, List.getElem?_cons_succ, List.getElem?_cons_zero, List.append_nil, List.nil_append, List.cons_append, List.append_assoc, List.flatten_cons, List.flatten_nil, List.replicate_succ, List.replicate_zero, List.contains_cons, List.contains_nil, List.isEmpty_nil, List.isEmpty_cons, List.map_drop, List.map_take, List.map_replicate, List.length_replicate, List.length_set,   cond_true, cond_false, Option.map_some, Option.map_none, Option.bind_some, Option.bind_none, Option.getD_some, Option.getD_none, Option.isSome_some, Option.isSome_none, beq_self_eq_true, BEq.rfl, Nat.reduceBEq, Nat.reduceAdd, Nat.reduceSub, Nat.reduceMul, Nat.reduceLeDiff, Nat.reduceLT, Nat.reduceEqDiff, Nat.zero_add, Nat.add_zero, Nat.zero_mul, Nat.le_refl, and_self, and_true, true_and, if_true, reduceIte, ite_true, ite_false, Bool.and_true, Bool.true_and, Bool.and_false, Bool.false_and, Bool.not_true, Bool.not_false, Bool.or_true, Bool.or_false, Bool.true_or, Bool.false_or, Int.toNat_zero, Int.toNat_natCast, Int.reduceToNat, Int.reduceLE, Int.reduceLT, Int.reduceBEq, reduceCtorEq, decide_true, decide_false, Bool.false_eq_true, Nat.sub_zero, List.toList_toArray, List.foldl_cons, en113, ok113, en86, ok86, en89, ok89, en92, ok92, en25, ok25, en96, ok96, en99, ok99, en33, ok33, tyF, *])) : H → Good C it st := fun x => good_adopt s k z hs (g x)
theorem adoptF_ {H : Prop} {C : Ctx} {it : List Item} {st : St} {rows : Rows} (s k z : Nat) (g : H → Good C it { fr := (s, .tip k ((ent st.mem k).1 + 1) rows) :: st.fr, mem := mset st.mem k ((ent st.mem k).1 + 1, .tip z rows.length) }) (hs : fget st.fr s = .p (.lst true rows) := by 
   exact smt_) (hz : rowsOk z rows = true := by
   (first | rfl | simp only [run, afterR, condC, exitC, exitTo, runO, step1, ofO, fpOf, fpK, writes, de, deT, deB, opD, dstOk, isCall, stepOp, finO, memPut, mset, entO, ent, core, constB, mkeyOf, mval, mrowOf, tupIf, liveM, kOf_i, kOf_s, mkEq_self, mhas_i, mhas_s, midx_i, midx_s, mrow_ii, mrow_ib, mrow_is, mrow_si, mrow_sb, mrow_ss, ment_ii, ment_ib, ment_is, ment_si, ment_sb, ment_ss, mset1_ii, mset1_ib, mset1_is, mset1_si, mset1_sb, mset1_ss, mput_ii, mput_ib, mput_is, mput_si, mput_sb, mput_ss, tst_map, coreB, lenA, minA, maxA, rowsB, appT, appS, appB, fullR, keyApp, keyV, keyL, liveC, liveB, liveZ, keyOf, oget, fget, lk, ofConst, cellsC, aggC, cell1, eff, binop, intOp, strOp, unop, ld, splice, fillP, aplace, placeOf, rowsN, oint, AV.cells, AV.pv, PV.std, AV.rows, pvs, appN, appC, rowsOk, irow, srw, brw, lrw, St.put, back, renA, ren1, ren0, renO, resOf, resAll, resOne, tupOf, fnOf, rk, inn, ok1, okB, okA, okT, okO, ok0, renB, liveP, liveZ0, nagg, one1, scH, bldZ, nvs, AV.nv, PV.sc, PV.isL, nilOrE, List.filter_cons, List.filter_nil, List.all_cons, List.all_nil,   unint, unint_map, bytesOf_eq, bnd_, rowsOk_irow, rowsOk_srw, rowsOk_brw, rowsOk_lrw, rowsOk_app, take_map_len, map_set_, set_map_,   List.range, List.range.loop, List.zip, List.zipWith, List.zip_cons_cons, List.zip_nil_left, List.zip_nil_right, List.length_cons, List.length_nil, List.length_map, List.length_append, List.map_cons, List.map_nil, List.map_append, List.getElem?_map, List.drop_succ_cons, List.drop_zero, List.drop_nil, List.take_succ_cons, List.take_zero, List.take_nil, List.take_length, List.set_cons_succ, List.set_cons_zero, List.head?_cons, List.head?_nil, List.getElem?_cons_succ, List.getElem?_cons_zero, List.append_nil, List.nil_append, List.cons_append, List.append_assoc, List.flatten_cons, List.flatten_nil, List.replicate_succ, List.replicate_zero, List.contains_cons, List.contains_nil, List.isEmpty_nil, List.isEmpty_cons, List.map_drop, List.map_take, List.map_replicate, List.length_replicate, List.length_set,   cond_true, cond_false, Option.map_some, Option.map_none, Option.bind_some, Option.bind_none, Option.getD_some, Option.getD_none, Option.isSome_some, Option.isSome_none, beq_self_eq_true, BEq.rfl, Nat.reduceBEq, Nat.reduceAdd, Nat.reduceSub, Nat.reduceMul, Nat.reduceLeDiff, Nat.reduceLT, Nat.reduceEqDiff, Nat.zero_add, Nat.add_zero, Nat.zero_mul, Nat.le_refl, and_self, and_true, true_and, if_true, reduceIte, ite_true, ite_false, Bool.and_true, Bool.true_and, Bool.and_false, Bool.false_and, Bool.not_true, Bool.not_false, Bool.or_true, Bool.or_false, Bool.true_or, Bool.false_or, Int.toNat_zero, Int.toNat_natCast, Int.reduceToNat, Int.reduceLE, Int.reduceLT, Int.reduceBEq, reduceCtorEq, decide_true, decide_false, Bool.false_eq_true, Nat.sub_zero, List.toList_toArray, List.foldl_cons, en113, ok113, en86, ok86, en89, ok89, en92, ok92, en25, ok25, en96, ok96, en99, ok99, en33, ok33, tyF])) : H → Good C it st := fun x => good_adoptF s k z hz hs (g x)
theorem adoptc_ {H : Prop} {C : Ctx} {it : List Item} {st : St} (k0 o k z : Nat) {g0 : Nat} {cs : List AV} (g : H → Good C it { st with mem := mset (mset st.mem k ((ent st.mem k).1 + 1, .tip z 0)) k0 (g0, .cells (cs.set o (.tip k ((ent st.mem k).1 + 1) []))) }) (hs : lk st.mem k0 = some (g0, .cells cs) := by 
   exact smr_) (hc : cs[o]? = some (.p .nilS) := by 
   (simp only [run, afterR, condC, exitC, exitTo, runO, step1, ofO, fpOf, fpK, writes, de, deT, deB, opD, dstOk, isCall, stepOp, finO, memPut, mset, entO, ent, core, constB, mkeyOf, mval, mrowOf, tupIf, liveM, kOf_i, kOf_s, mkEq_self, mhas_i, mhas_s, midx_i, midx_s, mrow_ii, mrow_ib, mrow_is, mrow_si, mrow_sb, mrow_ss, ment_ii, ment_ib, ment_is, ment_si, ment_sb, ment_ss, mset1_ii, mset1_ib, mset1_is, mset1_si, mset1_sb, mset1_ss, mput_ii, mput_ib, mput_is, mput_si, mput_sb, mput_ss, tst_map, coreB, lenA, minA, maxA, rowsB, appT, appS, appB, fullR, keyApp, keyV, keyL, liveC, liveB, liveZ, keyOf, oget, fget, lk, ofConst, cellsC, aggC, cell1, eff, binop, intOp, strOp, unop, ld, splice, fillP, aplace, placeOf, rowsN, oint, AV.cells, AV.pv, PV.std, AV.rows, pvs, appN, appC, rowsOk, irow, srw, brw, lrw, St.put, back, renA, ren1, ren0, renO, resOf, resAll, resOne, tupOf, fnOf, rk, inn, ok1, okB, okA, okT, okO, ok0, renB, liveP, liveZ0, nagg, one1, scH, bldZ, nvs, AV.nv, PV.sc, PV.isL, nilOrE, List.filter_cons, List.filter_nil, List.all_cons, List.all_nil,   unint, unint_map, bytesOf_eq, bnd_, rowsOk_irow, rowsOk_srw, rowsOk_brw, rowsOk_lrw, rowsOk_app, take_map_len, map_set_, set_map_,   List.range, List.range.loop, List.zip, List.zipWith, List.zip_cons_cons, List.zip_nil_left, List.zip_nil_right, List.length_cons, List.length_nil, List.length_map, List.length_append, List.map_cons, List.map_nil, List.map_append, List.getElem?_map, List.drop_succ_cons, List.drop_zero, List.drop_nil, List.take_succ_cons, List.take_zero, List.take_nil, List.take_length, List.set_cons_succ, List.set_cons_zero, List.head?_cons, List.head?_nil, List.getElem?_cons_succ, List.getElem?_cons_zero, List.append_nil, List.nil_append, List.cons_append, List.append_assoc, List.flatten_cons, List.flatten_nil, List.replicate_succ, List.replicate_zero, List.contains_cons, List.contains_nil, List.isEmpty_nil, List.isEmpty_cons, List.map_drop, List.map_take, List.map_replicate, List.length_replicate, List.length_set,   cond_true, cond_false, Option.map_some, Option.map_none, Option.bind_some, Option.bind_none, Option.getD_some, Option.getD_none, Option.isSome_some, Option.isSome_none, beq_self_eq_true, BEq.rfl, Nat.reduceBEq, Nat.reduceAdd, Nat.reduceSub, Nat.reduceMul, Nat.reduceLeDiff, Nat.reduceLT, Nat.reduceEqDiff, Nat.zero_add, Nat.add_zero, Nat.zero_mul, Nat.le_refl, and_self, and_true, true_and, if_true, reduceIte, ite_true, ite_false, Bool.and_true, Bool.true_and, Bool.and_false, Bool.false_and, Bool.not_true, Bool.not_false, Bool.or_true, Bool.or_false, Bool.true_or, Bool.false_or, Int.toNat_zero, Int.toNat_natCast, Int.reduceToNat, Int.reduceLE, Int.reduceLT, Int.reduceBEq, reduceCtorEq, decide_true, decide_false, Bool.false_eq_true, Nat.sub_zero, List.toList_toArray, List.foldl_cons, en113, ok113, en86, ok86, en89, ok89, en92, ok92, en25, ok25, en96, ok96, en99, ok99, en33, ok33, tyF, *])) (hk : k ≠ k0 := by decide) : H → Good C it st := fun x => good_adoptc k0 o k z g0 cs hs hc hk (g x)
theorem adoptcF_ {H : Prop} {C : Ctx} {it : List Item} {st : St} {rows : Rows} (k0 o k z : Nat) {g0 : Nat} {cs : List AV} (g : H → Good C it { st with mem := mset (mset st.mem k ((ent st.mem k).1 + 1, .tip z rows.length)) k0 (g0, .cells (cs.set o (.tip k ((ent st.mem k).1 + 1) rows))) }) (hs : lk st.mem k0 = some (g0, .cells cs) := by 
   exact smr_) (hc : cs[o]? = some (.p (.lst true rows)) := by 
   exact smt_) (hk : k ≠ k0 := by decide) (hz : rowsOk z rows = true := by
   (first | rfl | simp only [run, afterR, condC, exitC, exitTo, runO, step1, ofO, fpOf, fpK, writes, de, deT, deB, opD, dstOk, isCall, stepOp, finO, memPut, mset, entO, ent, core, constB, mkeyOf, mval, mrowOf, tupIf, liveM, kOf_i, kOf_s, mkEq_self, mhas_i, mhas_s, midx_i, midx_s, mrow_ii, mrow_ib, mrow_is, mrow_si, mrow_sb, mrow_ss, ment_ii, ment_ib, ment_is, ment_si, ment_sb, ment_ss, mset1_ii, mset1_ib, mset1_is, mset1_si, mset1_sb, mset1_ss, mput_ii, mput_ib, mput_is, mput_si, mput_sb, mput_ss, tst_map, coreB, lenA, minA, maxA, rowsB, appT, appS, appB, fullR, keyApp, keyV, keyL, liveC, liveB, liveZ, keyOf, oget, fget, lk, ofConst, cellsC, aggC, cell1, eff, binop, intOp, strOp, unop, ld, splice, fillP, aplace, placeOf, rowsN, oint, AV.cells, AV.pv, PV.std, AV.rows, pvs, appN, appC, rowsOk, irow, srw, brw, lrw, St.put, back, renA, ren1, ren0, renO, resOf, resAll, resOne, tupOf, fnOf, rk, inn, ok1, okB, okA, okT, okO, ok0, renB, liveP, liveZ0, nagg, one1, scH, bldZ, nvs, AV.nv, PV.sc, PV.isL, nilOrE, List.filter_cons, List.filter_nil, List.all_cons, List.all_nil,   unint, unint_map, bytesOf_eq, bnd_, rowsOk_irow, rowsOk_srw, rowsOk_brw, rowsOk_lrw, rowsOk_app, take_map_len, map_set_, set_map_,   List.range, List.range.loop, List.zip, List.zipWith, List.zip_cons_cons, List.zip_nil_left, List.zip_nil_right, List.length_cons, List.length_nil, List.length_map, List.length_append, List.map_cons, List.map_nil, List.map_append, List.getElem?_map, List.drop_succ_cons, List.drop_zero, List.drop_nil, List.take_succ_cons, List.take_zero, List.take_nil, List.take_length, List.set_cons_succ, List.set_cons_zero, List.head?_cons, List.head?_nil, List.getElem?_cons_succ, List.getElem?_cons_zero, List.append_nil, List.nil_append, List.cons_append, List.append_assoc, List.flatten_cons, List.flatten_nil, List.replicate_succ, List.replicate_zero, List.contains_cons, List.contains_nil, List.isEmpty_nil, List.isEmpty_cons, List.map_drop, List.map_take, List.map_replicate, List.length_replicate, List.length_set,   cond_true, cond_false, Option.map_some, Option.map_none, Option.bind_some, Option.bind_none, Option.getD_some, Option.getD_none, Option.isSome_some, Option.isSome_none, beq_self_eq_true, BEq.rfl, Nat.reduceBEq, Nat.reduceAdd, Nat.reduceSub, Nat.reduceMul, Nat.reduceLeDiff, Nat.reduceLT, Nat.reduceEqDiff, Nat.zero_add, Nat.add_zero, Nat.zero_mul, Nat.le_refl, and_self, and_true, true_and, if_true, reduceIte, ite_true, ite_false, Bool.and_true, Bool.true_and, Bool.and_false, Bool.false_and, Bool.not_true, Bool.not_false, Bool.or_true, Bool.or_false, Bool.true_or, Bool.false_or, Int.toNat_zero, Int.toNat_natCast, Int.reduceToNat, Int.reduceLE, Int.reduceLT, Int.reduceBEq, reduceCtorEq, decide_true, decide_false, Bool.false_eq_true, Nat.sub_zero, List.toList_toArray, List.foldl_cons, en113, ok113, en86, ok86, en89, ok89, en92, ok92, en25, ok25, en96, ok96, en99, ok99, en33, ok33, tyF])) : H → Good C it st := fun x => good_adoptcF k0 o k z g0 cs hs hz hc hk (g x)
theorem freeze_ {H : Prop} {C : Ctx} {it : List Item} {st : St} (s : Nat) {k g lo n z : Nat} {rows : Rows}
  (h : H → Good C it { fr := (s, .p (.lst false ((rows.drop lo).take n))) :: st.fr, mem := mset st.mem k (g, .gone) }) (hs : fget st.fr s = .buf k g lo n := by 
   exact smr_) (hk : lk st.mem k = some (g, .buf z rows) := by 
   exact smr_) : H → Good C it st := fun x => good_freeze s hs hk (h x)
theorem freezec_ {H : Prop} {C : Ctx} {it : List Item} {st : St} (k0 o : Nat) {g0 k g lo n z : Nat} {rows : Rows} {cs : List AV} (h : H → Good C it { st with mem := mset (mset st.mem k (g, .gone)) k0 (g0, .cells (cs.set o (.p (.lst false ((rows.drop lo).take n))))) }) (hs : lk st.mem k0 = some (g0, .cells cs) := by 
   exact smr_) (hc : cs[o]? = some (.buf k g lo n) := by 
   exact smt_) (hk : lk st.mem k = some (g, .buf z rows) := by 
   exact smr_) (hne : k ≠ k0 := by decide) : H → Good C it st := fun x => good_freezec k0 o hs hc hk hne (h x)
theorem movec_ {H : Prop} {C : Ctx} {it : List Item} {st : St} (k0 o k1 k2 : Nat) {g0 g2 : Nat} {mk : MK} {ag : Bool} {es : Ents} {cs : List AV} (h : H → Good C it { st with mem := mset (mset (mset st.mem k2 (g2, .gone)) k1 ((ent st.mem k1).1 + 1, .map mk ag es)) k0 (g0, .cells (cs.set o (.mp k1 ((ent st.mem k1).1 + 1)))) }) (hs : lk st.mem k0 = some (g0, .cells cs) := by 
   exact smr_) (hc : cs[o]? = some (.mp k2 g2) := by 
   exact smt_) (hk : lk st.mem k2 = some (g2, .map mk ag es) := by 
   exact smr_) (hne : k1 ≠ k2 ∧ k1 ≠ k0 ∧ k2 ≠ k0 := by decide) : H → Good C it st := fun x => good_movec k0 o k1 k2 hs hc hk hne (h x)
theorem moveBc_ {H : Prop} {C : Ctx} {it : List Item} {st : St} (k0 o k1 k2 : Nat) {g0 g2 lo n z : Nat} {rows : Rows} {cs : List AV} (h : H → Good C it { st with mem := mset (mset (mset st.mem k2 (g2, .gone)) k1 ((ent st.mem k1).1 + 1, .buf z rows)) k0 (g0, .cells (cs.set o (.buf k1 ((ent st.mem k1).1 + 1) lo n))) }) (hs : lk st.mem k0 = some (g0, .cells cs) := by 
   exact smr_) (hc : cs[o]? = some (.buf k2 g2 lo n) := by 
   exact smt_) (hk : lk st.mem k2 = some (g2, .buf z rows) := by 
   exact smr_) (hne : k1 ≠ k2 ∧ k1 ≠ k0 ∧ k2 ≠ k0 := by decide) : H → Good C it st := fun x => good_moveBc k0 o k1 k2 hs hc hk hne (h x)
theorem adoptBc_ {H : Prop} {C : Ctx} {it : List Item} {st : St} (k0 o k z : Nat) {g0 : Nat} {cs : List AV} (h : H → Good C it { st with mem := mset (mset st.mem k ((ent st.mem k).1 + 1, .buf z [])) k0 (g0, .cells (cs.set o (.buf k ((ent st.mem k).1 + 1) 0 0))) }) (hs : lk st.mem k0 = some (g0, .cells cs) := by 
   exact smr_) (hc : cs[o]? = some (.p .nilS) := by 
   exact smt_) (hk : k ≠ k0 := by decide) : H → Good C it st := fun x => good_adoptBc k0 o k z hs hc hk (h x)
theorem move_ {H : Prop} {C : Ctx} {it : List Item} {st : St} (s k1 k2 : Nat) {g2 : Nat} {mk : MK} {ag : Bool} {es : Ents} (h : H → Good C it { fr := (s, .mp k1 ((ent st.mem k1).1 + 1)) :: st.fr, mem := mset (mset st.mem k2 (g2, .gone)) k1 ((ent st.mem k1).1 + 1, .map mk ag es) }) (hs : fget st.fr s = .mp k2 g2 := by 
   exact smr_) (hk : lk st.mem k2 = some (g2, .map mk ag es) := by 
   exact smr_) (hne : k1 ≠ k2 := by decide) : H → Good C it st := fun x => good_move s k1 k2 hs hk hne (h x)
theorem moveB_ {H : Prop} {C : Ctx} {it : List Item} {st : St} (s k1 k2 : Nat) {g2 lo n z : Nat} {rows : Rows} (h : H → Good C it { fr := (s, .buf k1 ((ent st.mem k1).1 + 1) lo n) :: st.fr, mem := mset (mset st.mem k2 (g2, .gone)) k1 ((ent st.mem k1).1 + 1, .buf z rows) }) (hs : fget st.fr s = .buf k2 g2 lo n := by 
   exact smr_) (hk : lk st.mem k2 = some (g2, .buf z rows) := by 
   exact smr_) (hne : k1 ≠ k2 := by decide) : H → Good C it st := fun x => good_moveB s k1 k2 hs hk hne (h x)
theorem freezeN_ {H : Prop} {C : Ctx} {it : List Item} {st : St} (s : Nat) {k g lo n z : Nat} {rows : Rows}
  (h : H → Good C it { fr := (s, .nw (.lst false ((rows.drop lo).take n))) :: st.fr, mem := mset st.mem k (g, .gone) }) (hs : fget st.fr s = .buf k g lo n := by 
   exact smr_) (hk : lk st.mem k = some (g, .bufn z rows) := by 
   exact smr_) : H → Good C it st := fun x => good_freezeN s hs hk (h x)
theorem adoptB_ {H : Prop} {C : Ctx} {it : List Item} {st : St} (s k z : Nat) (g : H → Good C it { fr := (s, .buf k ((ent st.mem k).1 + 1) 0 0) :: st.fr, mem := mset st.mem k ((ent st.mem k).1 + 1, .buf z []) }) (hs : nilOrE (fget st.fr s) = true := by 
   (simp only [run, afterR, condC, exitC, exitTo, runO, step1, ofO, fpOf, fpK, writes, de, deT, deB, opD, dstOk, isCall, stepOp, finO, memPut, mset, entO, ent, core, constB, mkeyOf, mval, mrowOf, tupIf, liveM, kOf_i, kOf_s, mkEq_self, mhas_i, mhas_s, midx_i, midx_s, mrow_ii, mrow_ib, mrow_is, mrow_si, mrow_sb, mrow_ss, ment_ii, ment_ib, ment_is, ment_si, ment_sb, ment_ss, mset1_ii, mset1_ib, mset1_is, mset1_si, mset1_sb, mset1_ss, mput_ii, mput_ib, mput_is, mput_si, mput_sb, mput_ss, tst_map, coreB, lenA, minA, maxA, rowsB, appT, appS, appB, fullR, keyApp, keyV, keyL, liveC, liveB, liveZ, keyOf, oget, fget, lk, ofConst, cellsC, aggC, cell1, eff, binop, intOp, strOp, unop, ld, splice, fillP, aplace, placeOf, rowsN, oint, AV.cells, AV.pv, PV.std, AV.rows, pvs, appN, appC, rowsOk, irow, srw, brw, lrw, St.put, back, renA, ren1, ren0, renO, resOf, resAll, resOne, tupOf, fnOf, rk, inn, ok1, okB, okA, okT, okO, ok0, renB, liveP, liveZ0, nagg, one1, scH, bldZ, nvs, AV.nv, PV.sc, PV.isL, nilOrE, List.filter_cons, List.filter_nil, List.all_cons, List.all_nil,   unint, unint_map, bytesOf_eq, bnd_, rowsOk_irow, rowsOk_srw, rowsOk_brw, rowsOk_lrw, rowsOk_app, take_map_len, map_set_, set_map_,   List.range, List.range.loop, List.zip, List.zipWith, List.zip_cons_cons, List.zip_nil_left, List.zip_nil_right, List.length_cons, List.length_nil, List.length_map, List.length_append, List.map_cons, List.map_nil, List.map_append, List.getElem?_map, List.drop_succ_cons, List.drop_zero, List.drop_nil, List.take_succ_cons, List.take_zero, List.take_nil, List.take_length, List.set_cons_succ, List.set_cons_zero, List.head?_cons, List.head?_nil, List.getElem?_cons_succ, List.getElem?_cons_zero, List.append_nil, List.nil_append, List.cons_append, List.append_assoc, List.flatten_cons, List.flatten_nil, List.replicate_succ, List.replicate_zero, List.contains_cons, List.contains_nil, List.isEmpty_nil, List.isEmpty_cons, List.map_drop, List.map_take, List.map_replicate, List.length_replicate, List.length_set,   cond_true, cond_false, Option.map_some, Option.map_none, Option.bind_some, Option.bind_none, Option.getD_some, Option.getD_none, Option.isSome_some, Option.isSome_none, beq_self_eq_true, BEq.rfl, Nat.reduceBEq, Nat.reduceAdd, Nat.reduceSub, Nat.reduceMul, Nat.reduceLeDiff, Nat.reduceLT, Nat.reduceEqDiff, Nat.zero_add, Nat.add_zero, Nat.zero_mul, Nat.le_refl, and_self, and_true, true_and, if_true, reduceIte, ite_true, ite_false, Bool.and_true, Bool.true_and, Bool.and_false, Bool.false_and, Bool.not_true, Bool.not_false, Bool.or_true, Bool.or_false, Bool.true_or, Bool.false_or, Int.toNat_zero, Int.toNat_natCast, Int.reduceToNat, Int.reduceLE, Int.reduceLT, Int.reduceBEq, reduceCtorEq, decide_true, decide_false, Bool.false_eq_true, Nat.sub_zero, List.toList_toArray, List.foldl_cons, en113, ok113, en86, ok86, en89, ok89, en92, ok92, en25, ok25, en96, ok96, en99, ok99, en33, ok33, tyF, *])) : H → Good C it st := fun x => good_adoptB s k z hs (g x)
def poolSt (d : Nat) (st : St) : St := { fr := st.fr.map (fun q => (q.1, poolA d ((ent st.mem d).1 + 1) q.2)), mem := mset (poolM d ((ent st.mem d).1 + 1) st.mem) d ((ent st.mem d).1 + 1, .pool) }
theorem cleanBuf {α : Type} (s : Nat) (f : α → List PV) (l : List α) (h : ∀ x, (f x).all pc = true) : cleanO (.buf s (List.map f l)) = true := by
  simp only [cleanO, List.all_eq_true, List.mem_map]; rintro r ⟨x, _, rfl⟩; exact List.all_eq_true.1 (h x)
theorem pool_ {H : Prop} {C : Ctx} {it : List Item} {st : St} (d : Nat) (st' st2 : St) (g : H → Good C it st2) (hN : C.w0.heap.size ≤ C.ι0.fr.N := by assumption) (hf : frLe st.fr st'.fr := by exact frle_) (hm : memLe st.mem st'.mem ∧ memKeys st.mem st'.mem := by exact memle_)
   (hcl : st'.fr.all (fun q => cleanA q.2) = true := by rfl) (hco : ∀ q ∈ st'.mem, cleanO q.2.2 = true := by ((repeat' first | exact all0 | refine all1 ?_ ?_); all_goals first | rfl | exact cleanBuf _ _ _ (fun x => rfl))) (hd : (ent st'.mem d).2 = .gone := by rfl) (e : poolSt d st' = st2 := by rfl) : H → Good C it st := fun x =>
  good_weak st' hf hm (good_pool d hN hcl (List.all_eq_true.2 fun q hq => hco q hq) hd (by have := g x; rw [← e] at this; exact this))
theorem ret_ {C : Ctx} {fn : Func} {k : List Item} {st : St} {v : AV} (hfn : C.P.funcs[C.f]? = some fn) (σ : Sg) (hr : resOf C.P fn.results.toList st = some v := by 
   exact smr_) (hle : LeT v (renA σ C.res) := by
   (simp only [run, afterR, condC, exitC, exitTo, runO, step1, ofO, fpOf, fpK, writes, de, deT, deB, opD, dstOk, isCall, stepOp, finO, memPut, mset, entO, ent, core, constB, mkeyOf, mval, mrowOf, tupIf, liveM, kOf_i, kOf_s, mkEq_self, mhas_i, mhas_s, midx_i, midx_s, mrow_ii, mrow_ib, mrow_is, mrow_si, mrow_sb, mrow_ss, ment_ii, ment_ib, ment_is, ment_si, ment_sb, ment_ss, mset1_ii, mset1_ib, mset1_is, mset1_si, mset1_sb, mset1_ss, mput_ii, mput_ib, mput_is, mput_si, mput_sb, mput_ss, tst_map, coreB, lenA, minA, maxA, rowsB, appT, appS, appB, fullR, keyApp, keyV, keyL, liveC, liveB, liveZ, keyOf, oget, fget, lk, ofConst, cellsC, aggC, cell1, eff, binop, intOp, strOp, unop, ld, splice, fillP, aplace, placeOf, rowsN, oint, AV.cells, AV.pv, PV.std, AV.rows, pvs, appN, appC, rowsOk, irow, srw, brw, lrw, St.put, back, renA, ren1, ren0, renO, resOf, resAll, resOne, tupOf, fnOf, rk, inn, ok1, okB, okA, okT, okO, ok0, renB, liveP, liveZ0, nagg, one1, scH, bldZ, nvs, AV.nv, PV.sc, PV.isL, nilOrE, List.filter_cons, List.filter_nil, List.all_cons, List.all_nil,   unint, unint_map, bytesOf_eq, bnd_, rowsOk_irow, rowsOk_srw, rowsOk_brw, rowsOk_lrw, rowsOk_app, take_map_len, map_set_, set_map_,   List.range, List.range.loop, List.zip, List.zipWith, List.zip_cons_cons, List.zip_nil_left, List.zip_nil_right, List.length_cons, List.length_nil, List.length_map, List.length_append, List.map_cons, List.map_nil, List.map_append, List.getElem?_map, List.drop_succ_cons, List.drop_zero, List.drop_nil, List.take_succ_cons, List.take_zero, List.take_nil, List.take_length, List.set_cons_succ, List.set_cons_zero, List.head?_cons, List.head?_nil, List.getElem?_cons_succ, List.getElem?_cons_zero, List.append_nil, List.nil_append, List.cons_append, List.append_assoc, List.flatten_cons, List.flatten_nil, List.replicate_succ, List.replicate_zero, List.contains_cons, List.contains_nil, List.isEmpty_nil, List.isEmpty_cons, List.map_drop, List.map_take, List.map_replicate, List.length_replicate, List.length_set,   cond_true, cond_false, Option.map_some, Option.map_none, Option.bind_some, Option.bind_none, Option.getD_some, Option.getD_none, Option.isSome_some, Option.isSome_none, beq_self_eq_true, BEq.rfl, Nat.reduceBEq, Nat.reduceAdd, Nat.reduceSub, Nat.reduceMul, Nat.reduceLeDiff, Nat.reduceLT, Nat.reduceEqDiff, Nat.zero_add, Nat.add_zero, Nat.zero_mul, Nat.le_refl, and_self, and_true, true_and, if_true, reduceIte, ite_true, ite_false, Bool.and_true, Bool.true_and, Bool.and_false, Bool.false_and, Bool.not_true, Bool.not_false, Bool.or_true, Bool.or_false, Bool.true_or, Bool.false_or, Int.toNat_zero, Int.toNat_natCast, Int.reduceToNat, Int.reduceLE, Int.reduceLT, Int.reduceBEq, reduceCtorEq, decide_true, decide_false, Bool.false_eq_true, Nat.sub_zero, List.toList_toArray, List.foldl_cons, en113, ok113, en86, ok86, en89, ok89, en92, ok92, en25, ok25, en96, ok96, en99, ok99, en33, ok33, tyF, *]; repeat' first | exact LeT.of _ _ (LeA.of _ _ (Le.refl _)) | exact LeT.of _ _ (LeA.of _ _ (Le.nil _)) | exact LeT.of _ _ (LeA.of _ _ (Le.full _)) | exact LeT.of _ _ (LeA.of _ _ (Le.tip _ _ _)) | exact LeA.of _ _ (Le.refl _) | exact LeA.of _ _ (Le.nil _) | exact LeA.of _ _ (Le.full _) | exact LeA.of _ _ (Le.tip _ _ _) | exact LeA.of _ _ (Le.nwp _) | exact LeA.of _ _ (Le.odp _) | exact F2.nil | exact Le.refl _ | exact Le.nil _ | exact Le.full _ | exact Le.tip _ _ _ | exact Le.nwp _ | exact Le.odp _ | refine F2.cons ?_ ?_ | refine LeT.tup _ _ ?_ | refine LeT.of _ _ (LeA.agg _ _ ?_) | refine LeA.agg _ _ ?_)) (hok : okT (inn σ C.mem) C.res = true := by (first | rfl | exact sm_)) (hm : EndOk σ st.mem C.mem C.m0 := by exact endOk_) : Good C (.code .ret :: k) st := good_ret_ σ hfn hr hle hok hm
theorem end_ {C : Ctx} {fn : Func} {st : St} {v : AV} (hfn : C.P.funcs[C.f]? = some fn) (σ : Sg) (hr : resOf C.P fn.results.toList st = some v := by 
   exact smr_) (hle : LeT v (renA σ C.res) := by
   (simp only [run, afterR, condC, exitC, exitTo, runO, step1, ofO, fpOf, fpK, writes, de, deT, deB, opD, dstOk, isCall, stepOp, finO, memPut, mset, entO, ent, core, constB, mkeyOf, mval, mrowOf, tupIf, liveM, kOf_i, kOf_s, mkEq_self, mhas_i, mhas_s, midx_i, midx_s, mrow_ii, mrow_ib, mrow_is, mrow_si, mrow_sb, mrow_ss, ment_ii, ment_ib, ment_is, ment_si, ment_sb, ment_ss, mset1_ii, mset1_ib, mset1_is, mset1_si, mset1_sb, mset1_ss, mput_ii, mput_ib, mput_is, mput_si, mput_sb, mput_ss, tst_map, coreB, lenA, minA, maxA, rowsB, appT, appS, appB, fullR, keyApp, keyV, keyL, liveC, liveB, liveZ, keyOf, oget, fget, lk, ofConst, cellsC, aggC, cell1, eff, binop, intOp, strOp, unop, ld, splice, fillP, aplace, placeOf, rowsN, oint, AV.cells, AV.pv, PV.std, AV.rows, pvs, appN, appC, rowsOk, irow, srw, brw, lrw, St.put, back, renA, ren1, ren0, renO, resOf, resAll, resOne, tupOf, fnOf, rk, inn, ok1, okB, okA, okT, okO, ok0, renB, liveP, liveZ0, nagg, one1, scH, bldZ, nvs, AV.nv, PV.sc, PV.isL, nilOrE, List.filter_cons, List.filter_nil, List.all_cons, List.all_nil,   unint, unint_map, bytesOf_eq, bnd_, rowsOk_irow, rowsOk_srw, rowsOk_brw, rowsOk_lrw, rowsOk_app, take_map_len, map_set_, set_map_,   List.range, List.range.loop, List.zip, List.zipWith, List.zip_cons_cons, List.zip_nil_left, List.zip_nil_right, List.length_cons, List.length_nil, List.length_map, List.length_append, List.map_cons, List.map_nil, List.map_append, List.getElem?_map, List.drop_succ_cons, List.drop_zero, List.drop_nil, List.take_succ_cons, List.take_zero, List.take_nil, List.take_length, List.set_cons_succ, List.set_cons_zero, List.head?_cons, List.head?_nil, List.getElem?_cons_succ, List.getElem?_cons_zero, List.append_nil, List.nil_append, List.cons_append, List.append_assoc, List.flatten_cons, List.flatten_nil, List.replicate_succ, List.replicate_zero, List.contains_cons, List.contains_nil, List.isEmpty_nil, List.isEmpty_cons, List.map_drop, List.map_take, List.map_replicate, List.length_replicate, List.length_set,   cond_true, cond_false, Option.map_some, Option.map_none, Option.bind_some, Option.bind_none, Option.getD_some, Option.getD_none, Option.isSome_some, Option.isSome_none, beq_self_eq_true, BEq.rfl, Nat.reduceBEq, Nat.reduceAdd, Nat.reduceSub, Nat.reduceMul, Nat.reduceLeDiff, Nat.reduceLT, Nat.reduceEqDiff, Nat.zero_add, Nat.add_zero, Nat.zero_mul, Nat.le_refl, and_self, and_true, true_and, if_true, reduceIte, ite_true, ite_false, Bool.and_true, Bool.true_and, Bool.and_false, Bool.false_and, Bool.not_true, Bool.not_false, Bool.or_true, Bool.or_false, Bool.true_or, Bool.false_or, Int.toNat_zero, Int.toNat_natCast, Int.reduceToNat, Int.reduceLE, Int.reduceLT, Int.reduceBEq, reduceCtorEq, decide_true, decide_false, Bool.false_eq_true, Nat.sub_zero, List.toList_toArray, List.foldl_cons, en113, ok113, en86, ok86, en89, ok89, en92, ok92, en25, ok25, en96, ok96, en99, ok99, en33, ok33, tyF, *]; repeat' first | exact LeT.of _ _ (LeA.of _ _ (Le.refl _)) | exact LeT.of _ _ (LeA.of _ _ (Le.nil _)) | exact LeT.of _ _ (LeA.of _ _ (Le.full _)) | exact LeT.of _ _ (LeA.of _ _ (Le.tip _ _ _)) | exact LeA.of _ _ (Le.refl _) | exact LeA.of _ _ (Le.nil _) | exact LeA.of _ _ (Le.full _) | exact LeA.of _ _ (Le.tip _ _ _) | exact LeA.of _ _ (Le.nwp _) | exact LeA.of _ _ (Le.odp _) | exact F2.nil | exact Le.refl _ | exact Le.nil _ | exact Le.full _ | exact Le.tip _ _ _ | exact Le.nwp _ | exact Le.odp _ | refine F2.cons ?_ ?_ | refine LeT.tup _ _ ?_ | refine LeT.of _ _ (LeA.agg _ _ ?_) | refine LeA.agg _ _ ?_)) (hok : okT (inn σ C.mem) C.res = true := by (first | rfl | exact sm_)) (hm : EndOk σ st.mem C.mem C.m0 := by exact endOk_) : Good C [] st := good_end_ σ hfn hr hle hok hm

end Go.Ab
