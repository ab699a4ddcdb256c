/- Facts of this program's types; its struct types; the rules, each with what closes its sides. No condition. -/
import Derived.Test.YtphfoghhcemfhaaAbR
import Derived.Test.YtphfoghhcemfhaaProg
import Derived.KernelRfl
import Derived.Lib.LaidTab
import Derived.Lib.ItoaNum
namespace Go.Ab
open Go.Proofs
set_option linter.unusedVariables false
set_option linter.unusedSimpArgs false

/-- What must be known of the world. -/
class KOk (K : Kn) : Prop where
 known : ∀ w : World, Knows K w → True

set_option maxRecDepth 100000 in
theorem tyF : isAggB Try.prog 2 = some false ∧
 tsize Try.prog 2 = some 1 ∧
 zeroCells Try.prog 2 = some [.p (.int .i64 0)] ∧
 tkind Try.prog 2 = .int .i64 ∧
 notIntT Try.prog 2 = false ∧
 szPos Try.prog 2 = true ∧
 isAggB Try.prog 3 = some false ∧
 tsize Try.prog 3 = some 1 ∧
 zeroCells Try.prog 3 = some [.p (.int .i64 0)] ∧
 tkind Try.prog 3 = .int .i64 ∧
 notIntT Try.prog 3 = false ∧
 szPos Try.prog 3 = true ∧
 isAggB Try.prog 4 = some false ∧
 tsize Try.prog 4 = some 1 ∧
 zeroCells Try.prog 4 = some [.p (.bool false)] ∧
 tkind Try.prog 4 = .other ∧
 isBoolT Try.prog 4 = true ∧
 notIntT Try.prog 4 = true ∧
 szPos Try.prog 4 = true ∧
 isAggB Try.prog 5 = some false ∧
 tsize Try.prog 5 = some 1 ∧
 zeroCells Try.prog 5 = some [.p (.int .u8 0)] ∧
 tkind Try.prog 5 = .int .u8 ∧
 notIntT Try.prog 5 = false ∧
 szPos Try.prog 5 = true ∧
 isAggB Try.prog 9 = some false ∧
 tsize Try.prog 9 = some 1 ∧
 zeroCells Try.prog 9 = some [.p (.str (⟨#[]⟩ : ByteArray))] ∧
 tkind Try.prog 9 = .str ∧
 notIntT Try.prog 9 = true ∧
 szPos Try.prog 9 = true ∧
 isStrT Try.prog 9 = true ∧
 isAggB Try.prog 21 = some false ∧
 tsize Try.prog 21 = some 1 ∧
 zeroCells Try.prog 21 = some [.p (.int .i32 0)] ∧
 tkind Try.prog 21 = .int .i32 ∧
 notIntT Try.prog 21 = false ∧
 szPos Try.prog 21 = true ∧
 isAggB Try.prog 22 = some false ∧
 tsize Try.prog 22 = some 1 ∧
 sliceOf Try.prog 22 = some 3 ∧
 core.elemZero Try.prog 22 = some [.p (.str (⟨#[]⟩ : ByteArray)), .p (.str (⟨#[]⟩ : ByteArray)), .p (.str (⟨#[]⟩ : ByteArray))] ∧
 zeroCells Try.prog 22 = some [.p .nilS] ∧
 tkind Try.prog 22 = .other ∧
 notIntT Try.prog 22 = true ∧
 szPos Try.prog 22 = true ∧
 isAggB Try.prog 25 = some false ∧
 tsize Try.prog 25 = some 1 ∧
 sliceOf Try.prog 25 = some 3 ∧
 core.elemZero Try.prog 25 = some [.p (.str (⟨#[]⟩ : ByteArray)), .p (.str (⟨#[]⟩ : ByteArray)), .p (.str (⟨#[]⟩ : ByteArray))] ∧
 zeroCells Try.prog 25 = some [.p .nilS] ∧
 tkind Try.prog 25 = .other ∧
 notIntT Try.prog 25 = true ∧
 szPos Try.prog 25 = true ∧
 isAggB Try.prog 29 = some false ∧
 tsize Try.prog 29 = some 1 ∧
 sliceOf Try.prog 29 = some 3 ∧
 core.elemZero Try.prog 29 = some [.p (.int .i64 0), .p (.str (⟨#[]⟩ : ByteArray)), .p (.int .i64 0)] ∧
 zeroCells Try.prog 29 = some [.p .nilS] ∧
 tkind Try.prog 29 = .other ∧
 notIntT Try.prog 29 = true ∧
 szPos Try.prog 29 = true ∧
 isAggB Try.prog 31 = some false ∧
 tsize Try.prog 31 = some 1 ∧
 sliceOf Try.prog 31 = some 3 ∧
 core.elemZero Try.prog 31 = some [.p (.int .i64 0), .p (.str (⟨#[]⟩ : ByteArray)), .p (.int .i64 0)] ∧
 zeroCells Try.prog 31 = some [.p .nilS] ∧
 tkind Try.prog 31 = .other ∧
 notIntT Try.prog 31 = true ∧
 szPos Try.prog 31 = true ∧
 isAggB Try.prog 37 = some false ∧
 tsize Try.prog 37 = some 1 ∧
 sliceOf Try.prog 37 = some 3 ∧
 core.elemZero Try.prog 37 = some [.p (.int .i64 0), .p (.bool false), .p .nilS] ∧
 zeroCells Try.prog 37 = some [.p .nilS] ∧
 tkind Try.prog 37 = .other ∧
 notIntT Try.prog 37 = true ∧
 szPos Try.prog 37 = true ∧
 isAggB Try.prog 38 = some false ∧
 tsize Try.prog 38 = some 1 ∧
 sliceOf Try.prog 38 = some 2 ∧
 core.elemZero Try.prog 38 = some [.p .nilS, .p (.int .i64 0)] ∧
 zeroCells Try.prog 38 = some [.p .nilS] ∧
 tkind Try.prog 38 = .other ∧
 notIntT Try.prog 38 = true ∧
 szPos Try.prog 38 = true ∧
 isAggB Try.prog 40 = some true ∧
 tsize Try.prog 40 = some 2 ∧
 sizedB Try.prog 40 = true ∧
 fieldOf Try.prog 40 0 = some (0, 37) ∧
 fieldOf Try.prog 40 1 = some (1, 38) ∧
 arrOf Try.prog 40 = none ∧
 zeroCells Try.prog 40 = some [.p .nilS, .p .nilS] ∧
 tkind Try.prog 40 = .other ∧
 notIntT Try.prog 40 = true ∧
 szPos Try.prog 40 = true ∧
 isAggB Try.prog 43 = some false ∧
 tsize Try.prog 43 = some 1 ∧
 sliceOf Try.prog 43 = some 3 ∧
 core.elemZero Try.prog 43 = some [.p (.int .i64 0), .p (.bool false), .p .nilS] ∧
 zeroCells Try.prog 43 = some [.p .nilS] ∧
 tkind Try.prog 43 = .other ∧
 notIntT Try.prog 43 = true ∧
 szPos Try.prog 43 = true ∧
 isAggB Try.prog 44 = some false ∧
 tsize Try.prog 44 = some 1 ∧
 sliceOf Try.prog 44 = some 2 ∧
 core.elemZero Try.prog 44 = some [.p .nilS, .p (.int .i64 0)] ∧
 zeroCells Try.prog 44 = some [.p .nilS] ∧
 tkind Try.prog 44 = .other ∧
 notIntT Try.prog 44 = true ∧
 szPos Try.prog 44 = true ∧
 isAggB Try.prog 46 = some true ∧
 tsize Try.prog 46 = some 2 ∧
 sizedB Try.prog 46 = true ∧
 fieldOf Try.prog 46 0 = some (0, 43) ∧
 fieldOf Try.prog 46 1 = some (1, 44) ∧
 arrOf Try.prog 46 = none ∧
 zeroCells Try.prog 46 = some [.p .nilS, .p .nilS] ∧
 tkind Try.prog 46 = .other ∧
 notIntT Try.prog 46 = true ∧
 szPos Try.prog 46 = true ∧
 isAggB Try.prog 50 = some false ∧
 tsize Try.prog 50 = some 1 ∧
 sliceOf Try.prog 50 = some 1 ∧
 core.elemZero Try.prog 50 = some [.p (.str (⟨#[]⟩ : ByteArray))] ∧
 zeroCells Try.prog 50 = some [.p .nilS] ∧
 tkind Try.prog 50 = .other ∧
 notIntT Try.prog 50 = true ∧
 szPos Try.prog 50 = true ∧
 isAggB Try.prog 55 = some false ∧
 tsize Try.prog 55 = some 1 ∧
 sliceOf Try.prog 55 = some 4 ∧
 core.elemZero Try.prog 55 = some [.p (.str (⟨#[]⟩ : ByteArray)), .p .nilS, .p .nilS, .p (.bool false)] ∧
 zeroCells Try.prog 55 = some [.p .nilS] ∧
 tkind Try.prog 55 = .other ∧
 notIntT Try.prog 55 = true ∧
 szPos Try.prog 55 = true ∧
 isAggB Try.prog 56 = some false ∧
 tsize Try.prog 56 = some 1 ∧
 sliceOf Try.prog 56 = some 7 ∧
 core.elemZero Try.prog 56 = some [.p (.str (⟨#[]⟩ : ByteArray)), .p (.str (⟨#[]⟩ : ByteArray)), .p (.str (⟨#[]⟩ : ByteArray)), .p .nilS, .p (.int .i64 0), .p (.int .i64 0), .p (.int .i64 0)] ∧
 zeroCells Try.prog 56 = some [.p .nilS] ∧
 tkind Try.prog 56 = .other ∧
 notIntT Try.prog 56 = true ∧
 szPos Try.prog 56 = true ∧
 isAggB Try.prog 57 = some false ∧
 tsize Try.prog 57 = some 1 ∧
 sliceOf Try.prog 57 = some 2 ∧
 core.elemZero Try.prog 57 = some [.p (.str (⟨#[]⟩ : ByteArray)), .p .nilS] ∧
 zeroCells Try.prog 57 = some [.p .nilS] ∧
 tkind Try.prog 57 = .other ∧
 notIntT Try.prog 57 = true ∧
 szPos Try.prog 57 = true ∧
 isAggB Try.prog 59 = some true ∧
 tsize Try.prog 59 = some 4 ∧
 sizedB Try.prog 59 = true ∧
 fieldOf Try.prog 59 0 = some (0, 55) ∧
 fieldOf Try.prog 59 1 = some (1, 56) ∧
 fieldOf Try.prog 59 2 = some (2, 57) ∧
 fieldOf Try.prog 59 3 = some (3, 4) ∧
 arrOf Try.prog 59 = none ∧
 zeroCells Try.prog 59 = some [.p .nilS, .p .nilS, .p .nilS, .p (.bool false)] ∧
 tkind Try.prog 59 = .other ∧
 notIntT Try.prog 59 = true ∧
 szPos Try.prog 59 = true ∧
 isAggB Try.prog 62 = some false ∧
 tsize Try.prog 62 = some 1 ∧
 sliceOf Try.prog 62 = some 4 ∧
 core.elemZero Try.prog 62 = some [.p (.str (⟨#[]⟩ : ByteArray)), .p .nilS, .p .nilS, .p (.bool false)] ∧
 zeroCells Try.prog 62 = some [.p .nilS] ∧
 tkind Try.prog 62 = .other ∧
 notIntT Try.prog 62 = true ∧
 szPos Try.prog 62 = true ∧
 isAggB Try.prog 63 = some false ∧
 tsize Try.prog 63 = some 1 ∧
 sliceOf Try.prog 63 = some 7 ∧
 core.elemZero Try.prog 63 = some [.p (.str (⟨#[]⟩ : ByteArray)), .p (.str (⟨#[]⟩ : ByteArray)), .p (.str (⟨#[]⟩ : ByteArray)), .p .nilS, .p (.int .i64 0), .p (.int .i64 0), .p (.int .i64 0)] ∧
 zeroCells Try.prog 63 = some [.p .nilS] ∧
 tkind Try.prog 63 = .other ∧
 notIntT Try.prog 63 = true ∧
 szPos Try.prog 63 = true ∧
 isAggB Try.prog 64 = some false ∧
 tsize Try.prog 64 = some 1 ∧
 sliceOf Try.prog 64 = some 2 ∧
 core.elemZero Try.prog 64 = some [.p (.str (⟨#[]⟩ : ByteArray)), .p .nilS] ∧
 zeroCells Try.prog 64 = some [.p .nilS] ∧
 tkind Try.prog 64 = .other ∧
 notIntT Try.prog 64 = true ∧
 szPos Try.prog 64 = true ∧
 isAggB Try.prog 66 = some true ∧
 tsize Try.prog 66 = some 4 ∧
 sizedB Try.prog 66 = true ∧
 fieldOf Try.prog 66 0 = some (0, 62) ∧
 fieldOf Try.prog 66 1 = some (1, 63) ∧
 fieldOf Try.prog 66 2 = some (2, 64) ∧
 fieldOf Try.prog 66 3 = some (3, 4) ∧
 arrOf Try.prog 66 = none ∧
 zeroCells Try.prog 66 = some [.p .nilS, .p .nilS, .p .nilS, .p (.bool false)] ∧
 tkind Try.prog 66 = .other ∧
 notIntT Try.prog 66 = true ∧
 szPos Try.prog 66 = true ∧
 isAggB Try.prog 70 = some false ∧
 tsize Try.prog 70 = some 1 ∧
 sliceOf Try.prog 70 = some 2 ∧
 core.elemZero Try.prog 70 = some [.p (.str (⟨#[]⟩ : ByteArray)), .p (.str (⟨#[]⟩ : ByteArray))] ∧
 zeroCells Try.prog 70 = some [.p .nilS] ∧
 tkind Try.prog 70 = .other ∧
 notIntT Try.prog 70 = true ∧
 szPos Try.prog 70 = true ∧
 isAggB Try.prog 71 = some false ∧
 tsize Try.prog 71 = some 1 ∧
 sliceOf Try.prog 71 = some 6 ∧
 core.elemZero Try.prog 71 = some [.p (.str (⟨#[]⟩ : ByteArray)), .p .nilS, .p (.int .i64 0), .p (.bool false), .p (.int .i64 0), .p (.int .i64 0)] ∧
 zeroCells Try.prog 71 = some [.p .nilS] ∧
 tkind Try.prog 71 = .other ∧
 notIntT Try.prog 71 = true ∧
 szPos Try.prog 71 = true ∧
 isAggB Try.prog 73 = some true ∧
 tsize Try.prog 73 = some 5 ∧
 sizedB Try.prog 73 = true ∧
 fieldOf Try.prog 73 0 = some (0, 9) ∧
 fieldOf Try.prog 73 1 = some (1, 2) ∧
 fieldOf Try.prog 73 2 = some (2, 4) ∧
 fieldOf Try.prog 73 3 = some (3, 70) ∧
 fieldOf Try.prog 73 4 = some (4, 71) ∧
 arrOf Try.prog 73 = none ∧
 zeroCells Try.prog 73 = some [.p (.str (⟨#[]⟩ : ByteArray)), .p (.int .i64 0), .p (.bool false), .p .nilS, .p .nilS] ∧
 tkind Try.prog 73 = .other ∧
 notIntT Try.prog 73 = true ∧
 szPos Try.prog 73 = true ∧
 isAggB Try.prog 76 = some false ∧
 tsize Try.prog 76 = some 1 ∧
 sliceOf Try.prog 76 = some 2 ∧
 core.elemZero Try.prog 76 = some [.p (.str (⟨#[]⟩ : ByteArray)), .p (.str (⟨#[]⟩ : ByteArray))] ∧
 zeroCells Try.prog 76 = some [.p .nilS] ∧
 tkind Try.prog 76 = .other ∧
 notIntT Try.prog 76 = true ∧
 szPos Try.prog 76 = true ∧
 isAggB Try.prog 77 = some false ∧
 tsize Try.prog 77 = some 1 ∧
 sliceOf Try.prog 77 = some 6 ∧
 core.elemZero Try.prog 77 = some [.p (.str (⟨#[]⟩ : ByteArray)), .p .nilS, .p (.int .i64 0), .p (.bool false), .p (.int .i64 0), .p (.int .i64 0)] ∧
 zeroCells Try.prog 77 = some [.p .nilS] ∧
 tkind Try.prog 77 = .other ∧
 notIntT Try.prog 77 = true ∧
 szPos Try.prog 77 = true ∧
 isAggB Try.prog 79 = some true ∧
 tsize Try.prog 79 = some 5 ∧
 sizedB Try.prog 79 = true ∧
 fieldOf Try.prog 79 0 = some (0, 9) ∧
 fieldOf Try.prog 79 1 = some (1, 2) ∧
 fieldOf Try.prog 79 2 = some (2, 4) ∧
 fieldOf Try.prog 79 3 = some (3, 76) ∧
 fieldOf Try.prog 79 4 = some (4, 77) ∧
 arrOf Try.prog 79 = none ∧
 zeroCells Try.prog 79 = some [.p (.str (⟨#[]⟩ : ByteArray)), .p (.int .i64 0), .p (.bool false), .p .nilS, .p .nilS] ∧
 tkind Try.prog 79 = .other ∧
 notIntT Try.prog 79 = true ∧
 szPos Try.prog 79 = true ∧
 isAggB Try.prog 86 = some false ∧
 tsize Try.prog 86 = some 1 ∧
 sliceOf Try.prog 86 = some 3 ∧
 core.elemZero Try.prog 86 = some [.p (.str (⟨#[]⟩ : ByteArray)), .p (.str (⟨#[]⟩ : ByteArray)), .p .nilS] ∧
 zeroCells Try.prog 86 = some [.p .nilS] ∧
 tkind Try.prog 86 = .other ∧
 notIntT Try.prog 86 = true ∧
 szPos Try.prog 86 = true ∧
 isAggB Try.prog 89 = some false ∧
 tsize Try.prog 89 = some 1 ∧
 sliceOf Try.prog 89 = some 3 ∧
 core.elemZero Try.prog 89 = some [.p (.str (⟨#[]⟩ : ByteArray)), .p (.str (⟨#[]⟩ : ByteArray)), .p .nilS] ∧
 zeroCells Try.prog 89 = some [.p .nilS] ∧
 tkind Try.prog 89 = .other ∧
 notIntT Try.prog 89 = true ∧
 szPos Try.prog 89 = true ∧
 isAggB Try.prog 99 = some false ∧
 tsize Try.prog 99 = some 1 ∧
 sliceOf Try.prog 99 = some 5 ∧
 core.elemZero Try.prog 99 = some [.p (.int .i64 0), .p (.str (⟨#[]⟩ : ByteArray)), .p (.int .i64 0), .p (.int .i64 0), .p .nilS] ∧
 zeroCells Try.prog 99 = some [.p .nilS] ∧
 tkind Try.prog 99 = .other ∧
 notIntT Try.prog 99 = true ∧
 szPos Try.prog 99 = true ∧
 isAggB Try.prog 106 = some true ∧
 tsize Try.prog 106 = some 3 ∧
 sizedB Try.prog 106 = true ∧
 fieldOf Try.prog 106 0 = some (0, 9) ∧
 fieldOf Try.prog 106 1 = some (1, 9) ∧
 fieldOf Try.prog 106 2 = some (2, 9) ∧
 arrOf Try.prog 106 = none ∧
 zeroCells Try.prog 106 = some [.p (.str (⟨#[]⟩ : ByteArray)), .p (.str (⟨#[]⟩ : ByteArray)), .p (.str (⟨#[]⟩ : ByteArray))] ∧
 tkind Try.prog 106 = .other ∧
 notIntT Try.prog 106 = true ∧
 szPos Try.prog 106 = true ∧
 isAggB Try.prog 112 = some true ∧
 tsize Try.prog 112 = some 3 ∧
 sizedB Try.prog 112 = true ∧
 fieldOf Try.prog 112 0 = some (0, 9) ∧
 fieldOf Try.prog 112 1 = some (1, 9) ∧
 fieldOf Try.prog 112 2 = some (2, 9) ∧
 arrOf Try.prog 112 = none ∧
 zeroCells Try.prog 112 = some [.p (.str (⟨#[]⟩ : ByteArray)), .p (.str (⟨#[]⟩ : ByteArray)), .p (.str (⟨#[]⟩ : ByteArray))] ∧
 tkind Try.prog 112 = .other ∧
 notIntT Try.prog 112 = true ∧
 szPos Try.prog 112 = true ∧
 isAggB Try.prog 117 = some true ∧
 tsize Try.prog 117 = some 3 ∧
 sizedB Try.prog 117 = true ∧
 fieldOf Try.prog 117 0 = some (0, 2) ∧
 fieldOf Try.prog 117 1 = some (1, 9) ∧
 fieldOf Try.prog 117 2 = some (2, 2) ∧
 arrOf Try.prog 117 = none ∧
 zeroCells Try.prog 117 = some [.p (.int .i64 0), .p (.str (⟨#[]⟩ : ByteArray)), .p (.int .i64 0)] ∧
 tkind Try.prog 117 = .other ∧
 notIntT Try.prog 117 = true ∧
 szPos Try.prog 117 = true ∧
 isAggB Try.prog 120 = some true ∧
 tsize Try.prog 120 = some 3 ∧
 sizedB Try.prog 120 = true ∧
 fieldOf Try.prog 120 0 = some (0, 2) ∧
 fieldOf Try.prog 120 1 = some (1, 9) ∧
 fieldOf Try.prog 120 2 = some (2, 2) ∧
 arrOf Try.prog 120 = none ∧
 zeroCells Try.prog 120 = some [.p (.int .i64 0), .p (.str (⟨#[]⟩ : ByteArray)), .p (.int .i64 0)] ∧
 tkind Try.prog 120 = .other ∧
 notIntT Try.prog 120 = true ∧
 szPos Try.prog 120 = true ∧
 isAggB Try.prog 122 = some false ∧
 tsize Try.prog 122 = some 1 ∧
 sliceOf Try.prog 122 = some 4 ∧
 core.elemZero Try.prog 122 = some [.p (.int .i64 0), .p (.str (⟨#[]⟩ : ByteArray)), .p (.int .i64 0), .p .nilS] ∧
 zeroCells Try.prog 122 = some [.p .nilS] ∧
 tkind Try.prog 122 = .other ∧
 notIntT Try.prog 122 = true ∧
 szPos Try.prog 122 = true ∧
 isAggB Try.prog 124 = some true ∧
 tsize Try.prog 124 = some 4 ∧
 sizedB Try.prog 124 = true ∧
 fieldOf Try.prog 124 0 = some (0, 120) ∧
 fieldOf Try.prog 124 1 = some (3, 122) ∧
 arrOf Try.prog 124 = none ∧
 zeroCells Try.prog 124 = some [.p (.int .i64 0), .p (.str (⟨#[]⟩ : ByteArray)), .p (.int .i64 0), .p .nilS] ∧
 tkind Try.prog 124 = .other ∧
 notIntT Try.prog 124 = true ∧
 szPos Try.prog 124 = true ∧
 isAggB Try.prog 133 = some false ∧
 tsize Try.prog 133 = some 1 ∧
 sliceOf Try.prog 133 = some 9 ∧
 core.elemZero Try.prog 133 = some [.p (.int .i64 0), .p (.str (⟨#[]⟩ : ByteArray)), .p (.bool false), .p (.int .i64 0), .p (.int .i64 0), .p (.int .i64 0), .p (.str (⟨#[]⟩ : ByteArray)), .p (.bool false), .p (.int .i64 0)] ∧
 zeroCells Try.prog 133 = some [.p .nilS] ∧
 tkind Try.prog 133 = .other ∧
 notIntT Try.prog 133 = true ∧
 szPos Try.prog 133 = true ∧
 isAggB Try.prog 136 = some false ∧
 tsize Try.prog 136 = some 1 ∧
 sliceOf Try.prog 136 = some 4 ∧
 core.elemZero Try.prog 136 = some [.p (.int .i64 0), .p (.str (⟨#[]⟩ : ByteArray)), .p (.bool false), .p (.int .i64 0)] ∧
 zeroCells Try.prog 136 = some [.p .nilS] ∧
 tkind Try.prog 136 = .other ∧
 notIntT Try.prog 136 = true ∧
 szPos Try.prog 136 = true ∧
 isAggB Try.prog 138 = some false ∧
 tsize Try.prog 138 = some 1 ∧
 sliceOf Try.prog 138 = some 3 ∧
 core.elemZero Try.prog 138 = some [.p (.str (⟨#[]⟩ : ByteArray)), .p (.bool false), .p (.int .i64 0)] ∧
 zeroCells Try.prog 138 = some [.p .nilS] ∧
 tkind Try.prog 138 = .other ∧
 notIntT Try.prog 138 = true ∧
 szPos Try.prog 138 = true ∧
 isAggB Try.prog 140 = some true ∧
 tsize Try.prog 140 = some 3 ∧
 sizedB Try.prog 140 = true ∧
 fieldOf Try.prog 140 0 = some (0, 2) ∧
 fieldOf Try.prog 140 1 = some (1, 4) ∧
 fieldOf Try.prog 140 2 = some (2, 138) ∧
 arrOf Try.prog 140 = none ∧
 zeroCells Try.prog 140 = some [.p (.int .i64 0), .p (.bool false), .p .nilS] ∧
 tkind Try.prog 140 = .other ∧
 notIntT Try.prog 140 = true ∧
 szPos Try.prog 140 = true ∧
 isAggB Try.prog 142 = some true ∧
 tsize Try.prog 142 = some 3 ∧
 sizedB Try.prog 142 = true ∧
 fieldOf Try.prog 142 0 = some (0, 9) ∧
 fieldOf Try.prog 142 1 = some (1, 4) ∧
 fieldOf Try.prog 142 2 = some (2, 2) ∧
 arrOf Try.prog 142 = none ∧
 zeroCells Try.prog 142 = some [.p (.str (⟨#[]⟩ : ByteArray)), .p (.bool false), .p (.int .i64 0)] ∧
 tkind Try.prog 142 = .other ∧
 notIntT Try.prog 142 = true ∧
 szPos Try.prog 142 = true ∧
 isAggB Try.prog 144 = some true ∧
 tsize Try.prog 144 = some 4 ∧
 sizedB Try.prog 144 = true ∧
 fieldOf Try.prog 144 0 = some (0, 2) ∧
 fieldOf Try.prog 144 1 = some (1, 9) ∧
 fieldOf Try.prog 144 2 = some (2, 4) ∧
 fieldOf Try.prog 144 3 = some (3, 2) ∧
 arrOf Try.prog 144 = none ∧
 zeroCells Try.prog 144 = some [.p (.int .i64 0), .p (.str (⟨#[]⟩ : ByteArray)), .p (.bool false), .p (.int .i64 0)] ∧
 tkind Try.prog 144 = .other ∧
 notIntT Try.prog 144 = true ∧
 szPos Try.prog 144 = true ∧
 isAggB Try.prog 146 = some true ∧
 tsize Try.prog 146 = some 9 ∧
 sizedB Try.prog 146 = true ∧
 fieldOf Try.prog 146 0 = some (0, 2) ∧
 fieldOf Try.prog 146 1 = some (1, 142) ∧
 fieldOf Try.prog 146 2 = some (4, 2) ∧
 fieldOf Try.prog 146 3 = some (5, 144) ∧
 arrOf Try.prog 146 = none ∧
 zeroCells Try.prog 146 = some [.p (.int .i64 0), .p (.str (⟨#[]⟩ : ByteArray)), .p (.bool false), .p (.int .i64 0), .p (.int .i64 0), .p (.int .i64 0), .p (.str (⟨#[]⟩ : ByteArray)), .p (.bool false), .p (.int .i64 0)] ∧
 tkind Try.prog 146 = .other ∧
 notIntT Try.prog 146 = true ∧
 szPos Try.prog 146 = true ∧
 isAggB Try.prog 159 = some false ∧
 tsize Try.prog 159 = some 1 ∧
 sliceOf Try.prog 159 = some 3 ∧
 core.elemZero Try.prog 159 = some [.p (.str (⟨#[]⟩ : ByteArray)), .p (.int .i64 0), .p (.bool false)] ∧
 zeroCells Try.prog 159 = some [.p .nilS] ∧
 tkind Try.prog 159 = .other ∧
 notIntT Try.prog 159 = true ∧
 szPos Try.prog 159 = true ∧
 isAggB Try.prog 161 = some true ∧
 tsize Try.prog 161 = some 4 ∧
 sizedB Try.prog 161 = true ∧
 fieldOf Try.prog 161 0 = some (0, 9) ∧
 fieldOf Try.prog 161 1 = some (1, 50) ∧
 fieldOf Try.prog 161 2 = some (2, 159) ∧
 fieldOf Try.prog 161 3 = some (3, 4) ∧
 arrOf Try.prog 161 = none ∧
 zeroCells Try.prog 161 = some [.p (.str (⟨#[]⟩ : ByteArray)), .p .nilS, .p .nilS, .p (.bool false)] ∧
 tkind Try.prog 161 = .other ∧
 notIntT Try.prog 161 = true ∧
 szPos Try.prog 161 = true ∧
 isAggB Try.prog 164 = some true ∧
 tsize Try.prog 164 = some 7 ∧
 sizedB Try.prog 164 = true ∧
 fieldOf Try.prog 164 0 = some (0, 9) ∧
 fieldOf Try.prog 164 1 = some (1, 9) ∧
 fieldOf Try.prog 164 2 = some (2, 9) ∧
 fieldOf Try.prog 164 3 = some (3, 159) ∧
 fieldOf Try.prog 164 4 = some (4, 2) ∧
 fieldOf Try.prog 164 5 = some (5, 2) ∧
 fieldOf Try.prog 164 6 = some (6, 2) ∧
 arrOf Try.prog 164 = none ∧
 zeroCells Try.prog 164 = some [.p (.str (⟨#[]⟩ : ByteArray)), .p (.str (⟨#[]⟩ : ByteArray)), .p (.str (⟨#[]⟩ : ByteArray)), .p .nilS, .p (.int .i64 0), .p (.int .i64 0), .p (.int .i64 0)] ∧
 tkind Try.prog 164 = .other ∧
 notIntT Try.prog 164 = true ∧
 szPos Try.prog 164 = true ∧
 isAggB Try.prog 167 = some true ∧
 tsize Try.prog 167 = some 2 ∧
 sizedB Try.prog 167 = true ∧
 fieldOf Try.prog 167 0 = some (0, 9) ∧
 fieldOf Try.prog 167 1 = some (1, 50) ∧
 arrOf Try.prog 167 = none ∧
 zeroCells Try.prog 167 = some [.p (.str (⟨#[]⟩ : ByteArray)), .p .nilS] ∧
 tkind Try.prog 167 = .other ∧
 notIntT Try.prog 167 = true ∧
 szPos Try.prog 167 = true ∧
 isAggB Try.prog 180 = some true ∧
 tsize Try.prog 180 = some 2 ∧
 sizedB Try.prog 180 = true ∧
 fieldOf Try.prog 180 0 = some (0, 9) ∧
 fieldOf Try.prog 180 1 = some (1, 9) ∧
 arrOf Try.prog 180 = none ∧
 zeroCells Try.prog 180 = some [.p (.str (⟨#[]⟩ : ByteArray)), .p (.str (⟨#[]⟩ : ByteArray))] ∧
 tkind Try.prog 180 = .other ∧
 notIntT Try.prog 180 = true ∧
 szPos Try.prog 180 = true ∧
 isAggB Try.prog 184 = some true ∧
 tsize Try.prog 184 = some 6 ∧
 sizedB Try.prog 184 = true ∧
 fieldOf Try.prog 184 0 = some (0, 9) ∧
 fieldOf Try.prog 184 1 = some (1, 50) ∧
 fieldOf Try.prog 184 2 = some (2, 2) ∧
 fieldOf Try.prog 184 3 = some (3, 4) ∧
 fieldOf Try.prog 184 4 = some (4, 2) ∧
 fieldOf Try.prog 184 5 = some (5, 2) ∧
 arrOf Try.prog 184 = none ∧
 zeroCells Try.prog 184 = some [.p (.str (⟨#[]⟩ : ByteArray)), .p .nilS, .p (.int .i64 0), .p (.bool false), .p (.int .i64 0), .p (.int .i64 0)] ∧
 tkind Try.prog 184 = .other ∧
 notIntT Try.prog 184 = true ∧
 szPos Try.prog 184 = true ∧
 isAggB Try.prog 194 = some false ∧
 tsize Try.prog 194 = some 1 ∧
 sliceOf Try.prog 194 = some 6 ∧
 core.elemZero Try.prog 194 = some [.p (.int .i64 0), .p (.str (⟨#[]⟩ : ByteArray)), .p (.int .i64 0), .p (.int .i64 0), .p (.int .i64 0), .p .nilS] ∧
 zeroCells Try.prog 194 = some [.p .nilS] ∧
 tkind Try.prog 194 = .other ∧
 notIntT Try.prog 194 = true ∧
 szPos Try.prog 194 = true ∧
 isAggB Try.prog 196 = some true ∧
 tsize Try.prog 196 = some 3 ∧
 sizedB Try.prog 196 = true ∧
 fieldOf Try.prog 196 0 = some (0, 9) ∧
 fieldOf Try.prog 196 1 = some (1, 9) ∧
 fieldOf Try.prog 196 2 = some (2, 194) ∧
 arrOf Try.prog 196 = none ∧
 zeroCells Try.prog 196 = some [.p (.str (⟨#[]⟩ : ByteArray)), .p (.str (⟨#[]⟩ : ByteArray)), .p .nilS] ∧
 tkind Try.prog 196 = .other ∧
 notIntT Try.prog 196 = true ∧
 szPos Try.prog 196 = true ∧
 isAggB Try.prog 197 = some false ∧
 tsize Try.prog 197 = some 1 ∧
 sliceOf Try.prog 197 = some 6 ∧
 core.elemZero Try.prog 197 = some [.p (.int .i64 0), .p (.str (⟨#[]⟩ : ByteArray)), .p (.int .i64 0), .p (.int .i64 0), .p (.int .i64 0), .p .nilS] ∧
 zeroCells Try.prog 197 = some [.p .nilS] ∧
 tkind Try.prog 197 = .other ∧
 notIntT Try.prog 197 = true ∧
 szPos Try.prog 197 = true ∧
 isAggB Try.prog 199 = some true ∧
 tsize Try.prog 199 = some 3 ∧
 sizedB Try.prog 199 = true ∧
 fieldOf Try.prog 199 0 = some (0, 9) ∧
 fieldOf Try.prog 199 1 = some (1, 9) ∧
 fieldOf Try.prog 199 2 = some (2, 197) ∧
 arrOf Try.prog 199 = none ∧
 zeroCells Try.prog 199 = some [.p (.str (⟨#[]⟩ : ByteArray)), .p (.str (⟨#[]⟩ : ByteArray)), .p .nilS] ∧
 tkind Try.prog 199 = .other ∧
 notIntT Try.prog 199 = true ∧
 szPos Try.prog 199 = true ∧
 isAggB Try.prog 202 = some true ∧
 tsize Try.prog 202 = some 6 ∧
 sizedB Try.prog 202 = true ∧
 fieldOf Try.prog 202 0 = some (0, 2) ∧
 fieldOf Try.prog 202 1 = some (1, 9) ∧
 fieldOf Try.prog 202 2 = some (2, 2) ∧
 fieldOf Try.prog 202 3 = some (3, 2) ∧
 fieldOf Try.prog 202 4 = some (4, 2) ∧
 fieldOf Try.prog 202 5 = some (5, 31) ∧
 arrOf Try.prog 202 = none ∧
 zeroCells Try.prog 202 = some [.p (.int .i64 0), .p (.str (⟨#[]⟩ : ByteArray)), .p (.int .i64 0), .p (.int .i64 0), .p (.int .i64 0), .p .nilS] ∧
 tkind Try.prog 202 = .other ∧
 notIntT Try.prog 202 = true ∧
 szPos Try.prog 202 = true ∧
 isAggB Try.prog 205 = some false ∧
 tsize Try.prog 205 = some 1 ∧
 sliceOf Try.prog 205 = some 1 ∧
 core.elemZero Try.prog 205 = some [.p (.int .i64 0)] ∧
 zeroCells Try.prog 205 = some [.p .nilS] ∧
 tkind Try.prog 205 = .other ∧
 notIntT Try.prog 205 = true ∧
 szPos Try.prog 205 = true ∧
 isAggB Try.prog 219 = some false ∧
 tsize Try.prog 219 = some 1 ∧
 sliceOf Try.prog 219 = some 2 ∧
 core.elemZero Try.prog 219 = some [.p (.str (⟨#[]⟩ : ByteArray)), .p (.str (⟨#[]⟩ : ByteArray))] ∧
 zeroCells Try.prog 219 = some [.p .nilS] ∧
 tkind Try.prog 219 = .other ∧
 notIntT Try.prog 219 = true ∧
 szPos Try.prog 219 = true ∧
 isAggB Try.prog 221 = some true ∧
 tsize Try.prog 221 = some 5 ∧
 sizedB Try.prog 221 = true ∧
 fieldOf Try.prog 221 0 = some (0, 2) ∧
 fieldOf Try.prog 221 1 = some (1, 9) ∧
 fieldOf Try.prog 221 2 = some (2, 2) ∧
 fieldOf Try.prog 221 3 = some (3, 2) ∧
 fieldOf Try.prog 221 4 = some (4, 219) ∧
 arrOf Try.prog 221 = none ∧
 zeroCells Try.prog 221 = some [.p (.int .i64 0), .p (.str (⟨#[]⟩ : ByteArray)), .p (.int .i64 0), .p (.int .i64 0), .p .nilS] ∧
 tkind Try.prog 221 = .other ∧
 notIntT Try.prog 221 = true ∧
 szPos Try.prog 221 = true ∧
 isAggB Try.prog 226 = some false ∧
 tsize Try.prog 226 = some 1 ∧
 zeroCells Try.prog 226 = some [.p .nilM] ∧
 tkind Try.prog 226 = .other ∧
 mapTy Try.prog 226 = some (.str, false, [.str (⟨#[]⟩ : ByteArray)]) ∧
 notIntT Try.prog 226 = true ∧
 szPos Try.prog 226 = true ∧
 isAggB Try.prog 227 = some false ∧
 tsize Try.prog 227 = some 1 ∧
 zeroCells Try.prog 227 = some [.p .nilF] ∧
 tkind Try.prog 227 = .other ∧
 notIntT Try.prog 227 = true ∧
 szPos Try.prog 227 = true ∧
 isAggB Try.prog 228 = some false ∧
 tsize Try.prog 228 = some 1 ∧
 zeroCells Try.prog 228 = some [.p .nilM] ∧
 tkind Try.prog 228 = .other ∧
 notIntT Try.prog 228 = true ∧
 szPos Try.prog 228 = true ∧
 isAggB Try.prog 229 = some true ∧
 tsize Try.prog 229 = some 2 ∧
 sizedB Try.prog 229 = true ∧
 arrOf Try.prog 229 = some (2, 1) ∧
 zeroCells Try.prog 229 = some [.p (.str (⟨#[]⟩ : ByteArray)), .p (.str (⟨#[]⟩ : ByteArray))] ∧
 tkind Try.prog 229 = .other ∧
 notIntT Try.prog 229 = true ∧
 szPos Try.prog 229 = true ∧
 isAggB Try.prog 235 = some false ∧
 tsize Try.prog 235 = some 1 ∧
 sliceOf Try.prog 235 = some 1 ∧
 core.elemZero Try.prog 235 = some [.p (.int .u8 0)] ∧
 zeroCells Try.prog 235 = some [.p .nilS] ∧
 tkind Try.prog 235 = .bytes ∧
 notIntT Try.prog 235 = true ∧
 szPos Try.prog 235 = true ∧
 isAggB Try.prog 237 = some false ∧
 tsize Try.prog 237 = some 1 ∧
 sliceOf Try.prog 237 = some 3 ∧
 core.elemZero Try.prog 237 = some [.p (.str (⟨#[]⟩ : ByteArray)), .p (.bool false), .p (.int .i64 0)] ∧
 zeroCells Try.prog 237 = some [.p .nilS] ∧
 tkind Try.prog 237 = .other ∧
 notIntT Try.prog 237 = true ∧
 szPos Try.prog 237 = true ∧
 isAggB Try.prog 239 = some true ∧
 tsize Try.prog 239 = some 3 ∧
 sizedB Try.prog 239 = true ∧
 fieldOf Try.prog 239 0 = some (0, 2) ∧
 fieldOf Try.prog 239 1 = some (1, 4) ∧
 fieldOf Try.prog 239 2 = some (2, 237) ∧
 arrOf Try.prog 239 = none ∧
 zeroCells Try.prog 239 = some [.p (.int .i64 0), .p (.bool false), .p .nilS] ∧
 tkind Try.prog 239 = .other ∧
 notIntT Try.prog 239 = true ∧
 szPos Try.prog 239 = true ∧
 isAggB Try.prog 241 = some false ∧
 tsize Try.prog 241 = some 1 ∧
 sliceOf Try.prog 241 = some 4 ∧
 core.elemZero Try.prog 241 = some [.p (.int .i64 0), .p (.str (⟨#[]⟩ : ByteArray)), .p (.bool false), .p (.int .i64 0)] ∧
 zeroCells Try.prog 241 = some [.p .nilS] ∧
 tkind Try.prog 241 = .other ∧
 notIntT Try.prog 241 = true ∧
 szPos Try.prog 241 = true ∧
 isAggB Try.prog 243 = some true ∧
 tsize Try.prog 243 = some 2 ∧
 sizedB Try.prog 243 = true ∧
 fieldOf Try.prog 243 0 = some (0, 241) ∧
 fieldOf Try.prog 243 1 = some (1, 2) ∧
 arrOf Try.prog 243 = none ∧
 zeroCells Try.prog 243 = some [.p .nilS, .p (.int .i64 0)] ∧
 tkind Try.prog 243 = .other ∧
 notIntT Try.prog 243 = true ∧
 szPos Try.prog 243 = true ∧
 isAggB Try.prog 244 = some false ∧
 tsize Try.prog 244 = some 1 ∧
 sliceOf Try.prog 244 = some 1 ∧
 core.elemZero Try.prog 244 = some [.p (.int .i64 0)] ∧
 zeroCells Try.prog 244 = some [.p .nilS] ∧
 tkind Try.prog 244 = .other ∧
 notIntT Try.prog 244 = true ∧
 szPos Try.prog 244 = true ∧
 isAggB Try.prog 249 = some true ∧
 tsize Try.prog 249 = some 2 ∧
 sizedB Try.prog 249 = true ∧
 fieldOf Try.prog 249 0 = some (0, 136) ∧
 fieldOf Try.prog 249 1 = some (1, 2) ∧
 arrOf Try.prog 249 = none ∧
 zeroCells Try.prog 249 = some [.p .nilS, .p (.int .i64 0)] ∧
 tkind Try.prog 249 = .other ∧
 notIntT Try.prog 249 = true ∧
 szPos Try.prog 249 = true ∧
 isAggB Try.prog 253 = some false ∧
 tsize Try.prog 253 = some 1 ∧
 zeroCells Try.prog 253 = some [.p .nilM] ∧
 tkind Try.prog 253 = .other ∧
 notIntT Try.prog 253 = true ∧
 szPos Try.prog 253 = true ∧
 isAggB Try.prog 255 = some false ∧
 tsize Try.prog 255 = some 1 ∧
 zeroCells Try.prog 255 = some [.p .nilP] ∧
 tkind Try.prog 255 = .other ∧
 notIntT Try.prog 255 = true ∧
 szPos Try.prog 255 = true ∧
 isAggB Try.prog 257 = some true ∧
 tsize Try.prog 257 = some 7 ∧
 sizedB Try.prog 257 = true ∧
 fieldOf Try.prog 257 0 = some (0, 221) ∧
 fieldOf Try.prog 257 1 = some (5, 3) ∧
 fieldOf Try.prog 257 2 = some (6, 3) ∧
 arrOf Try.prog 257 = none ∧
 zeroCells Try.prog 257 = some [.p (.int .i64 0), .p (.str (⟨#[]⟩ : ByteArray)), .p (.int .i64 0), .p (.int .i64 0), .p .nilS, .p (.int .i64 0), .p (.int .i64 0)] ∧
 tkind Try.prog 257 = .other ∧
 notIntT Try.prog 257 = true ∧
 szPos Try.prog 257 = true ∧
 isAggB Try.prog 266 = some false ∧
 tsize Try.prog 266 = some 1 ∧
 sliceOf Try.prog 266 = some 3 ∧
 core.elemZero Try.prog 266 = some [.p (.str (⟨#[]⟩ : ByteArray)), .p (.int .i64 0), .p (.bool false)] ∧
 zeroCells Try.prog 266 = some [.p .nilS] ∧
 tkind Try.prog 266 = .other ∧
 notIntT Try.prog 266 = true ∧
 szPos Try.prog 266 = true ∧
 isAggB Try.prog 268 = some true ∧
 tsize Try.prog 268 = some 4 ∧
 sizedB Try.prog 268 = true ∧
 fieldOf Try.prog 268 0 = some (0, 9) ∧
 fieldOf Try.prog 268 1 = some (1, 50) ∧
 fieldOf Try.prog 268 2 = some (2, 266) ∧
 fieldOf Try.prog 268 3 = some (3, 4) ∧
 arrOf Try.prog 268 = none ∧
 zeroCells Try.prog 268 = some [.p (.str (⟨#[]⟩ : ByteArray)), .p .nilS, .p .nilS, .p (.bool false)] ∧
 tkind Try.prog 268 = .other ∧
 notIntT Try.prog 268 = true ∧
 szPos Try.prog 268 = true ∧
 isAggB Try.prog 271 = some true ∧
 tsize Try.prog 271 = some 7 ∧
 sizedB Try.prog 271 = true ∧
 fieldOf Try.prog 271 0 = some (0, 9) ∧
 fieldOf Try.prog 271 1 = some (1, 9) ∧
 fieldOf Try.prog 271 2 = some (2, 9) ∧
 fieldOf Try.prog 271 3 = some (3, 266) ∧
 fieldOf Try.prog 271 4 = some (4, 2) ∧
 fieldOf Try.prog 271 5 = some (5, 2) ∧
 fieldOf Try.prog 271 6 = some (6, 2) ∧
 arrOf Try.prog 271 = none ∧
 zeroCells Try.prog 271 = some [.p (.str (⟨#[]⟩ : ByteArray)), .p (.str (⟨#[]⟩ : ByteArray)), .p (.str (⟨#[]⟩ : ByteArray)), .p .nilS, .p (.int .i64 0), .p (.int .i64 0), .p (.int .i64 0)] ∧
 tkind Try.prog 271 = .other ∧
 notIntT Try.prog 271 = true ∧
 szPos Try.prog 271 = true ∧
 isAggB Try.prog 273 = some true ∧
 tsize Try.prog 273 = some 2 ∧
 sizedB Try.prog 273 = true ∧
 fieldOf Try.prog 273 0 = some (0, 9) ∧
 fieldOf Try.prog 273 1 = some (1, 50) ∧
 arrOf Try.prog 273 = none ∧
 zeroCells Try.prog 273 = some [.p (.str (⟨#[]⟩ : ByteArray)), .p .nilS] ∧
 tkind Try.prog 273 = .other ∧
 notIntT Try.prog 273 = true ∧
 szPos Try.prog 273 = true ∧
 isAggB Try.prog 281 = some true ∧
 tsize Try.prog 281 = some 3 ∧
 sizedB Try.prog 281 = true ∧
 fieldOf Try.prog 281 0 = some (0, 9) ∧
 fieldOf Try.prog 281 1 = some (1, 2) ∧
 fieldOf Try.prog 281 2 = some (2, 4) ∧
 arrOf Try.prog 281 = none ∧
 zeroCells Try.prog 281 = some [.p (.str (⟨#[]⟩ : ByteArray)), .p (.int .i64 0), .p (.bool false)] ∧
 tkind Try.prog 281 = .other ∧
 notIntT Try.prog 281 = true ∧
 szPos Try.prog 281 = true ∧
 isAggB Try.prog 287 = some true ∧
 tsize Try.prog 287 = some 2 ∧
 sizedB Try.prog 287 = true ∧
 fieldOf Try.prog 287 0 = some (0, 9) ∧
 fieldOf Try.prog 287 1 = some (1, 9) ∧
 arrOf Try.prog 287 = none ∧
 zeroCells Try.prog 287 = some [.p (.str (⟨#[]⟩ : ByteArray)), .p (.str (⟨#[]⟩ : ByteArray))] ∧
 tkind Try.prog 287 = .other ∧
 notIntT Try.prog 287 = true ∧
 szPos Try.prog 287 = true ∧
 isAggB Try.prog 289 = some true ∧
 tsize Try.prog 289 = some 6 ∧
 sizedB Try.prog 289 = true ∧
 fieldOf Try.prog 289 0 = some (0, 9) ∧
 fieldOf Try.prog 289 1 = some (1, 50) ∧
 fieldOf Try.prog 289 2 = some (2, 2) ∧
 fieldOf Try.prog 289 3 = some (3, 4) ∧
 fieldOf Try.prog 289 4 = some (4, 2) ∧
 fieldOf Try.prog 289 5 = some (5, 2) ∧
 arrOf Try.prog 289 = none ∧
 zeroCells Try.prog 289 = some [.p (.str (⟨#[]⟩ : ByteArray)), .p .nilS, .p (.int .i64 0), .p (.bool false), .p (.int .i64 0), .p (.int .i64 0)] ∧
 tkind Try.prog 289 = .other ∧
 notIntT Try.prog 289 = true ∧
 szPos Try.prog 289 = true ∧
 isAggB Try.prog 291 = some true ∧
 tsize Try.prog 291 = some 3 ∧
 sizedB Try.prog 291 = true ∧
 fieldOf Try.prog 291 0 = some (0, 9) ∧
 fieldOf Try.prog 291 1 = some (1, 3) ∧
 fieldOf Try.prog 291 2 = some (2, 4) ∧
 arrOf Try.prog 291 = none ∧
 zeroCells Try.prog 291 = some [.p (.str (⟨#[]⟩ : ByteArray)), .p (.int .i64 0), .p (.bool false)] ∧
 tkind Try.prog 291 = .other ∧
 notIntT Try.prog 291 = true ∧
 szPos Try.prog 291 = true ∧
 isAggB Try.prog 296 = some false ∧
 tsize Try.prog 296 = some 1 ∧
 zeroCells Try.prog 296 = some [.p .nilM] ∧
 tkind Try.prog 296 = .other ∧
 mapTy Try.prog 296 = some (.str, false, [.int .i64 0]) ∧
 notIntT Try.prog 296 = true ∧
 szPos Try.prog 296 = true ∧
 isAggB Try.prog 301 = some false ∧
 tsize Try.prog 301 = some 1 ∧
 sliceOf Try.prog 301 = some 1 ∧
 core.elemZero Try.prog 301 = some [.p .nilS] ∧
 zeroCells Try.prog 301 = some [.p .nilS] ∧
 tkind Try.prog 301 = .other ∧
 notIntT Try.prog 301 = true ∧
 szPos Try.prog 301 = true ∧
 isAggB Try.prog 303 = some false ∧
 tsize Try.prog 303 = some 1 ∧
 sliceOf Try.prog 303 = some 1 ∧
 core.elemZero Try.prog 303 = some [.p (.bool false)] ∧
 zeroCells Try.prog 303 = some [.p .nilS] ∧
 tkind Try.prog 303 = .other ∧
 notIntT Try.prog 303 = true ∧
 szPos Try.prog 303 = true ∧
 isAggB Try.prog 305 = some false ∧
 tsize Try.prog 305 = some 1 ∧
 zeroCells Try.prog 305 = some [.p .nilF] ∧
 tkind Try.prog 305 = .other ∧
 notIntT Try.prog 305 = true ∧
 szPos Try.prog 305 = true ∧
 isAggB Try.prog 307 = some false ∧
 tsize Try.prog 307 = some 1 ∧
 sliceOf Try.prog 307 = some 3 ∧
 core.elemZero Try.prog 307 = some [.p (.int .i64 0), .p .nilS, .p .nilS] ∧
 zeroCells Try.prog 307 = some [.p .nilS] ∧
 tkind Try.prog 307 = .other ∧
 notIntT Try.prog 307 = true ∧
 szPos Try.prog 307 = true ∧
 isAggB Try.prog 309 = some true ∧
 tsize Try.prog 309 = some 2 ∧
 sizedB Try.prog 309 = true ∧
 fieldOf Try.prog 309 0 = some (0, 307) ∧
 fieldOf Try.prog 309 1 = some (1, 99) ∧
 arrOf Try.prog 309 = none ∧
 zeroCells Try.prog 309 = some [.p .nilS, .p .nilS] ∧
 tkind Try.prog 309 = .other ∧
 notIntT Try.prog 309 = true ∧
 szPos Try.prog 309 = true ∧
 isAggB Try.prog 318 = some true ∧
 tsize Try.prog 318 = some 2 ∧
 sizedB Try.prog 318 = true ∧
 fieldOf Try.prog 318 0 = some (0, 9) ∧
 fieldOf Try.prog 318 1 = some (1, 9) ∧
 arrOf Try.prog 318 = none ∧
 zeroCells Try.prog 318 = some [.p (.str (⟨#[]⟩ : ByteArray)), .p (.str (⟨#[]⟩ : ByteArray))] ∧
 tkind Try.prog 318 = .other ∧
 notIntT Try.prog 318 = true ∧
 szPos Try.prog 318 = true ∧
 isAggB Try.prog 320 = some false ∧
 tsize Try.prog 320 = some 1 ∧
 sliceOf Try.prog 320 = some 1 ∧
 core.elemZero Try.prog 320 = some [.p .nilS] ∧
 zeroCells Try.prog 320 = some [.p .nilS] ∧
 tkind Try.prog 320 = .other ∧
 notIntT Try.prog 320 = true ∧
 szPos Try.prog 320 = true ∧
 isAggB Try.prog 349 = some true ∧
 tsize Try.prog 349 = some 4 ∧
 sizedB Try.prog 349 = true ∧
 fieldOf Try.prog 349 0 = some (0, 9) ∧
 fieldOf Try.prog 349 1 = some (1, 3) ∧
 fieldOf Try.prog 349 2 = some (2, 3) ∧
 fieldOf Try.prog 349 3 = some (3, 4) ∧
 arrOf Try.prog 349 = none ∧
 zeroCells Try.prog 349 = some [.p (.str (⟨#[]⟩ : ByteArray)), .p (.int .i64 0), .p (.int .i64 0), .p (.bool false)] ∧
 tkind Try.prog 349 = .other ∧
 notIntT Try.prog 349 = true ∧
 szPos Try.prog 349 = true ∧
 isAggB Try.prog 351 = some false ∧
 tsize Try.prog 351 = some 1 ∧
 sliceOf Try.prog 351 = some 3 ∧
 core.elemZero Try.prog 351 = some [.p (.int .u8 0), .p (.str (⟨#[]⟩ : ByteArray)), .p .nilS] ∧
 zeroCells Try.prog 351 = some [.p .nilS] ∧
 tkind Try.prog 351 = .other ∧
 notIntT Try.prog 351 = true ∧
 szPos Try.prog 351 = true ∧
 isAggB Try.prog 353 = some true ∧
 tsize Try.prog 353 = some 3 ∧
 sizedB Try.prog 353 = true ∧
 fieldOf Try.prog 353 0 = some (0, 5) ∧
 fieldOf Try.prog 353 1 = some (1, 9) ∧
 fieldOf Try.prog 353 2 = some (2, 351) ∧
 arrOf Try.prog 353 = none ∧
 zeroCells Try.prog 353 = some [.p (.int .u8 0), .p (.str (⟨#[]⟩ : ByteArray)), .p .nilS] ∧
 tkind Try.prog 353 = .other ∧
 notIntT Try.prog 353 = true ∧
 szPos Try.prog 353 = true ∧
 isAggB Try.prog 358 = some true ∧
 tsize Try.prog 358 = some 6 ∧
 sizedB Try.prog 358 = true ∧
 fieldOf Try.prog 358 0 = some (0, 2) ∧
 fieldOf Try.prog 358 1 = some (1, 9) ∧
 fieldOf Try.prog 358 2 = some (2, 2) ∧
 fieldOf Try.prog 358 3 = some (3, 2) ∧
 fieldOf Try.prog 358 4 = some (4, 2) ∧
 fieldOf Try.prog 358 5 = some (5, 29) ∧
 arrOf Try.prog 358 = none ∧
 zeroCells Try.prog 358 = some [.p (.int .i64 0), .p (.str (⟨#[]⟩ : ByteArray)), .p (.int .i64 0), .p (.int .i64 0), .p (.int .i64 0), .p .nilS] ∧
 tkind Try.prog 358 = .other ∧
 notIntT Try.prog 358 = true ∧
 szPos Try.prog 358 = true ∧
 isAggB Try.prog 367 = some true ∧
 tsize Try.prog 367 = some 3 ∧
 sizedB Try.prog 367 = true ∧
 fieldOf Try.prog 367 0 = some (0, 9) ∧
 fieldOf Try.prog 367 1 = some (1, 4) ∧
 fieldOf Try.prog 367 2 = some (2, 2) ∧
 arrOf Try.prog 367 = none ∧
 zeroCells Try.prog 367 = some [.p (.str (⟨#[]⟩ : ByteArray)), .p (.bool false), .p (.int .i64 0)] ∧
 tkind Try.prog 367 = .other ∧
 notIntT Try.prog 367 = true ∧
 szPos Try.prog 367 = true ∧
 isAggB Try.prog 369 = some true ∧
 tsize Try.prog 369 = some 4 ∧
 sizedB Try.prog 369 = true ∧
 fieldOf Try.prog 369 0 = some (0, 2) ∧
 fieldOf Try.prog 369 1 = some (1, 9) ∧
 fieldOf Try.prog 369 2 = some (2, 4) ∧
 fieldOf Try.prog 369 3 = some (3, 2) ∧
 arrOf Try.prog 369 = none ∧
 zeroCells Try.prog 369 = some [.p (.int .i64 0), .p (.str (⟨#[]⟩ : ByteArray)), .p (.bool false), .p (.int .i64 0)] ∧
 tkind Try.prog 369 = .other ∧
 notIntT Try.prog 369 = true ∧
 szPos Try.prog 369 = true ∧
 isAggB Try.prog 380 = some true ∧
 tsize Try.prog 380 = some 3 ∧
 sizedB Try.prog 380 = true ∧
 fieldOf Try.prog 380 0 = some (0, 9) ∧
 fieldOf Try.prog 380 1 = some (1, 2) ∧
 fieldOf Try.prog 380 2 = some (2, 4) ∧
 arrOf Try.prog 380 = none ∧
 zeroCells Try.prog 380 = some [.p (.str (⟨#[]⟩ : ByteArray)), .p (.int .i64 0), .p (.bool false)] ∧
 tkind Try.prog 380 = .other ∧
 notIntT Try.prog 380 = true ∧
 szPos Try.prog 380 = true ∧
 isAggB Try.prog 387 = some true ∧
 tsize Try.prog 387 = some 4 ∧
 sizedB Try.prog 387 = true ∧
 fieldOf Try.prog 387 0 = some (0, 9) ∧
 fieldOf Try.prog 387 1 = some (1, 3) ∧
 fieldOf Try.prog 387 2 = some (2, 3) ∧
 fieldOf Try.prog 387 3 = some (3, 4) ∧
 arrOf Try.prog 387 = none ∧
 zeroCells Try.prog 387 = some [.p (.str (⟨#[]⟩ : ByteArray)), .p (.int .i64 0), .p (.int .i64 0), .p (.bool false)] ∧
 tkind Try.prog 387 = .other ∧
 notIntT Try.prog 387 = true ∧
 szPos Try.prog 387 = true := by
 repeat' refine And.intro ?_ ?_
 all_goals kernel_rfl
structure S280 where
 f0 : ByteArray
 f1 : Int
 f2 : Bool
 deriving Inhabited
def en280 (x : S280) : List PV := [.str x.f0, .int .i64 x.f1, .bool x.f2]
theorem ok280 (l : List S280) : rowsOk 3 (List.map en280 l) = true := rowsOk_map _ _ (fun x => by simp [en280]) l
structure S267 where
 f0 : ByteArray
 f1 : (List ByteArray)
 f2 : (List S280)
 f3 : Bool
 deriving Inhabited
def en267 (x : S267) : List PV := [.str x.f0, .lst false (List.map srw x.f1), .lst false (List.map en280 x.f2), .bool x.f3]
theorem ok267 (l : List S267) : rowsOk 4 (List.map en267 l) = true := rowsOk_map _ _ (fun x => by simp [en267]) l
structure S270 where
 f0 : ByteArray
 f1 : ByteArray
 f2 : ByteArray
 f3 : (List S280)
 f4 : Int
 f5 : Int
 f6 : Int
 deriving Inhabited
def en270 (x : S270) : List PV := [.str x.f0, .str x.f1, .str x.f2, .lst false (List.map en280 x.f3), .int .i64 x.f4, .int .i64 x.f5, .int .i64 x.f6]
theorem ok270 (l : List S270) : rowsOk 7 (List.map en270 l) = true := rowsOk_map _ _ (fun x => by simp [en270]) l
structure S166 where
 f0 : ByteArray
 f1 : (List ByteArray)
 deriving Inhabited
def en166 (x : S166) : List PV := [.str x.f0, .lst false (List.map srw x.f1)]
theorem ok166 (l : List S166) : rowsOk 2 (List.map en166 l) = true := rowsOk_map _ _ (fun x => by simp [en166]) l
structure S58 where
 f0 : (List S267)
 f1 : (List S270)
 f2 : (List S166)
 f3 : Bool
 deriving Inhabited
def en58 (x : S58) : List PV := [.lst false (List.map en267 x.f0), .lst false (List.map en270 x.f1), .lst false (List.map en166 x.f2), .bool x.f3]
theorem ok58 (l : List S58) : rowsOk 4 (List.map en58 l) = true := rowsOk_map _ _ (fun x => by simp [en58]) l
structure S160 where
 f0 : ByteArray
 f1 : (List ByteArray)
 f2 : (List S280)
 f3 : Bool
 deriving Inhabited
def en160 (x : S160) : List PV := [.str x.f0, .lst false (List.map srw x.f1), .lst false (List.map en280 x.f2), .bool x.f3]
theorem ok160 (l : List S160) : rowsOk 4 (List.map en160 l) = true := rowsOk_map _ _ (fun x => by simp [en160]) l
structure S163 where
 f0 : ByteArray
 f1 : ByteArray
 f2 : ByteArray
 f3 : (List S280)
 f4 : Int
 f5 : Int
 f6 : Int
 deriving Inhabited
def en163 (x : S163) : List PV := [.str x.f0, .str x.f1, .str x.f2, .lst false (List.map en280 x.f3), .int .i64 x.f4, .int .i64 x.f5, .int .i64 x.f6]
theorem ok163 (l : List S163) : rowsOk 7 (List.map en163 l) = true := rowsOk_map _ _ (fun x => by simp [en163]) l
structure S65 where
 f0 : (List S160)
 f1 : (List S163)
 f2 : (List S166)
 f3 : Bool
 deriving Inhabited
def en65 (x : S65) : List PV := [.lst false (List.map en160 x.f0), .lst false (List.map en163 x.f1), .lst false (List.map en166 x.f2), .bool x.f3]
theorem ok65 (l : List S65) : rowsOk 4 (List.map en65 l) = true := rowsOk_map _ _ (fun x => by simp [en65]) l

theorem sm_ {p : Prop} (h : p := by simp only [run, afterR, condC, exitC, exitTo, runO, step1, ofO, fpOf, fpK, writes, de, deT, deB, opD, dstOk, isCall, stepOp, finO, memPut, mset, entO, ent, core, constB, mkeyOf, mval, mrowOf, tupIf, liveM, kOf_i, kOf_s, mkEq_self, mhas_i, mhas_s, midx_i, midx_s, mrow_ii, mrow_ib, mrow_is, mrow_si, mrow_sb, mrow_ss, ment_ii, ment_ib, ment_is, ment_si, ment_sb, ment_ss, mset1_ii, mset1_ib, mset1_is, mset1_si, mset1_sb, mset1_ss, mput_ii, mput_ib, mput_is, mput_si, mput_sb, mput_ss, tst_map, coreB, lenA, minA, maxA, rowsB, appT, keyApp, keyV, keyL, liveC, liveB, liveZ, keyOf, oget, fget, lk, ofConst, cellsC, aggC, cell1, eff, binop, intOp, strOp, unop, ld, splice, fillP, aplace, placeOf, rowsN, oint, AV.cells, AV.pv, PV.std, AV.rows, pvs, appN, appC, rowsOk, irow, srw, brw, lrw, St.put, back, renA, ren1, ren0, renO, resOf, resAll, resOne, tupOf, fnOf, rk, inn, ok1, okB, okA, okT, okO, ok0, renB, liveP, liveZ0, nagg, one1, scH, bldZ, nvs, AV.nv, PV.sc, PV.isL, nilOrE, List.filter_cons, List.filter_nil, List.all_cons, List.all_nil,   unint, unint_map, bytesOf_eq, bnd_, rowsOk_irow, rowsOk_srw, rowsOk_brw, rowsOk_lrw, rowsOk_app, take_map_len, map_set_, set_map_,   List.range, List.range.loop, List.zip, List.zipWith, List.zip_cons_cons, List.zip_nil_left, List.zip_nil_right, List.length_cons, List.length_nil, List.length_map, List.length_append, List.map_cons, List.map_nil, List.map_append, List.getElem?_map, List.drop_succ_cons, List.drop_zero, List.drop_nil, List.take_succ_cons, List.take_zero, List.take_nil, List.take_length, List.set_cons_succ, List.set_cons_zero, List.head?_cons, List.head?_nil, List.getElem?_cons_succ, List.getElem?_cons_zero, List.append_nil, List.nil_append, List.cons_append, List.append_assoc, List.flatten_cons, List.flatten_nil, List.replicate_succ, List.replicate_zero, List.contains_cons, List.contains_nil, List.isEmpty_nil, List.isEmpty_cons, List.map_drop, List.map_take, List.map_replicate, List.length_replicate, List.length_set,   cond_true, cond_false, Option.map_some, Option.map_none, Option.bind_some, Option.bind_none, Option.getD_some, Option.getD_none, Option.isSome_some, Option.isSome_none, beq_self_eq_true, BEq.rfl, Nat.reduceBEq, Nat.reduceAdd, Nat.reduceSub, Nat.reduceMul, Nat.reduceLeDiff, Nat.reduceLT, Nat.reduceEqDiff, Nat.zero_add, Nat.add_zero, Nat.zero_mul, Nat.le_refl, and_self, and_true, true_and, if_true, reduceIte, ite_true, ite_false, Bool.and_true, Bool.true_and, Bool.and_false, Bool.false_and, Bool.not_true, Bool.not_false, Bool.or_true, Bool.or_false, Bool.true_or, Bool.false_or, Int.toNat_zero, Int.toNat_natCast, Int.reduceToNat, Int.reduceLE, Int.reduceLT, Int.reduceBEq, reduceCtorEq, decide_true, decide_false, Bool.false_eq_true, Nat.sub_zero, List.toList_toArray, List.foldl_cons, en280, ok280, en267, ok267, en270, ok270, en166, ok166, en58, ok58, en160, ok160, en163, ok163, en65, ok65, tyF, *]) : p := h
theorem sms_ {p : Prop} (h : p := by simp only [run, afterR, condC, exitC, exitTo, runO, step1, ofO, fpOf, fpK, writes, de, deT, deB, opD, dstOk, isCall, stepOp, finO, memPut, mset, entO, ent, core, constB, mkeyOf, mval, mrowOf, tupIf, liveM, kOf_i, kOf_s, mkEq_self, mhas_i, mhas_s, midx_i, midx_s, mrow_ii, mrow_ib, mrow_is, mrow_si, mrow_sb, mrow_ss, ment_ii, ment_ib, ment_is, ment_si, ment_sb, ment_ss, mset1_ii, mset1_ib, mset1_is, mset1_si, mset1_sb, mset1_ss, mput_ii, mput_ib, mput_is, mput_si, mput_sb, mput_ss, tst_map, coreB, lenA, minA, maxA, rowsB, appT, keyApp, keyV, keyL, liveC, liveB, liveZ, keyOf, oget, fget, lk, ofConst, cellsC, aggC, cell1, eff, binop, intOp, strOp, unop, ld, splice, fillP, aplace, placeOf, rowsN, oint, AV.cells, AV.pv, PV.std, AV.rows, pvs, appN, appC, rowsOk, irow, srw, brw, lrw, St.put, back, renA, ren1, ren0, renO, resOf, resAll, resOne, tupOf, fnOf, rk, inn, ok1, okB, okA, okT, okO, ok0, renB, liveP, liveZ0, nagg, one1, scH, bldZ, nvs, AV.nv, PV.sc, PV.isL, nilOrE, List.filter_cons, List.filter_nil, List.all_cons, List.all_nil,   unint, unint_map, bytesOf_eq, bnd_, rowsOk_irow, rowsOk_srw, rowsOk_brw, rowsOk_lrw, rowsOk_app, take_map_len, map_set_, set_map_,   List.range, List.range.loop, List.zip, List.zipWith, List.zip_cons_cons, List.zip_nil_left, List.zip_nil_right, List.length_cons, List.length_nil, List.length_map, List.length_append, List.map_cons, List.map_nil, List.map_append, List.getElem?_map, List.drop_succ_cons, List.drop_zero, List.drop_nil, List.take_succ_cons, List.take_zero, List.take_nil, List.take_length, List.set_cons_succ, List.set_cons_zero, List.head?_cons, List.head?_nil, List.getElem?_cons_succ, List.getElem?_cons_zero, List.append_nil, List.nil_append, List.cons_append, List.append_assoc, List.flatten_cons, List.flatten_nil, List.replicate_succ, List.replicate_zero, List.contains_cons, List.contains_nil, List.isEmpty_nil, List.isEmpty_cons, List.map_drop, List.map_take, List.map_replicate, List.length_replicate, List.length_set,   cond_true, cond_false, Option.map_some, Option.map_none, Option.bind_some, Option.bind_none, Option.getD_some, Option.getD_none, Option.isSome_some, Option.isSome_none, beq_self_eq_true, BEq.rfl, Nat.reduceBEq, Nat.reduceAdd, Nat.reduceSub, Nat.reduceMul, Nat.reduceLeDiff, Nat.reduceLT, Nat.reduceEqDiff, Nat.zero_add, Nat.add_zero, Nat.zero_mul, Nat.le_refl, and_self, and_true, true_and, if_true, reduceIte, ite_true, ite_false, Bool.and_true, Bool.true_and, Bool.and_false, Bool.false_and, Bool.not_true, Bool.not_false, Bool.or_true, Bool.or_false, Bool.true_or, Bool.false_or, Int.toNat_zero, Int.toNat_natCast, Int.reduceToNat, Int.reduceLE, Int.reduceLT, Int.reduceBEq, reduceCtorEq, decide_true, decide_false, Bool.false_eq_true, Nat.sub_zero, List.toList_toArray, List.foldl_cons, en280, ok280, en267, ok267, en270, ok270, en166, ok166, en58, ok58, en160, ok160, en163, ok163, en65, ok65, tyF]) : p := h
theorem smr_ {p : Prop} (h : p := by (simp only [run, afterR, condC, exitC, exitTo, runO, step1, ofO, fpOf, fpK, writes, de, deT, deB, opD, dstOk, isCall, stepOp, finO, memPut, mset, entO, ent, core, constB, mkeyOf, mval, mrowOf, tupIf, liveM, kOf_i, kOf_s, mkEq_self, mhas_i, mhas_s, midx_i, midx_s, mrow_ii, mrow_ib, mrow_is, mrow_si, mrow_sb, mrow_ss, ment_ii, ment_ib, ment_is, ment_si, ment_sb, ment_ss, mset1_ii, mset1_ib, mset1_is, mset1_si, mset1_sb, mset1_ss, mput_ii, mput_ib, mput_is, mput_si, mput_sb, mput_ss, tst_map, coreB, lenA, minA, maxA, rowsB, appT, keyApp, keyV, keyL, liveC, liveB, liveZ, keyOf, oget, fget, lk, ofConst, cellsC, aggC, cell1, eff, binop, intOp, strOp, unop, ld, splice, fillP, aplace, placeOf, rowsN, oint, AV.cells, AV.pv, PV.std, AV.rows, pvs, appN, appC, rowsOk, irow, srw, brw, lrw, St.put, back, renA, ren1, ren0, renO, resOf, resAll, resOne, tupOf, fnOf, rk, inn, ok1, okB, okA, okT, okO, ok0, renB, liveP, liveZ0, nagg, one1, scH, bldZ, nvs, AV.nv, PV.sc, PV.isL, nilOrE, List.filter_cons, List.filter_nil, List.all_cons, List.all_nil,   unint, unint_map, bytesOf_eq, bnd_, rowsOk_irow, rowsOk_srw, rowsOk_brw, rowsOk_lrw, rowsOk_app, take_map_len, map_set_, set_map_,   List.range, List.range.loop, List.zip, List.zipWith, List.zip_cons_cons, List.zip_nil_left, List.zip_nil_right, List.length_cons, List.length_nil, List.length_map, List.length_append, List.map_cons, List.map_nil, List.map_append, List.getElem?_map, List.drop_succ_cons, List.drop_zero, List.drop_nil, List.take_succ_cons, List.take_zero, List.take_nil, List.take_length, List.set_cons_succ, List.set_cons_zero, List.head?_cons, List.head?_nil, List.getElem?_cons_succ, List.getElem?_cons_zero, List.append_nil, List.nil_append, List.cons_append, List.append_assoc, List.flatten_cons, List.flatten_nil, List.replicate_succ, List.replicate_zero, List.contains_cons, List.contains_nil, List.isEmpty_nil, List.isEmpty_cons, List.map_drop, List.map_take, List.map_replicate, List.length_replicate, List.length_set,   cond_true, cond_false, Option.map_some, Option.map_none, Option.bind_some, Option.bind_none, Option.getD_some, Option.getD_none, Option.isSome_some, Option.isSome_none, beq_self_eq_true, BEq.rfl, Nat.reduceBEq, Nat.reduceAdd, Nat.reduceSub, Nat.reduceMul, Nat.reduceLeDiff, Nat.reduceLT, Nat.reduceEqDiff, Nat.zero_add, Nat.add_zero, Nat.zero_mul, Nat.le_refl, and_self, and_true, true_and, if_true, reduceIte, ite_true, ite_false, Bool.and_true, Bool.true_and, Bool.and_false, Bool.false_and, Bool.not_true, Bool.not_false, Bool.or_true, Bool.or_false, Bool.true_or, Bool.false_or, Int.toNat_zero, Int.toNat_natCast, Int.reduceToNat, Int.reduceLE, Int.reduceLT, Int.reduceBEq, reduceCtorEq, decide_true, decide_false, Bool.false_eq_true, Nat.sub_zero, List.toList_toArray, List.foldl_cons, en280, ok280, en267, ok267, en270, ok270, en166, ok166, en58, ok58, en160, ok160, en163, ok163, en65, ok65, tyF, *]; rfl)) : p := h
theorem smt_ {p : Prop} (h : p := by (simp only [run, afterR, condC, exitC, exitTo, runO, step1, ofO, fpOf, fpK, writes, de, deT, deB, opD, dstOk, isCall, stepOp, finO, memPut, mset, entO, ent, core, constB, mkeyOf, mval, mrowOf, tupIf, liveM, kOf_i, kOf_s, mkEq_self, mhas_i, mhas_s, midx_i, midx_s, mrow_ii, mrow_ib, mrow_is, mrow_si, mrow_sb, mrow_ss, ment_ii, ment_ib, ment_is, ment_si, ment_sb, ment_ss, mset1_ii, mset1_ib, mset1_is, mset1_si, mset1_sb, mset1_ss, mput_ii, mput_ib, mput_is, mput_si, mput_sb, mput_ss, tst_map, coreB, lenA, minA, maxA, rowsB, appT, keyApp, keyV, keyL, liveC, liveB, liveZ, keyOf, oget, fget, lk, ofConst, cellsC, aggC, cell1, eff, binop, intOp, strOp, unop, ld, splice, fillP, aplace, placeOf, rowsN, oint, AV.cells, AV.pv, PV.std, AV.rows, pvs, appN, appC, rowsOk, irow, srw, brw, lrw, St.put, back, renA, ren1, ren0, renO, resOf, resAll, resOne, tupOf, fnOf, rk, inn, ok1, okB, okA, okT, okO, ok0, renB, liveP, liveZ0, nagg, one1, scH, bldZ, nvs, AV.nv, PV.sc, PV.isL, nilOrE, List.filter_cons, List.filter_nil, List.all_cons, List.all_nil,   unint, unint_map, bytesOf_eq, bnd_, rowsOk_irow, rowsOk_srw, rowsOk_brw, rowsOk_lrw, rowsOk_app, take_map_len, map_set_, set_map_,   List.range, List.range.loop, List.zip, List.zipWith, List.zip_cons_cons, List.zip_nil_left, List.zip_nil_right, List.length_cons, List.length_nil, List.length_map, List.length_append, List.map_cons, List.map_nil, List.map_append, List.getElem?_map, List.drop_succ_cons, List.drop_zero, List.drop_nil, List.take_succ_cons, List.take_zero, List.take_nil, List.take_length, List.set_cons_succ, List.set_cons_zero, List.head?_cons, List.head?_nil, List.getElem?_cons_succ, List.getElem?_cons_zero, List.append_nil, List.nil_append, List.cons_append, List.append_assoc, List.flatten_cons, List.flatten_nil, List.replicate_succ, List.replicate_zero, List.contains_cons, List.contains_nil, List.isEmpty_nil, List.isEmpty_cons, List.map_drop, List.map_take, List.map_replicate, List.length_replicate, List.length_set,   cond_true, cond_false, Option.map_some, Option.map_none, Option.bind_some, Option.bind_none, Option.getD_some, Option.getD_none, Option.isSome_some, Option.isSome_none, beq_self_eq_true, BEq.rfl, Nat.reduceBEq, Nat.reduceAdd, Nat.reduceSub, Nat.reduceMul, Nat.reduceLeDiff, Nat.reduceLT, Nat.reduceEqDiff, Nat.zero_add, Nat.add_zero, Nat.zero_mul, Nat.le_refl, and_self, and_true, true_and, if_true, reduceIte, ite_true, ite_false, Bool.and_true, Bool.true_and, Bool.and_false, Bool.false_and, Bool.not_true, Bool.not_false, Bool.or_true, Bool.or_false, Bool.true_or, Bool.false_or, Int.toNat_zero, Int.toNat_natCast, Int.reduceToNat, Int.reduceLE, Int.reduceLT, Int.reduceBEq, reduceCtorEq, decide_true, decide_false, Bool.false_eq_true, Nat.sub_zero, List.toList_toArray, List.foldl_cons, en280, ok280, en267, ok267, en270, ok270, en166, ok166, en58, ok58, en160, ok160, en163, ok163, en65, ok65, tyF, *]; try rfl)) : p := h
theorem smo_ {p : Prop} (h : p := by (simp only [run, afterR, condC, exitC, exitTo, runO, step1, ofO, fpOf, fpK, writes, de, deT, deB, opD, dstOk, isCall, stepOp, finO, memPut, mset, entO, ent, core, constB, mkeyOf, mval, mrowOf, tupIf, liveM, kOf_i, kOf_s, mkEq_self, mhas_i, mhas_s, midx_i, midx_s, mrow_ii, mrow_ib, mrow_is, mrow_si, mrow_sb, mrow_ss, ment_ii, ment_ib, ment_is, ment_si, ment_sb, ment_ss, mset1_ii, mset1_ib, mset1_is, mset1_si, mset1_sb, mset1_ss, mput_ii, mput_ib, mput_is, mput_si, mput_sb, mput_ss, tst_map, coreB, lenA, minA, maxA, rowsB, appT, keyApp, keyV, keyL, liveC, liveB, liveZ, keyOf, oget, fget, lk, ofConst, cellsC, aggC, cell1, eff, binop, intOp, strOp, unop, ld, splice, fillP, aplace, placeOf, rowsN, oint, AV.cells, AV.pv, PV.std, AV.rows, pvs, appN, appC, rowsOk, irow, srw, brw, lrw, St.put, back, renA, ren1, ren0, renO, resOf, resAll, resOne, tupOf, fnOf, rk, inn, ok1, okB, okA, okT, okO, ok0, renB, liveP, liveZ0, nagg, one1, scH, bldZ, nvs, AV.nv, PV.sc, PV.isL, nilOrE, List.filter_cons, List.filter_nil, List.all_cons, List.all_nil,   unint, unint_map, bytesOf_eq, bnd_, rowsOk_irow, rowsOk_srw, rowsOk_brw, rowsOk_lrw, rowsOk_app, take_map_len, map_set_, set_map_,   List.range, List.range.loop, List.zip, List.zipWith, List.zip_cons_cons, List.zip_nil_left, List.zip_nil_right, List.length_cons, List.length_nil, List.length_map, List.length_append, List.map_cons, List.map_nil, List.map_append, List.getElem?_map, List.drop_succ_cons, List.drop_zero, List.drop_nil, List.take_succ_cons, List.take_zero, List.take_nil, List.take_length, List.set_cons_succ, List.set_cons_zero, List.head?_cons, List.head?_nil, List.getElem?_cons_succ, List.getElem?_cons_zero, List.append_nil, List.nil_append, List.cons_append, List.append_assoc, List.flatten_cons, List.flatten_nil, List.replicate_succ, List.replicate_zero, List.contains_cons, List.contains_nil, List.isEmpty_nil, List.isEmpty_cons, List.map_drop, List.map_take, List.map_replicate, List.length_replicate, List.length_set,   cond_true, cond_false, Option.map_some, Option.map_none, Option.bind_some, Option.bind_none, Option.getD_some, Option.getD_none, Option.isSome_some, Option.isSome_none, beq_self_eq_true, BEq.rfl, Nat.reduceBEq, Nat.reduceAdd, Nat.reduceSub, Nat.reduceMul, Nat.reduceLeDiff, Nat.reduceLT, Nat.reduceEqDiff, Nat.zero_add, Nat.add_zero, Nat.zero_mul, Nat.le_refl, and_self, and_true, true_and, if_true, reduceIte, ite_true, ite_false, Bool.and_true, Bool.true_and, Bool.and_false, Bool.false_and, Bool.not_true, Bool.not_false, Bool.or_true, Bool.or_false, Bool.true_or, Bool.false_or, Int.toNat_zero, Int.toNat_natCast, Int.reduceToNat, Int.reduceLE, Int.reduceLT, Int.reduceBEq, reduceCtorEq, decide_true, decide_false, Bool.false_eq_true, Nat.sub_zero, List.toList_toArray, List.foldl_cons, en280, ok280, en267, ok267, en270, ok270, en166, ok166, en58, ok58, en160, ok160, en163, ok163, en65, ok65, tyF, *]; omega)) : p := h
theorem smo0_ {p : Prop} (h : p := by (simp only [run, afterR, condC, exitC, exitTo, runO, step1, ofO, fpOf, fpK, writes, de, deT, deB, opD, dstOk, isCall, stepOp, finO, memPut, mset, entO, ent, core, constB, mkeyOf, mval, mrowOf, tupIf, liveM, kOf_i, kOf_s, mkEq_self, mhas_i, mhas_s, midx_i, midx_s, mrow_ii, mrow_ib, mrow_is, mrow_si, mrow_sb, mrow_ss, ment_ii, ment_ib, ment_is, ment_si, ment_sb, ment_ss, mset1_ii, mset1_ib, mset1_is, mset1_si, mset1_sb, mset1_ss, mput_ii, mput_ib, mput_is, mput_si, mput_sb, mput_ss, tst_map, coreB, lenA, minA, maxA, rowsB, appT, keyApp, keyV, keyL, liveC, liveB, liveZ, keyOf, oget, fget, lk, ofConst, cellsC, aggC, cell1, eff, binop, intOp, strOp, unop, ld, splice, fillP, aplace, placeOf, rowsN, oint, AV.cells, AV.pv, PV.std, AV.rows, pvs, appN, appC, rowsOk, irow, srw, brw, lrw, St.put, back, renA, ren1, ren0, renO, resOf, resAll, resOne, tupOf, fnOf, rk, inn, ok1, okB, okA, okT, okO, ok0, renB, liveP, liveZ0, nagg, one1, scH, bldZ, nvs, AV.nv, PV.sc, PV.isL, nilOrE, List.filter_cons, List.filter_nil, List.all_cons, List.all_nil,   unint, unint_map, bytesOf_eq, bnd_, rowsOk_irow, rowsOk_srw, rowsOk_brw, rowsOk_lrw, rowsOk_app, take_map_len, map_set_, set_map_,   List.range, List.range.loop, List.zip, List.zipWith, List.zip_cons_cons, List.zip_nil_left, List.zip_nil_right, List.length_cons, List.length_nil, List.length_map, List.length_append, List.map_cons, List.map_nil, List.map_append, List.getElem?_map, List.drop_succ_cons, List.drop_zero, List.drop_nil, List.take_succ_cons, List.take_zero, List.take_nil, List.take_length, List.set_cons_succ, List.set_cons_zero, List.head?_cons, List.head?_nil, List.getElem?_cons_succ, List.getElem?_cons_zero, List.append_nil, List.nil_append, List.cons_append, List.append_assoc, List.flatten_cons, List.flatten_nil, List.replicate_succ, List.replicate_zero, List.contains_cons, List.contains_nil, List.isEmpty_nil, List.isEmpty_cons, List.map_drop, List.map_take, List.map_replicate, List.length_replicate, List.length_set,   cond_true, cond_false, Option.map_some, Option.map_none, Option.bind_some, Option.bind_none, Option.getD_some, Option.getD_none, Option.isSome_some, Option.isSome_none, beq_self_eq_true, BEq.rfl, Nat.reduceBEq, Nat.reduceAdd, Nat.reduceSub, Nat.reduceMul, Nat.reduceLeDiff, Nat.reduceLT, Nat.reduceEqDiff, Nat.zero_add, Nat.add_zero, Nat.zero_mul, Nat.le_refl, and_self, and_true, true_and, if_true, reduceIte, ite_true, ite_false, Bool.and_true, Bool.true_and, Bool.and_false, Bool.false_and, Bool.not_true, Bool.not_false, Bool.or_true, Bool.or_false, Bool.true_or, Bool.false_or, Int.toNat_zero, Int.toNat_natCast, Int.reduceToNat, Int.reduceLE, Int.reduceLT, Int.reduceBEq, reduceCtorEq, decide_true, decide_false, Bool.false_eq_true, Nat.sub_zero, List.toList_toArray, List.foldl_cons, en280, ok280, en267, ok267, en270, ok270, en166, ok166, en58, ok58, en160, ok160, en163, ok163, en65, ok65, tyF]; omega)) : p := h
theorem smd_ {p : Prop} (h : p := by (simp only [run, afterR, condC, exitC, exitTo, runO, step1, ofO, fpOf, fpK, writes, de, deT, deB, opD, dstOk, isCall, stepOp, finO, memPut, mset, entO, ent, core, constB, mkeyOf, mval, mrowOf, tupIf, liveM, kOf_i, kOf_s, mkEq_self, mhas_i, mhas_s, midx_i, midx_s, mrow_ii, mrow_ib, mrow_is, mrow_si, mrow_sb, mrow_ss, ment_ii, ment_ib, ment_is, ment_si, ment_sb, ment_ss, mset1_ii, mset1_ib, mset1_is, mset1_si, mset1_sb, mset1_ss, mput_ii, mput_ib, mput_is, mput_si, mput_sb, mput_ss, tst_map, coreB, lenA, minA, maxA, rowsB, appT, keyApp, keyV, keyL, liveC, liveB, liveZ, keyOf, oget, fget, lk, ofConst, cellsC, aggC, cell1, eff, binop, intOp, strOp, unop, ld, splice, fillP, aplace, placeOf, rowsN, oint, AV.cells, AV.pv, PV.std, AV.rows, pvs, appN, appC, rowsOk, irow, srw, brw, lrw, St.put, back, renA, ren1, ren0, renO, resOf, resAll, resOne, tupOf, fnOf, rk, inn, ok1, okB, okA, okT, okO, ok0, renB, liveP, liveZ0, nagg, one1, scH, bldZ, nvs, AV.nv, PV.sc, PV.isL, nilOrE, List.filter_cons, List.filter_nil, List.all_cons, List.all_nil,   unint, unint_map, bytesOf_eq, bnd_, rowsOk_irow, rowsOk_srw, rowsOk_brw, rowsOk_lrw, rowsOk_app, take_map_len, map_set_, set_map_,   List.range, List.range.loop, List.zip, List.zipWith, List.zip_cons_cons, List.zip_nil_left, List.zip_nil_right, List.length_cons, List.length_nil, List.length_map, List.length_append, List.map_cons, List.map_nil, List.map_append, List.getElem?_map, List.drop_succ_cons, List.drop_zero, List.drop_nil, List.take_succ_cons, List.take_zero, List.take_nil, List.take_length, List.set_cons_succ, List.set_cons_zero, List.head?_cons, List.head?_nil, List.getElem?_cons_succ, List.getElem?_cons_zero, List.append_nil, List.nil_append, List.cons_append, List.append_assoc, List.flatten_cons, List.flatten_nil, List.replicate_succ, List.replicate_zero, List.contains_cons, List.contains_nil, List.isEmpty_nil, List.isEmpty_cons, List.map_drop, List.map_take, List.map_replicate, List.length_replicate, List.length_set,   cond_true, cond_false, Option.map_some, Option.map_none, Option.bind_some, Option.bind_none, Option.getD_some, Option.getD_none, Option.isSome_some, Option.isSome_none, beq_self_eq_true, BEq.rfl, Nat.reduceBEq, Nat.reduceAdd, Nat.reduceSub, Nat.reduceMul, Nat.reduceLeDiff, Nat.reduceLT, Nat.reduceEqDiff, Nat.zero_add, Nat.add_zero, Nat.zero_mul, Nat.le_refl, and_self, and_true, true_and, if_true, reduceIte, ite_true, ite_false, Bool.and_true, Bool.true_and, Bool.and_false, Bool.false_and, Bool.not_true, Bool.not_false, Bool.or_true, Bool.or_false, Bool.true_or, Bool.false_or, Int.toNat_zero, Int.toNat_natCast, Int.reduceToNat, Int.reduceLE, Int.reduceLT, Int.reduceBEq, reduceCtorEq, decide_true, decide_false, Bool.false_eq_true, Nat.sub_zero, List.toList_toArray, List.foldl_cons, en280, ok280, en267, ok267, en270, ok270, en166, ok166, en58, ok58, en160, ok160, en163, ok163, en65, ok65, tyF, List.map_cons, List.map_nil]; decide)) : p := h
theorem go (n : Nat) {H : Prop} {C : Ctx} {it it' : List Item} {st st' : St} (g : H → Good C it' st') (h : run C.P C.hint n (.on it st) = .stop it' st' := by
   (simp only [run, afterR, condC, exitC, exitTo, runO, step1, ofO, fpOf, fpK, writes, de, deT, deB, opD, dstOk, isCall, stepOp, finO, memPut, mset, entO, ent, core, constB, mkeyOf, mval, mrowOf, tupIf, liveM, kOf_i, kOf_s, mkEq_self, mhas_i, mhas_s, midx_i, midx_s, mrow_ii, mrow_ib, mrow_is, mrow_si, mrow_sb, mrow_ss, ment_ii, ment_ib, ment_is, ment_si, ment_sb, ment_ss, mset1_ii, mset1_ib, mset1_is, mset1_si, mset1_sb, mset1_ss, mput_ii, mput_ib, mput_is, mput_si, mput_sb, mput_ss, tst_map, coreB, lenA, minA, maxA, rowsB, appT, keyApp, keyV, keyL, liveC, liveB, liveZ, keyOf, oget, fget, lk, ofConst, cellsC, aggC, cell1, eff, binop, intOp, strOp, unop, ld, splice, fillP, aplace, placeOf, rowsN, oint, AV.cells, AV.pv, PV.std, AV.rows, pvs, appN, appC, rowsOk, irow, srw, brw, lrw, St.put, back, renA, ren1, ren0, renO, resOf, resAll, resOne, tupOf, fnOf, rk, inn, ok1, okB, okA, okT, okO, ok0, renB, liveP, liveZ0, nagg, one1, scH, bldZ, nvs, AV.nv, PV.sc, PV.isL, nilOrE, List.filter_cons, List.filter_nil, List.all_cons, List.all_nil,   unint, unint_map, bytesOf_eq, bnd_, rowsOk_irow, rowsOk_srw, rowsOk_brw, rowsOk_lrw, rowsOk_app, take_map_len, map_set_, set_map_,   List.range, List.range.loop, List.zip, List.zipWith, List.zip_cons_cons, List.zip_nil_left, List.zip_nil_right, List.length_cons, List.length_nil, List.length_map, List.length_append, List.map_cons, List.map_nil, List.map_append, List.getElem?_map, List.drop_succ_cons, List.drop_zero, List.drop_nil, List.take_succ_cons, List.take_zero, List.take_nil, List.take_length, List.set_cons_succ, List.set_cons_zero, List.head?_cons, List.head?_nil, List.getElem?_cons_succ, List.getElem?_cons_zero, List.append_nil, List.nil_append, List.cons_append, List.append_assoc, List.flatten_cons, List.flatten_nil, List.replicate_succ, List.replicate_zero, List.contains_cons, List.contains_nil, List.isEmpty_nil, List.isEmpty_cons, List.map_drop, List.map_take, List.map_replicate, List.length_replicate, List.length_set,   cond_true, cond_false, Option.map_some, Option.map_none, Option.bind_some, Option.bind_none, Option.getD_some, Option.getD_none, Option.isSome_some, Option.isSome_none, beq_self_eq_true, BEq.rfl, Nat.reduceBEq, Nat.reduceAdd, Nat.reduceSub, Nat.reduceMul, Nat.reduceLeDiff, Nat.reduceLT, Nat.reduceEqDiff, Nat.zero_add, Nat.add_zero, Nat.zero_mul, Nat.le_refl, and_self, and_true, true_and, if_true, reduceIte, ite_true, ite_false, Bool.and_true, Bool.true_and, Bool.and_false, Bool.false_and, Bool.not_true, Bool.not_false, Bool.or_true, Bool.or_false, Bool.true_or, Bool.false_or, Int.toNat_zero, Int.toNat_natCast, Int.reduceToNat, Int.reduceLE, Int.reduceLT, Int.reduceBEq, reduceCtorEq, decide_true, decide_false, Bool.false_eq_true, Nat.sub_zero, List.toList_toArray, List.foldl_cons, en280, ok280, en267, ok267, en270, ok270, en166, ok166, en58, ok58, en160, ok160, en163, ok163, en65, ok65, tyF, *]; rfl)) : H → Good C it st := fun x => run_good h (g x)
theorem grs {H : Prop} {C : Ctx} {id : Nat} {ops : Array Oper} {draw : Bool} {k : List Item} {st : St} (g : H → GR C draw ops.toList k 0 ops.toList [] st) (hm : C.P.follows .mixedOrders = true := by kernel_rfl) : H → Good C (.code (.region id ops draw) :: k) st := fun x => gr_start (g x) hm
theorem gr_run {H : Prop} {C : Ctx} {draw : Bool} {all : List Oper} {k : List Item} {j j' : Nat} {l l' : List Oper} {F F' : Fp} {st st' : St} (g : H → GR C draw all k j' l' (F ++ F') st') (h : runO C.P C.hint all j l (.go [] st) = .stop j' l' F' st' := by
   (simp only [run, afterR, condC, exitC, exitTo, runO, step1, ofO, fpOf, fpK, writes, de, deT, deB, opD, dstOk, isCall, stepOp, finO, memPut, mset, entO, ent, core, constB, mkeyOf, mval, mrowOf, tupIf, liveM, kOf_i, kOf_s, mkEq_self, mhas_i, mhas_s, midx_i, midx_s, mrow_ii, mrow_ib, mrow_is, mrow_si, mrow_sb, mrow_ss, ment_ii, ment_ib, ment_is, ment_si, ment_sb, ment_ss, mset1_ii, mset1_ib, mset1_is, mset1_si, mset1_sb, mset1_ss, mput_ii, mput_ib, mput_is, mput_si, mput_sb, mput_ss, tst_map, coreB, lenA, minA, maxA, rowsB, appT, keyApp, keyV, keyL, liveC, liveB, liveZ, keyOf, oget, fget, lk, ofConst, cellsC, aggC, cell1, eff, binop, intOp, strOp, unop, ld, splice, fillP, aplace, placeOf, rowsN, oint, AV.cells, AV.pv, PV.std, AV.rows, pvs, appN, appC, rowsOk, irow, srw, brw, lrw, St.put, back, renA, ren1, ren0, renO, resOf, resAll, resOne, tupOf, fnOf, rk, inn, ok1, okB, okA, okT, okO, ok0, renB, liveP, liveZ0, nagg, one1, scH, bldZ, nvs, AV.nv, PV.sc, PV.isL, nilOrE, List.filter_cons, List.filter_nil, List.all_cons, List.all_nil,   unint, unint_map, bytesOf_eq, bnd_, rowsOk_irow, rowsOk_srw, rowsOk_brw, rowsOk_lrw, rowsOk_app, take_map_len, map_set_, set_map_,   List.range, List.range.loop, List.zip, List.zipWith, List.zip_cons_cons, List.zip_nil_left, List.zip_nil_right, List.length_cons, List.length_nil, List.length_map, List.length_append, List.map_cons, List.map_nil, List.map_append, List.getElem?_map, List.drop_succ_cons, List.drop_zero, List.drop_nil, List.take_succ_cons, List.take_zero, List.take_nil, List.take_length, List.set_cons_succ, List.set_cons_zero, List.head?_cons, List.head?_nil, List.getElem?_cons_succ, List.getElem?_cons_zero, List.append_nil, List.nil_append, List.cons_append, List.append_assoc, List.flatten_cons, List.flatten_nil, List.replicate_succ, List.replicate_zero, List.contains_cons, List.contains_nil, List.isEmpty_nil, List.isEmpty_cons, List.map_drop, List.map_take, List.map_replicate, List.length_replicate, List.length_set,   cond_true, cond_false, Option.map_some, Option.map_none, Option.bind_some, Option.bind_none, Option.getD_some, Option.getD_none, Option.isSome_some, Option.isSome_none, beq_self_eq_true, BEq.rfl, Nat.reduceBEq, Nat.reduceAdd, Nat.reduceSub, Nat.reduceMul, Nat.reduceLeDiff, Nat.reduceLT, Nat.reduceEqDiff, Nat.zero_add, Nat.add_zero, Nat.zero_mul, Nat.le_refl, and_self, and_true, true_and, if_true, reduceIte, ite_true, ite_false, Bool.and_true, Bool.true_and, Bool.and_false, Bool.false_and, Bool.not_true, Bool.not_false, Bool.or_true, Bool.or_false, Bool.true_or, Bool.false_or, Int.toNat_zero, Int.toNat_natCast, Int.reduceToNat, Int.reduceLE, Int.reduceLT, Int.reduceBEq, reduceCtorEq, decide_true, decide_false, Bool.false_eq_true, Nat.sub_zero, List.toList_toArray, List.foldl_cons, en280, ok280, en267, ok267, en270, ok270, en166, ok166, en58, ok58, en160, ok160, en163, ok163, en65, ok65, tyF, *]; rfl)) : H → GR C draw all k j l F st := fun x => gr_run_ (g x) h
theorem gr_done {H : Prop} {C : Ctx} {draw : Bool} {all : List Oper} {k : List Item} {j : Nat} {F : Fp} {st : St} (g : H → Good C k st) (h : draw = true → chk all F = true := by first | (intro h_; cases h_; done) | (intro _; kernel_rfl)) : H → GR C draw all k j [] F st := fun x => gr_done_ (g x) h
theorem leA_ {a b : List AV} (h : F2 LeA a b := by
   ((try simp only [run, afterR, condC, exitC, exitTo, runO, step1, ofO, fpOf, fpK, writes, de, deT, deB, opD, dstOk, isCall, stepOp, finO, memPut, mset, entO, ent, core, constB, mkeyOf, mval, mrowOf, tupIf, liveM, kOf_i, kOf_s, mkEq_self, mhas_i, mhas_s, midx_i, midx_s, mrow_ii, mrow_ib, mrow_is, mrow_si, mrow_sb, mrow_ss, ment_ii, ment_ib, ment_is, ment_si, ment_sb, ment_ss, mset1_ii, mset1_ib, mset1_is, mset1_si, mset1_sb, mset1_ss, mput_ii, mput_ib, mput_is, mput_si, mput_sb, mput_ss, tst_map, coreB, lenA, minA, maxA, rowsB, appT, keyApp, keyV, keyL, liveC, liveB, liveZ, keyOf, oget, fget, lk, ofConst, cellsC, aggC, cell1, eff, binop, intOp, strOp, unop, ld, splice, fillP, aplace, placeOf, rowsN, oint, AV.cells, AV.pv, PV.std, AV.rows, pvs, appN, appC, rowsOk, irow, srw, brw, lrw, St.put, back, renA, ren1, ren0, renO, resOf, resAll, resOne, tupOf, fnOf, rk, inn, ok1, okB, okA, okT, okO, ok0, renB, liveP, liveZ0, nagg, one1, scH, bldZ, nvs, AV.nv, PV.sc, PV.isL, nilOrE, List.filter_cons, List.filter_nil, List.all_cons, List.all_nil,   unint, unint_map, bytesOf_eq, bnd_, rowsOk_irow, rowsOk_srw, rowsOk_brw, rowsOk_lrw, rowsOk_app, take_map_len, map_set_, set_map_,   List.range, List.range.loop, List.zip, List.zipWith, List.zip_cons_cons, List.zip_nil_left, List.zip_nil_right, List.length_cons, List.length_nil, List.length_map, List.length_append, List.map_cons, List.map_nil, List.map_append, List.getElem?_map, List.drop_succ_cons, List.drop_zero, List.drop_nil, List.take_succ_cons, List.take_zero, List.take_nil, List.take_length, List.set_cons_succ, List.set_cons_zero, List.head?_cons, List.head?_nil, List.getElem?_cons_succ, List.getElem?_cons_zero, List.append_nil, List.nil_append, List.cons_append, List.append_assoc, List.flatten_cons, List.flatten_nil, List.replicate_succ, List.replicate_zero, List.contains_cons, List.contains_nil, List.isEmpty_nil, List.isEmpty_cons, List.map_drop, List.map_take, List.map_replicate, List.length_replicate, List.length_set,   cond_true, cond_false, Option.map_some, Option.map_none, Option.bind_some, Option.bind_none, Option.getD_some, Option.getD_none, Option.isSome_some, Option.isSome_none, beq_self_eq_true, BEq.rfl, Nat.reduceBEq, Nat.reduceAdd, Nat.reduceSub, Nat.reduceMul, Nat.reduceLeDiff, Nat.reduceLT, Nat.reduceEqDiff, Nat.zero_add, Nat.add_zero, Nat.zero_mul, Nat.le_refl, and_self, and_true, true_and, if_true, reduceIte, ite_true, ite_false, Bool.and_true, Bool.true_and, Bool.and_false, Bool.false_and, Bool.not_true, Bool.not_false, Bool.or_true, Bool.or_false, Bool.true_or, Bool.false_or, Int.toNat_zero, Int.toNat_natCast, Int.reduceToNat, Int.reduceLE, Int.reduceLT, Int.reduceBEq, reduceCtorEq, decide_true, decide_false, Bool.false_eq_true, Nat.sub_zero, List.toList_toArray, List.foldl_cons, en280, ok280, en267, ok267, en270, ok270, en166, ok166, en58, ok58, en160, ok160, en163, ok163, en65, ok65, tyF, *]); repeat' first | exact F2.nil | exact LeA.of _ _ (Le.refl _) | exact LeA.of _ _ (Le.nil _) | exact LeA.of _ _ (Le.full _) | exact LeA.of _ _ (Le.tip _ _ _) | exact LeA.of _ _ (Le.nwp _) | exact LeA.of _ _ (Le.odp _) | exact LeA.of _ _ (Le.u _) | exact Le.refl _ | exact Le.nil _ | exact Le.full _ | exact Le.tip _ _ _ | exact Le.nwp _ | exact Le.odp _ | exact Le.u _ | refine F2.cons ?_ ?_ | refine LeA.agg _ _ ?_)) : F2 LeA a b := h
theorem fits_ {σ : Sg} {mc m : Mem} (h : Fits σ mc m := by
     (first | exact fits_nil _ | (refine ⟨?_, by (first | decide | exact smd_), by (first | decide | exact smd_), by (first | decide | exact smd_)⟩; (repeat' first | exact all0 | refine all1 ?_ ?_); all_goals exact ⟨by (first | rfl | exact sm_), _, _, _, rfl, rfl, by
   (simp only [LeO, run, afterR, condC, exitC, exitTo, runO, step1, ofO, fpOf, fpK, writes, de, deT, deB, opD, dstOk, isCall, stepOp, finO, memPut, mset, entO, ent, core, constB, mkeyOf, mval, mrowOf, tupIf, liveM, kOf_i, kOf_s, mkEq_self, mhas_i, mhas_s, midx_i, midx_s, mrow_ii, mrow_ib, mrow_is, mrow_si, mrow_sb, mrow_ss, ment_ii, ment_ib, ment_is, ment_si, ment_sb, ment_ss, mset1_ii, mset1_ib, mset1_is, mset1_si, mset1_sb, mset1_ss, mput_ii, mput_ib, mput_is, mput_si, mput_sb, mput_ss, tst_map, coreB, lenA, minA, maxA, rowsB, appT, keyApp, keyV, keyL, liveC, liveB, liveZ, keyOf, oget, fget, lk, ofConst, cellsC, aggC, cell1, eff, binop, intOp, strOp, unop, ld, splice, fillP, aplace, placeOf, rowsN, oint, AV.cells, AV.pv, PV.std, AV.rows, pvs, appN, appC, rowsOk, irow, srw, brw, lrw, St.put, back, renA, ren1, ren0, renO, resOf, resAll, resOne, tupOf, fnOf, rk, inn, ok1, okB, okA, okT, okO, ok0, renB, liveP, liveZ0, nagg, one1, scH, bldZ, nvs, AV.nv, PV.sc, PV.isL, nilOrE, List.filter_cons, List.filter_nil, List.all_cons, List.all_nil,   unint, unint_map, bytesOf_eq, bnd_, rowsOk_irow, rowsOk_srw, rowsOk_brw, rowsOk_lrw, rowsOk_app, take_map_len, map_set_, set_map_,   List.range, List.range.loop, List.zip, List.zipWith, List.zip_cons_cons, List.zip_nil_left, List.zip_nil_right, List.length_cons, List.length_nil, List.length_map, List.length_append, List.map_cons, List.map_nil, List.map_append, List.getElem?_map, List.drop_succ_cons, List.drop_zero, List.drop_nil, List.take_succ_cons, List.take_zero, List.take_nil, List.take_length, List.set_cons_succ, List.set_cons_zero, List.head?_cons, List.head?_nil, List.getElem?_cons_succ, List.getElem?_cons_zero, List.append_nil, List.nil_append, List.cons_append, List.append_assoc, List.flatten_cons, List.flatten_nil, List.replicate_succ, List.replicate_zero, List.contains_cons, List.contains_nil, List.isEmpty_nil, List.isEmpty_cons, List.map_drop, List.map_take, List.map_replicate, List.length_replicate, List.length_set,   cond_true, cond_false, Option.map_some, Option.map_none, Option.bind_some, Option.bind_none, Option.getD_some, Option.getD_none, Option.isSome_some, Option.isSome_none, beq_self_eq_true, BEq.rfl, Nat.reduceBEq, Nat.reduceAdd, Nat.reduceSub, Nat.reduceMul, Nat.reduceLeDiff, Nat.reduceLT, Nat.reduceEqDiff, Nat.zero_add, Nat.add_zero, Nat.zero_mul, Nat.le_refl, and_self, and_true, true_and, if_true, reduceIte, ite_true, ite_false, Bool.and_true, Bool.true_and, Bool.and_false, Bool.false_and, Bool.not_true, Bool.not_false, Bool.or_true, Bool.or_false, Bool.true_or, Bool.false_or, Int.toNat_zero, Int.toNat_natCast, Int.reduceToNat, Int.reduceLE, Int.reduceLT, Int.reduceBEq, reduceCtorEq, decide_true, decide_false, Bool.false_eq_true, Nat.sub_zero, List.toList_toArray, List.foldl_cons, en280, ok280, en267, ok267, en270, ok270, en166, ok166, en58, ok58, en160, ok160, en163, ok163, en65, ok65, tyF, *]; repeat' first | exact F2.nil | refine F2.cons ?_ ?_ | exact Le.refl _ | exact Le.nil _ | exact Le.full _ | exact Le.tip _ _ _ | exact Le.nwp _ | exact Le.odp _ | exact Le.u _ | refine And.intro ?_ ?_ | rfl | trivial)⟩))) : Fits σ mc m := h
theorem fitsOut_ {σ : Sg} {mc mc' m : Mem} (h : FitsOut σ mc mc' m := by
     (first | exact fitsOut_nil _ | (refine ⟨?_, by (first | decide | exact smd_), by (repeat' first | exact all0 | refine all1 rfl ?_)⟩; (repeat' first | exact all0 | refine all1 ?_ ?_); all_goals exact ⟨_, _, rfl, by first | exact Or.inl rfl | (right; first | exact sm_ | exact smo_ | exact smo0_ | decide)⟩))) : FitsOut σ mc mc' m := h
theorem endOk_ {σ : Sg} {m m' m0 : Mem} (h : EndOk σ m m' m0 := by
     (first | exact endOk_nil _ | exact ⟨fits_, by ((repeat' first | exact all0 | refine all1 ?_ ?_); all_goals first | exact Or.inl rfl | (right; first | exact sm_ | exact smo_ | exact smo0_ | decide)), by (repeat' first | exact all0 | refine all1 (by first | exact Nat.le_refl _ | exact smo_) ?_)⟩)) : EndOk σ m m' m0 := h
theorem gr_call {H : Prop} {C : Ctx} {draw : Bool} {all : List Oper} {k : List Item} {j : Nat} {o : Oper} {r : List Oper} {F : Fp} {st : St} {fv : Operand} {args : Array Operand} {ts : Array TypeId} {f : FuncId} {first caps : List AV} (σ : Sg) {cargs : List AV} {mc mc' : Mem} {v : AV}
   (hcon : Con C.hint.2.2 C.P f cargs mc v mc') (g : H → GR C draw all k (j + 1) r (F ++ σ.map (fun q => (j, q.2.2.1, true))) ({ st with mem := back σ st.mem mc' }.put o.dst (renA σ v)))
   (hop : o.op = .call { callee := .value fv, args := args, argTypes := ts } := by rfl)
   (h : de all st.fr o = .call := by exact sm_) (hd : dstOk C.hint.1 o.dst = true := by exact sms_) (hf : fnOf (oget st.fr fv) = some (f, first, caps) := by 
   exact smt_)
   (hargs : F2 LeA (first ++ args.toList.map (oget st.fr) ++ caps) (cargs.map (renA σ)) := by exact leA_) (hok : cargs.all (okA (inn σ mc)) = true := by (first | rfl | exact sm_)) (hm : Fits σ mc st.mem := by exact fits_)
   (ho : FitsOut σ mc mc' st.mem := by exact fitsOut_) : H → GR C draw all k j (o :: r) F st := fun x => gr_call_ σ hcon (g x) h hd hop hf hargs hok hm ho
theorem frle_ {fr fr' : List (Nat × AV)} (h : frLe fr fr' := by
   (simp only [frLe, run, afterR, condC, exitC, exitTo, runO, step1, ofO, fpOf, fpK, writes, de, deT, deB, opD, dstOk, isCall, stepOp, finO, memPut, mset, entO, ent, core, constB, mkeyOf, mval, mrowOf, tupIf, liveM, kOf_i, kOf_s, mkEq_self, mhas_i, mhas_s, midx_i, midx_s, mrow_ii, mrow_ib, mrow_is, mrow_si, mrow_sb, mrow_ss, ment_ii, ment_ib, ment_is, ment_si, ment_sb, ment_ss, mset1_ii, mset1_ib, mset1_is, mset1_si, mset1_sb, mset1_ss, mput_ii, mput_ib, mput_is, mput_si, mput_sb, mput_ss, tst_map, coreB, lenA, minA, maxA, rowsB, appT, keyApp, keyV, keyL, liveC, liveB, liveZ, keyOf, oget, fget, lk, ofConst, cellsC, aggC, cell1, eff, binop, intOp, strOp, unop, ld, splice, fillP, aplace, placeOf, rowsN, oint, AV.cells, AV.pv, PV.std, AV.rows, pvs, appN, appC, rowsOk, irow, srw, brw, lrw, St.put, back, renA, ren1, ren0, renO, resOf, resAll, resOne, tupOf, fnOf, rk, inn, ok1, okB, okA, okT, okO, ok0, renB, liveP, liveZ0, nagg, one1, scH, bldZ, nvs, AV.nv, PV.sc, PV.isL, nilOrE, List.filter_cons, List.filter_nil, List.all_cons, List.all_nil,   unint, unint_map, bytesOf_eq, bnd_, rowsOk_irow, rowsOk_srw, rowsOk_brw, rowsOk_lrw, rowsOk_app, take_map_len, map_set_, set_map_,   List.range, List.range.loop, List.zip, List.zipWith, List.zip_cons_cons, List.zip_nil_left, List.zip_nil_right, List.length_cons, List.length_nil, List.length_map, List.length_append, List.map_cons, List.map_nil, List.map_append, List.getElem?_map, List.drop_succ_cons, List.drop_zero, List.drop_nil, List.take_succ_cons, List.take_zero, List.take_nil, List.take_length, List.set_cons_succ, List.set_cons_zero, List.head?_cons, List.head?_nil, List.getElem?_cons_succ, List.getElem?_cons_zero, List.append_nil, List.nil_append, List.cons_append, List.append_assoc, List.flatten_cons, List.flatten_nil, List.replicate_succ, List.replicate_zero, List.contains_cons, List.contains_nil, List.isEmpty_nil, List.isEmpty_cons, List.map_drop, List.map_take, List.map_replicate, List.length_replicate, List.length_set,   cond_true, cond_false, Option.map_some, Option.map_none, Option.bind_some, Option.bind_none, Option.getD_some, Option.getD_none, Option.isSome_some, Option.isSome_none, beq_self_eq_true, BEq.rfl, Nat.reduceBEq, Nat.reduceAdd, Nat.reduceSub, Nat.reduceMul, Nat.reduceLeDiff, Nat.reduceLT, Nat.reduceEqDiff, Nat.zero_add, Nat.add_zero, Nat.zero_mul, Nat.le_refl, and_self, and_true, true_and, if_true, reduceIte, ite_true, ite_false, Bool.and_true, Bool.true_and, Bool.and_false, Bool.false_and, Bool.not_true, Bool.not_false, Bool.or_true, Bool.or_false, Bool.true_or, Bool.false_or, Int.toNat_zero, Int.toNat_natCast, Int.reduceToNat, Int.reduceLE, Int.reduceLT, Int.reduceBEq, reduceCtorEq, decide_true, decide_false, Bool.false_eq_true, Nat.sub_zero, List.toList_toArray, List.foldl_cons, en280, ok280, en267, ok267, en270, ok270, en166, ok166, en58, ok58, en160, ok160, en163, ok163, en65, ok65, tyF, *]; repeat' first | trivial | exact LeA.of _ _ (Le.refl _) | exact LeA.of _ _ (Le.nil _) | exact LeA.of _ _ (Le.full _) | exact LeA.of _ _ (Le.tip _ _ _) | exact LeA.of _ _ (Le.nwp _) | exact LeA.of _ _ (Le.odp _) | exact LeA.of _ _ (Le.u _) | exact F2.nil | exact Le.refl _ | exact Le.nil _ | exact Le.full _ | exact Le.tip _ _ _ | exact Le.nwp _ | exact Le.odp _ | exact Le.u _ | refine F2.cons ?_ ?_ | refine LeA.agg _ _ ?_ | refine And.intro ?_ ?_)) : frLe fr fr' := h
theorem memle_ {m m' : Mem} (h : memLe m m' := by
   (simp only [memLe, leE, LeO, run, afterR, condC, exitC, exitTo, runO, step1, ofO, fpOf, fpK, writes, de, deT, deB, opD, dstOk, isCall, stepOp, finO, memPut, mset, entO, ent, core, constB, mkeyOf, mval, mrowOf, tupIf, liveM, kOf_i, kOf_s, mkEq_self, mhas_i, mhas_s, midx_i, midx_s, mrow_ii, mrow_ib, mrow_is, mrow_si, mrow_sb, mrow_ss, ment_ii, ment_ib, ment_is, ment_si, ment_sb, ment_ss, mset1_ii, mset1_ib, mset1_is, mset1_si, mset1_sb, mset1_ss, mput_ii, mput_ib, mput_is, mput_si, mput_sb, mput_ss, tst_map, coreB, lenA, minA, maxA, rowsB, appT, keyApp, keyV, keyL, liveC, liveB, liveZ, keyOf, oget, fget, lk, ofConst, cellsC, aggC, cell1, eff, binop, intOp, strOp, unop, ld, splice, fillP, aplace, placeOf, rowsN, oint, AV.cells, AV.pv, PV.std, AV.rows, pvs, appN, appC, rowsOk, irow, srw, brw, lrw, St.put, back, renA, ren1, ren0, renO, resOf, resAll, resOne, tupOf, fnOf, rk, inn, ok1, okB, okA, okT, okO, ok0, renB, liveP, liveZ0, nagg, one1, scH, bldZ, nvs, AV.nv, PV.sc, PV.isL, nilOrE, List.filter_cons, List.filter_nil, List.all_cons, List.all_nil,   unint, unint_map, bytesOf_eq, bnd_, rowsOk_irow, rowsOk_srw, rowsOk_brw, rowsOk_lrw, rowsOk_app, take_map_len, map_set_, set_map_,   List.range, List.range.loop, List.zip, List.zipWith, List.zip_cons_cons, List.zip_nil_left, List.zip_nil_right, List.length_cons, List.length_nil, List.length_map, List.length_append, List.map_cons, List.map_nil, List.map_append, List.getElem?_map, List.drop_succ_cons, List.drop_zero, List.drop_nil, List.take_succ_cons, List.take_zero, List.take_nil, List.take_length, List.set_cons_succ, List.set_cons_zero, List.head?_cons, List.head?_nil, List.getElem?_cons_succ, List.getElem?_cons_zero, List.append_nil, List.nil_append, List.cons_append, List.append_assoc, List.flatten_cons, List.flatten_nil, List.replicate_succ, List.replicate_zero, List.contains_cons, List.contains_nil, List.isEmpty_nil, List.isEmpty_cons, List.map_drop, List.map_take, List.map_replicate, List.length_replicate, List.length_set,   cond_true, cond_false, Option.map_some, Option.map_none, Option.bind_some, Option.bind_none, Option.getD_some, Option.getD_none, Option.isSome_some, Option.isSome_none, beq_self_eq_true, BEq.rfl, Nat.reduceBEq, Nat.reduceAdd, Nat.reduceSub, Nat.reduceMul, Nat.reduceLeDiff, Nat.reduceLT, Nat.reduceEqDiff, Nat.zero_add, Nat.add_zero, Nat.zero_mul, Nat.le_refl, and_self, and_true, true_and, if_true, reduceIte, ite_true, ite_false, Bool.and_true, Bool.true_and, Bool.and_false, Bool.false_and, Bool.not_true, Bool.not_false, Bool.or_true, Bool.or_false, Bool.true_or, Bool.false_or, Int.toNat_zero, Int.toNat_natCast, Int.reduceToNat, Int.reduceLE, Int.reduceLT, Int.reduceBEq, reduceCtorEq, decide_true, decide_false, Bool.false_eq_true, Nat.sub_zero, List.toList_toArray, List.foldl_cons, en280, ok280, en267, ok267, en270, ok270, en166, ok166, en58, ok58, en160, ok160, en163, ok163, en65, ok65, tyF, *]; repeat' first | trivial | rfl | exact F2.nil | exact Le.refl _ | exact Le.nil _ | exact Le.full _ | exact Le.tip _ _ _ | exact Le.nwp _ | exact Le.odp _ | exact Le.u _ | refine F2.cons ?_ ?_ | refine And.intro ?_ ?_)) (hk : memKeys m m' := by exact ⟨by
   (simp only [run, afterR, condC, exitC, exitTo, runO, step1, ofO, fpOf, fpK, writes, de, deT, deB, opD, dstOk, isCall, stepOp, finO, memPut, mset, entO, ent, core, constB, mkeyOf, mval, mrowOf, tupIf, liveM, kOf_i, kOf_s, mkEq_self, mhas_i, mhas_s, midx_i, midx_s, mrow_ii, mrow_ib, mrow_is, mrow_si, mrow_sb, mrow_ss, ment_ii, ment_ib, ment_is, ment_si, ment_sb, ment_ss, mset1_ii, mset1_ib, mset1_is, mset1_si, mset1_sb, mset1_ss, mput_ii, mput_ib, mput_is, mput_si, mput_sb, mput_ss, tst_map, coreB, lenA, minA, maxA, rowsB, appT, keyApp, keyV, keyL, liveC, liveB, liveZ, keyOf, oget, fget, lk, ofConst, cellsC, aggC, cell1, eff, binop, intOp, strOp, unop, ld, splice, fillP, aplace, placeOf, rowsN, oint, AV.cells, AV.pv, PV.std, AV.rows, pvs, appN, appC, rowsOk, irow, srw, brw, lrw, St.put, back, renA, ren1, ren0, renO, resOf, resAll, resOne, tupOf, fnOf, rk, inn, ok1, okB, okA, okT, okO, ok0, renB, liveP, liveZ0, nagg, one1, scH, bldZ, nvs, AV.nv, PV.sc, PV.isL, nilOrE, List.filter_cons, List.filter_nil, List.all_cons, List.all_nil,   unint, unint_map, bytesOf_eq, bnd_, rowsOk_irow, rowsOk_srw, rowsOk_brw, rowsOk_lrw, rowsOk_app, take_map_len, map_set_, set_map_,   List.range, List.range.loop, List.zip, List.zipWith, List.zip_cons_cons, List.zip_nil_left, List.zip_nil_right, List.length_cons, List.length_nil, List.length_map, List.length_append, List.map_cons, List.map_nil, List.map_append, List.getElem?_map, List.drop_succ_cons, List.drop_zero, List.drop_nil, List.take_succ_cons, List.take_zero, List.take_nil, List.take_length, List.set_cons_succ, List.set_cons_zero, List.head?_cons, List.head?_nil, List.getElem?_cons_succ, List.getElem?_cons_zero, List.append_nil, List.nil_append, List.cons_append, List.append_assoc, List.flatten_cons, List.flatten_nil, List.replicate_succ, List.replicate_zero, List.contains_cons, List.contains_nil, List.isEmpty_nil, List.isEmpty_cons, List.map_drop, List.map_take, List.map_replicate, List.length_replicate, List.length_set,   cond_true, cond_false, Option.map_some, Option.map_none, Option.bind_some, Option.bind_none, Option.getD_some, Option.getD_none, Option.isSome_some, Option.isSome_none, beq_self_eq_true, BEq.rfl, Nat.reduceBEq, Nat.reduceAdd, Nat.reduceSub, Nat.reduceMul, Nat.reduceLeDiff, Nat.reduceLT, Nat.reduceEqDiff, Nat.zero_add, Nat.add_zero, Nat.zero_mul, Nat.le_refl, and_self, and_true, true_and, if_true, reduceIte, ite_true, ite_false, Bool.and_true, Bool.true_and, Bool.and_false, Bool.false_and, Bool.not_true, Bool.not_false, Bool.or_true, Bool.or_false, Bool.true_or, Bool.false_or, Int.toNat_zero, Int.toNat_natCast, Int.reduceToNat, Int.reduceLE, Int.reduceLT, Int.reduceBEq, reduceCtorEq, decide_true, decide_false, Bool.false_eq_true, Nat.sub_zero, List.toList_toArray, List.foldl_cons, en280, ok280, en267, ok267, en270, ok270, en166, ok166, en58, ok58, en160, ok160, en163, ok163, en65, ok65, tyF, List.all_cons, List.all_nil]), by 
   (first | decide |
   (simp only [run, afterR, condC, exitC, exitTo, runO, step1, ofO, fpOf, fpK, writes, de, deT, deB, opD, dstOk, isCall, stepOp, finO, memPut, mset, entO, ent, core, constB, mkeyOf, mval, mrowOf, tupIf, liveM, kOf_i, kOf_s, mkEq_self, mhas_i, mhas_s, midx_i, midx_s, mrow_ii, mrow_ib, mrow_is, mrow_si, mrow_sb, mrow_ss, ment_ii, ment_ib, ment_is, ment_si, ment_sb, ment_ss, mset1_ii, mset1_ib, mset1_is, mset1_si, mset1_sb, mset1_ss, mput_ii, mput_ib, mput_is, mput_si, mput_sb, mput_ss, tst_map, coreB, lenA, minA, maxA, rowsB, appT, keyApp, keyV, keyL, liveC, liveB, liveZ, keyOf, oget, fget, lk, ofConst, cellsC, aggC, cell1, eff, binop, intOp, strOp, unop, ld, splice, fillP, aplace, placeOf, rowsN, oint, AV.cells, AV.pv, PV.std, AV.rows, pvs, appN, appC, rowsOk, irow, srw, brw, lrw, St.put, back, renA, ren1, ren0, renO, resOf, resAll, resOne, tupOf, fnOf, rk, inn, ok1, okB, okA, okT, okO, ok0, renB, liveP, liveZ0, nagg, one1, scH, bldZ, nvs, AV.nv, PV.sc, PV.isL, nilOrE, List.filter_cons, List.filter_nil, List.all_cons, List.all_nil,   unint, unint_map, bytesOf_eq, bnd_, rowsOk_irow, rowsOk_srw, rowsOk_brw, rowsOk_lrw, rowsOk_app, take_map_len, map_set_, set_map_,   List.range, List.range.loop, List.zip, List.zipWith, List.zip_cons_cons, List.zip_nil_left, List.zip_nil_right, List.length_cons, List.length_nil, List.length_map, List.length_append, List.map_cons, List.map_nil, List.map_append, List.getElem?_map, List.drop_succ_cons, List.drop_zero, List.drop_nil, List.take_succ_cons, List.take_zero, List.take_nil, List.take_length, List.set_cons_succ, List.set_cons_zero, List.head?_cons, List.head?_nil, List.getElem?_cons_succ, List.getElem?_cons_zero, List.append_nil, List.nil_append, List.cons_append, List.append_assoc, List.flatten_cons, List.flatten_nil, List.replicate_succ, List.replicate_zero, List.contains_cons, List.contains_nil, List.isEmpty_nil, List.isEmpty_cons, List.map_drop, List.map_take, List.map_replicate, List.length_replicate, List.length_set,   cond_true, cond_false, Option.map_some, Option.map_none, Option.bind_some, Option.bind_none, Option.getD_some, Option.getD_none, Option.isSome_some, Option.isSome_none, beq_self_eq_true, BEq.rfl, Nat.reduceBEq, Nat.reduceAdd, Nat.reduceSub, Nat.reduceMul, Nat.reduceLeDiff, Nat.reduceLT, Nat.reduceEqDiff, Nat.zero_add, Nat.add_zero, Nat.zero_mul, Nat.le_refl, and_self, and_true, true_and, if_true, reduceIte, ite_true, ite_false, Bool.and_true, Bool.true_and, Bool.and_false, Bool.false_and, Bool.not_true, Bool.not_false, Bool.or_true, Bool.or_false, Bool.true_or, Bool.false_or, Int.toNat_zero, Int.toNat_natCast, Int.reduceToNat, Int.reduceLE, Int.reduceLT, Int.reduceBEq, reduceCtorEq, decide_true, decide_false, Bool.false_eq_true, Nat.sub_zero, List.toList_toArray, List.foldl_cons, en280, ok280, en267, ok267, en270, ok270, en166, ok166, en58, ok58, en160, ok160, en163, ok163, en65, ok65, tyF, *]; try decide))⟩) : memLe m m' ∧ memKeys m m' := ⟨h, hk⟩
theorem nf_ {p q : Prop} (h : p) (e : p = q := by ((try simp only [run, afterR, condC, exitC, exitTo, runO, step1, ofO, fpOf, fpK, writes, de, deT, deB, opD, dstOk, isCall, stepOp, finO, memPut, mset, entO, ent, core, constB, mkeyOf, mval, mrowOf, tupIf, liveM, kOf_i, kOf_s, mkEq_self, mhas_i, mhas_s, midx_i, midx_s, mrow_ii, mrow_ib, mrow_is, mrow_si, mrow_sb, mrow_ss, ment_ii, ment_ib, ment_is, ment_si, ment_sb, ment_ss, mset1_ii, mset1_ib, mset1_is, mset1_si, mset1_sb, mset1_ss, mput_ii, mput_ib, mput_is, mput_si, mput_sb, mput_ss, tst_map, coreB, lenA, minA, maxA, rowsB, appT, keyApp, keyV, keyL, liveC, liveB, liveZ, keyOf, oget, fget, lk, ofConst, cellsC, aggC, cell1, eff, binop, intOp, strOp, unop, ld, splice, fillP, aplace, placeOf, rowsN, oint, AV.cells, AV.pv, PV.std, AV.rows, pvs, appN, appC, rowsOk, irow, srw, brw, lrw, St.put, back, renA, ren1, ren0, renO, resOf, resAll, resOne, tupOf, fnOf, rk, inn, ok1, okB, okA, okT, okO, ok0, renB, liveP, liveZ0, nagg, one1, scH, bldZ, nvs, AV.nv, PV.sc, PV.isL, nilOrE, List.filter_cons, List.filter_nil, List.all_cons, List.all_nil,   unint, unint_map, bytesOf_eq, bnd_, rowsOk_irow, rowsOk_srw, rowsOk_brw, rowsOk_lrw, rowsOk_app, take_map_len, map_set_, set_map_,   List.range, List.range.loop, List.zip, List.zipWith, List.zip_cons_cons, List.zip_nil_left, List.zip_nil_right, List.length_cons, List.length_nil, List.length_map, List.length_append, List.map_cons, List.map_nil, List.map_append, List.getElem?_map, List.drop_succ_cons, List.drop_zero, List.drop_nil, List.take_succ_cons, List.take_zero, List.take_nil, List.take_length, List.set_cons_succ, List.set_cons_zero, List.head?_cons, List.head?_nil, List.getElem?_cons_succ, List.getElem?_cons_zero, List.append_nil, List.nil_append, List.cons_append, List.append_assoc, List.flatten_cons, List.flatten_nil, List.replicate_succ, List.replicate_zero, List.contains_cons, List.contains_nil, List.isEmpty_nil, List.isEmpty_cons, List.map_drop, List.map_take, List.map_replicate, List.length_replicate, List.length_set,   cond_true, cond_false, Option.map_some, Option.map_none, Option.bind_some, Option.bind_none, Option.getD_some, Option.getD_none, Option.isSome_some, Option.isSome_none, beq_self_eq_true, BEq.rfl, Nat.reduceBEq, Nat.reduceAdd, Nat.reduceSub, Nat.reduceMul, Nat.reduceLeDiff, Nat.reduceLT, Nat.reduceEqDiff, Nat.zero_add, Nat.add_zero, Nat.zero_mul, Nat.le_refl, and_self, and_true, true_and, if_true, reduceIte, ite_true, ite_false, Bool.and_true, Bool.true_and, Bool.and_false, Bool.false_and, Bool.not_true, Bool.not_false, Bool.or_true, Bool.or_false, Bool.true_or, Bool.false_or, Int.toNat_zero, Int.toNat_natCast, Int.reduceToNat, Int.reduceLE, Int.reduceLT, Int.reduceBEq, reduceCtorEq, decide_true, decide_false, Bool.false_eq_true, Nat.sub_zero, List.toList_toArray, List.foldl_cons, en280, ok280, en267, ok267, en270, ok270, en166, ok166, en58, ok58, en160, ok160, en163, ok163, en65, ok65, tyF]); rfl)) : q := e ▸ h
theorem adopt_ {H : Prop} {C : Ctx} {it : List Item} {st : St} (s k z : Nat) (g : H → Good C it { fr := (s, .tip k ((ent st.mem k).1 + 1) []) :: st.fr, mem := mset st.mem k ((ent st.mem k).1 + 1, .tip z 0) }) (hs : fget st.fr s = .p .nilS := by 
   (simp only [run, afterR, condC, exitC, exitTo, runO, step1, ofO, fpOf, fpK, writes, de, deT, deB, opD, dstOk, isCall, stepOp, finO, memPut, mset, entO, ent, core, constB, mkeyOf, mval, mrowOf, tupIf, liveM, kOf_i, kOf_s, mkEq_self, mhas_i, mhas_s, midx_i, midx_s, mrow_ii, mrow_ib, mrow_is, mrow_si, mrow_sb, mrow_ss, ment_ii, ment_ib, ment_is, ment_si, ment_sb, ment_ss, mset1_ii, mset1_ib, mset1_is, mset1_si, mset1_sb, mset1_ss, mput_ii, mput_ib, mput_is, mput_si, mput_sb, mput_ss, tst_map, coreB, lenA, minA, maxA, rowsB, appT, keyApp, keyV, keyL, liveC, liveB, liveZ, keyOf, oget, fget, lk, ofConst, cellsC, aggC, cell1, eff, binop, intOp, strOp, unop, ld, splice, fillP, aplace, placeOf, rowsN, oint, AV.cells, AV.pv, PV.std, AV.rows, pvs, appN, appC, rowsOk, irow, srw, brw, lrw, St.put, back, renA, ren1, ren0, renO, resOf, resAll, resOne, tupOf, fnOf, rk, inn, ok1, okB, okA, okT, okO, ok0, renB, liveP, liveZ0, nagg, one1, scH, bldZ, nvs, AV.nv, PV.sc, PV.isL, nilOrE, List.filter_cons, List.filter_nil, List.all_cons, List.all_nil,   unint, unint_map, bytesOf_eq, bnd_, rowsOk_irow, rowsOk_srw, rowsOk_brw, rowsOk_lrw, rowsOk_app, take_map_len, map_set_, set_map_,   List.range, List.range.loop, List.zip, List.zipWith, List.zip_cons_cons, List.zip_nil_left, List.zip_nil_right, List.length_cons, List.length_nil, List.length_map, List.length_append, List.map_cons, List.map_nil, List.map_append, List.getElem?_map, List.drop_succ_cons, List.drop_zero, List.drop_nil, List.take_succ_cons, List.take_zero, List.take_nil, List.take_length, List.set_cons_succ, List.set_cons_zero, List.head?_cons, List.head?_nil, List.getElem?_cons_succ, List.getElem?_cons_zero, List.append_nil, List.nil_append, List.cons_append, List.append_assoc, List.flatten_cons, List.flatten_nil, List.replicate_succ, List.replicate_zero, List.contains_cons, List.contains_nil, List.isEmpty_nil, List.isEmpty_cons, List.map_drop, List.map_take, List.map_replicate, List.length_replicate, List.length_set,   cond_true, cond_false, Option.map_some, Option.map_none, Option.bind_some, Option.bind_none, Option.getD_some, Option.getD_none, Option.isSome_some, Option.isSome_none, beq_self_eq_true, BEq.rfl, Nat.reduceBEq, Nat.reduceAdd, Nat.reduceSub, Nat.reduceMul, Nat.reduceLeDiff, Nat.reduceLT, Nat.reduceEqDiff, Nat.zero_add, Nat.add_zero, Nat.zero_mul, Nat.le_refl, and_self, and_true, true_and, if_true, reduceIte, ite_true, ite_false, Bool.and_true, Bool.true_and, Bool.and_false, Bool.false_and, Bool.not_true, Bool.not_false, Bool.or_true, Bool.or_false, Bool.true_or, Bool.false_or, Int.toNat_zero, Int.toNat_natCast, Int.reduceToNat, Int.reduceLE, Int.reduceLT, Int.reduceBEq, reduceCtorEq, decide_true, decide_false, Bool.false_eq_true, Nat.sub_zero, List.toList_toArray, List.foldl_cons, en280, ok280, en267, ok267, en270, ok270, en166, ok166, en58, ok58, en160, ok160, en163, ok163, en65, ok65, tyF, *])) : H → Good C it st := fun x => good_adopt s k z hs (g x)
theorem adoptF_ {H : Prop} {C : Ctx} {it : List Item} {st : St} {rows : Rows} (s k z : Nat) (g : H → Good C it { fr := (s, .tip k ((ent st.mem k).1 + 1) rows) :: st.fr, mem := mset st.mem k ((ent st.mem k).1 + 1, .tip z rows.length) }) (hs : fget st.fr s = .p (.lst true rows) := by 
   exact smt_) (hz : rowsOk z rows = true := by
   (first | rfl | simp only [run, afterR, condC, exitC, exitTo, runO, step1, ofO, fpOf, fpK, writes, de, deT, deB, opD, dstOk, isCall, stepOp, finO, memPut, mset, entO, ent, core, constB, mkeyOf, mval, mrowOf, tupIf, liveM, kOf_i, kOf_s, mkEq_self, mhas_i, mhas_s, midx_i, midx_s, mrow_ii, mrow_ib, mrow_is, mrow_si, mrow_sb, mrow_ss, ment_ii, ment_ib, ment_is, ment_si, ment_sb, ment_ss, mset1_ii, mset1_ib, mset1_is, mset1_si, mset1_sb, mset1_ss, mput_ii, mput_ib, mput_is, mput_si, mput_sb, mput_ss, tst_map, coreB, lenA, minA, maxA, rowsB, appT, keyApp, keyV, keyL, liveC, liveB, liveZ, keyOf, oget, fget, lk, ofConst, cellsC, aggC, cell1, eff, binop, intOp, strOp, unop, ld, splice, fillP, aplace, placeOf, rowsN, oint, AV.cells, AV.pv, PV.std, AV.rows, pvs, appN, appC, rowsOk, irow, srw, brw, lrw, St.put, back, renA, ren1, ren0, renO, resOf, resAll, resOne, tupOf, fnOf, rk, inn, ok1, okB, okA, okT, okO, ok0, renB, liveP, liveZ0, nagg, one1, scH, bldZ, nvs, AV.nv, PV.sc, PV.isL, nilOrE, List.filter_cons, List.filter_nil, List.all_cons, List.all_nil,   unint, unint_map, bytesOf_eq, bnd_, rowsOk_irow, rowsOk_srw, rowsOk_brw, rowsOk_lrw, rowsOk_app, take_map_len, map_set_, set_map_,   List.range, List.range.loop, List.zip, List.zipWith, List.zip_cons_cons, List.zip_nil_left, List.zip_nil_right, List.length_cons, List.length_nil, List.length_map, List.length_append, List.map_cons, List.map_nil, List.map_append, List.getElem?_map, List.drop_succ_cons, List.drop_zero, List.drop_nil, List.take_succ_cons, List.take_zero, List.take_nil, List.take_length, List.set_cons_succ, List.set_cons_zero, List.head?_cons, List.head?_nil, List.getElem?_cons_succ, List.getElem?_cons_zero, List.append_nil, List.nil_append, List.cons_append, List.append_assoc, List.flatten_cons, List.flatten_nil, List.replicate_succ, List.replicate_zero, List.contains_cons, List.contains_nil, List.isEmpty_nil, List.isEmpty_cons, List.map_drop, List.map_take, List.map_replicate, List.length_replicate, List.length_set,   cond_true, cond_false, Option.map_some, Option.map_none, Option.bind_some, Option.bind_none, Option.getD_some, Option.getD_none, Option.isSome_some, Option.isSome_none, beq_self_eq_true, BEq.rfl, Nat.reduceBEq, Nat.reduceAdd, Nat.reduceSub, Nat.reduceMul, Nat.reduceLeDiff, Nat.reduceLT, Nat.reduceEqDiff, Nat.zero_add, Nat.add_zero, Nat.zero_mul, Nat.le_refl, and_self, and_true, true_and, if_true, reduceIte, ite_true, ite_false, Bool.and_true, Bool.true_and, Bool.and_false, Bool.false_and, Bool.not_true, Bool.not_false, Bool.or_true, Bool.or_false, Bool.true_or, Bool.false_or, Int.toNat_zero, Int.toNat_natCast, Int.reduceToNat, Int.reduceLE, Int.reduceLT, Int.reduceBEq, reduceCtorEq, decide_true, decide_false, Bool.false_eq_true, Nat.sub_zero, List.toList_toArray, List.foldl_cons, en280, ok280, en267, ok267, en270, ok270, en166, ok166, en58, ok58, en160, ok160, en163, ok163, en65, ok65, tyF])) : H → Good C it st := fun x => good_adoptF s k z hz hs (g x)
theorem adoptc_ {H : Prop} {C : Ctx} {it : List Item} {st : St} (k0 o k z : Nat) {g0 : Nat} {cs : List AV} (g : H → Good C it { st with mem := mset (mset st.mem k ((ent st.mem k).1 + 1, .tip z 0)) k0 (g0, .cells (cs.set o (.tip k ((ent st.mem k).1 + 1) []))) }) (hs : lk st.mem k0 = some (g0, .cells cs) := by 
   exact smr_) (hc : cs[o]? = some (.p .nilS) := by 
   (simp only [run, afterR, condC, exitC, exitTo, runO, step1, ofO, fpOf, fpK, writes, de, deT, deB, opD, dstOk, isCall, stepOp, finO, memPut, mset, entO, ent, core, constB, mkeyOf, mval, mrowOf, tupIf, liveM, kOf_i, kOf_s, mkEq_self, mhas_i, mhas_s, midx_i, midx_s, mrow_ii, mrow_ib, mrow_is, mrow_si, mrow_sb, mrow_ss, ment_ii, ment_ib, ment_is, ment_si, ment_sb, ment_ss, mset1_ii, mset1_ib, mset1_is, mset1_si, mset1_sb, mset1_ss, mput_ii, mput_ib, mput_is, mput_si, mput_sb, mput_ss, tst_map, coreB, lenA, minA, maxA, rowsB, appT, keyApp, keyV, keyL, liveC, liveB, liveZ, keyOf, oget, fget, lk, ofConst, cellsC, aggC, cell1, eff, binop, intOp, strOp, unop, ld, splice, fillP, aplace, placeOf, rowsN, oint, AV.cells, AV.pv, PV.std, AV.rows, pvs, appN, appC, rowsOk, irow, srw, brw, lrw, St.put, back, renA, ren1, ren0, renO, resOf, resAll, resOne, tupOf, fnOf, rk, inn, ok1, okB, okA, okT, okO, ok0, renB, liveP, liveZ0, nagg, one1, scH, bldZ, nvs, AV.nv, PV.sc, PV.isL, nilOrE, List.filter_cons, List.filter_nil, List.all_cons, List.all_nil,   unint, unint_map, bytesOf_eq, bnd_, rowsOk_irow, rowsOk_srw, rowsOk_brw, rowsOk_lrw, rowsOk_app, take_map_len, map_set_, set_map_,   List.range, List.range.loop, List.zip, List.zipWith, List.zip_cons_cons, List.zip_nil_left, List.zip_nil_right, List.length_cons, List.length_nil, List.length_map, List.length_append, List.map_cons, List.map_nil, List.map_append, List.getElem?_map, List.drop_succ_cons, List.drop_zero, List.drop_nil, List.take_succ_cons, List.take_zero, List.take_nil, List.take_length, List.set_cons_succ, List.set_cons_zero, List.head?_cons, List.head?_nil, List.getElem?_cons_succ, List.getElem?_cons_zero, List.append_nil, List.nil_append, List.cons_append, List.append_assoc, List.flatten_cons, List.flatten_nil, List.replicate_succ, List.replicate_zero, List.contains_cons, List.contains_nil, List.isEmpty_nil, List.isEmpty_cons, List.map_drop, List.map_take, List.map_replicate, List.length_replicate, List.length_set,   cond_true, cond_false, Option.map_some, Option.map_none, Option.bind_some, Option.bind_none, Option.getD_some, Option.getD_none, Option.isSome_some, Option.isSome_none, beq_self_eq_true, BEq.rfl, Nat.reduceBEq, Nat.reduceAdd, Nat.reduceSub, Nat.reduceMul, Nat.reduceLeDiff, Nat.reduceLT, Nat.reduceEqDiff, Nat.zero_add, Nat.add_zero, Nat.zero_mul, Nat.le_refl, and_self, and_true, true_and, if_true, reduceIte, ite_true, ite_false, Bool.and_true, Bool.true_and, Bool.and_false, Bool.false_and, Bool.not_true, Bool.not_false, Bool.or_true, Bool.or_false, Bool.true_or, Bool.false_or, Int.toNat_zero, Int.toNat_natCast, Int.reduceToNat, Int.reduceLE, Int.reduceLT, Int.reduceBEq, reduceCtorEq, decide_true, decide_false, Bool.false_eq_true, Nat.sub_zero, List.toList_toArray, List.foldl_cons, en280, ok280, en267, ok267, en270, ok270, en166, ok166, en58, ok58, en160, ok160, en163, ok163, en65, ok65, tyF, *])) (hk : k ≠ k0 := by decide) : H → Good C it st := fun x => good_adoptc k0 o k z g0 cs hs hc hk (g x)
theorem adoptcF_ {H : Prop} {C : Ctx} {it : List Item} {st : St} {rows : Rows} (k0 o k z : Nat) {g0 : Nat} {cs : List AV} (g : H → Good C it { st with mem := mset (mset st.mem k ((ent st.mem k).1 + 1, .tip z rows.length)) k0 (g0, .cells (cs.set o (.tip k ((ent st.mem k).1 + 1) rows))) }) (hs : lk st.mem k0 = some (g0, .cells cs) := by 
   exact smr_) (hc : cs[o]? = some (.p (.lst true rows)) := by 
   exact smt_) (hk : k ≠ k0 := by decide) (hz : rowsOk z rows = true := by
   (first | rfl | simp only [run, afterR, condC, exitC, exitTo, runO, step1, ofO, fpOf, fpK, writes, de, deT, deB, opD, dstOk, isCall, stepOp, finO, memPut, mset, entO, ent, core, constB, mkeyOf, mval, mrowOf, tupIf, liveM, kOf_i, kOf_s, mkEq_self, mhas_i, mhas_s, midx_i, midx_s, mrow_ii, mrow_ib, mrow_is, mrow_si, mrow_sb, mrow_ss, ment_ii, ment_ib, ment_is, ment_si, ment_sb, ment_ss, mset1_ii, mset1_ib, mset1_is, mset1_si, mset1_sb, mset1_ss, mput_ii, mput_ib, mput_is, mput_si, mput_sb, mput_ss, tst_map, coreB, lenA, minA, maxA, rowsB, appT, keyApp, keyV, keyL, liveC, liveB, liveZ, keyOf, oget, fget, lk, ofConst, cellsC, aggC, cell1, eff, binop, intOp, strOp, unop, ld, splice, fillP, aplace, placeOf, rowsN, oint, AV.cells, AV.pv, PV.std, AV.rows, pvs, appN, appC, rowsOk, irow, srw, brw, lrw, St.put, back, renA, ren1, ren0, renO, resOf, resAll, resOne, tupOf, fnOf, rk, inn, ok1, okB, okA, okT, okO, ok0, renB, liveP, liveZ0, nagg, one1, scH, bldZ, nvs, AV.nv, PV.sc, PV.isL, nilOrE, List.filter_cons, List.filter_nil, List.all_cons, List.all_nil,   unint, unint_map, bytesOf_eq, bnd_, rowsOk_irow, rowsOk_srw, rowsOk_brw, rowsOk_lrw, rowsOk_app, take_map_len, map_set_, set_map_,   List.range, List.range.loop, List.zip, List.zipWith, List.zip_cons_cons, List.zip_nil_left, List.zip_nil_right, List.length_cons, List.length_nil, List.length_map, List.length_append, List.map_cons, List.map_nil, List.map_append, List.getElem?_map, List.drop_succ_cons, List.drop_zero, List.drop_nil, List.take_succ_cons, List.take_zero, List.take_nil, List.take_length, List.set_cons_succ, List.set_cons_zero, List.head?_cons, List.head?_nil, List.getElem?_cons_succ, List.getElem?_cons_zero, List.append_nil, List.nil_append, List.cons_append, List.append_assoc, List.flatten_cons, List.flatten_nil, List.replicate_succ, List.replicate_zero, List.contains_cons, List.contains_nil, List.isEmpty_nil, List.isEmpty_cons, List.map_drop, List.map_take, List.map_replicate, List.length_replicate, List.length_set,   cond_true, cond_false, Option.map_some, Option.map_none, Option.bind_some, Option.bind_none, Option.getD_some, Option.getD_none, Option.isSome_some, Option.isSome_none, beq_self_eq_true, BEq.rfl, Nat.reduceBEq, Nat.reduceAdd, Nat.reduceSub, Nat.reduceMul, Nat.reduceLeDiff, Nat.reduceLT, Nat.reduceEqDiff, Nat.zero_add, Nat.add_zero, Nat.zero_mul, Nat.le_refl, and_self, and_true, true_and, if_true, reduceIte, ite_true, ite_false, Bool.and_true, Bool.true_and, Bool.and_false, Bool.false_and, Bool.not_true, Bool.not_false, Bool.or_true, Bool.or_false, Bool.true_or, Bool.false_or, Int.toNat_zero, Int.toNat_natCast, Int.reduceToNat, Int.reduceLE, Int.reduceLT, Int.reduceBEq, reduceCtorEq, decide_true, decide_false, Bool.false_eq_true, Nat.sub_zero, List.toList_toArray, List.foldl_cons, en280, ok280, en267, ok267, en270, ok270, en166, ok166, en58, ok58, en160, ok160, en163, ok163, en65, ok65, tyF])) : H → Good C it st := fun x => good_adoptcF k0 o k z g0 cs hs hz hc hk (g x)
theorem freeze_ {H : Prop} {C : Ctx} {it : List Item} {st : St} (s : Nat) {k g lo n z : Nat} {rows : Rows}
  (h : H → Good C it { fr := (s, .p (.lst false ((rows.drop lo).take n))) :: st.fr, mem := mset st.mem k (g, .gone) }) (hs : fget st.fr s = .buf k g lo n := by 
   exact smr_) (hk : lk st.mem k = some (g, .buf z rows) := by 
   exact smr_) : H → Good C it st := fun x => good_freeze s hs hk (h x)
theorem freezeN_ {H : Prop} {C : Ctx} {it : List Item} {st : St} (s : Nat) {k g lo n z : Nat} {rows : Rows}
  (h : H → Good C it { fr := (s, .nw (.lst false ((rows.drop lo).take n))) :: st.fr, mem := mset st.mem k (g, .gone) }) (hs : fget st.fr s = .buf k g lo n := by 
   exact smr_) (hk : lk st.mem k = some (g, .bufn z rows) := by 
   exact smr_) : H → Good C it st := fun x => good_freezeN s hs hk (h x)
theorem adoptB_ {H : Prop} {C : Ctx} {it : List Item} {st : St} (s k z : Nat) (g : H → Good C it { fr := (s, .buf k ((ent st.mem k).1 + 1) 0 0) :: st.fr, mem := mset st.mem k ((ent st.mem k).1 + 1, .buf z []) }) (hs : nilOrE (fget st.fr s) = true := by 
   (simp only [run, afterR, condC, exitC, exitTo, runO, step1, ofO, fpOf, fpK, writes, de, deT, deB, opD, dstOk, isCall, stepOp, finO, memPut, mset, entO, ent, core, constB, mkeyOf, mval, mrowOf, tupIf, liveM, kOf_i, kOf_s, mkEq_self, mhas_i, mhas_s, midx_i, midx_s, mrow_ii, mrow_ib, mrow_is, mrow_si, mrow_sb, mrow_ss, ment_ii, ment_ib, ment_is, ment_si, ment_sb, ment_ss, mset1_ii, mset1_ib, mset1_is, mset1_si, mset1_sb, mset1_ss, mput_ii, mput_ib, mput_is, mput_si, mput_sb, mput_ss, tst_map, coreB, lenA, minA, maxA, rowsB, appT, keyApp, keyV, keyL, liveC, liveB, liveZ, keyOf, oget, fget, lk, ofConst, cellsC, aggC, cell1, eff, binop, intOp, strOp, unop, ld, splice, fillP, aplace, placeOf, rowsN, oint, AV.cells, AV.pv, PV.std, AV.rows, pvs, appN, appC, rowsOk, irow, srw, brw, lrw, St.put, back, renA, ren1, ren0, renO, resOf, resAll, resOne, tupOf, fnOf, rk, inn, ok1, okB, okA, okT, okO, ok0, renB, liveP, liveZ0, nagg, one1, scH, bldZ, nvs, AV.nv, PV.sc, PV.isL, nilOrE, List.filter_cons, List.filter_nil, List.all_cons, List.all_nil,   unint, unint_map, bytesOf_eq, bnd_, rowsOk_irow, rowsOk_srw, rowsOk_brw, rowsOk_lrw, rowsOk_app, take_map_len, map_set_, set_map_,   List.range, List.range.loop, List.zip, List.zipWith, List.zip_cons_cons, List.zip_nil_left, List.zip_nil_right, List.length_cons, List.length_nil, List.length_map, List.length_append, List.map_cons, List.map_nil, List.map_append, List.getElem?_map, List.drop_succ_cons, List.drop_zero, List.drop_nil, List.take_succ_cons, List.take_zero, List.take_nil, List.take_length, List.set_cons_succ, List.set_cons_zero, List.head?_cons, List.head?_nil, List.getElem?_cons_succ, List.getElem?_cons_zero, List.append_nil, List.nil_append, List.cons_append, List.append_assoc, List.flatten_cons, List.flatten_nil, List.replicate_succ, List.replicate_zero, List.contains_cons, List.contains_nil, List.isEmpty_nil, List.isEmpty_cons, List.map_drop, List.map_take, List.map_replicate, List.length_replicate, List.length_set,   cond_true, cond_false, Option.map_some, Option.map_none, Option.bind_some, Option.bind_none, Option.getD_some, Option.getD_none, Option.isSome_some, Option.isSome_none, beq_self_eq_true, BEq.rfl, Nat.reduceBEq, Nat.reduceAdd, Nat.reduceSub, Nat.reduceMul, Nat.reduceLeDiff, Nat.reduceLT, Nat.reduceEqDiff, Nat.zero_add, Nat.add_zero, Nat.zero_mul, Nat.le_refl, and_self, and_true, true_and, if_true, reduceIte, ite_true, ite_false, Bool.and_true, Bool.true_and, Bool.and_false, Bool.false_and, Bool.not_true, Bool.not_false, Bool.or_true, Bool.or_false, Bool.true_or, Bool.false_or, Int.toNat_zero, Int.toNat_natCast, Int.reduceToNat, Int.reduceLE, Int.reduceLT, Int.reduceBEq, reduceCtorEq, decide_true, decide_false, Bool.false_eq_true, Nat.sub_zero, List.toList_toArray, List.foldl_cons, en280, ok280, en267, ok267, en270, ok270, en166, ok166, en58, ok58, en160, ok160, en163, ok163, en65, ok65, tyF, *])) : H → Good C it st := fun x => good_adoptB s k z hs (g x)
def poolSt (d : Nat) (st : St) : St := { fr := st.fr.map (fun q => (q.1, poolA d ((ent st.mem d).1 + 1) q.2)), mem := mset (poolM d ((ent st.mem d).1 + 1) st.mem) d ((ent st.mem d).1 + 1, .pool) }
theorem cleanBuf {α : Type} (s : Nat) (f : α → List PV) (l : List α) (h : ∀ x, (f x).all pc = true) : cleanO (.buf s (List.map f l)) = true := by
  simp only [cleanO, List.all_eq_true, List.mem_map]; rintro r ⟨x, _, rfl⟩; exact List.all_eq_true.1 (h x)
theorem pool_ {H : Prop} {C : Ctx} {it : List Item} {st : St} (d : Nat) (st' st2 : St) (g : H → Good C it st2) (hN : C.w0.heap.size ≤ C.ι0.fr.N := by assumption) (hf : frLe st.fr st'.fr := by exact frle_) (hm : memLe st.mem st'.mem ∧ memKeys st.mem st'.mem := by exact memle_)
   (hcl : st'.fr.all (fun q => cleanA q.2) = true := by rfl) (hco : ∀ q ∈ st'.mem, cleanO q.2.2 = true := by ((repeat' first | exact all0 | refine all1 ?_ ?_); all_goals first | rfl | exact cleanBuf _ _ _ (fun x => rfl))) (hd : (ent st'.mem d).2 = .gone := by rfl) (e : poolSt d st' = st2 := by rfl) : H → Good C it st := fun x =>
  good_weak st' hf hm (good_pool d hN hcl (List.all_eq_true.2 fun q hq => hco q hq) hd (by have := g x; rw [← e] at this; exact this))
theorem ret_ {C : Ctx} {fn : Func} {k : List Item} {st : St} {v : AV} (hfn : C.P.funcs[C.f]? = some fn) (σ : Sg) (hr : resOf C.P fn.results.toList st = some v := by 
   exact smr_) (hle : LeT v (renA σ C.res) := by
   (simp only [run, afterR, condC, exitC, exitTo, runO, step1, ofO, fpOf, fpK, writes, de, deT, deB, opD, dstOk, isCall, stepOp, finO, memPut, mset, entO, ent, core, constB, mkeyOf, mval, mrowOf, tupIf, liveM, kOf_i, kOf_s, mkEq_self, mhas_i, mhas_s, midx_i, midx_s, mrow_ii, mrow_ib, mrow_is, mrow_si, mrow_sb, mrow_ss, ment_ii, ment_ib, ment_is, ment_si, ment_sb, ment_ss, mset1_ii, mset1_ib, mset1_is, mset1_si, mset1_sb, mset1_ss, mput_ii, mput_ib, mput_is, mput_si, mput_sb, mput_ss, tst_map, coreB, lenA, minA, maxA, rowsB, appT, keyApp, keyV, keyL, liveC, liveB, liveZ, keyOf, oget, fget, lk, ofConst, cellsC, aggC, cell1, eff, binop, intOp, strOp, unop, ld, splice, fillP, aplace, placeOf, rowsN, oint, AV.cells, AV.pv, PV.std, AV.rows, pvs, appN, appC, rowsOk, irow, srw, brw, lrw, St.put, back, renA, ren1, ren0, renO, resOf, resAll, resOne, tupOf, fnOf, rk, inn, ok1, okB, okA, okT, okO, ok0, renB, liveP, liveZ0, nagg, one1, scH, bldZ, nvs, AV.nv, PV.sc, PV.isL, nilOrE, List.filter_cons, List.filter_nil, List.all_cons, List.all_nil,   unint, unint_map, bytesOf_eq, bnd_, rowsOk_irow, rowsOk_srw, rowsOk_brw, rowsOk_lrw, rowsOk_app, take_map_len, map_set_, set_map_,   List.range, List.range.loop, List.zip, List.zipWith, List.zip_cons_cons, List.zip_nil_left, List.zip_nil_right, List.length_cons, List.length_nil, List.length_map, List.length_append, List.map_cons, List.map_nil, List.map_append, List.getElem?_map, List.drop_succ_cons, List.drop_zero, List.drop_nil, List.take_succ_cons, List.take_zero, List.take_nil, List.take_length, List.set_cons_succ, List.set_cons_zero, List.head?_cons, List.head?_nil, List.getElem?_cons_succ, List.getElem?_cons_zero, List.append_nil, List.nil_append, List.cons_append, List.append_assoc, List.flatten_cons, List.flatten_nil, List.replicate_succ, List.replicate_zero, List.contains_cons, List.contains_nil, List.isEmpty_nil, List.isEmpty_cons, List.map_drop, List.map_take, List.map_replicate, List.length_replicate, List.length_set,   cond_true, cond_false, Option.map_some, Option.map_none, Option.bind_some, Option.bind_none, Option.getD_some, Option.getD_none, Option.isSome_some, Option.isSome_none, beq_self_eq_true, BEq.rfl, Nat.reduceBEq, Nat.reduceAdd, Nat.reduceSub, Nat.reduceMul, Nat.reduceLeDiff, Nat.reduceLT, Nat.reduceEqDiff, Nat.zero_add, Nat.add_zero, Nat.zero_mul, Nat.le_refl, and_self, and_true, true_and, if_true, reduceIte, ite_true, ite_false, Bool.and_true, Bool.true_and, Bool.and_false, Bool.false_and, Bool.not_true, Bool.not_false, Bool.or_true, Bool.or_false, Bool.true_or, Bool.false_or, Int.toNat_zero, Int.toNat_natCast, Int.reduceToNat, Int.reduceLE, Int.reduceLT, Int.reduceBEq, reduceCtorEq, decide_true, decide_false, Bool.false_eq_true, Nat.sub_zero, List.toList_toArray, List.foldl_cons, en280, ok280, en267, ok267, en270, ok270, en166, ok166, en58, ok58, en160, ok160, en163, ok163, en65, ok65, tyF, *]; repeat' first | exact LeT.of _ _ (LeA.of _ _ (Le.refl _)) | exact LeT.of _ _ (LeA.of _ _ (Le.nil _)) | exact LeT.of _ _ (LeA.of _ _ (Le.full _)) | exact LeT.of _ _ (LeA.of _ _ (Le.tip _ _ _)) | exact LeA.of _ _ (Le.refl _) | exact LeA.of _ _ (Le.nil _) | exact LeA.of _ _ (Le.full _) | exact LeA.of _ _ (Le.tip _ _ _) | exact LeA.of _ _ (Le.nwp _) | exact LeA.of _ _ (Le.odp _) | exact F2.nil | exact Le.refl _ | exact Le.nil _ | exact Le.full _ | exact Le.tip _ _ _ | exact Le.nwp _ | exact Le.odp _ | refine F2.cons ?_ ?_ | refine LeT.tup _ _ ?_ | refine LeT.of _ _ (LeA.agg _ _ ?_) | refine LeA.agg _ _ ?_)) (hok : okT (inn σ C.mem) C.res = true := by (first | rfl | exact sm_)) (hm : EndOk σ st.mem C.mem C.m0 := by exact endOk_) : Good C (.code .ret :: k) st := good_ret_ σ hfn hr hle hok hm
theorem end_ {C : Ctx} {fn : Func} {st : St} {v : AV} (hfn : C.P.funcs[C.f]? = some fn) (σ : Sg) (hr : resOf C.P fn.results.toList st = some v := by 
   exact smr_) (hle : LeT v (renA σ C.res) := by
   (simp only [run, afterR, condC, exitC, exitTo, runO, step1, ofO, fpOf, fpK, writes, de, deT, deB, opD, dstOk, isCall, stepOp, finO, memPut, mset, entO, ent, core, constB, mkeyOf, mval, mrowOf, tupIf, liveM, kOf_i, kOf_s, mkEq_self, mhas_i, mhas_s, midx_i, midx_s, mrow_ii, mrow_ib, mrow_is, mrow_si, mrow_sb, mrow_ss, ment_ii, ment_ib, ment_is, ment_si, ment_sb, ment_ss, mset1_ii, mset1_ib, mset1_is, mset1_si, mset1_sb, mset1_ss, mput_ii, mput_ib, mput_is, mput_si, mput_sb, mput_ss, tst_map, coreB, lenA, minA, maxA, rowsB, appT, keyApp, keyV, keyL, liveC, liveB, liveZ, keyOf, oget, fget, lk, ofConst, cellsC, aggC, cell1, eff, binop, intOp, strOp, unop, ld, splice, fillP, aplace, placeOf, rowsN, oint, AV.cells, AV.pv, PV.std, AV.rows, pvs, appN, appC, rowsOk, irow, srw, brw, lrw, St.put, back, renA, ren1, ren0, renO, resOf, resAll, resOne, tupOf, fnOf, rk, inn, ok1, okB, okA, okT, okO, ok0, renB, liveP, liveZ0, nagg, one1, scH, bldZ, nvs, AV.nv, PV.sc, PV.isL, nilOrE, List.filter_cons, List.filter_nil, List.all_cons, List.all_nil,   unint, unint_map, bytesOf_eq, bnd_, rowsOk_irow, rowsOk_srw, rowsOk_brw, rowsOk_lrw, rowsOk_app, take_map_len, map_set_, set_map_,   List.range, List.range.loop, List.zip, List.zipWith, List.zip_cons_cons, List.zip_nil_left, List.zip_nil_right, List.length_cons, List.length_nil, List.length_map, List.length_append, List.map_cons, List.map_nil, List.map_append, List.getElem?_map, List.drop_succ_cons, List.drop_zero, List.drop_nil, List.take_succ_cons, List.take_zero, List.take_nil, List.take_length, List.set_cons_succ, List.set_cons_zero, List.head?_cons, List.head?_nil, List.getElem?_cons_succ, List.getElem?_cons_zero, List.append_nil, List.nil_append, List.cons_append, List.append_assoc, List.flatten_cons, List.flatten_nil, List.replicate_succ, List.replicate_zero, List.contains_cons, List.contains_nil, List.isEmpty_nil, List.isEmpty_cons, List.map_drop, List.map_take, List.map_replicate, List.length_replicate, List.length_set,   cond_true, cond_false, Option.map_some, Option.map_none, Option.bind_some, Option.bind_none, Option.getD_some, Option.getD_none, Option.isSome_some, Option.isSome_none, beq_self_eq_true, BEq.rfl, Nat.reduceBEq, Nat.reduceAdd, Nat.reduceSub, Nat.reduceMul, Nat.reduceLeDiff, Nat.reduceLT, Nat.reduceEqDiff, Nat.zero_add, Nat.add_zero, Nat.zero_mul, Nat.le_refl, and_self, and_true, true_and, if_true, reduceIte, ite_true, ite_false, Bool.and_true, Bool.true_and, Bool.and_false, Bool.false_and, Bool.not_true, Bool.not_false, Bool.or_true, Bool.or_false, Bool.true_or, Bool.false_or, Int.toNat_zero, Int.toNat_natCast, Int.reduceToNat, Int.reduceLE, Int.reduceLT, Int.reduceBEq, reduceCtorEq, decide_true, decide_false, Bool.false_eq_true, Nat.sub_zero, List.toList_toArray, List.foldl_cons, en280, ok280, en267, ok267, en270, ok270, en166, ok166, en58, ok58, en160, ok160, en163, ok163, en65, ok65, tyF, *]; repeat' first | exact LeT.of _ _ (LeA.of _ _ (Le.refl _)) | exact LeT.of _ _ (LeA.of _ _ (Le.nil _)) | exact LeT.of _ _ (LeA.of _ _ (Le.full _)) | exact LeT.of _ _ (LeA.of _ _ (Le.tip _ _ _)) | exact LeA.of _ _ (Le.refl _) | exact LeA.of _ _ (Le.nil _) | exact LeA.of _ _ (Le.full _) | exact LeA.of _ _ (Le.tip _ _ _) | exact LeA.of _ _ (Le.nwp _) | exact LeA.of _ _ (Le.odp _) | exact F2.nil | exact Le.refl _ | exact Le.nil _ | exact Le.full _ | exact Le.tip _ _ _ | exact Le.nwp _ | exact Le.odp _ | refine F2.cons ?_ ?_ | refine LeT.tup _ _ ?_ | refine LeT.of _ _ (LeA.agg _ _ ?_) | refine LeA.agg _ _ ?_)) (hok : okT (inn σ C.mem) C.res = true := by (first | rfl | exact sm_)) (hm : EndOk σ st.mem C.mem C.m0 := by exact endOk_) : Good C [] st := good_end_ σ hfn hr hle hok hm

end Go.Ab
