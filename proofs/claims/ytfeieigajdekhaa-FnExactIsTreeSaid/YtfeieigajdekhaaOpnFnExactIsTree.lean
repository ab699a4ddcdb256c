/- How each argument of the law is opened. -/
import Derived.Test.YtfeieigajdekhaaAbIS2
import Derived.Test.YtfeieigajdekhaaAbR
namespace Go.Ab
open Go.Proofs
set_option linter.unusedVariables false
set_option linter.unusedSimpArgs false
theorem len64 (x : S64) : (en64 x).length = 3 := by simp [en64]
theorem op65 {W : World} : Op Try.prog W en64 65 wf64 := op_struct (n := 3) Try.underlying65 (by kernel_rfl) (opf_cons (c := 1) (n := 2) rfl (by kernel_rfl) (by simp) (op_string Try.underlying9) (opf_cons (c := 1) (n := 1) rfl (by kernel_rfl) (by simp) (op_string Try.underlying9) (opf_one (n := 1) rfl (by kernel_rfl) (op_string Try.underlying9)))) en64 wf64 (fun (a : ByteArray × ByteArray × ByteArray) => (⟨a.1, a.2.1, a.2.2⟩ : S64)) (fun a => by simp [en64, irow, srw, brw, lrw]) (fun a h => by exact h)
end Go.Ab
