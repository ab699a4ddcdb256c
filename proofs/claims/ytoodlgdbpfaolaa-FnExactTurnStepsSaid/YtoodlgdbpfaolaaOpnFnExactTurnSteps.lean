/- How each argument of the law is opened. -/
import Derived.Test.YtoodlgdbpfaolaaAbH1
import Derived.Test.YtoodlgdbpfaolaaAbR
namespace Go.Ab
open Go.Proofs
set_option linter.unusedVariables false
set_option linter.unusedSimpArgs false
theorem len31 (x : S31) : (en31 x).length = 3 := by simp [en31]
theorem op32 {W : World} : Op Try.prog W en31 32 wf31 := op_struct (n := 3) Try.underlying32 (by kernel_rfl) (opf_cons (c := 1) (n := 2) rfl (by kernel_rfl) (by simp) (op_int Try.underlying2) (opf_cons (c := 1) (n := 1) rfl (by kernel_rfl) (by simp) (op_string Try.underlying9) (opf_one (n := 1) rfl (by kernel_rfl) (op_int Try.underlying2)))) en31 wf31 (fun (a : Int × ByteArray × Int) => (⟨a.1, a.2.1, a.2.2⟩ : S31)) (fun a => by simp [en31, irow, srw, brw, lrw]) (fun a h => by exact h)
end Go.Ab
