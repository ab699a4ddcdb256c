/- How each argument of the law is opened. -/
import Derived.Test.YtfjckgcbgepndaaGreatDoorAbFR
import Derived.Test.YtfjckgcbgepndaaGreatDoorAbR
namespace Go.Ab
open Go.Proofs
set_option linter.unusedVariables false
set_option linter.unusedSimpArgs false
theorem len73 (x : S73) : (en73 x).length = 2 := by simp [en73]
theorem op74 {W : World} : Op Tryz.prog W en73 74 wf73 := op_struct (n := 2) Tryz.underlying74 (by kernel_rfl) (opf_cons (c := 1) (n := 1) rfl (by kernel_rfl) (by simp) (op_slice (s := 1) Tryz.underlying29 (by kernel_rfl) (fun _ => rfl) (op_string Tryz.underlying9)) (opf_one (n := 1) rfl (by kernel_rfl) (op_int Tryz.underlying2))) en73 wf73 (fun (a : (List ByteArray) × Int) => (⟨a.1, a.2⟩ : S73)) (fun a => by simp [en73, irow, srw, brw, lrw]) (fun a h => by exact h)
end Go.Ab
