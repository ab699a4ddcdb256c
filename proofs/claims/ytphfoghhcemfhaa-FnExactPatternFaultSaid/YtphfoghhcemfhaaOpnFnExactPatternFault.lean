/- How each argument of the law is opened. -/
import Derived.Test.YtphfoghhcemfhaaAbQ5
import Derived.Test.YtphfoghhcemfhaaAbW
namespace Go.Ab
open Go.Proofs
set_option linter.unusedVariables false
set_option linter.unusedSimpArgs false
theorem len179 (x : S179) : (en179 x).length = 2 := by simp [en179]
theorem op287 {W : World} : Op Try.prog W en179 287 wf179 := op_struct (n := 2) Try.underlying287 (by kernel_rfl) (opf_cons (c := 1) (n := 1) rfl (by kernel_rfl) (by simp) (op_string Try.underlying9) (opf_one (n := 1) rfl (by kernel_rfl) (op_string Try.underlying9))) en179 wf179 (fun (a : ByteArray × ByteArray) => (⟨a.1, a.2⟩ : S179)) (fun a => by simp [en179, irow, srw, brw, lrw]) (fun a h => by exact h)
theorem len183 (x : S183) : (en183 x).length = 6 := by simp [en183]
theorem op289 {W : World} : Op Try.prog W en183 289 wf183 := op_struct (n := 6) Try.underlying289 (by kernel_rfl) (opf_cons (c := 1) (n := 5) rfl (by kernel_rfl) (by simp) (op_string Try.underlying9) (opf_cons (c := 1) (n := 4) rfl (by kernel_rfl) (by simp) (op_slice (s := 1) Try.underlying50 (by kernel_rfl) (fun _ => rfl) (op_string Try.underlying9)) (opf_cons (c := 1) (n := 3) rfl (by kernel_rfl) (by simp) (op_int Try.underlying2) (opf_cons (c := 1) (n := 2) rfl (by kernel_rfl) (by simp) (op_bool Try.underlying4) (opf_cons (c := 1) (n := 1) rfl (by kernel_rfl) (by simp) (op_int Try.underlying2) (opf_one (n := 1) rfl (by kernel_rfl) (op_int Try.underlying2))))))) en183 wf183 (fun (a : ByteArray × (List ByteArray) × Int × Bool × Int × Int) => (⟨a.1, a.2.1, a.2.2.1, a.2.2.2.1, a.2.2.2.2.1, a.2.2.2.2.2⟩ : S183)) (fun a => by simp [en183, irow, srw, brw, lrw]) (fun a h => by exact h)
theorem len72 (x : S72) : (en72 x).length = 5 := by simp [en72]
theorem op73 {W : World} : Op Try.prog W en72 73 wf72 := op_struct (n := 5) Try.underlying73 (by kernel_rfl) (opf_cons (c := 1) (n := 4) rfl (by kernel_rfl) (by simp) (op_string Try.underlying9) (opf_cons (c := 1) (n := 3) rfl (by kernel_rfl) (by simp) (op_int Try.underlying2) (opf_cons (c := 1) (n := 2) rfl (by kernel_rfl) (by simp) (op_bool Try.underlying4) (opf_cons (c := 1) (n := 1) rfl (by kernel_rfl) (by simp) (op_slice (s := 2) Try.underlying70 (by kernel_rfl) len179 op287) (opf_one (n := 1) rfl (by kernel_rfl) (op_slice (s := 6) Try.underlying71 (by kernel_rfl) len183 op289)))))) en72 wf72 (fun (a : ByteArray × Int × Bool × (List S179) × (List S183)) => (⟨a.1, a.2.1, a.2.2.1, a.2.2.2.1, a.2.2.2.2⟩ : S72)) (fun a => by simp [en72, irow, srw, brw, lrw]) (fun a h => by exact h)
end Go.Ab
