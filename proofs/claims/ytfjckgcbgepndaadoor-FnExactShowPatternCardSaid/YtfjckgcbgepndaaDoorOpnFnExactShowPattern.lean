/- How each argument of the law is opened. -/
import Derived.Test.YtfjckgcbgepndaaDoorAbH1
import Derived.Test.YtfjckgcbgepndaaDoorAbR
namespace Go.Ab
open Go.Proofs
set_option linter.unusedVariables false
set_option linter.unusedSimpArgs false
theorem len45 (x : S45) : (en45 x).length = 2 := by simp [en45]
theorem op46 {W : World} : Op Tryd.prog W en45 46 wf45 := op_struct (n := 2) Tryd.underlying46 (by kernel_rfl) (opf_cons (c := 1) (n := 1) rfl (by kernel_rfl) (by simp) (op_string Tryd.underlying9) (opf_one (n := 1) rfl (by kernel_rfl) (op_string Tryd.underlying9))) en45 wf45 (fun (a : ByteArray × ByteArray) => (⟨a.1, a.2⟩ : S45)) (fun a => by simp [en45, irow, srw, brw, lrw]) (fun a h => by exact h)
theorem len49 (x : S49) : (en49 x).length = 6 := by simp [en49]
theorem op50 {W : World} : Op Tryd.prog W en49 50 wf49 := op_struct (n := 6) Tryd.underlying50 (by kernel_rfl) (opf_cons (c := 1) (n := 5) rfl (by kernel_rfl) (by simp) (op_string Tryd.underlying9) (opf_cons (c := 1) (n := 4) rfl (by kernel_rfl) (by simp) (op_slice (s := 1) Tryd.underlying48 (by kernel_rfl) (fun _ => rfl) (op_string Tryd.underlying9)) (opf_cons (c := 1) (n := 3) rfl (by kernel_rfl) (by simp) (op_int Tryd.underlying2) (opf_cons (c := 1) (n := 2) rfl (by kernel_rfl) (by simp) (op_bool Tryd.underlying4) (opf_cons (c := 1) (n := 1) rfl (by kernel_rfl) (by simp) (op_int Tryd.underlying2) (opf_one (n := 1) rfl (by kernel_rfl) (op_int Tryd.underlying2))))))) en49 wf49 (fun (a : ByteArray × (List ByteArray) × Int × Bool × Int × Int) => (⟨a.1, a.2.1, a.2.2.1, a.2.2.2.1, a.2.2.2.2.1, a.2.2.2.2.2⟩ : S49)) (fun a => by simp [en49, irow, srw, brw, lrw]) (fun a h => by exact h)
theorem len24 (x : S24) : (en24 x).length = 5 := by simp [en24]
theorem op25 {W : World} : Op Tryd.prog W en24 25 wf24 := op_struct (n := 5) Tryd.underlying25 (by kernel_rfl) (opf_cons (c := 1) (n := 4) rfl (by kernel_rfl) (by simp) (op_string Tryd.underlying9) (opf_cons (c := 1) (n := 3) rfl (by kernel_rfl) (by simp) (op_int Tryd.underlying2) (opf_cons (c := 1) (n := 2) rfl (by kernel_rfl) (by simp) (op_bool Tryd.underlying4) (opf_cons (c := 1) (n := 1) rfl (by kernel_rfl) (by simp) (op_slice (s := 2) Tryd.underlying22 (by kernel_rfl) len45 op46) (opf_one (n := 1) rfl (by kernel_rfl) (op_slice (s := 6) Tryd.underlying23 (by kernel_rfl) len49 op50)))))) en24 wf24 (fun (a : ByteArray × Int × Bool × (List S45) × (List S49)) => (⟨a.1, a.2.1, a.2.2.1, a.2.2.2.1, a.2.2.2.2⟩ : S24)) (fun a => by simp [en24, irow, srw, brw, lrw]) (fun a h => by exact h)
end Go.Ab
