/- How each argument of the law is opened. -/
import Derived.Test.YtaddedbombndlaaAbH1
import Derived.Test.YtaddedbombndlaaAbR
namespace Go.Ab
open Go.Proofs
set_option linter.unusedVariables false
set_option linter.unusedSimpArgs false
theorem len124 (x : S124) : (en124 x).length = 2 := by simp [en124]
theorem op125 {W : World} : Op Try.prog W en124 125 wf124 := op_struct (n := 2) Try.underlying125 (by kernel_rfl) (opf_cons (c := 1) (n := 1) rfl (by kernel_rfl) (by simp) (op_string Try.underlying9) (opf_one (n := 1) rfl (by kernel_rfl) (op_string Try.underlying9))) en124 wf124 (fun (a : ByteArray × ByteArray) => (⟨a.1, a.2⟩ : S124)) (fun a => by simp [en124, irow, srw, brw, lrw]) (fun a h => by exact h)
theorem len127 (x : S127) : (en127 x).length = 6 := by simp [en127]
theorem op128 {W : World} : Op Try.prog W en127 128 wf127 := op_struct (n := 6) Try.underlying128 (by kernel_rfl) (opf_cons (c := 1) (n := 5) rfl (by kernel_rfl) (by simp) (op_string Try.underlying9) (opf_cons (c := 1) (n := 4) rfl (by kernel_rfl) (by simp) (op_slice (s := 1) Try.underlying28 (by kernel_rfl) (fun _ => rfl) (op_string Try.underlying9)) (opf_cons (c := 1) (n := 3) rfl (by kernel_rfl) (by simp) (op_int Try.underlying2) (opf_cons (c := 1) (n := 2) rfl (by kernel_rfl) (by simp) (op_bool Try.underlying4) (opf_cons (c := 1) (n := 1) rfl (by kernel_rfl) (by simp) (op_int Try.underlying2) (opf_one (n := 1) rfl (by kernel_rfl) (op_int Try.underlying2))))))) en127 wf127 (fun (a : ByteArray × (List ByteArray) × Int × Bool × Int × Int) => (⟨a.1, a.2.1, a.2.2.1, a.2.2.2.1, a.2.2.2.2.1, a.2.2.2.2.2⟩ : S127)) (fun a => by simp [en127, irow, srw, brw, lrw]) (fun a h => by exact h)
theorem len43 (x : S43) : (en43 x).length = 5 := by simp [en43]
theorem op44 {W : World} : Op Try.prog W en43 44 wf43 := op_struct (n := 5) Try.underlying44 (by kernel_rfl) (opf_cons (c := 1) (n := 4) rfl (by kernel_rfl) (by simp) (op_string Try.underlying9) (opf_cons (c := 1) (n := 3) rfl (by kernel_rfl) (by simp) (op_int Try.underlying2) (opf_cons (c := 1) (n := 2) rfl (by kernel_rfl) (by simp) (op_bool Try.underlying4) (opf_cons (c := 1) (n := 1) rfl (by kernel_rfl) (by simp) (op_slice (s := 2) Try.underlying41 (by kernel_rfl) len124 op125) (opf_one (n := 1) rfl (by kernel_rfl) (op_slice (s := 6) Try.underlying42 (by kernel_rfl) len127 op128)))))) en43 wf43 (fun (a : ByteArray × Int × Bool × (List S124) × (List S127)) => (⟨a.1, a.2.1, a.2.2.1, a.2.2.2.1, a.2.2.2.2⟩ : S43)) (fun a => by simp [en43, irow, srw, brw, lrw]) (fun a h => by exact h)
end Go.Ab
