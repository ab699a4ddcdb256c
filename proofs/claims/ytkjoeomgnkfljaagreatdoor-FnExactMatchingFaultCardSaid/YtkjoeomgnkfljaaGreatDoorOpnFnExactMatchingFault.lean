/- How each argument of the law is opened. -/
import Derived.Test.YtkjoeomgnkfljaaGreatDoorAbH1
import Derived.Test.YtkjoeomgnkfljaaGreatDoorAbR
namespace Go.Ab
open Go.Proofs
set_option linter.unusedVariables false
set_option linter.unusedSimpArgs false
theorem len193 (x : S193) : (en193 x).length = 2 := by simp [en193]
theorem op272 {W : World} : Op Tryz.prog W en193 272 wf193 := op_struct (n := 2) Tryz.underlying272 (by kernel_rfl) (opf_cons (c := 1) (n := 1) rfl (by kernel_rfl) (by simp) (op_string Tryz.underlying9) (opf_one (n := 1) rfl (by kernel_rfl) (op_string Tryz.underlying9))) en193 wf193 (fun (a : ByteArray × ByteArray) => (⟨a.1, a.2⟩ : S193)) (fun a => by simp [en193, irow, srw, brw, lrw]) (fun a h => by exact h)
theorem len137 (x : S137) : (en137 x).length = 3 := by simp [en137]
theorem op138 {W : World} : Op Tryz.prog W en137 138 wf137 := op_struct (n := 3) Tryz.underlying138 (by kernel_rfl) (opf_cons (c := 1) (n := 2) rfl (by kernel_rfl) (by simp) (op_int Tryz.underlying2) (opf_cons (c := 1) (n := 1) rfl (by kernel_rfl) (by simp) (op_slice (s := 1) Tryz.underlying52 (by kernel_rfl) (fun _ => rfl) (op_string Tryz.underlying9)) (opf_one (n := 1) rfl (by kernel_rfl) (op_slice (s := 2) Tryz.underlying136 (by kernel_rfl) len193 op272)))) en137 wf137 (fun (a : Int × (List ByteArray) × (List S193)) => (⟨a.1, a.2.1, a.2.2⟩ : S137)) (fun a => by simp [en137, irow, srw, brw, lrw]) (fun a h => by exact h)
theorem len139 (x : S139) : (en139 x).length = 5 := by simp [en139]
theorem op140 {W : World} : Op Tryz.prog W en139 140 wf139 := op_struct (n := 5) Tryz.underlying140 (by kernel_rfl) (opf_cons (c := 1) (n := 4) rfl (by kernel_rfl) (by simp) (op_int Tryz.underlying2) (opf_cons (c := 1) (n := 3) rfl (by kernel_rfl) (by simp) (op_string Tryz.underlying9) (opf_cons (c := 1) (n := 2) rfl (by kernel_rfl) (by simp) (op_int Tryz.underlying2) (opf_cons (c := 1) (n := 1) rfl (by kernel_rfl) (by simp) (op_int Tryz.underlying2) (opf_one (n := 1) rfl (by kernel_rfl) (op_slice (s := 2) Tryz.underlying136 (by kernel_rfl) len193 op272)))))) en139 wf139 (fun (a : Int × ByteArray × Int × Int × (List S193)) => (⟨a.1, a.2.1, a.2.2.1, a.2.2.2.1, a.2.2.2.2⟩ : S139)) (fun a => by simp [en139, irow, srw, brw, lrw]) (fun a h => by exact h)
theorem len24 (x : S24) : (en24 x).length = 2 := by simp [en24]
theorem op25 {W : World} : Op Tryz.prog W en24 25 wf24 := op_struct (n := 2) Tryz.underlying25 (by kernel_rfl) (opf_cons (c := 1) (n := 1) rfl (by kernel_rfl) (by simp) (op_slice (s := 3) Tryz.underlying22 (by kernel_rfl) len137 op138) (opf_one (n := 1) rfl (by kernel_rfl) (op_slice (s := 5) Tryz.underlying23 (by kernel_rfl) len139 op140))) en24 wf24 (fun (a : (List S137) × (List S139)) => (⟨a.1, a.2⟩ : S24)) (fun a => by simp [en24, irow, srw, brw, lrw]) (fun a h => by exact h)
theorem len80 (x : S80) : (en80 x).length = 3 := by simp [en80]
theorem op81 {W : World} : Op Tryz.prog W en80 81 wf80 := op_struct (n := 3) Tryz.underlying81 (by kernel_rfl) (opf_cons (c := 1) (n := 2) rfl (by kernel_rfl) (by simp) (op_int Tryz.underlying2) (opf_cons (c := 1) (n := 1) rfl (by kernel_rfl) (by simp) (op_slice (s := 1) Tryz.underlying27 (by kernel_rfl) (fun _ => rfl) (op_int Tryz.underlying2)) (opf_one (n := 1) rfl (by kernel_rfl) (op_slice (s := 1) Tryz.underlying27 (by kernel_rfl) (fun _ => rfl) (op_int Tryz.underlying2))))) en80 wf80 (fun (a : Int × (List Int) × (List Int)) => (⟨a.1, a.2.1, a.2.2⟩ : S80)) (fun a => by simp [en80, irow, srw, brw, lrw]) (fun a h => by exact h)
end Go.Ab
