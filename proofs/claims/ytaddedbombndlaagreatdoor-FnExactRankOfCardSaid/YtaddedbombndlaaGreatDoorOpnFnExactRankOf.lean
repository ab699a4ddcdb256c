/- How each argument of the law is opened. -/
import Derived.Test.YtaddedbombndlaaGreatDoorAbH1
import Derived.Test.YtaddedbombndlaaGreatDoorAbR
namespace Go.Ab
open Go.Proofs
set_option linter.unusedVariables false
set_option linter.unusedSimpArgs false
theorem len92 (x : S92) : (en92 x).length = 2 := by simp [en92]
theorem op96 {W : World} : Op Tryz.prog W en92 96 wf92 := op_struct (n := 2) Tryz.underlying96 (by kernel_rfl) (opf_cons (c := 1) (n := 1) rfl (by kernel_rfl) (by simp) (op_string Tryz.underlying9) (opf_one (n := 1) rfl (by kernel_rfl) (op_string Tryz.underlying9))) en92 wf92 (fun (a : ByteArray × ByteArray) => (⟨a.1, a.2⟩ : S92)) (fun a => by simp [en92, irow, srw, brw, lrw]) (fun a h => by exact h)
theorem len67 (x : S67) : (en67 x).length = 3 := by simp [en67]
theorem op68 {W : World} : Op Tryz.prog W en67 68 wf67 := op_struct (n := 3) Tryz.underlying68 (by kernel_rfl) (opf_cons (c := 1) (n := 2) rfl (by kernel_rfl) (by simp) (op_int Tryz.underlying2) (opf_cons (c := 1) (n := 1) rfl (by kernel_rfl) (by simp) (op_slice (s := 1) Tryz.underlying44 (by kernel_rfl) (fun _ => rfl) (op_string Tryz.underlying9)) (opf_one (n := 1) rfl (by kernel_rfl) (op_slice (s := 2) Tryz.underlying66 (by kernel_rfl) len92 op96)))) en67 wf67 (fun (a : Int × (List ByteArray) × (List S92)) => (⟨a.1, a.2.1, a.2.2⟩ : S67)) (fun a => by simp [en67, irow, srw, brw, lrw]) (fun a h => by exact h)
theorem len70 (x : S70) : (en70 x).length = 5 := by simp [en70]
theorem op71 {W : World} : Op Tryz.prog W en70 71 wf70 := op_struct (n := 5) Tryz.underlying71 (by kernel_rfl) (opf_cons (c := 1) (n := 4) rfl (by kernel_rfl) (by simp) (op_int Tryz.underlying2) (opf_cons (c := 1) (n := 3) rfl (by kernel_rfl) (by simp) (op_string Tryz.underlying9) (opf_cons (c := 1) (n := 2) rfl (by kernel_rfl) (by simp) (op_int Tryz.underlying2) (opf_cons (c := 1) (n := 1) rfl (by kernel_rfl) (by simp) (op_int Tryz.underlying2) (opf_one (n := 1) rfl (by kernel_rfl) (op_slice (s := 2) Tryz.underlying66 (by kernel_rfl) len92 op96)))))) en70 wf70 (fun (a : Int × ByteArray × Int × Int × (List S92)) => (⟨a.1, a.2.1, a.2.2.1, a.2.2.2.1, a.2.2.2.2⟩ : S70)) (fun a => by simp [en70, irow, srw, brw, lrw]) (fun a h => by exact h)
theorem len24 (x : S24) : (en24 x).length = 2 := by simp [en24]
theorem op25 {W : World} : Op Tryz.prog W en24 25 wf24 := op_struct (n := 2) Tryz.underlying25 (by kernel_rfl) (opf_cons (c := 1) (n := 1) rfl (by kernel_rfl) (by simp) (op_slice (s := 3) Tryz.underlying22 (by kernel_rfl) len67 op68) (opf_one (n := 1) rfl (by kernel_rfl) (op_slice (s := 5) Tryz.underlying23 (by kernel_rfl) len70 op71))) en24 wf24 (fun (a : (List S67) × (List S70)) => (⟨a.1, a.2⟩ : S24)) (fun a => by simp [en24, irow, srw, brw, lrw]) (fun a h => by exact h)
end Go.Ab
