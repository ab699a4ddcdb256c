/- How each argument of the law is opened. -/
import Derived.Test.YtfeieigajdekhaaGreatDoorAbSN6
import Derived.Test.YtfeieigajdekhaaGreatDoorAbR
namespace Go.Ab
open Go.Proofs
set_option linter.unusedVariables false
set_option linter.unusedSimpArgs false
theorem len91 (x : S91) : (en91 x).length = 2 := by simp [en91]
theorem op95 {W : World} : Op Tryz.prog W en91 95 wf91 := op_struct (n := 2) Tryz.underlying95 (by kernel_rfl) (opf_cons (c := 1) (n := 1) rfl (by kernel_rfl) (by simp) (op_string Tryz.underlying9) (opf_one (n := 1) rfl (by kernel_rfl) (op_string Tryz.underlying9))) en91 wf91 (fun (a : ByteArray × ByteArray) => (⟨a.1, a.2⟩ : S91)) (fun a => by simp [en91, irow, srw, brw, lrw]) (fun a h => by exact h)
theorem len62 (x : S62) : (en62 x).length = 3 := by simp [en62]
theorem op63 {W : World} : Op Tryz.prog W en62 63 wf62 := op_struct (n := 3) Tryz.underlying63 (by kernel_rfl) (opf_cons (c := 1) (n := 2) rfl (by kernel_rfl) (by simp) (op_int Tryz.underlying2) (opf_cons (c := 1) (n := 1) rfl (by kernel_rfl) (by simp) (op_slice (s := 1) Tryz.underlying47 (by kernel_rfl) (fun _ => rfl) (op_string Tryz.underlying9)) (opf_one (n := 1) rfl (by kernel_rfl) (op_slice (s := 2) Tryz.underlying61 (by kernel_rfl) len91 op95)))) en62 wf62 (fun (a : Int × (List ByteArray) × (List S91)) => (⟨a.1, a.2.1, a.2.2⟩ : S62)) (fun a => by simp [en62, irow, srw, brw, lrw]) (fun a h => by exact h)
theorem len65 (x : S65) : (en65 x).length = 5 := by simp [en65]
theorem op66 {W : World} : Op Tryz.prog W en65 66 wf65 := op_struct (n := 5) Tryz.underlying66 (by kernel_rfl) (opf_cons (c := 1) (n := 4) rfl (by kernel_rfl) (by simp) (op_int Tryz.underlying2) (opf_cons (c := 1) (n := 3) rfl (by kernel_rfl) (by simp) (op_string Tryz.underlying9) (opf_cons (c := 1) (n := 2) rfl (by kernel_rfl) (by simp) (op_int Tryz.underlying2) (opf_cons (c := 1) (n := 1) rfl (by kernel_rfl) (by simp) (op_int Tryz.underlying2) (opf_one (n := 1) rfl (by kernel_rfl) (op_slice (s := 2) Tryz.underlying61 (by kernel_rfl) len91 op95)))))) en65 wf65 (fun (a : Int × ByteArray × Int × Int × (List S91)) => (⟨a.1, a.2.1, a.2.2.1, a.2.2.2.1, a.2.2.2.2⟩ : S65)) (fun a => by simp [en65, irow, srw, brw, lrw]) (fun a h => by exact h)
theorem len24 (x : S24) : (en24 x).length = 2 := by simp [en24]
theorem op25 {W : World} : Op Tryz.prog W en24 25 wf24 := op_struct (n := 2) Tryz.underlying25 (by kernel_rfl) (opf_cons (c := 1) (n := 1) rfl (by kernel_rfl) (by simp) (op_slice (s := 3) Tryz.underlying22 (by kernel_rfl) len62 op63) (opf_one (n := 1) rfl (by kernel_rfl) (op_slice (s := 5) Tryz.underlying23 (by kernel_rfl) len65 op66))) en24 wf24 (fun (a : (List S62) × (List S65)) => (⟨a.1, a.2⟩ : S24)) (fun a => by simp [en24, irow, srw, brw, lrw]) (fun a h => by exact h)
end Go.Ab
