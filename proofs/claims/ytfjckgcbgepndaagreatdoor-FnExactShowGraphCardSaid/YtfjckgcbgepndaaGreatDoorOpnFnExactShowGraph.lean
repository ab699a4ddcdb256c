/- How each argument of the law is opened. -/
import Derived.Test.YtfjckgcbgepndaaGreatDoorAbH1
import Derived.Test.YtfjckgcbgepndaaGreatDoorAbR
namespace Go.Ab
open Go.Proofs
set_option linter.unusedVariables false
set_option linter.unusedSimpArgs false
theorem len178 (x : S178) : (en178 x).length = 2 := by simp [en178]
theorem op220 {W : World} : Op Tryz.prog W en178 220 wf178 := op_struct (n := 2) Tryz.underlying220 (by kernel_rfl) (opf_cons (c := 1) (n := 1) rfl (by kernel_rfl) (by simp) (op_string Tryz.underlying9) (opf_one (n := 1) rfl (by kernel_rfl) (op_string Tryz.underlying9))) en178 wf178 (fun (a : ByteArray × ByteArray) => (⟨a.1, a.2⟩ : S178)) (fun a => by simp [en178, irow, srw, brw, lrw]) (fun a h => by exact h)
theorem len145 (x : S145) : (en145 x).length = 3 := by simp [en145]
theorem op146 {W : World} : Op Tryz.prog W en145 146 wf145 := op_struct (n := 3) Tryz.underlying146 (by kernel_rfl) (opf_cons (c := 1) (n := 2) rfl (by kernel_rfl) (by simp) (op_int Tryz.underlying2) (opf_cons (c := 1) (n := 1) rfl (by kernel_rfl) (by simp) (op_slice (s := 1) Tryz.underlying29 (by kernel_rfl) (fun _ => rfl) (op_string Tryz.underlying9)) (opf_one (n := 1) rfl (by kernel_rfl) (op_slice (s := 2) Tryz.underlying144 (by kernel_rfl) len178 op220)))) en145 wf145 (fun (a : Int × (List ByteArray) × (List S178)) => (⟨a.1, a.2.1, a.2.2⟩ : S145)) (fun a => by simp [en145, irow, srw, brw, lrw]) (fun a h => by exact h)
theorem len148 (x : S148) : (en148 x).length = 5 := by simp [en148]
theorem op149 {W : World} : Op Tryz.prog W en148 149 wf148 := op_struct (n := 5) Tryz.underlying149 (by kernel_rfl) (opf_cons (c := 1) (n := 4) rfl (by kernel_rfl) (by simp) (op_int Tryz.underlying2) (opf_cons (c := 1) (n := 3) rfl (by kernel_rfl) (by simp) (op_string Tryz.underlying9) (opf_cons (c := 1) (n := 2) rfl (by kernel_rfl) (by simp) (op_int Tryz.underlying2) (opf_cons (c := 1) (n := 1) rfl (by kernel_rfl) (by simp) (op_int Tryz.underlying2) (opf_one (n := 1) rfl (by kernel_rfl) (op_slice (s := 2) Tryz.underlying144 (by kernel_rfl) len178 op220)))))) en148 wf148 (fun (a : Int × ByteArray × Int × Int × (List S178)) => (⟨a.1, a.2.1, a.2.2.1, a.2.2.2.1, a.2.2.2.2⟩ : S148)) (fun a => by simp [en148, irow, srw, brw, lrw]) (fun a h => by exact h)
theorem len43 (x : S43) : (en43 x).length = 2 := by simp [en43]
theorem op44 {W : World} : Op Tryz.prog W en43 44 wf43 := op_struct (n := 2) Tryz.underlying44 (by kernel_rfl) (opf_cons (c := 1) (n := 1) rfl (by kernel_rfl) (by simp) (op_slice (s := 3) Tryz.underlying41 (by kernel_rfl) len145 op146) (opf_one (n := 1) rfl (by kernel_rfl) (op_slice (s := 5) Tryz.underlying42 (by kernel_rfl) len148 op149))) en43 wf43 (fun (a : (List S145) × (List S148)) => (⟨a.1, a.2⟩ : S43)) (fun a => by simp [en43, irow, srw, brw, lrw]) (fun a h => by exact h)
end Go.Ab
