/- How each argument of the law is opened. -/
import Derived.Test.YtldiipekkdaffaaGreatDoorAbH1
import Derived.Test.YtldiipekkdaffaaGreatDoorAbR
namespace Go.Ab
open Go.Proofs
set_option linter.unusedVariables false
set_option linter.unusedSimpArgs false
theorem len52 (x : S52) : (en52 x).length = 2 := by simp [en52]
theorem op53 {W : World} : Op Tryz.prog W en52 53 wf52 := op_struct (n := 2) Tryz.underlying53 (by kernel_rfl) (opf_cons (c := 1) (n := 1) rfl (by kernel_rfl) (by simp) (op_string Tryz.underlying9) (opf_one (n := 1) rfl (by kernel_rfl) (op_string Tryz.underlying9))) en52 wf52 (fun (a : ByteArray × ByteArray) => (⟨a.1, a.2⟩ : S52)) (fun a => by simp [en52, irow, srw, brw, lrw]) (fun a h => by exact h)
end Go.Ab
