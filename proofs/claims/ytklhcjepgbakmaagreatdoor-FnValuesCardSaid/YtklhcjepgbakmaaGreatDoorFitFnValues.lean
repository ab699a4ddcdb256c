/- What the row says of the program stands. -/
import Derived.Test.YtklhcjepgbakmaaGreatDoorRows
import Derived.ProofKit
import Derived.JoinedOf
namespace Go.Ab
open Go.Proofs Go.Proofs.YtklhcjepgbakmaaGreatDoor
set_option maxHeartbeats 8000000 in
set_option maxRecDepth 100000 in
theorem fitsFnValues : joinedFacts Tryz.pinned.checked.prog 5 Tryz.f5 Rows.fnValuesSpec Rows.fnValuesRow = true := by
  unfold joinedFacts
  simp only [Bool.and_eq_true]
  repeat' refine And.intro ?_ ?_
  all_goals as_aux_lemma => kernel_rfl
end Go.Ab
