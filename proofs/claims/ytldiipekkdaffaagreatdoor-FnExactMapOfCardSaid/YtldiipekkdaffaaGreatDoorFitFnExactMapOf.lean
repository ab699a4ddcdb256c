/- What the row says of the program stands. -/
import Derived.Test.YtldiipekkdaffaaGreatDoorRows
import Derived.ProofKit
import Derived.JoinedOf
namespace Go.Ab
open Go.Proofs Go.Proofs.YtldiipekkdaffaaGreatDoor
set_option maxHeartbeats 8000000 in
set_option maxRecDepth 100000 in
theorem fitsFnExactMapOf : joinedFacts Tryz.pinned.checked.prog 4 Tryz.f4 Rows.fnExactMapOfSpec Rows.fnExactMapOfRow = true := by
  unfold joinedFacts
  simp only [Bool.and_eq_true]
  repeat' refine And.intro ?_ ?_
  all_goals as_aux_lemma => kernel_rfl
end Go.Ab
