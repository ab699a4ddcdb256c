/- What the row says of the program stands. -/
import Derived.Test.YtaddedbombndlaaRows
import Derived.ProofKit
import Derived.JoinedOf
namespace Go.Ab
open Go.Proofs Go.Proofs.Ytaddedbombndlaa
set_option maxHeartbeats 8000000 in
set_option maxRecDepth 100000 in
theorem fitsFnExactNamesIn : joinedFacts Try.pinned.checked.prog 4 Try.f4 Rows.fnExactNamesInSpec Rows.fnExactNamesInRow = true := by
  unfold joinedFacts
  simp only [Bool.and_eq_true]
  repeat' refine And.intro ?_ ?_
  all_goals as_aux_lemma => kernel_rfl
end Go.Ab
