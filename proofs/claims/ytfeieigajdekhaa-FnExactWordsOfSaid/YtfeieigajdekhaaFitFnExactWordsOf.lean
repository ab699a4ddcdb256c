/- What the row says of the program stands. -/
import Derived.Test.YtfeieigajdekhaaRows
import Derived.ProofKit
import Derived.JoinedOf
namespace Go.Ab
open Go.Proofs Go.Proofs.Ytfeieigajdekhaa
set_option maxHeartbeats 8000000 in
set_option maxRecDepth 100000 in
theorem fitsFnExactWordsOf : joinedFacts Try.pinned.checked.prog 4 Try.f4 Rows.fnExactWordsOfSpec Rows.fnExactWordsOfRow = true := by
  unfold joinedFacts
  simp only [Bool.and_eq_true]
  repeat' refine And.intro ?_ ?_
  all_goals as_aux_lemma => kernel_rfl
end Go.Ab
