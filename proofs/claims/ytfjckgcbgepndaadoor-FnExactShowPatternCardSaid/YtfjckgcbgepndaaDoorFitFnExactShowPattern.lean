/- What the row says of the program stands. -/
import Derived.Test.YtfjckgcbgepndaaDoorRows
import Derived.ProofKit
import Derived.JoinedOf
namespace Go.Ab
open Go.Proofs Go.Proofs.YtfjckgcbgepndaaDoor
set_option maxHeartbeats 8000000 in
set_option maxRecDepth 100000 in
theorem fitsFnExactShowPattern : joinedFacts Tryd.pinned.checked.prog 3 Tryd.f3 Rows.fnExactShowPatternSpec Rows.fnExactShowPatternRow = true := by
  unfold joinedFacts
  simp only [Bool.and_eq_true]
  repeat' refine And.intro ?_ ?_
  all_goals as_aux_lemma => kernel_rfl
end Go.Ab
