/- The law of patterns' faults. No condition beyond the argument's shape. -/
import Derived.Test.YtphfoghhcemfhaaAbQ4
import Derived.Test.YtphfoghhcemfhaaAbH1
namespace Go.Ab
open Go.Proofs
set_option linter.unusedVariables false
set_option linter.unusedSimpArgs false
theorem lft0 : Lft 1048576 := by unfold Lft; omega
theorem pat_bd {x : S72} (h : bdPattern x) : (trPattern x).f3.length ≤ 1048576 ∧ (trPattern x).f4.length ≤ 1048576 := by
  unfold trPattern
  simp only [List.length_map]
  exact ⟨h.2.1.1, h.2.2.1.1⟩
theorem said_FnExactPatternFault (x : S72) (h : wf72 x) : ∃ k, laws_FnExactPatternFault.f k x = some true := by
  refine Ev.at_ (f := fun k => laws_FnExactPatternFault.f k x) ?_
  unfold laws_FnExactPatternFault.f
  obtain ⟨r, h1, h2, h3⟩ := sz_Pattern x h lft0
  refine Ev.bind h1 ?_
  by_cases hr : r < 0
  · simp only [decide_eq_true hr, cond_true]; exact Ev.ret _
  · have hb := h3 (by omega)
    obtain ⟨c, -, s1, s2⟩ := pattern2 (trPattern x) (pat_bd hb)
    have s3 : Ev (fun k => impl_PatternFault.f k (trPattern x)) (if c then 0 else 1) := by
      unfold impl_PatternFault.f
      exact Ev.bind s2 (by cases c <;> exact Ev.ret _)
    simp only [decide_eq_false hr, cond_false]
    refine Ev.bind (to_Pattern x hb) (Ev.bind s1 (Ev.bind (to_Pattern x hb) (Ev.bind s3 ?_)))
    simp only [beq_self_eq_true, cond_true]
    refine Ev.bind (to_Pattern x hb) (Ev.bind (eq_Pattern x hb) ?_)
    simp only [cond_true]; exact Ev.ret _
end Go.Ab
