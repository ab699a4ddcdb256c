/- The program's SumOf and the reference's SumOf tell the same number for every text of at most 1048576 bytes: both loops take the same steps. No condition beyond the statement's own. -/
import Derived.Test.YtfokinbpepaamaaPFnExactSumOfx1
namespace Go.Proofs.Ytfokinbpepaamaa.Pure
open Go.RowKit Go.Proofs.Ytfokinbpepaamaa.PFnExactSumOf Go.Proofs.YtfokinbpepaamaaW.PrintWords Go.Proofs.YtfokinbpepaamaaW.PrintLast

theorem wrap_up {i : Int} {n : Nat} (h0 : 0 ≤ i) (h : i < (n : Int)) (hn : n ≤ 140737488351232) : wrap64 (i + 1) = i + 1 := by
  unfold wrap64
  omega

theorem sum_same (s : ByteArray) (hn : s.size ≤ 140737488351232) (d : Nat) : ∀ (k : Nat) (x i : Int), 0 ≤ i → (s.size : Int) - i ≤ d → d < k →
    ∃ r, spec_SumOf.l0 k s x i = some r ∧ impl_sumOf.l0 k s x (s.size : Int) i = some r := by
  induction d with
  | zero =>
    intro k x i h0 hd hk
    obtain ⟨k, rfl⟩ : ∃ m, k = m + 1 := ⟨k - 1, by omega⟩
    have h : ¬ i < (s.size : Int) := by omega
    exact ⟨x, by simp only [spec_SumOf.l0]; rw [if_neg h], by simp only [impl_sumOf.l0]; rw [if_neg h]⟩
  | succ d ih =>
    intro k x i h0 hd hk
    obtain ⟨k, rfl⟩ : ∃ m, k = m + 1 := ⟨k - 1, by omega⟩
    by_cases h : i < (s.size : Int)
    · obtain ⟨r, h1, h2⟩ := ih k (Int.tmod (wrap64 ((wrap64 ((wrap64 (x * 31)) + (wrap64 (bt s i)))) + 1)) 4294967291) (i + 1) (by omega) (by omega) (by omega)
      refine ⟨r, ?_, ?_⟩
      · simp only [spec_SumOf.l0]; rw [if_pos h, if_pos h0, wrap_up h0 h hn]; exact h1
      · simp only [impl_sumOf.l0]; rw [if_pos h, if_pos h0, if_pos h, wrap_up h0 h hn]; exact h2
    · exact ⟨x, by simp only [spec_SumOf.l0]; rw [if_neg h], by simp only [impl_sumOf.l0]; rw [if_neg h]⟩

theorem FnExactSumOf : laws_FnExactSumOf.Pure := by
  intro s hn
  obtain ⟨r, h1, h2⟩ := sum_same s hn s.size (s.size + 1) 7 0 (by omega) (by omega) (by omega)
  refine ⟨s.size + 1, ?_⟩
  unfold laws_FnExactSumOf.f spec_SumOf.f impl_SumOf.f impl_sumOf.f
  by_cases hb : (s.size : Int) > 1048576
  · rw [if_pos hb]
  · rw [if_neg hb]
    by_cases hc : (s.size : Int) > 65536
    · rw [if_pos hc, if_pos hc]; simp
    · rw [if_neg hc, if_neg hc, h1, h2]; simp

end Go.Proofs.Ytfokinbpepaamaa.Pure
