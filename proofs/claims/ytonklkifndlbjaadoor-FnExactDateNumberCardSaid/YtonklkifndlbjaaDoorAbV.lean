/- The laws of one value's text: both tell the same of every text. No condition. -/
import Derived.Test.YtonklkifndlbjaaDoorAbL5
namespace Go.Ab
open Go.Proofs
set_option linter.unusedVariables false
set_option linter.unusedSimpArgs false
theorem guard_ {t : ByteArray} {f : Nat → Option Bool} (h : Ev f true) : ∃ k, (bif decide (1048576 < (t.size : Int)) then some true else f k) = some true := by
  obtain ⟨k, hk⟩ := h.at_
  refine ⟨k, ?_⟩
  cases decide (1048576 < (t.size : Int))
  · exact hk
  · rfl
theorem beq_true (a b : Int) (h : a = b) : Ev (fun _ => (bif (a == b) then (some true) else (some false))) true := by
  subst h
  simp only [beq_self_eq_true, cond_true]
  exact Ev.ret _
theorem said_FnExactKindOf (t : ByteArray) : ∃ k, laws_FnExactKindOf.f k t = some true := by
  unfold laws_FnExactKindOf.f
  refine guard_ ?_
  unfold spec_KindOf.f impl_KindOf.f
  rcases read_ t with ⟨sv, hw, h1, h2⟩ | ⟨iv, h1, h2⟩
  · refine Ev.bind (Ev.bind h1 (Ev.ret _)) (Ev.bind (Ev.bind h2 (by simp only [cond_true]; exact Ev.ret _)) (beq_true _ _ (by rw [toI_eq])))
  · refine Ev.bind (Ev.bind h1 (Ev.ret _)) (Ev.bind (Ev.bind h2 (by simp only [cond_false]; exact Ev.ret _)) (beq_true _ _ rfl))
theorem said_FnExactDateNumber (t : ByteArray) : ∃ k, laws_FnExactDateNumber.f k t = some true := by
  unfold laws_FnExactDateNumber.f
  refine guard_ ?_
  unfold spec_DateNumber.f impl_DateNumber.f
  rcases read_ t with ⟨sv, hw, h1, h2⟩ | ⟨iv, h1, h2⟩
  · have e : (toI sv).f0 = sv.f0 := by rw [toI_eq]
    have e1 : (toI sv).f1 = sv.f1 := by rw [toI_eq]
    cases hk : (sv.f0 == 4) with
    | true => exact Ev.bind (Ev.bind h1 (by simp only [hk, cond_true]; exact Ev.ret _)) (Ev.bind (Ev.bind h2 (by simp only [cond_true, e, hk]; exact Ev.ret _)) (beq_true _ _ e1))
    | false => exact Ev.bind (Ev.bind h1 (by simp only [hk, cond_false]; exact Ev.ret _)) (Ev.bind (Ev.bind h2 (by simp only [cond_true, e, hk, cond_false]; exact Ev.ret _)) (beq_true _ _ rfl))
  · exact Ev.bind (Ev.bind h1 (by simp only [show ((-1 : Int) == 4) = false from rfl, cond_false]; exact Ev.ret _)) (Ev.bind (Ev.bind h2 (by simp only [cond_false]; exact Ev.ret _)) (beq_true _ _ rfl))
theorem said_FnExactValueFault (t : ByteArray) : ∃ k, laws_FnExactValueFault.f k t = some true := by
  unfold laws_FnExactValueFault.f
  refine guard_ ?_
  unfold spec_ValueFault.f impl_ValueFault.f
  rcases read_ t with ⟨sv, hw, h1, h2⟩ | ⟨iv, h1, h2⟩
  · have hk : decide (sv.f0 < 0) = false := by cases hw with | mk _ hk => simp; omega
    exact Ev.bind (Ev.bind h1 (by simp only [hk, cond_false]; exact Ev.ret _)) (Ev.bind (Ev.bind h2 (by simp only [cond_true]; exact Ev.ret _)) (beq_true _ _ rfl))
  · exact Ev.bind (Ev.bind h1 (by simp only [show decide ((-1 : Int) < 0) = true from rfl, cond_true]; exact Ev.ret _)) (Ev.bind (Ev.bind h2 (by simp only [cond_false]; exact Ev.ret _)) (beq_true _ _ rfl))
theorem said_FnExactTextOf (t : ByteArray) : ∃ k, laws_FnExactTextOf.f k t = some true := by
  unfold laws_FnExactTextOf.f
  refine guard_ ?_
  unfold spec_TextOf.f impl_TextOf.f
  have fin : ∀ a b : ByteArray, a = b → Ev (fun _ => (bif decide (a = b) then (some true) else (some false))) true := fun a b h => by
    subst h
    simp only [decide_true, cond_true]
    exact Ev.ret _
  rcases read_ t with ⟨sv, hw, h1, h2⟩ | ⟨iv, h1, h2⟩
  · have e : (toI sv).f0 = sv.f0 := by rw [toI_eq]
    have e1 : (toI sv).f3 = sv.f3 := by rw [toI_eq]
    cases hk : (sv.f0 == 3) with
    | true => exact Ev.bind (Ev.bind h1 (Ev.ret _)) (Ev.bind (Ev.bind h2 (by simp only [cond_true, e, hk]; exact Ev.ret _)) (fin _ _ e1))
    | false =>
      have hs : sv.f3 = ⟨#[]⟩ := by cases hw with | mk _ _ _ _ _ _ _ ht _ _ _ => exact ht (by simpa using hk)
      exact Ev.bind (Ev.bind h1 (Ev.ret _)) (Ev.bind (Ev.bind h2 (by simp only [cond_true, e, hk, cond_false]; exact Ev.ret _)) (fin _ _ hs.symm))
  · exact Ev.bind (Ev.bind h1 (Ev.ret _)) (Ev.bind (Ev.bind h2 (by simp only [cond_false]; exact Ev.ret _)) (fin _ _ rfl))
end Go.Ab
