/- The nodes between two ends: both tell the same; the law. No condition beyond the arguments' shapes. -/
import Derived.Test.YtfjckgcbgepndaaGreatDoorAbG1
import Derived.Test.YtfjckgcbgepndaaGreatDoorAbH1
namespace Go.Ab
open Go.Proofs
set_option linter.unusedVariables false
set_option linter.unusedSimpArgs false
theorem two_bind {α β γ : Type} {f f' : Nat → Option α} {g g' : Nat → Option β} {h h' : Nat → α → β → Option γ} {a : α} {b : β} {P : γ → Prop} (a1 : Ev f a) (b1 : Ev g b) (a2 : Ev f' a) (b2 : Ev g' b)
    (q : ∃ R, P R ∧ Ev (fun k => h k a b) R ∧ Ev (fun k => h' k a b) R) : ∃ R, P R ∧ Ev (fun k => (f k).bind fun x => (g k).bind fun y => h k x y) R ∧ Ev (fun k => (f' k).bind fun x => (g' k).bind fun y => h' k x y) R := by
  obtain ⟨R, q1, q2, q3⟩ := q
  exact ⟨R, q1, Ev.bind a1 (Ev.bind b1 q2), Ev.bind a2 (Ev.bind b2 q3)⟩
theorem range_l0 {l : List S73} {e1 e2 : List ByteArray} (hl : l.length ≤ 1000) (hx : IxOk l) (v1 : VsOk e1) (t1 : e1.length ≤ 3) (s1 : ∀ h : 0 < l.length, e1.length ≤ l[0].f0.length) (v2 : VsOk e2) (t2 : e2.length ≤ 3) (s2 : ∀ h : 0 < l.length, e2.length ≤ l[0].f0.length) (bl bh : Bool) :
    ∀ (n i : Nat) (acc : List Int), l.length - i ≤ n → acc.length ≤ i → acc.length ≤ l.length → ∃ R, R.length ≤ l.length ∧ Ev (fun k => spec_FindRange_O.l0 k l e1 e2 bl bh acc (i : Int)) R ∧ Ev (fun k => impl_FindRange_O.l0 k e1 e2 bl bh acc l (i : Int)) R := by
  have fin : ∀ (i : Nat) (acc : List Int), ¬ i < l.length → acc.length ≤ l.length → ∃ R, R.length ≤ l.length ∧ Ev (fun k => spec_FindRange_O.l0 k l e1 e2 bl bh acc (i : Int)) R ∧ Ev (fun k => impl_FindRange_O.l0 k e1 e2 bl bh acc l (i : Int)) R := fun i acc h ha => by
    refine ⟨acc, ha, Ev.step ?_, Ev.step ?_⟩
    · simp only [spec_FindRange_O.l0, ltn h, cond_false]; exact Ev.ret _
    · simp only [impl_FindRange_O.l0, ltn h, cond_false]; exact Ev.ret _
  intro n
  induction n with
  | zero => intro i acc h ha hb; exact fin i acc (by omega) hb
  | succ n ih =>
    intro i acc h ha hb
    by_cases hi : i < l.length
    case neg => exact fin i acc hi hb
    have h00 : 0 < l.length := by omega
    obtain ⟨w1, w2, w3⟩ := hx _ (List.getElem_mem hi)
    rw [List.getElem?_eq_getElem h00] at w2
    have w2' : l[i].f0.length = l[0].f0.length := w2
    obtain ⟨a, a1, a2⟩ := side2 w1 v1 (by have := s1 h00; omega) (by omega)
    obtain ⟨b, b1, b2⟩ := side2 w1 v2 (by have := s2 h00; omega) (by omega)
    obtain ⟨R1, n1, n2, n3⟩ := ih (i + 1) acc (by omega) (by omega) hb
    obtain ⟨R2, m1, m2, m3⟩ := ih (i + 1) (acc ++ [l[i].f1]) (by omega) (by simp; omega) (by simp; omega)
    suffices hs : ∃ R, R.length ≤ l.length ∧ Ev (fun k => spec_FindRange_O.l0 (k + 1) l e1 e2 bl bh acc (i : Int)) R ∧ Ev (fun k => impl_FindRange_O.l0 (k + 1) e1 e2 bl bh acc l (i : Int)) R by
      obtain ⟨R, q1, q2, q3⟩ := hs
      exact ⟨R, q1, q2.step, q3.step⟩
    simp only [spec_FindRange_O.l0, impl_FindRange_O.l0, ltd hi, cond_true, ixg hi, Option.bind_some, wup hi (show l.length ≤ 2000000 by omega), app1 (show acc.length ≤ 1000000 by omega)]
    refine two_bind a1 b1 a2 b2 ?_
    generalize decide ((0 : Int) < (e1.length : Int)) = c1
    generalize decide ((0 : Int) < (e2.length : Int)) = c2
    generalize decide (a < 0) = c3
    generalize (a == 0) = c4
    generalize decide (0 < b) = c5
    generalize (b == 0) = c6
    cases bl <;> cases bh <;> cases c1 <;> cases c2 <;> cases c3 <;> cases c4 <;> cases c5 <;> cases c6 <;> simp only [cond_true, cond_false] <;> first | exact ⟨R1, n1, n2, n3⟩ | exact ⟨R2, m1, m2, m3⟩
theorem range2 (l : List S73) (e1 e2 : List ByteArray) (bl bh : Bool) : ∃ R, R.length ≤ 2000000 ∧ Ev (fun k => spec_FindRange_O.f k l e1 e2 bl bh) R ∧ Ev (fun k => impl_FindRange_O.f k l e1 e2 bl bh) R := by
  by_cases h : l.length ≤ 1000
  · obtain ⟨c, h1, h2, h3⟩ := index_ok h
    have no : ∀ {r : List Int}, Ev (fun k => spec_FindRange_O.f (k + 1) l e1 e2 bl bh) r → Ev (fun k => spec_FindRange_O.f k l e1 e2 bl bh) r := fun h => h.step
    have fits : ∀ R, R.length ≤ 2000000 → Ev (fun k => spec_FindRange_O.f (k + 1) l e1 e2 bl bh) R → Ev (fun k => impl_FindRange_O.f (k + 1) l e1 e2 bl bh) R → ∃ R, R.length ≤ 2000000 ∧ Ev (fun k => spec_FindRange_O.f k l e1 e2 bl bh) R ∧ Ev (fun k => impl_FindRange_O.f k l e1 e2 bl bh) R := fun R a b c => ⟨R, a, b.step, c.step⟩
    refine Exists.elim ?_ (fun R (p : R.length ≤ 2000000 ∧ Ev (fun k => spec_FindRange_O.f (k + 1) l e1 e2 bl bh) R ∧ Ev (fun k => impl_FindRange_O.f (k + 1) l e1 e2 bl bh) R) => fits R p.1 p.2.1 p.2.2)
    simp only [spec_FindRange_O.f, impl_FindRange_O.f, decide_eq_false (show ¬ (1000 : Int) < (l.length : Int) by omega), cond_false]
    cases c with
    | false => exact ⟨[], by simp, Ev.bind h2 (Ev.ret _), Ev.bind h3 (Ev.ret _)⟩
    | true =>
      obtain ⟨d, d1, d2, d3⟩ := ends2 (l := l) e1
      cases d with
      | false => exact ⟨[], by simp, Ev.bind h2 (Ev.bind d2 (Ev.ret _)), Ev.bind h3 (Ev.bind d3 (Ev.ret _))⟩
      | true =>
        obtain ⟨f, f1, f2, f3⟩ := ends2 (l := l) e2
        cases f with
        | false => exact ⟨[], by simp, Ev.bind h2 (Ev.bind d2 (Ev.bind f2 (Ev.ret _))), Ev.bind h3 (Ev.bind d3 (Ev.bind f3 (Ev.ret _)))⟩
        | true =>
          obtain ⟨p1, p2, p3⟩ := d1 rfl
          obtain ⟨q1, q2, q3⟩ := f1 rfl
          obtain ⟨R, r0, r1, r2⟩ := range_l0 h (h1 rfl) p1 p2 p3 q1 q2 q3 bl bh _ 0 [] (Nat.le_refl _) (Nat.le_refl _) (Nat.zero_le _)
          exact ⟨R, by omega, Ev.bind h2 (Ev.bind d2 (Ev.bind f2 r1)), Ev.bind h3 (Ev.bind d3 (Ev.bind f3 r2))⟩
  · refine ⟨[], by simp, Ev.step ?_, Ev.step ?_⟩
    · simp only [spec_FindRange_O.f]
      refine Ev.bind (a := 1) (Ev.step ?_) (by simp only [show ((1 : Int) == 0) = false from rfl, cond_false]; exact Ev.ret _)
      simp only [spec_IndexFault.f, decide_eq_true (show (1000 : Int) < (l.length : Int) by omega), cond_true]; exact Ev.ret _
    · simp only [impl_FindRange_O.f, decide_eq_true (show (1000 : Int) < (l.length : Int) by omega), cond_true]; exact Ev.ret _
theorem said_FnExactFindRange (x : List S73) (h : Lst wf73 x) (e1 : List ByteArray) (he1 : Lst Str e1) (e2 : List ByteArray) (he2 : Lst Str e2) (bl bh : Bool) : ∃ k, laws_FnExactFindRange.f k x e1 e2 bl bh = some true := by
  refine Ev.at_ (f := fun k => laws_FnExactFindRange.f k x e1 e2 bl bh) ?_
  unfold laws_FnExactFindRange.f
  obtain ⟨r, h1, h2, h3⟩ := sz_IndexEntryS x h lftO
  refine Ev.bind h1 ?_
  by_cases hr : r < 0
  · simp only [decide_eq_true hr, cond_true]; exact Ev.ret _
  have hb := h3 (by omega)
  simp only [decide_eq_false hr, cond_false]
  obtain ⟨q, q1, q2, q3⟩ := sz_StringS e1 he1 (show Lft r by unfold Lft; omega)
  refine Ev.bind q1 ?_
  by_cases hq : q < 0
  · simp only [decide_eq_true hq, cond_true]; exact Ev.ret _
  have hc := q3 (by omega)
  simp only [decide_eq_false hq, cond_false]
  obtain ⟨p, p1, p2, p3⟩ := sz_StringS e2 he2 (show Lft q by unfold Lft; omega)
  refine Ev.bind p1 ?_
  by_cases hp : p < 0
  · simp only [decide_eq_true hp, cond_true]; exact Ev.ret _
  have hd := p3 (by omega)
  simp only [decide_eq_false hp, cond_false]
  obtain ⟨R, hR, s1, s2⟩ := range2 (x.map trIndexEntry) e1 e2 bl bh
  obtain ⟨m, m1, m2, m3⟩ := mk_IndexEntryS x hb 1 (by omega) (by omega)
  obtain ⟨m', n1, n2, n3⟩ := mk_StringS e1 hc m (by omega) (by omega)
  obtain ⟨m'', o1, o2, o3⟩ := mk_StringS e2 hd m' (by omega) (by omega)
  obtain ⟨v', w, w1, w2, w3⟩ := mh_Int64S R 1 hR (by omega) (by omega)
  have e := eqb_Int64S R hR
  have T0 := to_IndexEntryS x hb
  have T1 := to_StringS e1 hc
  have T2 := to_StringS e2 hd
  refine Ev.bind T0 (Ev.bind T1 (Ev.bind T2 (Ev.bind s1 (Ev.bind T0 (Ev.bind T1 (Ev.bind T2 (Ev.bind s2 (Ev.bind e ?_))))))))
  simp only [cond_true]
  refine Ev.bind T0 (Ev.bind (eq_IndexEntryS x hb) ?_)
  simp only [cond_true]
  refine Ev.bind T1 (Ev.bind (eq_StringS e1 hc) ?_)
  simp only [cond_true]
  refine Ev.bind T2 (Ev.bind (eq_StringS e2 hd) ?_)
  simp only [cond_true]
  refine Ev.bind m1 (Ev.bind n1 (Ev.bind o1 ?_))
  simp only [decide_eq_false (show ¬ m'' < 0 by omega), cond_false]
  refine Ev.bind e ?_
  simp only [cond_true]
  refine Ev.bind w2 (Ev.bind w3 ?_)
  simp only [decide_eq_false (show ¬ w < 0 by omega), cond_false, beq_self_eq_true, cond_true]
  refine Ev.bind T0 (Ev.bind T1 (Ev.bind T2 (Ev.bind s2 (Ev.bind e ?_))))
  simp only [cond_true]
  refine Ev.bind w3 ?_
  simp only [decide_eq_false (show ¬ w < 0 by omega), cond_false, beq_self_eq_true, cond_true]
  exact Ev.ret _
end Go.Ab
