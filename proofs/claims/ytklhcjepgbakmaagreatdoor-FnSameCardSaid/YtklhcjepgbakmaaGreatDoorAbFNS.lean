/- The law of two drawn values' being the same and less. No condition beyond the code's shape. -/
import Derived.Test.YtklhcjepgbakmaaGreatDoorAbSY
namespace Go.Ab
open Go.Proofs
set_option linter.unusedVariables false
set_option linter.unusedSimpArgs false
theorem imp_yes {f : Nat → S46 → S46 → Option Int} {a b : ByteArray} {x y : S46} {c d : Int} (h1 : Ev (fun k => impl_read.f k a) (x, true)) (h2 : Ev (fun k => impl_read.f k b) (y, true)) (h : Ev (fun k => f k x y) c) : Ev (fun k => ((impl_two.f k a b).bind fun v2 => (bif v2.2.2 then ((f k v2.1 v2.2.1).bind fun v3 => (some v3)) else (some d)))) c := by
  unfold impl_two.f
  refine Ev.bind (a := (x, y, true)) (Ev.bind h1 (Ev.bind h2 ?_)) ?_
  · simp only [cond_true]; exact Ev.ret _
  · simp only [cond_true]; exact Ev.bind h (Ev.ret _)
theorem imp_no {f : Nat → S46 → S46 → Option Int} {a b : ByteArray} {x y : S46} {p q : Bool} {d : Int} (h1 : Ev (fun k => impl_read.f k a) (x, p)) (h2 : Ev (fun k => impl_read.f k b) (y, q)) (h : (p && q) = false) : Ev (fun k => ((impl_two.f k a b).bind fun v2 => (bif v2.2.2 then ((f k v2.1 v2.2.1).bind fun v3 => (some v3)) else (some d)))) d := by
  unfold impl_two.f
  refine Ev.bind (a := (x, y, false)) (Ev.bind h1 (Ev.bind h2 ?_)) ?_
  · cases p
    · simp only [cond_false]; exact Ev.ret _
    · simp only [cond_true]
      simp only [Bool.true_and] at h
      rw [h]; exact Ev.ret _
  · simp only [cond_false]; exact Ev.ret _
theorem said_FnSame (c : List Int) (hc : Lst (InK .u8) c) : ∃ k, laws_FnSame.f k c = some true := by
  refine Ev.at_ (f := fun k => laws_FnSame.f k c) ?_
  unfold laws_FnSame.f
  by_cases lc : 1048576 < (c.length : Int)
  · simp only [decide_eq_true lc, cond_true]; exact Ev.ret _
  simp only [decide_eq_false lc, cond_false]
  obtain ⟨a, b, h1⟩ := two_pass (code := c) (by omega)
  refine Ev.bind (f := fun k => spec_DrawSameValues.f k c) h1 ?_
  obtain ⟨s, s1, s2⟩ : ∃ s, Ev (fun k => spec_SameValues.f k a b) s ∧ Ev (fun k => impl_SameValues.f k a b) s := two_ a b 2 (fs := fun k x y => spec_l01Same.f k x y) (fi := fun k x y => impl_same.f k x y) (fun x y hx hy => by obtain ⟨c, _, h1, h2⟩ := same2 hx hy; exact ⟨c, h1, h2⟩)
  obtain ⟨l, l1, l2⟩ : ∃ l, Ev (fun k => spec_LessValues.f k a b) l ∧ Ev (fun k => impl_LessValues.f k a b) l := two_ a b 2 (fs := fun k x y => spec_l01Less.f k x y) (fi := fun k x y => impl_less.f k x y) (fun x y hx hy => less2 hx hy)
  -- what the program tells, by the values
  have main : ∃ r : Int, Ev (fun k => impl_LessValues.f k b a) r ∧ Ev (fun k => impl_SameValues.f k b a) s ∧ (l = 2 ∨ (l + r + s = 1 ∧ r ≠ 2 ∧ 0 ≤ l ∧ l ≤ 2 ∧ 0 ≤ r ∧ r ≤ 2)) := by
    rcases readT_ a with ⟨x, ⟨wx, sx, tx⟩, _, rx⟩ | ⟨iv, _, rx⟩
    case inr =>
      rcases readT_ b with ⟨y, _, _, ry⟩ | ⟨iv2, _, ry⟩
      · have e : l = 2 := l2.uniq (imp_no (f := fun k x y => impl_less.f k x y) rx ry rfl)
        have e2 : s = 2 := s2.uniq (imp_no (f := fun k x y => impl_same.f k x y) rx ry rfl)
        subst e; subst e2
        exact ⟨2, imp_no (f := fun k x y => impl_less.f k x y) ry rx rfl, imp_no (f := fun k x y => impl_same.f k x y) ry rx rfl, .inl rfl⟩
      · have e : l = 2 := l2.uniq (imp_no (f := fun k x y => impl_less.f k x y) rx ry rfl)
        have e2 : s = 2 := s2.uniq (imp_no (f := fun k x y => impl_same.f k x y) rx ry rfl)
        subst e; subst e2
        exact ⟨2, imp_no (f := fun k x y => impl_less.f k x y) ry rx rfl, imp_no (f := fun k x y => impl_same.f k x y) ry rx rfl, .inl rfl⟩
    rcases readT_ b with ⟨y, ⟨wy, sy, ty⟩, _, ry⟩ | ⟨iv2, _, ry⟩
    case inr =>
      have e : l = 2 := l2.uniq (imp_no (f := fun k x y => impl_less.f k x y) rx ry rfl)
      have e2 : s = 2 := s2.uniq (imp_no (f := fun k x y => impl_same.f k x y) rx ry rfl)
      subst e; subst e2
      exact ⟨2, imp_no (f := fun k x y => impl_less.f k x y) ry rx rfl, imp_no (f := fun k x y => impl_same.f k x y) ry rx rfl, .inl rfl⟩
    obtain ⟨n, hn⟩ : ∃ n, SizeOf.sizeOf x + SizeOf.sizeOf y = n := ⟨_, rfl⟩
    have zx := txt_z tx
    have zy := txt_z ty
    have oxy := ordI (n + 1) x y (by omega) wx wy zx zy
    have oyx := ordI (n + 1) y x (by omega) wy wx zy zx
    have e : l = lessN (n + 1) x y := l2.uniq (imp_yes (f := fun k x y => impl_less.f k x y) rx ry (lessI oxy))
    have e2 : s = sameN (n + 1) x y := s2.uniq (imp_yes (f := fun k x y => impl_same.f k x y) rx ry (sameI (n + 1) x y (by omega) wx wy zx zy))
    refine ⟨lessN (n + 1) y x, imp_yes (f := fun k x y => impl_less.f k x y) ry rx (lessI oyx), ?_, ?_⟩
    · rw [e2, sameN_sym]
      exact imp_yes (f := fun k x y => impl_same.f k x y) ry rx (sameI (n + 1) y x (by omega) wy wx zy zx)
    · rw [e, e2]
      have an := (ordN3 (n + 1)).anti x y
      have rg := (ordN3 (n + 1)).rng x y
      by_cases hc : x.f0 = 0 ∨ y.f0 = 0 ∨ x.f0 ≠ y.f0 ∨ 5 ≤ x.f0
      · exact .inl (by unfold lessN; rw [if_pos hc])
      · right
        have hc' : ¬ (y.f0 = 0 ∨ x.f0 = 0 ∨ y.f0 ≠ x.f0 ∨ 5 ≤ y.f0) := by omega
        have k1 : ¬ (x.f0 = 0 ∨ y.f0 = 0) := by omega
        have k2 : ¬ (x.f0 ≠ y.f0) := by omega
        have k3 : ¬ (x.f0 = 6 ∨ x.f0 = 7) := by omega
        have eL : lessN (n + 1) x y = if ordN (n + 1) x y < 0 then 1 else 0 := by unfold lessN; rw [if_neg hc]
        have eR : lessN (n + 1) y x = if ordN (n + 1) y x < 0 then 1 else 0 := by unfold lessN; rw [if_neg hc']
        have eS : sameN (n + 1) x y = if ordN (n + 1) x y = 0 then 1 else 0 := by
          simp only [sameN]
          rw [if_neg k1, if_neg k2, if_neg k3]
        rw [eL, eR, eS, an]
        rcases rg with g | g | g <;> rw [g] <;> decide
  obtain ⟨r, r1, r2, hr⟩ := main
  refine Ev.bind s2 (Ev.bind l2 (Ev.bind r1 (Ev.bind s1 ?_)))
  simp only [beq_self_eq_true, cond_true]
  refine Ev.bind r2 ?_
  simp only [beq_self_eq_true, cond_true]
  refine Ev.bind l1 ?_
  simp only [beq_self_eq_true, cond_true]
  rcases hr with e | ⟨e1, e2, b1, b2, b3, b4⟩
  · subst e
    simp only [show ((2 : Int) == 2) = true from rfl, cond_true]; exact Ev.ret _
  · by_cases hl : l = 2
    · simp only [show (l == 2) = true by simpa using hl, cond_true]; exact Ev.ret _
    · rw [w64 (n := l + r) (by omega) (by omega), w64 (n := l + r + s) (by omega) (by omega)]
      simp only [show (l == 2) = false by simpa using hl, cond_false, show (l + r + s == 1) = true by simpa using e1, cond_true, show (r == 2) = false by simpa using e2, Bool.not_false]
      exact Ev.ret _
end Go.Ab
