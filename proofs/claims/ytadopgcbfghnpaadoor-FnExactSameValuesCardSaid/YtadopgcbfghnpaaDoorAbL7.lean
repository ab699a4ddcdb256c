/- Being the same, being less, and the laws of two values. No condition. -/
import Derived.Test.YtadopgcbfghnpaaDoorAbL6
namespace Go.Ab
open Go.Proofs
set_option linter.unusedVariables false
set_option linter.unusedSimpArgs false
def SameAt (x y : S26) : Prop := ∃ c, (c = 0 ∨ c = 1 ∨ c = 2) ∧ Ev (fun k => spec_l01Same.f k x y) c ∧ Ev (fun k => impl_same.f k (toI x) (toI y)) c
section
variable {x y : S26}
/-- Names are looked at again behind the items. -/
theorem same_l1 (o : Int) (hn : x.f5 = y.f5) (hl : x.f5.length ≤ 2000000) : ∀ (n i : Nat), x.f5.length - i ≤ n → Ev (fun k => spec_l01Same.l1 k o (i : Int) x y) o := by
  intro n
  induction n with
  | zero =>
    intro i h
    refine Ev.step ?_
    simp only [spec_l01Same.l1, show decide ((i : Int) < (x.f5.length : Int)) = false by simp; omega, cond_false]
    exact Ev.ret _
  | succ n ih =>
    intro i h
    refine Ev.step ?_
    by_cases hi : i < x.f5.length
    · have hj : i < y.f5.length := by rw [← hn]; exact hi
      have he : x.f5[i] = y.f5[i] := by congr 1
      simp only [spec_l01Same.l1, show decide ((i : Int) < (x.f5.length : Int)) = true by simpa using hi, cond_true, ix_lt hi, ix_lt hj, Option.bind_some, decide_eq_true he, w1 (i := i) (by omega)]
      exact ih (i + 1) (by omega)
    · simp only [spec_l01Same.l1, show decide ((i : Int) < (x.f5.length : Int)) = false by simpa using hi, cond_false]
      exact Ev.ret _
/-- The items of lists and maps with the same names, in step. -/
theorem same_items (hk : x.f0 = 6 ∨ x.f0 = 7) (hl : x.f4.length = y.f4.length) (hx : x.f4.length ≤ 2000000) (nx : x.f5.length = if x.f0 = 7 then x.f4.length else 0) (hn : x.f5 = y.f5) (ih : ∀ a ∈ x.f4, ∀ b ∈ y.f4, SameAt a b) : ∀ (n i : Nat) (o : Int), x.f4.length - i ≤ n → o = 1 ∨ o = 2 →
    ∃ c, (c = 0 ∨ c = 1 ∨ c = 2) ∧ Ev (fun k => spec_l01Same.l0 k o (i : Int) x y) c ∧ Ev (fun k => impl_same.l1 k o (toI x) (i : Int) (toI y)) c := by
  have hxn : x.f5.length ≤ 2000000 := by rw [nx]; split <;> omega
  have fin : ∀ o : Int, o = 1 ∨ o = 2 → Ev (fun k => spec_l01Same.j5 k o x y) o := fun o ho => by
    refine Ev.step ?_
    simp only [spec_l01Same.j5, show (o == 0) = false by rcases ho with rfl | rfl <;> rfl, cond_false]
    by_cases h7 : x.f0 = 7
    · simp only [show (x.f0 == 7) = true by simpa using h7, cond_true]
      exact same_l1 o hn hxn _ 0 (Nat.le_refl _)
    · simp only [show (x.f0 == 7) = false by simpa using h7, cond_false]
      exact Ev.ret _
  intro n
  induction n with
  | zero =>
    intro i o h ho
    refine ⟨o, by omega, Ev.step ?_, Ev.step ?_⟩
    · simp only [spec_l01Same.l0, show decide ((i : Int) < (x.f4.length : Int)) = false by simp; omega, cond_false]; exact fin o ho
    · simp only [impl_same.l1, toI_5, List.length_map, show decide ((i : Int) < (x.f4.length : Int)) = false by simp; omega, cond_false]; exact Ev.ret _
  | succ n ihn =>
    intro i o h ho
    by_cases hi : i < x.f4.length
    case neg =>
      refine ⟨o, by omega, Ev.step ?_, Ev.step ?_⟩
      · simp only [spec_l01Same.l0, show decide ((i : Int) < (x.f4.length : Int)) = false by simpa using hi, cond_false]; exact fin o ho
      · simp only [impl_same.l1, toI_5, List.length_map, show decide ((i : Int) < (x.f4.length : Int)) = false by simpa using hi, cond_false]; exact Ev.ret _
    have hj : i < y.f4.length := by omega
    obtain ⟨m, hm, h3, h4⟩ := ih _ (List.getElem_mem hi) _ (List.getElem_mem hj)
    -- what stands behind the item, for both
    obtain ⟨o', ho', hs', hi'⟩ : ∃ o' : Int, (o' = 0 ∨ o' = 1 ∨ o' = 2) ∧ (∀ R, (if o' = 0 then R = 0 else Ev (fun k => spec_l01Same.l0 k o' ((i + 1 : Nat) : Int) x y) R) → Ev (fun k => spec_l01Same.j1 k o (i : Int) x y) R) ∧ (∀ R, (if o' = 0 then R = 0 else Ev (fun k => impl_same.l1 k o' (toI x) ((i + 1 : Nat) : Int) (toI y)) R) → Ev (fun k => impl_same.l1 k o (toI x) (i : Int) (toI y)) R) := by
      have il : ∀ R, Ev (fun k => (bif (m == 0) then (some 0) else (bif (m == 2) then (impl_same.l1 k 2 (toI x) ((i + 1 : Nat) : Int) (toI y)) else (impl_same.l1 k o (toI x) ((i + 1 : Nat) : Int) (toI y))))) R → Ev (fun k => impl_same.l1 k o (toI x) (i : Int) (toI y)) R := fun R g => by
        refine Ev.step ?_
        simp only [impl_same.l1, toI_5, List.length_map, show decide ((i : Int) < (x.f4.length : Int)) = true by simpa using hi, cond_true, getm hi, getm hj, Option.bind_some, w1 (i := i) (by omega)]
        exact Ev.bind h4 g
      have j2 : ∀ (o2 : Int) R, o2 ≠ 0 → Ev (fun k => spec_l01Same.l0 k o2 ((i + 1 : Nat) : Int) x y) R → Ev (fun k => spec_l01Same.j4 k o2 (i : Int) x y) R := fun o2 R h0 g => by
        refine Ev.step ?_
        simp only [spec_l01Same.j4, show (o2 == 0) = false by simpa using h0, cond_false, w1 (i := i) (by omega)]
        exact g
      have sj : ∀ R, Ev (fun k => (bif (m == 0) then (spec_l01Same.j2 k (i : Int) m x y) else (bif (m == 2) then (bif (o == 1) then (spec_l01Same.j2 k (i : Int) m x y) else (spec_l01Same.j3 k o (i : Int) x y)) else (spec_l01Same.j3 k o (i : Int) x y)))) R → Ev (fun k => spec_l01Same.j1 k o (i : Int) x y) R := fun R g => by
        refine Ev.step ?_
        simp only [spec_l01Same.j1, ix_lt hi, ix_lt hj, Option.bind_some]
        exact Ev.bind h3 g
      rcases hm with rfl | rfl | rfl
      · refine ⟨0, .inl rfl, fun R h => sj R ?_, fun R h => il R ?_⟩
        · simp only [if_true] at h; subst h
          simp only [show ((0 : Int) == 0) = true from rfl, cond_true]
          refine Ev.step ?_
          simp only [spec_l01Same.j2]
          refine Ev.step ?_
          simp only [spec_l01Same.j4, show ((0 : Int) == 0) = true from rfl, cond_true]
          refine Ev.step ?_
          simp only [spec_l01Same.j5, show ((0 : Int) == 0) = true from rfl, cond_true]
          exact Ev.ret _
        · simp only [if_true] at h; subst h
          simp only [show ((0 : Int) == 0) = true from rfl, cond_true]; exact Ev.ret _
      · have ho0 : o ≠ 0 := by omega
        refine ⟨o, by omega, fun R h => sj R ?_, fun R h => il R ?_⟩
        · rw [if_neg ho0] at h
          simp only [show ((1 : Int) == 0) = false from rfl, show ((1 : Int) == 2) = false from rfl, cond_false]
          refine Ev.step ?_
          simp only [spec_l01Same.j3]
          exact j2 o R ho0 h
        · rw [if_neg ho0] at h
          simp only [show ((1 : Int) == 0) = false from rfl, show ((1 : Int) == 2) = false from rfl, cond_false]; exact h
      · refine ⟨2, .inr (.inr rfl), fun R h => sj R ?_, fun R h => il R ?_⟩
        · rw [if_neg (by decide)] at h
          simp only [show ((2 : Int) == 0) = false from rfl, show ((2 : Int) == 2) = true from rfl, cond_false, cond_true]
          rcases ho with rfl | rfl
          · simp only [show ((1 : Int) == 1) = true from rfl, cond_true]
            refine Ev.step ?_
            simp only [spec_l01Same.j2]
            exact j2 2 R (by decide) h
          · simp only [show ((2 : Int) == 1) = false from rfl, cond_false]
            refine Ev.step ?_
            simp only [spec_l01Same.j3]
            exact j2 2 R (by decide) h
        · rw [if_neg (by decide)] at h
          simp only [show ((2 : Int) == 0) = false from rfl, show ((2 : Int) == 2) = true from rfl, cond_false, cond_true]; exact h
    have step : ∀ R, Ev (fun k => spec_l01Same.j1 k o (i : Int) x y) R → Ev (fun k => spec_l01Same.l0 k o (i : Int) x y) R := fun R g => by
      refine Ev.step ?_
      simp only [spec_l01Same.l0, show decide ((i : Int) < (x.f4.length : Int)) = true by simpa using hi, cond_true]
      by_cases h7 : x.f0 = 7
      · rw [if_pos h7] at nx
        have a1 : i < x.f5.length := by omega
        have a2 : i < y.f5.length := by rw [← hn]; omega
        have he : x.f5[i] = y.f5[i] := by congr 1
        simp only [show (x.f0 == 7) = true by simpa using h7, cond_true, ix_lt a1, ix_lt a2, Option.bind_some, decide_eq_true he]
        exact g
      · simp only [show (x.f0 == 7) = false by simpa using h7, cond_false]
        exact g
    by_cases h0 : o' = 0
    · exact ⟨0, .inl rfl, step _ (hs' 0 (by rw [if_pos h0])), hi' 0 (by rw [if_pos h0])⟩
    · obtain ⟨c, hc, h5, h6⟩ := ihn (i + 1) o' (by omega) (by omega)
      exact ⟨c, hc, step _ (hs' c (by rw [if_neg h0]; exact h5)), hi' c (by rw [if_neg h0]; exact h6)⟩
/-- Other names: the program sees it ahead. -/
theorem inames_no (hl : x.f5.length = y.f5.length) (hx : x.f5.length ≤ 2000000) : ∀ (n i : Nat), x.f5.length - i ≤ n → x.f5.drop i ≠ y.f5.drop i → Ev (fun k => impl_same.l0 k (toI x) (i : Int) (toI y)) 0 := by
  intro n
  induction n with
  | zero =>
    intro i h hd
    exact absurd (by rw [List.drop_of_length_le (by omega), List.drop_of_length_le (by omega)]) hd
  | succ n ih =>
    intro i h hd
    by_cases hi : i < x.f5.length
    · have hj : i < y.f5.length := by omega
      refine Ev.step ?_
      simp only [impl_same.l0, toI_4, show decide ((i : Int) < (x.f5.length : Int)) = true by simpa using hi, cond_true, ix_lt hi, ix_lt hj, Option.bind_some, w1 (i := i) (by omega)]
      by_cases he : x.f5[i] = y.f5[i]
      · simp only [decide_eq_true he, cond_true]
        refine ih (i + 1) (by omega) (fun e => hd ?_)
        rw [List.drop_eq_getElem_cons hi, List.drop_eq_getElem_cons hj, he, e]
      · simp only [decide_eq_false he, cond_false]; exact Ev.ret _
    · exact absurd (by rw [List.drop_of_length_le (by omega), List.drop_of_length_le (by omega)]) hd
theorem inames_ok (hn : x.f5 = y.f5) (hx : x.f5.length ≤ 2000000) {R : Int} (g : Ev (fun k => impl_same.l1 k 1 (toI x) 0 (toI y)) R) : ∀ (n i : Nat), x.f5.length - i ≤ n → Ev (fun k => impl_same.l0 k (toI x) (i : Int) (toI y)) R := by
  intro n
  induction n with
  | zero =>
    intro i h
    refine Ev.step ?_
    simp only [impl_same.l0, toI_4, show decide ((i : Int) < (x.f5.length : Int)) = false by simp; omega, cond_false]; exact g
  | succ n ih =>
    intro i h
    refine Ev.step ?_
    by_cases hi : i < x.f5.length
    · have hj : i < y.f5.length := by rw [← hn]; exact hi
      have he : x.f5[i] = y.f5[i] := by congr 1
      simp only [impl_same.l0, toI_4, show decide ((i : Int) < (x.f5.length : Int)) = true by simpa using hi, cond_true, ix_lt hi, ix_lt hj, Option.bind_some, w1 (i := i) (by omega), decide_eq_true he]
      exact ih (i + 1) (by omega)
    · simp only [impl_same.l0, toI_4, show decide ((i : Int) < (x.f5.length : Int)) = false by simpa using hi, cond_false]; exact g
/-- Other names: the reference comes to it, or to items that are not the same. -/
theorem snames_no (hk : x.f0 = 7) (hl : x.f4.length = y.f4.length) (hx : x.f4.length ≤ 2000000) (nx : x.f5.length = x.f4.length) (ny : y.f5.length = y.f4.length) (ih : ∀ a ∈ x.f4, ∀ b ∈ y.f4, SameAt a b) : ∀ (n i : Nat) (o : Int), x.f4.length - i ≤ n → o = 1 ∨ o = 2 → x.f5.drop i ≠ y.f5.drop i → Ev (fun k => spec_l01Same.l0 k o (i : Int) x y) 0 := by
  intro n
  induction n with
  | zero =>
    intro i o h ho hd
    exact absurd (by rw [List.drop_of_length_le (by omega), List.drop_of_length_le (by omega)]) hd
  | succ n ihn =>
    intro i o h ho hd
    by_cases hi : i < x.f4.length
    case neg => exact absurd (by rw [List.drop_of_length_le (by omega), List.drop_of_length_le (by omega)]) hd
    have hj : i < y.f4.length := by omega
    have a1 : i < x.f5.length := by omega
    have a2 : i < y.f5.length := by omega
    refine Ev.step ?_
    simp only [spec_l01Same.l0, show decide ((i : Int) < (x.f4.length : Int)) = true by simpa using hi, cond_true, show (x.f0 == 7) = true by simpa using hk, ix_lt a1, ix_lt a2, Option.bind_some]
    by_cases he : x.f5[i] = y.f5[i]
    case neg => simp only [decide_eq_false he, cond_false]; exact Ev.ret _
    have hd' : x.f5.drop (i + 1) ≠ y.f5.drop (i + 1) := fun e => hd (by rw [List.drop_eq_getElem_cons a1, List.drop_eq_getElem_cons a2, he, e])
    simp only [decide_eq_true he, cond_true]
    obtain ⟨m, hm, h3, h4⟩ := ih _ (List.getElem_mem hi) _ (List.getElem_mem hj)
    have j4 : ∀ (o2 : Int), o2 = 1 ∨ o2 = 2 → Ev (fun k => spec_l01Same.j4 k o2 (i : Int) x y) 0 := fun o2 h2 => by
      refine Ev.step ?_
      simp only [spec_l01Same.j4, show (o2 == 0) = false by rcases h2 with rfl | rfl <;> rfl, cond_false, w1 (i := i) (by omega)]
      exact ihn (i + 1) o2 (by omega) h2 hd'
    refine Ev.step ?_
    simp only [spec_l01Same.j1, ix_lt hi, ix_lt hj, Option.bind_some]
    refine Ev.bind h3 ?_
    rcases hm with rfl | rfl | rfl
    · simp only [show ((0 : Int) == 0) = true from rfl, cond_true]
      refine Ev.step ?_
      simp only [spec_l01Same.j2]
      refine Ev.step ?_
      simp only [spec_l01Same.j4, show ((0 : Int) == 0) = true from rfl, cond_true]
      refine Ev.step ?_
      simp only [spec_l01Same.j5, show ((0 : Int) == 0) = true from rfl, cond_true]
      exact Ev.ret _
    · simp only [show ((1 : Int) == 0) = false from rfl, show ((1 : Int) == 2) = false from rfl, cond_false]
      refine Ev.step ?_
      simp only [spec_l01Same.j3]
      exact j4 o ho
    · simp only [show ((2 : Int) == 0) = false from rfl, show ((2 : Int) == 2) = true from rfl, cond_false, cond_true]
      rcases ho with rfl | rfl
      · simp only [show ((1 : Int) == 1) = true from rfl, cond_true]
        refine Ev.step ?_
        simp only [spec_l01Same.j2]
        exact j4 2 (.inr rfl)
      · simp only [show ((2 : Int) == 1) = false from rfl, cond_false]
        refine Ev.step ?_
        simp only [spec_l01Same.j3]
        exact j4 2 (.inr rfl)
theorem same_step (hx : Wf x) (hy : Wf y) (ih : ∀ a ∈ x.f4, ∀ b ∈ y.f4, SameAt a b) : SameAt x y := by
  obtain ⟨kx, lx, nx, wx, zx, ex, px⟩ := hx.p
  obtain ⟨ky, ly, ny, wy, zy, ey, py⟩ := hy.p
  obtain ⟨c, hc, hc0, hcs, hci⟩ := order2 hx hy
  have one : ∀ c : Int, c = 0 ∨ c = 1 ∨ c = 2 → Ev (fun k => spec_l01Same.f (k + 1) x y) c → Ev (fun k => impl_same.f (k + 1) (toI x) (toI y)) c → SameAt x y := fun c h h1 h2 => ⟨c, h, h1.step, h2.step⟩
  by_cases h0 : x.f0 = 0
  · refine one 2 (.inr (.inr rfl)) ?_ ?_ <;> simp only [spec_l01Same.f, impl_same.f, toI_0, show (x.f0 == 0) = true by simpa using h0, cond_true] <;> exact Ev.ret _
  have h0' : (x.f0 == 0) = false := by simpa using h0
  by_cases g0 : y.f0 = 0
  · refine one 2 (.inr (.inr rfl)) ?_ ?_ <;> simp only [spec_l01Same.f, impl_same.f, toI_0, h0', show (y.f0 == 0) = true by simpa using g0, cond_true, cond_false] <;> exact Ev.ret _
  have g0' : (y.f0 == 0) = false := by simpa using g0
  by_cases hk : x.f0 = y.f0
  case neg => refine one 0 (.inl rfl) ?_ ?_ <;> simp only [spec_l01Same.f, impl_same.f, toI_0, h0', g0', show (x.f0 == y.f0) = false by simpa using hk, cond_true, cond_false] <;> exact Ev.ret _
  have hk' : (x.f0 == y.f0) = true := by simpa using hk
  by_cases hlm : x.f0 = 6 ∨ x.f0 = 7
  case neg =>
    have h6 : (x.f0 == 6) = false := by simp; omega
    have h7 : (x.f0 == 7) = false := by simp; omega
    by_cases hl : x.f4.length = y.f4.length
    · by_cases hz : c = 0
      · subst hz
        refine one 1 (.inr (.inl rfl)) ?_ ?_
        · simp only [spec_l01Same.f, h0', g0', hk', h6, h7, cond_true, cond_false, show (((x.f4.length : Nat) : Int) == (y.f4.length : Int)) = true by simp; omega]
          exact Ev.bind hcs (by simp only [show ((0 : Int) == 0) = true from rfl, b2i_, if_true, Option.bind_some]; exact Ev.ret _)
        · simp only [impl_same.f, toI_0, h0', g0', hk', h6, h7, cond_true, cond_false]
          exact Ev.bind hci (by simp only [show ((0 : Int) == 0) = true from rfl, cond_true]; exact Ev.ret _)
      · have hz' : (c == 0) = false := by simpa using hz
        refine one 0 (.inl rfl) ?_ ?_
        · simp only [spec_l01Same.f, h0', g0', hk', h6, h7, cond_true, cond_false, show (((x.f4.length : Nat) : Int) == (y.f4.length : Int)) = true by simp; omega]
          exact Ev.bind hcs (by simp only [hz', b2i_, Bool.false_eq_true, if_false, Option.bind_some]; exact Ev.ret _)
        · simp only [impl_same.f, toI_0, h0', g0', hk', h6, h7, cond_true, cond_false]
          exact Ev.bind hci (by simp only [hz', cond_false]; exact Ev.ret _)
    · have hz : c ≠ 0 := fun h => hl (hc0 h).2
      have hz' : (c == 0) = false := by simpa using hz
      refine one 0 (.inl rfl) ?_ ?_
      · simp only [spec_l01Same.f, h0', g0', hk', h6, h7, cond_true, cond_false, show (((x.f4.length : Nat) : Int) == (y.f4.length : Int)) = false by simp; omega]
        exact Ev.ret _
      · simp only [impl_same.f, toI_0, h0', g0', hk', h6, h7, cond_true, cond_false]
        exact Ev.bind hci (by simp only [hz', cond_false]; exact Ev.ret _)
  -- lists and maps
  have sp : ∀ {R : Int}, Ev (fun k => (bif (((x.f4.length : Nat) : Int) == (y.f4.length : Int)) then spec_l01Same.l0 k 1 0 x y else some 0)) R → Ev (fun k => spec_l01Same.f (k + 1) x y) R := fun {R} g => by
    simp only [spec_l01Same.f, h0', g0', hk', cond_true, cond_false]
    by_cases hl : x.f4.length = y.f4.length
    · simp only [show (((x.f4.length : Nat) : Int) == (y.f4.length : Int)) = true by simp; omega, cond_true] at g ⊢
      have j0 : Ev (fun k => spec_l01Same.j0 k x y) R := by
        refine Ev.step ?_
        simp only [spec_l01Same.j0]
        exact g
      by_cases h6 : x.f0 = 6
      · simp only [show (x.f0 == 6) = true by simpa using h6, cond_true]; exact j0
      · simp only [show (x.f0 == 6) = false by simpa using h6, cond_false, show (x.f0 == 7) = true by simp; omega, cond_true]; exact j0
    · simp only [show (((x.f4.length : Nat) : Int) == (y.f4.length : Int)) = false by simp; omega, cond_false] at g ⊢
      exact g
  have im : ∀ {R : Int}, Ev (fun k => (bif (((x.f4.length : Nat) : Int) == (y.f4.length : Int)) then impl_same.l0 k (toI x) 0 (toI y) else some 0)) R → Ev (fun k => impl_same.f (k + 1) (toI x) (toI y)) R := fun {R} g => by
    simp only [impl_same.f, toI_0, h0', g0', hk', cond_true, cond_false]
    have j0 : Ev (fun k => impl_same.j0 k (toI x) (toI y)) R := by
      refine Ev.step ?_
      simp only [impl_same.j0, toI_5, List.length_map]
      exact g
    by_cases h6 : x.f0 = 6
    · simp only [show (x.f0 == 6) = true by simpa using h6, cond_true]; exact j0
    · simp only [show (x.f0 == 6) = false by simpa using h6, cond_false, show (x.f0 == 7) = true by simp; omega, cond_true]; exact j0
  by_cases hl : x.f4.length = y.f4.length
  case neg =>
    have e : (((x.f4.length : Nat) : Int) == (y.f4.length : Int)) = false := by simp; omega
    exact one 0 (.inl rfl) (sp (by simp only [e, cond_false]; exact Ev.ret _)) (im (by simp only [e, cond_false]; exact Ev.ret _))
  have e : (((x.f4.length : Nat) : Int) == (y.f4.length : Int)) = true := by simp; omega
  have hnl : x.f5.length = y.f5.length := by rw [nx, ny, hk, hl]
  have hxn : x.f5.length ≤ 2000000 := by rw [nx]; split <;> omega
  by_cases hn : x.f5 = y.f5
  · obtain ⟨R, hR, h3, h4⟩ := same_items hlm hl lx nx hn ih _ 0 1 (Nat.le_refl _) (.inl rfl)
    exact one R hR (sp (by simp only [e, cond_true]; exact h3)) (im (by simp only [e, cond_true]; exact inames_ok hn hxn h4 _ 0 (Nat.le_refl _)))
  · have h7 : x.f0 = 7 := by
      rcases hlm with h6 | h7
      · rw [if_neg (by omega)] at nx
        rw [if_neg (by omega)] at ny
        exact absurd ((List.eq_nil_of_length_eq_zero nx).trans (List.eq_nil_of_length_eq_zero ny).symm) hn
      · exact h7
    rw [if_pos h7] at nx
    rw [if_pos (by omega)] at ny
    exact one 0 (.inl rfl) (sp (by simp only [e, cond_true]; exact snames_no h7 hl lx nx ny ih _ 0 1 (Nat.le_refl _) (.inl rfl) (by simpa using hn))) (im (by simp only [e, cond_true]; exact inames_no hnl hxn _ 0 (Nat.le_refl _) (by simpa using hn)))
end
theorem same_ : ∀ (n : Nat) (x y : S26), SizeOf.sizeOf x ≤ n → Wf x → Wf y → SameAt x y := by
  intro n
  induction n using Nat.strongRecOn with
  | _ n ih =>
    intro x y hn hx hy
    exact same_step hx hy (fun a ha b hb => ih (SizeOf.sizeOf a) (by have := item_size ha; omega) a b (Nat.le_refl _) (hx.p.2.2.2.1 a ha) (hy.p.2.2.2.1 b hb))
theorem same2 {x y : S26} (hx : Wf x) (hy : Wf y) : SameAt x y := same_ _ x y (Nat.le_refl _) hx hy
theorem less2 {x y : S26} (hx : Wf x) (hy : Wf y) : ∃ c, Ev (fun k => spec_l01Less.f k x y) c ∧ Ev (fun k => impl_less.f k (toI x) (toI y)) c := by
  obtain ⟨c, hc, hc0, hcs, hci⟩ := order2 hx hy
  unfold spec_l01Less.f impl_less.f
  simp only [toI_0]
  by_cases hk : x.f0 = y.f0
  case neg =>
    refine ⟨2, ?_, ?_⟩ <;> simp only [show (x.f0 == y.f0) = false by simpa using hk, cond_false, bif_same] <;> exact Ev.ret _
  have hk' : (x.f0 == y.f0) = true := by simpa using hk
  by_cases h0 : x.f0 = 0
  · refine ⟨2, ?_, ?_⟩ <;> simp only [hk', show (x.f0 == 0) = true by simpa using h0, cond_true] <;> exact Ev.ret _
  have h0' : (x.f0 == 0) = false := by simpa using h0
  have g0' : (y.f0 == 0) = false := by simp; omega
  by_cases h5 : 4 < x.f0
  · refine ⟨2, ?_, ?_⟩ <;> simp only [hk', h0', g0', decide_eq_true h5, decide_eq_true (show (5 : Int) ≤ x.f0 by omega), cond_true, cond_false] <;> exact Ev.ret _
  · refine ⟨if c < 0 then 1 else 0, ?_, ?_⟩
    · simp only [hk', h0', decide_eq_false h5, cond_true, cond_false]
      refine Ev.bind hcs ?_
      simp only [b2i_, Option.bind_some, decide_eq_true_eq]
      exact Ev.ret _
    · simp only [hk', h0', g0', decide_eq_false (show ¬ (5 : Int) ≤ x.f0 by omega), cond_true, cond_false]
      refine Ev.bind hci ?_
      by_cases hz : c < 0
      · simp only [decide_eq_true hz, cond_true, if_pos hz]; exact Ev.ret _
      · simp only [decide_eq_false hz, cond_false, if_neg hz]; exact Ev.ret _
/-! The laws -/
/-- What both make of two texts. -/
theorem two_ (a b : ByteArray) (d : Int) {fs : Nat → S26 → S26 → Option Int} {fi : Nat → S31 → S31 → Option Int} (h : ∀ x y, Wf x → Wf y → ∃ c, Ev (fun k => fs k x y) c ∧ Ev (fun k => fi k (toI x) (toI y)) c) :
    ∃ c, Ev (fun k => ((spec_l01Read.f k a).bind fun v2 => ((spec_l01Read.f k b).bind fun v3 => (bif decide (v2.f0 < 0) then (some d) else (bif decide (v3.f0 < 0) then (some d) else ((fs k v2 v3).bind fun v4 => (some v4))))))) c ∧
      Ev (fun k => ((impl_two.f k a b).bind fun v2 => (bif v2.2.2 then ((fi k v2.1 v2.2.1).bind fun v3 => (some v3)) else (some d)))) c := by
  have neg : ∀ x : S26, Wf x → decide (x.f0 < 0) = false := fun x hx => by have := hx.p.1; simp; omega
  unfold impl_two.f
  rcases read_ a with ⟨x, hx, h1, h2⟩ | ⟨iv, h1, h2⟩
  · rcases read_ b with ⟨y, hy, h3, h4⟩ | ⟨iv2, h3, h4⟩
    · obtain ⟨c, hs, hi⟩ := h x y hx hy
      refine ⟨c, Ev.bind h1 (Ev.bind h3 ?_), Ev.bind (a := (toI x, toI y, true)) (Ev.bind h2 (Ev.bind h4 ?_)) ?_⟩
      · simp only [neg x hx, neg y hy, cond_false]; exact Ev.bind hs (Ev.ret _)
      · simp only [cond_true]; exact Ev.ret _
      · simp only [cond_true]; exact Ev.bind hi (Ev.ret _)
    · refine ⟨d, Ev.bind h1 (Ev.bind h3 ?_), Ev.bind (a := (toI x, iv2, false)) (Ev.bind h2 (Ev.bind h4 ?_)) ?_⟩
      · simp only [neg x hx, show decide ((-1 : Int) < 0) = true from rfl, cond_false, cond_true]; exact Ev.ret _
      · simp only [cond_true]; exact Ev.ret _
      · simp only [cond_false]; exact Ev.ret _
  · rcases read_ b with ⟨y, hy, h3, h4⟩ | ⟨iv2, h3, h4⟩
    · refine ⟨d, Ev.bind h1 (Ev.bind h3 ?_), Ev.bind (a := (iv, toI y, false)) (Ev.bind h2 (Ev.bind h4 ?_)) ?_⟩
      · simp only [show decide ((-1 : Int) < 0) = true from rfl, cond_true]; exact Ev.ret _
      · simp only [cond_false]; exact Ev.ret _
      · simp only [cond_false]; exact Ev.ret _
    · refine ⟨d, Ev.bind h1 (Ev.bind h3 ?_), Ev.bind (a := (iv, iv2, false)) (Ev.bind h2 (Ev.bind h4 ?_)) ?_⟩
      · simp only [show decide ((-1 : Int) < 0) = true from rfl, cond_true]; exact Ev.ret _
      · simp only [cond_false]; exact Ev.ret _
      · simp only [cond_false]; exact Ev.ret _
theorem guard2 {a b : ByteArray} {f g : Nat → Option Int} (h : ∃ c, Ev f c ∧ Ev g c) : ∃ k, (bif decide (1048576 < (a.size : Int)) then some true else (bif decide (1048576 < (b.size : Int)) then some true else ((f k).bind fun v2 => ((g k).bind fun v3 => (bif (v3 == v2) then (some true) else (some false)))))) = some true := by
  obtain ⟨c, h1, h2⟩ := h
  have : Ev (fun k => ((f k).bind fun v2 => ((g k).bind fun v3 => (bif (v3 == v2) then (some true) else (some false))))) true := by
    refine Ev.bind h1 (Ev.bind h2 ?_)
    simp only [beq_self_eq_true, cond_true]
    exact Ev.ret _
  obtain ⟨k, hk⟩ := this.at_
  refine ⟨k, ?_⟩
  cases decide (1048576 < (a.size : Int))
  · cases decide (1048576 < (b.size : Int))
    · exact hk
    · rfl
  · rfl
theorem said_FnExactCompareValues (a b : ByteArray) : ∃ k, laws_FnExactCompareValues.f k a b = some true := by
  unfold laws_FnExactCompareValues.f
  refine guard2 ?_
  unfold spec_CompareValues.f impl_CompareValues.f
  exact two_ a b 0 (fun x y hx hy => by obtain ⟨c, _, _, h1, h2⟩ := order2 hx hy; exact ⟨c, h1, h2⟩)
theorem said_FnExactLessValues (a b : ByteArray) : ∃ k, laws_FnExactLessValues.f k a b = some true := by
  unfold laws_FnExactLessValues.f
  refine guard2 ?_
  unfold spec_LessValues.f impl_LessValues.f
  exact two_ a b 2 (fun x y hx hy => less2 hx hy)
theorem said_FnExactSameValues (a b : ByteArray) : ∃ k, laws_FnExactSameValues.f k a b = some true := by
  unfold laws_FnExactSameValues.f
  refine guard2 ?_
  unfold spec_SameValues.f impl_SameValues.f
  exact two_ a b 2 (fun x y hx hy => by obtain ⟨c, _, h1, h2⟩ := same2 hx hy; exact ⟨c, h1, h2⟩)
end Go.Ab
