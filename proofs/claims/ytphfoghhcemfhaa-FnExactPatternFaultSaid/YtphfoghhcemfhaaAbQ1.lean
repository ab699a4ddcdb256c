/- Both readers of label tests tell the same, and the program shows a test again as the reference told it. No condition. -/
import Derived.Test.YtphfoghhcemfhaaAbN1
namespace Go.Ab
open Go.Proofs
set_option linter.unusedVariables false
set_option linter.unusedSimpArgs false
def lin (s : ByteArray) (l L : Int) : ByteArray := if l < L then ((⟨#[40]⟩ : ByteArray) ++ s) ++ (⟨#[41]⟩ : ByteArray) else s
theorem sz1 (c : UInt8) : (⟨#[c]⟩ : ByteArray).size = 1 := rfl
theorem cat_ {a b : ByteArray} (h : a.size + b.size ≤ 1000000000) : cat a b = some (a ++ b) := by
  unfold cat; rw [if_pos (by omega)]
theorem lin_size (s : ByteArray) (l L : Int) : s.size ≤ (lin s l L).size ∧ (lin s l L).size ≤ s.size + 2 := by
  unfold lin
  split
  · simp only [ByteArray.size_append, sz1]; omega
  · omega
theorem lin_mono (s : ByteArray) (l L : Int) : (lin s l L).size ≤ (lin s l (L + 1)).size := by
  unfold lin
  by_cases h : l < L
  · rw [if_pos h, if_pos (by omega)]; exact Nat.le_refl _
  · rw [if_neg h]
    split
    · simp only [ByteArray.size_append, sz1]; omega
    · exact Nat.le_refl _
theorem l08In_ (k : Nat) (s : ByteArray) (l : Int) (f : Bool) (L : Int) (h : s.size ≤ 100000000) : spec_l08In.f k ⟨s, l, f⟩ L = some (lin s l L) := by
  unfold spec_l08In.f lin
  by_cases c : l < L
  · simp only [decide_eq_true c, cond_true, if_pos c]
    rw [cat_ (by rw [sz1]; omega), Option.bind_some, cat_ (by rw [ByteArray.size_append, sz1, sz1]; omega), Option.bind_some]
  · simp only [decide_eq_false c, cond_false, if_neg c]
section
variable {t : ByteArray} {i : Nat} {d : Int}
def hd (t : ByteArray) (i : Nat) : Int := match rest t i with | c :: _ => (c.toNat : Int) | [] => 0
theorem takes_t (k : Nat) (c : Int) (hi : i ≤ t.size) (ht : t.size ≤ 1000) (hc : c ≠ 0) : spec_l08Test_takes.f k c ⟨t, (i : Int), d, false⟩ = if hd t i = c then some (true, ⟨t, ((i + 1 : Nat) : Int), d, false⟩) else some (false, ⟨t, (i : Int), d, false⟩) := by
  unfold spec_l08Test_takes.f hd
  cases h : rest t i with
  | nil =>
    simp only [cond_false, lt_nil h]
    rw [if_neg (fun e => hc e.symm)]
  | cons x r =>
    have := rest_lt h
    simp only [cond_false, lt_cons h, cond_true, bix_cons h, Option.bind_some, wup this (show t.size ≤ 2000000 by omega)]
    by_cases e : (x.toNat : Int) = c
    · simp only [show ((x.toNat : Int) == c) = true by simpa using e, cond_true]; rw [if_pos e]
    · simp only [show ((x.toNat : Int) == c) = false by simpa using e, cond_false]; rw [if_neg e]
theorem takes_b (k : Nat) (c x e : Int) : spec_l08Test_takes.f k c ⟨t, x, e, true⟩ = some (false, ⟨t, x, e, true⟩) := by
  unfold spec_l08Test_takes.f
  simp only [cond_true]
theorem peek_t (k : Nat) (b : Bool) (hi : i ≤ t.size) : impl_testReader_peek.f k ⟨t, (i : Int), d, b⟩ = some (hd t i, ⟨t, (i : Int), d, b⟩) := by
  unfold impl_testReader_peek.f hd
  cases h : rest t i with
  | nil => simp only [lt_nil h, cond_false]
  | cons x r => simp only [lt_cons h, cond_true, bix_cons h, Option.bind_some]
theorem hd_lt {c : Int} (h : hd t i = c) (hc : c ≠ 0) : i < t.size := by
  unfold hd at h
  cases e : rest t i with
  | nil => rw [e] at h; exact absurd h.symm hc
  | cons x r => exact rest_lt e
end
/-! Words -/
section
variable {t : ByteArray}
def wl (t : ByteArray) (i : Nat) : Nat := ((rest t i).takeWhile isN).length
theorem wl_le (i : Nat) : i + wl t i ≤ max i t.size := by
  unfold wl
  have h1 := (List.takeWhile_prefix (p := isN) (l := rest t i)).length_le
  rw [rest_len] at h1
  omega
theorem wl_cons {i : Nat} {c : UInt8} {r : List UInt8} (h : rest t i = c :: r) (hc : isN c = true) : wl t i = wl t (i + 1) + 1 := by
  unfold wl
  rw [h, List.takeWhile_cons_of_pos hc, List.length_cons, rest_next h]
theorem wl_stop {i : Nat} {c : UInt8} {r : List UInt8} (h : rest t i = c :: r) (hc : isN c = false) : wl t i = 0 := by
  unfold wl
  rw [h, List.takeWhile_cons_of_neg (by rw [hc]; decide)]; rfl
theorem wl_nil {i : Nat} (h : rest t i = []) : wl t i = 0 := by
  unfold wl
  rw [h]; rfl
def word (t : ByteArray) (i : Nat) : ByteArray := bs ((rest t i).take (wl t i))
theorem word_size (i : Nat) : (word t i).size = wl t i := by
  unfold word
  rw [bs_size, List.length_take]
  unfold wl
  have h1 := (List.takeWhile_prefix (p := isN) (l := rest t i)).length_le
  omega
theorem wordByte_ (k : Nat) (c : UInt8) : impl_wordByte.f k (c.toNat : Int) = some (isN c) := by
  unfold impl_wordByte.f isN
  rw [isLetter_, Option.bind_some, isDigit_, Option.bind_some, us_]
  cases isL c <;> cases isD c <;> rfl
theorem in_some {l : List ByteArray} {a : ByteArray} (hl : l.length ≤ 2000000) : ∃ b, Ev (fun k => spec_l01InTexts.f k l a) b ∧ (b = true ↔ a ∈ l) := by
  have loop : ∀ (n i : Nat), l.length - i ≤ n → ∃ b, Ev (fun k => spec_l01InTexts.l0 k l a (i : Int)) b ∧ (b = true ↔ a ∈ l.drop i) := by
    have fin : ∀ i : Nat, ¬ i < l.length → ∃ b, Ev (fun k => spec_l01InTexts.l0 k l a (i : Int)) b ∧ (b = true ↔ a ∈ l.drop i) := fun i h => by
      refine ⟨false, Ev.step ?_, ?_⟩
      · simp only [spec_l01InTexts.l0, ltn h, cond_false]; exact Ev.ret _
      · rw [List.drop_of_length_le (by omega)]; simp
    intro n
    induction n with
    | zero => intro i h; exact fin i (by omega)
    | succ n ih =>
      intro i h
      by_cases hi : i < l.length
      case neg => exact fin i hi
      rw [List.drop_eq_getElem_cons hi, List.mem_cons]
      by_cases e : l[i] = a
      · refine ⟨true, Ev.step ?_, ?_⟩
        · simp only [spec_l01InTexts.l0, ltd hi, cond_true, ixg hi, Option.bind_some, decide_eq_true e]; exact Ev.ret _
        · simp [e]
      · obtain ⟨b, h1, h2⟩ := ih (i + 1) (by omega)
        refine ⟨b, Ev.step ?_, ?_⟩
        · simp only [spec_l01InTexts.l0, ltd hi, cond_true, ixg hi, Option.bind_some, decide_eq_false e, cond_false, wup hi hl]; exact h1
        · rw [h2]; exact ⟨.inr, fun h => h.elim (fun x => absurd x.symm e) id⟩
  obtain ⟨b, h1, h2⟩ := loop _ 0 (Nat.le_refl _)
  exact ⟨b, Ev.step (by simp only [spec_l01InTexts.f]; exact h1), h2⟩
theorem sword_l0 {i : Nat} {d : Int} {b0 : Bool} (ht : t.size ≤ 1000) (hi : i ≤ t.size) : ∃ f, Ev (fun k => spec_l08Test_read.l0 k [] (b0, ⟨t, (i : Int), d, false⟩) (i : Int)) (if nmB (word t i) then ((⟨word t i, 3, f⟩, ⟨t, ((i + wl t i : Nat) : Int), d, false⟩) : S290 × S348) else (⟨word t i, 3, f⟩, ⟨t, (i : Int), d, true⟩)) := by
  obtain ⟨f, hf, -⟩ := in_some (l := []) (a := word t i) (by simp)
  refine ⟨f, ?_⟩
  have hw := wl_le (t := t) i
  have fin : Ev (fun k => spec_l08Test_read.j2 k [] (b0, ⟨t, (i : Int), d, false⟩) ((i + wl t i : Nat) : Int)) (if nmB (word t i) then ((⟨word t i, 3, f⟩, ⟨t, ((i + wl t i : Nat) : Int), d, false⟩) : S290 × S348) else (⟨word t i, 3, f⟩, ⟨t, (i : Int), d, true⟩)) := by
    refine Ev.step ?_
    simp only [spec_l08Test_read.j2]
    rw [sub_ij (by omega) (by omega), Nat.add_sub_cancel_left]
    simp only [Option.bind_some]
    refine Ev.bind (lnm _) ?_
    show Ev (fun k => bif nmB (word t i) then _ else _) _
    cases nmB (word t i) with
    | true => exact Ev.bind hf (Ev.ret _)
    | false => exact Ev.bind hf (Ev.ret _)
  have loop : ∀ (n p : Nat), t.size - p ≤ n → i ≤ p → p + wl t p = i + wl t i → Ev (fun k => spec_l08Test_read.l0 k [] (b0, ⟨t, (i : Int), d, false⟩) (p : Int)) (if nmB (word t i) then ((⟨word t i, 3, f⟩, ⟨t, ((i + wl t i : Nat) : Int), d, false⟩) : S290 × S348) else (⟨word t i, 3, f⟩, ⟨t, (i : Int), d, true⟩)) := by
    intro n
    induction n with
    | zero =>
      intro p h hp e
      have h0 : rest t p = [] := List.eq_nil_of_length_eq_zero (by rw [rest_len]; omega)
      rw [wl_nil h0] at e
      refine Ev.step ?_
      simp only [spec_l08Test_read.l0, lt_nil h0, cond_false]
      rw [show (p : Int) = ((i + wl t i : Nat) : Int) by omega]; exact fin
    | succ n ih =>
      intro p h hp e
      cases h0 : rest t p with
      | nil =>
        rw [wl_nil h0] at e
        refine Ev.step ?_
        simp only [spec_l08Test_read.l0, lt_nil h0, cond_false]
        rw [show (p : Int) = ((i + wl t i : Nat) : Int) by omega]; exact fin
      | cons c r =>
        have hpl := rest_lt h0
        refine Ev.step ?_
        simp only [spec_l08Test_read.l0, lt_cons h0, cond_true, bix_cons h0, Option.bind_some, letter_, digit_, us_]
        have more : isN c = true → Ev (fun k => spec_l08Test_read.j1 k [] (b0, ⟨t, (i : Int), d, false⟩) (p : Int)) (if nmB (word t i) then ((⟨word t i, 3, f⟩, ⟨t, ((i + wl t i : Nat) : Int), d, false⟩) : S290 × S348) else (⟨word t i, 3, f⟩, ⟨t, (i : Int), d, true⟩)) := fun hc => by
          rw [wl_cons h0 hc] at e
          refine Ev.step ?_
          simp only [spec_l08Test_read.j1, wup hpl (show t.size ≤ 2000000 by omega)]
          exact ih (p + 1) (by omega) (by omega) (by omega)
        have stop : isN c = false → Ev (fun k => spec_l08Test_read.j2 k [] (b0, ⟨t, (i : Int), d, false⟩) (p : Int)) (if nmB (word t i) then ((⟨word t i, 3, f⟩, ⟨t, ((i + wl t i : Nat) : Int), d, false⟩) : S290 × S348) else (⟨word t i, 3, f⟩, ⟨t, (i : Int), d, true⟩)) := fun hc => by
          rw [wl_stop h0 hc] at e
          rw [show (p : Int) = ((i + wl t i : Nat) : Int) by omega]; exact fin
        unfold isN at more stop
        cases hL : isL c with
        | true => exact more (by rw [hL]; rfl)
        | false =>
          cases hD : isD c with
          | true => exact more (by rw [hL, hD]; rfl)
          | false =>
            cases hx : c.toNat == 95 with
            | true => exact more (by rw [hL, hD, hx]; rfl)
            | false => exact stop (by rw [hL, hD, hx]; rfl)
  exact loop _ i (Nat.le_refl _) (Nat.le_refl _) rfl
theorem iword_l0 {i : Nat} {d x : Int} (ht : t.size ≤ 1000) (hi : i ≤ t.size) : Ev (fun k => impl_testReader_not.l0 k (x, ⟨t, (i : Int), d, false⟩) (i : Int)) ((⟨0, word t i, []⟩, ⟨t, ((i + wl t i : Nat) : Int), d, !nmB (word t i)⟩) : S352 × S386) := by
  have hw := wl_le (t := t) i
  have fin : Ev (fun k => impl_testReader_not.j0 k (x, ⟨t, (i : Int), d, false⟩) ((i + wl t i : Nat) : Int)) ((⟨0, word t i, []⟩, ⟨t, ((i + wl t i : Nat) : Int), d, !nmB (word t i)⟩) : S352 × S386) := by
    refine Ev.step ?_
    simp only [impl_testReader_not.j0]
    rw [sub_ij (by omega) (by omega), Nat.add_sub_cancel_left]
    simp only [Option.bind_some]
    refine Ev.bind (inm _) ?_
    show Ev (fun k => bif nmB (word t i) then _ else _) _
    cases nmB (word t i) <;> exact Ev.ret _
  have loop : ∀ (n p : Nat), t.size - p ≤ n → i ≤ p → p + wl t p = i + wl t i → Ev (fun k => impl_testReader_not.l0 k (x, ⟨t, (i : Int), d, false⟩) (p : Int)) ((⟨0, word t i, []⟩, ⟨t, ((i + wl t i : Nat) : Int), d, !nmB (word t i)⟩) : S352 × S386) := by
    intro n
    induction n with
    | zero =>
      intro p h hp e
      have h0 : rest t p = [] := List.eq_nil_of_length_eq_zero (by rw [rest_len]; omega)
      rw [wl_nil h0] at e
      refine Ev.step ?_
      simp only [impl_testReader_not.l0, lt_nil h0, cond_false]
      rw [show (p : Int) = ((i + wl t i : Nat) : Int) by omega]; exact fin
    | succ n ih =>
      intro p h hp e
      cases h0 : rest t p with
      | nil =>
        rw [wl_nil h0] at e
        refine Ev.step ?_
        simp only [impl_testReader_not.l0, lt_nil h0, cond_false]
        rw [show (p : Int) = ((i + wl t i : Nat) : Int) by omega]; exact fin
      | cons c r =>
        have hpl := rest_lt h0
        refine Ev.step ?_
        simp only [impl_testReader_not.l0, lt_cons h0, cond_true, bix_cons h0, Option.bind_some, wordByte_, wup hpl (show t.size ≤ 2000000 by omega)]
        cases hc : isN c with
        | true =>
          rw [wl_cons h0 hc] at e
          exact ih (p + 1) (by omega) (by omega) (by omega)
        | false =>
          rw [wl_stop h0 hc] at e
          simp only [cond_false]
          rw [show (p : Int) = ((i + wl t i : Nat) : Int) by omega]; exact fin
  exact loop _ i (Nat.le_refl _) (Nat.le_refl _) rfl
end
/-! Tests and their texts -/
def joinN (sg : UInt8) (h : Nat → ByteArray) : Nat → ByteArray
  | 0 => ⟨#[]⟩
  | 1 => h 0
  | n + 2 => (joinN sg h (n + 1) ++ ⟨#[sg]⟩) ++ h (n + 1)
theorem joinN_next (sg : UInt8) (h : Nat → ByteArray) {n : Nat} (hn : 1 ≤ n) : joinN sg h (n + 1) = (joinN sg h n ++ ⟨#[sg]⟩) ++ h n := by
  obtain ⟨m, rfl⟩ : ∃ m, n = m + 1 := ⟨n - 1, by omega⟩
  rfl
theorem joinN_congr (sg : UInt8) {h h' : Nat → ByteArray} : ∀ n, (∀ i, i < n → h i = h' i) → joinN sg h n = joinN sg h' n
  | 0, _ => rfl
  | 1, e => e 0 (by omega)
  | n + 2, e => by simp only [joinN]; rw [joinN_congr sg (n + 1) (fun i hi => e i (by omega)), e (n + 1) (by omega)]
/-- A test, its text, its level. -/
inductive Shw : S352 → ByteArray → Int → Prop
  | name (n : ByteArray) : Shw ⟨0, n, []⟩ n 3
  | bang {T : S352} {s : ByteArray} {l : Int} (h : Shw T s l) : Shw ⟨33, ⟨#[]⟩, [T]⟩ ((⟨#[33]⟩ : ByteArray) ++ lin s l 3) 3
  | row {sg : UInt8} {lv : Int} {ks : List S352} (fs : Nat → ByteArray) (gs : Nat → Int) (hsg : (sg = 124 ∧ lv = 1) ∨ (sg = 38 ∧ lv = 2)) (h2 : 2 ≤ ks.length)
      (h : ∀ i (hi : i < ks.length), Shw ks[i] (fs i) (gs i)) : Shw ⟨(sg.toNat : Int), ⟨#[]⟩, ks⟩ (joinN sg (fun i => lin (fs i) (gs i) lv) ks.length) lv
/-- Both have read from i on, at a level; or both tell that it is none. -/
def Out (t : ByteArray) (i : Nat) (d L : Int) (sp : Nat → Option (S290 × S348)) (im : Nat → Option (S352 × S386)) : Prop :=
  (∃ T s l f, ∃ j : Nat, i < j ∧ j ≤ t.size ∧ Shw T s l ∧ (lin s l L).size ≤ 3 * (j - i) + 2 ∧ Ev sp (⟨s, l, f⟩, ⟨t, (j : Int), d, false⟩) ∧ Ev im (T, ⟨t, (j : Int), d, false⟩)) ∨
  (∃ T s l f x e y, ∃ q : Nat, q ≤ t.size ∧ (lin s l L).size ≤ 3 * (t.size - i) + 2 ∧ Ev sp (⟨s, l, f⟩, ⟨t, x, e, true⟩) ∧ Ev im (T, ⟨t, (q : Int), y, true⟩))
section
variable {t : ByteArray} {i : Nat} {d L : Int}
theorem Out.step {sp : Nat → Option (S290 × S348)} {im : Nat → Option (S352 × S386)} (h : Out t i d L (fun k => sp (k + 1)) (fun k => im (k + 1))) : Out t i d L sp im := by
  rcases h with ⟨T, s, l, f, j, h1, h2, h3, h4, h5, h6⟩ | ⟨T, s, l, f, x, e, y, q, h1, h2, h3, h4⟩
  · exact .inl ⟨T, s, l, f, j, h1, h2, h3, h4, h5.step, h6.step⟩
  · exact .inr ⟨T, s, l, f, x, e, y, q, h1, h2, h3.step, h4.step⟩
theorem Out.sstep {sp : Nat → Option (S290 × S348)} {im : Nat → Option (S352 × S386)} (h : Out t i d L (fun k => sp (k + 1)) im) : Out t i d L sp im := by
  rcases h with ⟨T, s, l, f, j, h1, h2, h3, h4, h5, h6⟩ | ⟨T, s, l, f, x, e, y, q, h1, h2, h3, h4⟩
  · exact .inl ⟨T, s, l, f, j, h1, h2, h3, h4, h5.step, h6⟩
  · exact .inr ⟨T, s, l, f, x, e, y, q, h1, h2, h3.step, h4⟩
theorem Out.istep {sp : Nat → Option (S290 × S348)} {im : Nat → Option (S352 × S386)} (h : Out t i d L sp (fun k => im (k + 1))) : Out t i d L sp im := by
  rcases h with ⟨T, s, l, f, j, h1, h2, h3, h4, h5, h6⟩ | ⟨T, s, l, f, x, e, y, q, h1, h2, h3, h4⟩
  · exact .inl ⟨T, s, l, f, j, h1, h2, h3, h4, h5, h6.step⟩
  · exact .inr ⟨T, s, l, f, x, e, y, q, h1, h2, h3, h4.step⟩
theorem Out.pass {sp : Nat → Option (S290 × S348)} {im : Nat → Option (S352 × S386)} (h : Out t i d L sp im) : Out t i d L (fun k => (sp k).bind fun v => some (v.1, v.2)) (fun k => (im k).bind fun v => some (v.1, v.2)) := by
  rcases h with ⟨T, s, l, f, j, h1, h2, h3, h4, h5, h6⟩ | ⟨T, s, l, f, x, e, y, q, h1, h2, h3, h4⟩
  · exact .inl ⟨T, s, l, f, j, h1, h2, h3, h4, Ev.bind h5 (Ev.ret _), Ev.bind h6 (Ev.ret _)⟩
  · exact .inr ⟨T, s, l, f, x, e, y, q, h1, h2, Ev.bind h3 (Ev.ret _), Ev.bind h4 (Ev.ret _)⟩
end
/-- A row: the loop behind the first. -/
theorem row_loop {t : ByteArray} (ht : t.size ≤ 1000) {i : Nat} {d lv : Int} (sg : UInt8) (hsg : (sg = 124 ∧ lv = 1) ∨ (sg = 38 ∧ lv = 2)) {nx : Nat → S386 → Option (S352 × S386)}
    {l0 : Nat → Int → ByteArray → Int → Int → Bool → List S352 → Option (S352 × S386)} {j0 : Nat → ByteArray → Int → Int → Bool → Int → List S352 → Option (S352 × S386)}
    (hl : ∀ k v0 v3 v4 v5 v6 v7, l0 (k + 1) v0 v3 v4 v5 v6 v7 = (bif v6 then (j0 k v3 v4 v5 true v0 v7) else ((impl_testReader_peek.f k (⟨v3, v4, v5, v6⟩ : S386)).bind fun v9 => (bif (v9.1 == v0) then ((nx k (⟨v9.2.f0, (IntKind.i64.wrap (v9.2.f1 + 1)), v9.2.f2, v9.2.f3⟩ : S386)).bind fun v15 => ((app v7 ([v15.1] : List S352)).bind fun v16 => (l0 k v0 v15.2.f0 v15.2.f1 v15.2.f2 v15.2.f3 v16))) else (j0 k v9.2.f0 v9.2.f1 v9.2.f2 v9.2.f3 v0 v7)))))
    (hj : ∀ k v10 v11 v12 v13 v0 v7, j0 (k + 1) v10 v11 v12 v13 v0 v7 = (bif ((v7.length : Int) == 1) then ((ix v7 0).bind fun v14 => (some (v14, (⟨v10, v11, v12, v13⟩ : S386)))) else (some ((⟨v0, (⟨#[]⟩ : ByteArray), v7⟩ : S352), (⟨v10, v11, v12, v13⟩ : S386)))))
    (hyp : ∀ j : Nat, i < j → j ≤ t.size → Out t j d (lv + 1) (fun k => spec_l08Test_read.f k (lv + 1) [] ⟨t, (j : Int), d, false⟩) (fun k => nx k ⟨t, (j : Int), d, false⟩)) :
    ∀ (m p : Nat) (ks : List S352) (fs : Nat → ByteArray) (gs : Nat → Int) (s : ByteArray) (l : Int) (f : Bool), t.size - p < m → i < p → p ≤ t.size → 1 ≤ ks.length → ks.length ≤ p → (∀ j (hj : j < ks.length), Shw ks[j] (fs j) (gs j)) →
      lin s l lv = joinN sg (fun j => lin (fs j) (gs j) lv) ks.length → (ks.length = 1 → s = fs 0 ∧ l = gs 0) → (2 ≤ ks.length → l = lv) → (lin s l lv).size ≤ 3 * (p - i) + 2 →
      Out t i d lv (fun k => spec_l08Test_row.l0 k lv (sg.toNat : Int) [] t (p : Int) d false s l f) (fun k => l0 k (sg.toNat : Int) t (p : Int) d false ks) := by
  have hlv : IntKind.i64.wrap (lv + 1) = lv + 1 := wI (by omega) (by omega)
  have hsg0 : (sg.toNat : Int) ≠ 0 := by rcases hsg with ⟨rfl, _⟩ | ⟨rfl, _⟩ <;> decide
  have hstr : bstr ([(sg.toNat : Int)] : List Int) = (⟨#[sg]⟩ : ByteArray) := by rcases hsg with ⟨rfl, _⟩ | ⟨rfl, _⟩ <;> rfl
  intro m
  induction m with
  | zero => intro p ks fs gs s l f h; omega
  | succ m ih =>
    intro p ks fs gs s l f hm hip hp hk hkp hS hjn h1 h2 hz
    refine Out.step ?_
    simp only [spec_l08Test_row.l0, hl, takes_t _ _ hp ht hsg0, peek_t _ _ hp, Option.bind_some, cond_false]
    by_cases hc : hd t p = (sg.toNat : Int)
    case neg =>
      have hb : (hd t p == (sg.toNat : Int)) = false := by simpa using hc
      simp only [if_neg hc, Option.bind_some, cond_false, hb]
      refine Out.istep ?_
      simp only [hj]
      by_cases h : ks.length = 1
      · obtain ⟨rfl, rfl⟩ := h1 h
        have h0 : 0 < ks.length := by omega
        simp only [h, show (((1 : Nat) : Int) == 1) = true from rfl, cond_true, show ix ks 0 = some ks[0] from ixg (i := 0) h0, Option.bind_some]
        exact .inl ⟨_, _, _, _, p, hip, hp, hS 0 h0, hz, Ev.ret _, Ev.ret _⟩
      · have hl2 := h2 (by omega)
        subst hl2
        have e : s = joinN sg (fun j => lin (fs j) (gs j) l) ks.length := by rw [← hjn, lin, if_neg (by omega)]
        have hsh : Shw ⟨(sg.toNat : Int), ⟨#[]⟩, ks⟩ s l := by rw [e]; exact Shw.row fs gs hsg (by omega) hS
        simp only [show ((ks.length : Int) == 1) = false by simp; omega, cond_false]
        exact .inl ⟨_, _, _, _, p, hip, hp, hsh, hz, Ev.ret _, Ev.ret _⟩
    have hpl := hd_lt hc hsg0
    have hb : (hd t p == (sg.toNat : Int)) = true := by simpa using hc
    simp only [if_pos hc, Option.bind_some, cond_true, hb, hlv, wup hpl (show t.size ≤ 2000000 by omega)]
    -- the next kid
    have hs1 := lin_size s l lv
    have spj : ∀ (s2 : ByteArray) (l2 : Int) (f2 : Bool) (x2 e2 : Int) (b2 : Bool), (lin s2 l2 lv).size ≤ 10000 → ∃ g : Bool, ∀ R, Ev (fun k => spec_l08Test_row.l0 k lv (sg.toNat : Int) [] t x2 e2 b2 ((lin s l lv ++ ⟨#[sg]⟩) ++ lin s2 l2 lv) lv g) R →
        Ev (fun k => bif f then spec_l08Test_row.j0 k lv (sg.toNat : Int) [] true (⟨s2, l2, f2⟩, ⟨t, x2, e2, b2⟩) s l true else spec_l08Test_row.j0 k lv (sg.toNat : Int) [] f2 (⟨s2, l2, f2⟩, ⟨t, x2, e2, b2⟩) s l false) R := fun s2 l2 f2 x2 e2 b2 hz2 => by
      have hs2 := lin_size s2 l2 lv
      have j1 : ∀ (g h : Bool) (R : S290 × S348), Ev (fun k => spec_l08Test_row.l0 k lv (sg.toNat : Int) [] t x2 e2 b2 ((lin s l lv ++ ⟨#[sg]⟩) ++ lin s2 l2 lv) lv g) R → Ev (fun k => spec_l08Test_row.j1 k lv (sg.toNat : Int) [] g (⟨s2, l2, f2⟩, ⟨t, x2, e2, b2⟩) s l h) R := fun g h R hr => by
        refine Ev.step ?_
        simp only [spec_l08Test_row.j1, l08In_ _ s l h lv (by omega), l08In_ _ s2 l2 f2 lv (by omega), hstr, Option.bind_some]
        rw [cat_ (by rw [sz1]; omega)]
        simp only [Option.bind_some]
        rw [cat_ (by rw [ByteArray.size_append, sz1]; omega)]
        exact hr
      have j0' : ∀ (g h : Bool), ∃ g', ∀ R, Ev (fun k => spec_l08Test_row.l0 k lv (sg.toNat : Int) [] t x2 e2 b2 ((lin s l lv ++ ⟨#[sg]⟩) ++ lin s2 l2 lv) lv g') R → Ev (fun k => spec_l08Test_row.j0 k lv (sg.toNat : Int) [] g (⟨s2, l2, f2⟩, ⟨t, x2, e2, b2⟩) s l h) R := fun g h => by
        by_cases h2' : lv = 2
        · cases h with
          | true => exact ⟨f2, fun R hr => Ev.step (by simp only [spec_l08Test_row.j0, show (lv == 2) = true by simpa using h2', cond_true]; exact j1 _ _ R hr)⟩
          | false => exact ⟨false, fun R hr => Ev.step (by simp only [spec_l08Test_row.j0, show (lv == 2) = true by simpa using h2', cond_true, cond_false]; exact j1 _ _ R hr)⟩
        · exact ⟨g, fun R hr => Ev.step (by simp only [spec_l08Test_row.j0, show (lv == 2) = false by simpa using h2', cond_false]; exact j1 _ _ R hr)⟩
      cases f with
      | true => exact j0' true true
      | false => exact j0' f2 false
    rcases hyp (p + 1) (by omega) (by omega) with ⟨T, s2, l2, f2, j, k1, k2, k3, k4, k5, k6⟩ | ⟨T, s2, l2, f2, x2, e2, y2, q, k1, k2, k3, k4⟩
    · have hm2 := lin_mono s2 l2 lv
      obtain ⟨g, hg⟩ := spj s2 l2 f2 (j : Int) d false (by omega)
      have hlen : (ks ++ [T]).length = ks.length + 1 := by simp
      have := ih j (ks ++ [T]) (fun n => if n = ks.length then s2 else fs n) (fun n => if n = ks.length then l2 else gs n) ((lin s l lv ++ ⟨#[sg]⟩) ++ lin s2 l2 lv) lv g (by omega) (by omega) k2 (by omega) (by omega) (fun n hn => by
        by_cases e : n = ks.length
        · subst e; simp only [if_pos]; rw [List.getElem_append_right (Nat.le_refl _)]; simpa using k3
        · simp only [if_neg e]
          rw [List.getElem_append_left (by omega)]
          exact hS n (by omega)) (by
        rw [hlen, joinN_next _ _ hk, lin, if_neg (by omega), hjn]
        simp only [if_pos]
        rw [joinN_congr sg ks.length (h' := fun j => lin (if j = ks.length then s2 else fs j) (if j = ks.length then l2 else gs j) lv) (fun j hj' => by simp only [if_neg (show ¬ j = ks.length by omega)])]) (fun h => by omega) (fun _ => rfl) (by
        rw [lin, if_neg (by omega)]
        simp only [ByteArray.size_append, sz1]
        omega)
      have happ : app ks ([T] : List S352) = some (ks ++ [T]) := app_one T (by omega)
      rcases this with ⟨T', s', l', f', j', a1, a2, a3, a4, a5, a6⟩ | ⟨T', s', l', f', x', e', y', q', a1, a2, a3, a4⟩
      · exact .inl ⟨T', s', l', f', j', a1, a2, a3, a4, Ev.bind k5 (hg _ a5), Ev.bind k6 (by simp only [happ, Option.bind_some]; exact a6)⟩
      · exact .inr ⟨T', s', l', f', x', e', y', q', a1, a2, Ev.bind k5 (hg _ a3), Ev.bind k6 (by simp only [happ, Option.bind_some]; exact a4)⟩
    · have hm2 := lin_mono s2 l2 lv
      obtain ⟨g, hg⟩ := spj s2 l2 f2 x2 e2 true (by omega)
      have happ : app ks ([T] : List S352) = some (ks ++ [T]) := app_one T (by omega)
      refine .inr ⟨if (ks ++ [T]).length = 1 then T else ⟨(sg.toNat : Int), ⟨#[]⟩, ks ++ [T]⟩, ((lin s l lv ++ ⟨#[sg]⟩) ++ lin s2 l2 lv), lv, g, x2, e2, y2, q, k1, ?_, Ev.bind k3 (hg _ (Ev.step ?_)), Ev.bind k4 ?_⟩
      rotate_left
      · simp only [spec_l08Test_row.l0, takes_b, Option.bind_some, cond_false]; exact Ev.ret _
      · simp only [happ, Option.bind_some]
        refine Ev.step ?_
        simp only [hl, cond_true]
        refine Ev.step ?_
        simp only [hj, List.length_append, List.length_cons, List.length_nil, show (((ks.length + (0 + 1) : Nat) : Int) == 1) = false by simp; omega, cond_false, if_neg (show ¬ ks.length + (0 + 1) = 1 by omega)]
        exact Ev.ret _
      · rw [lin, if_neg (by omega)]
        simp only [ByteArray.size_append, sz1]
        omega
end Go.Ab
