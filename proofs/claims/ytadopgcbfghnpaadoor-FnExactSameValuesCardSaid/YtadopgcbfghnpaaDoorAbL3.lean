/- What both readers of values tell, part 3: dates, numbers of nodes and edges, points, paths. No condition. -/
import Derived.Test.YtadopgcbfghnpaaDoorAbL2
namespace Go.Ab
open Go.Proofs
set_option linter.unusedVariables false
set_option linter.unusedSimpArgs false
/-! Days and months -/
def lp (y : Int) : Bool := bif (y.tmod 4 == 0) then (bif (y.tmod 100 == 0) then (y.tmod 400 == 0) else true) else false
theorem rem_ (a : Int) (b : Int) (h : b ≠ 0) : rem a b = some (a.tmod b) := by unfold rem; rw [if_neg h]
theorem leap_s (k : Nat) (y : Int) : spec_l01Leap.f k y = some (lp y) := by
  unfold spec_l01Leap.f lp
  rw [rem_ y 4 (by decide), rem_ y 100 (by decide), rem_ y 400 (by decide)]
  simp only [Option.bind_some]
  cases (y.tmod 4 == 0) <;> cases (y.tmod 100 == 0) <;> rfl
theorem leap_i (k : Nat) (y : Int) : impl_leap.f k y = some (lp y) := leap_s k y
def mon (y m : Int) : Int := if m = 2 then (if lp y then 29 else 28) else if m = 4 ∨ m = 6 ∨ m = 9 ∨ m = 11 then 30 else 31
theorem mon_bd (y m : Int) : 28 ≤ mon y m ∧ mon y m ≤ 31 := by
  unfold mon; split
  · split <;> omega
  · split <;> omega
theorem months {m : Int} (h1 : 1 ≤ m) (h2 : m ≤ 12) : m = 1 ∨ m = 2 ∨ m = 3 ∨ m = 4 ∨ m = 5 ∨ m = 6 ∨ m = 7 ∨ m = 8 ∨ m = 9 ∨ m = 10 ∨ m = 11 ∨ m = 12 := by omega
theorem month_s (k : Nat) (y : Int) {m : Int} (h1 : 1 ≤ m) (h2 : m ≤ 12) : spec_l01Month.f k y m = some (mon y m) := by
  unfold spec_l01Month.f
  rw [leap_s]
  rcases months h1 h2 with h | h | h | h | h | h | h | h | h | h | h | h <;> subst h <;> first | rfl | (unfold mon; cases lp y <;> rfl)
theorem month_i (k : Nat) (y : Int) {m : Int} (h1 : 1 ≤ m) (h2 : m ≤ 12) : impl_monthDays.f k y m = some (mon y m) := by
  unfold impl_monthDays.f
  rw [leap_i]
  rcases months h1 h2 with h | h | h | h | h | h | h | h | h | h | h | h <;> subst h <;> first | rfl | (unfold mon; cases lp y <;> rfl)
def dys (y : Int) : Int := (y - 1) * 365 + (y - 1) / 4 - (y - 1) / 100 + (y - 1) / 400
theorem quo_ {a b : Int} (h : 0 ≤ a) (hb : 0 < b) (hm : a ≤ 1000000000) : quo .i64 a b = some (a / b) := by
  unfold quo
  rw [if_neg (by omega), Int.tdiv_eq_ediv_of_nonneg h]
  have h1 : 0 ≤ a / b := Int.ediv_nonneg h (by omega)
  have h2 : a / b ≤ a := Int.ediv_le_self _ h
  rw [w64 (by omega) (by omega)]
theorem days_w {y : Int} (h1 : 1 ≤ y) (h2 : y ≤ 10001) : IntKind.i64.wrap ((IntKind.i64.wrap ((IntKind.i64.wrap ((IntKind.i64.wrap ((y - 1) * 365)) + ((y - 1) / 4))) - ((y - 1) / 100))) + ((y - 1) / 400)) = dys y := by
  rw [w64 (n := (y - 1) * 365) (by omega) (by omega), w64 (n := (y - 1) * 365 + (y - 1) / 4) (by omega) (by omega), w64 (n := (y - 1) * 365 + (y - 1) / 4 - (y - 1) / 100) (by omega) (by omega), w64 (by omega) (by omega)]
  rfl
theorem days_s (k : Nat) {y : Int} (h1 : 1 ≤ y) (h2 : y ≤ 10001) : spec_l01Days.f k y = some (dys y) := by
  unfold spec_l01Days.f
  rw [w64 (n := y - 1) (by omega) (by omega), quo_ (by omega) (by omega) (by omega), quo_ (by omega) (by omega) (by omega), quo_ (by omega) (by omega) (by omega)]
  simp only [Option.bind_some]
  rw [days_w h1 h2]
theorem dys_bd {y : Int} (h1 : 1 ≤ y) (h2 : y ≤ 10001) : 0 ≤ dys y ∧ dys y ≤ 3700000 := by unfold dys; omega
theorem dayloop (y : Int) {m : Nat} (hm : m ≤ 12) (v1 v6 v11 : Int × S37) (h1 : v1.1 = y) (h6 : v6.1 = (m : Int)) (d : Int) (hd : 0 ≤ d ∧ d ≤ 1000) : ∀ (n q : Nat), q + n = m ∨ (n = 0 ∧ m ≤ q) → 1 ≤ q → q ≤ 13 →
    ∃ S : Int, 0 ≤ S ∧ S ≤ 31 * n ∧ (∀ a : Int, 0 ≤ a → a ≤ 100000000 - 31 * n → Ev (fun k => spec_l01Reader_date.l0 k v1 v6 a (q : Int) v11) (⟨4, a + S, 0, ⟨#[]⟩, [], []⟩, ⟨v11.2.f0, v11.2.f1, false⟩)) ∧
      (∀ a : Int, 0 ≤ a → a ≤ 100000000 - 31 * n → Ev (fun k => impl_dayNumber.l0 k y (m : Int) d a (q : Int)) (a + S + d - 1)) := by
  intro n
  induction n with
  | zero =>
    intro q h hq hq2
    refine ⟨0, by omega, by omega, fun a h1 h2 => Ev.step ?_, fun a h1 h2 => Ev.step ?_⟩
    · simp only [spec_l01Reader_date.l0, h6, show decide ((q : Int) < (m : Int)) = false by simp; omega, cond_false, Int.add_zero]; exact Ev.ret _
    · simp only [impl_dayNumber.l0, show decide ((q : Int) < (m : Int)) = false by simp; omega, cond_false, Int.add_zero]
      rw [w64 (n := a + d) (by omega) (by omega), w64 (by omega) (by omega)]
      exact Ev.ret _
  | succ n ih =>
    intro q h hq hq2
    obtain ⟨S, hS0, hS1, hs, hi⟩ := ih (q + 1) (by omega) (by omega) (by omega)
    have hb := mon_bd y (q : Int)
    have hlt : decide ((q : Int) < (m : Int)) = true := by simp; omega
    refine ⟨mon y q + S, by omega, by omega, fun a ha1 ha2 => Ev.step ?_, fun a ha1 ha2 => Ev.step ?_⟩
    · simp only [spec_l01Reader_date.l0, h6, hlt, cond_true, h1, month_s _ y (m := (q : Int)) (by omega) (by omega), Option.bind_some, w1 (i := q) (by omega)]
      rw [w64 (n := a + mon y q) (by omega) (by omega), ← Int.add_assoc]
      exact hs (a + mon y q) (by omega) (by omega)
    · simp only [impl_dayNumber.l0, hlt, cond_true, month_i _ y (m := (q : Int)) (by omega) (by omega), Option.bind_some, w1 (i := q) (by omega)]
      rw [w64 (n := a + mon y q) (by omega) (by omega), ← Int.add_assoc]
      exact hi (a + mon y q) (by omega) (by omega)
theorem dayNumber_f {y m d : Int} (h1 : 1 ≤ y) (h2 : y ≤ 10001) {r : Int} (h : Ev (fun k => impl_dayNumber.l0 k y m d (dys y) 1) r) : Ev (fun k => impl_dayNumber.f k y m d) r := by
  refine Ev.step ?_
  simp only [impl_dayNumber.f]
  rw [w64 (n := y - 1) (by omega) (by omega), quo_ (a := y - 1) (b := 4) (by omega) (by omega) (by omega), quo_ (a := y - 1) (b := 100) (by omega) (by omega) (by omega), quo_ (a := y - 1) (b := 400) (by omega) (by omega) (by omega)]
  simp only [Option.bind_some]
  rw [days_w h1 h2]
  exact h
section
variable {t : ByteArray} {i : Nat} {c : UInt8} {r : List UInt8}
theorem pre1 (x c : UInt8) (r : List UInt8) : pre ⟨#[x]⟩ (c :: r) = (x == c) := by simp [pre, List.isPrefixOf]
theorem pre0 (x : UInt8) : pre ⟨#[x]⟩ [] = false := rfl
theorem bif_same {α : Type} (b : Bool) (x : α) : (bif b then x else x) = x := by cases b <;> rfl
/-! Digits of a date -/
def okd (n : Nat) (l : List UInt8) : Bool := decide (n ≤ l.length) && (l.take n).all isD
theorem digits_l0 {q : Int} {b : Bool} (ht : t.size ≤ 2000000) (m : Nat) (hm : m ≤ 100) : ∀ (n : Nat) (l : List UInt8) (p jj : Nat) (acc : Int), jj + n = m → rest t p = l → p ≤ t.size →
    (okd n l = true → Ev (fun k => spec_l01Reader_digits.l0 k (m : Int) acc (jj : Int) ⟨t, q, b⟩ (p : Int)) ((l.take n).foldl fw acc, ⟨t, ((p + n : Nat) : Int), b⟩)) ∧
    (okd n l = false → ∃ j : Nat, j ≤ t.size ∧ Ev (fun k => spec_l01Reader_digits.l0 k (m : Int) acc (jj : Int) ⟨t, q, b⟩ (p : Int)) (0, ⟨t, (j : Int), true⟩)) := by
  intro n
  induction n with
  | zero =>
    intro l p jj acc hj h hp
    refine ⟨fun _ => Ev.step ?_, fun h => by simp [okd] at h⟩
    simp only [spec_l01Reader_digits.l0, show decide ((jj : Int) < (m : Int)) = false by simp; omega, cond_false]
    exact Ev.ret _
  | succ n ih =>
    intro l p jj acc hj h hp
    have hlt : decide ((jj : Int) < (m : Int)) = true := by simp; omega
    cases l with
    | nil =>
      refine ⟨fun h => by simp [okd] at h, fun _ => ⟨p, hp, Ev.step ?_⟩⟩
      simp only [spec_l01Reader_digits.l0, hlt, cond_true, le_nil h]
      exact Ev.ret _
    | cons c r =>
      have hl := rest_lt h
      obtain ⟨ih1, ih2⟩ := ih r (p + 1) (jj + 1) (fw acc c) (by omega) (rest_next h) (by omega)
      have e : okd (n + 1) (c :: r) = (isD c && okd n r) := by
        unfold okd
        rw [List.take_succ_cons, List.all_cons, List.length_cons]
        have : decide (n + 1 ≤ r.length + 1) = decide (n ≤ r.length) := by congr 1; simp
        rw [this]
        cases decide (n ≤ r.length) <;> cases isD c <;> simp
      have hstep : isD c = true → ∀ R, Ev (fun k => spec_l01Reader_digits.l0 k (m : Int) (fw acc c) ((jj + 1 : Nat) : Int) ⟨t, q, b⟩ ((p + 1 : Nat) : Int)) R → Ev (fun k => spec_l01Reader_digits.l0 k (m : Int) acc (jj : Int) ⟨t, q, b⟩ (p : Int)) R := by
        intro hd R g
        refine Ev.step ?_
        simp only [spec_l01Reader_digits.l0, hlt, cond_true, le_cons h, cond_false, bix_cons h, Option.bind_some, digit_, hd, fw_def, w1 (i := p) (by omega), w1 (i := jj) (by omega)]
        exact g
      rw [e]
      cases hd : isD c with
      | true =>
        rw [Bool.true_and]
        refine ⟨fun h => hstep hd _ ?_, fun h => ?_⟩
        · rw [List.take_succ_cons, List.foldl_cons, show p + (n + 1) = p + 1 + n by omega]; exact ih1 h
        · obtain ⟨j, h1, h2⟩ := ih2 h
          exact ⟨j, h1, hstep hd _ h2⟩
      | false =>
        rw [Bool.false_and]
        refine ⟨fun h => by simp at h, fun _ => ⟨p, hp, Ev.step ?_⟩⟩
        simp only [spec_l01Reader_digits.l0, hlt, cond_true, le_cons h, cond_false, bix_cons h, Option.bind_some, digit_, hd]
        exact Ev.ret _
theorem digits_ok {b : Bool} (ht : t.size ≤ 2000000) (n : Nat) (hn : n ≤ 100) (hi : i ≤ t.size) (h : okd n (rest t i) = true) : Ev (fun k => spec_l01Reader_digits.f k (n : Int) ⟨t, (i : Int), b⟩) (((rest t i).take n).foldl fw 0, ⟨t, ((i + n : Nat) : Int), b⟩) := by
  refine Ev.step ?_
  simp only [spec_l01Reader_digits.f]
  exact (digits_l0 (q := (i : Int)) (b := b) ht n hn n (rest t i) i 0 0 (by omega) rfl hi).1 h
theorem digits_no {b : Bool} (ht : t.size ≤ 2000000) (n : Nat) (hn : n ≤ 100) (hi : i ≤ t.size) (h : okd n (rest t i) = false) : ∃ j : Nat, j ≤ t.size ∧ Ev (fun k => spec_l01Reader_digits.f k (n : Int) ⟨t, (i : Int), b⟩) (0, ⟨t, (j : Int), true⟩) := by
  obtain ⟨j, h1, h2⟩ := (digits_l0 (q := (i : Int)) (b := b) ht n hn n (rest t i) i 0 0 (by omega) rfl hi).2 h
  refine ⟨j, h1, Ev.step ?_⟩
  simp only [spec_l01Reader_digits.f]
  exact h2
theorem okd_le {n : Nat} {l : List UInt8} (h : okd n l = true) : n ≤ l.length := by
  unfold okd at h; simp at h; exact h.1
theorem date_j1_bad (ht : t.size ≤ 2000000) (hi : i ≤ t.size) (v1 v6 : Int × S37) : SBad t (fun k => spec_l01Reader_date.j1 k v1 v6 t (i : Int) true) := by
  refine SBad.step ?_
  simp only [spec_l01Reader_date.j1]
  cases h : okd 2 (rest t i) with
  | true =>
    have := okd_le h
    rw [rest_len] at this
    refine SBad.bind (digits_ok ht 2 (by omega) hi h) ?_
    simp only [cond_true, fail_, Option.bind_some]
    exact SBad.ret _ (by omega)
  | false =>
    obtain ⟨j, hj, h⟩ := digits_no (b := true) ht 2 (by omega) hi h
    refine SBad.bind h ?_
    simp only [cond_true, fail_, Option.bind_some]
    exact SBad.ret _ hj
theorem date_j0_bad (ht : t.size ≤ 2000000) (hi : i ≤ t.size) (v1 : Int × S37) : SBad t (fun k => spec_l01Reader_date.j0 k v1 t (i : Int) true) := by
  refine SBad.step ?_
  simp only [spec_l01Reader_date.j0]
  cases h : okd 2 (rest t i) with
  | true =>
    have := okd_le h
    rw [rest_len] at this
    refine SBad.bind (digits_ok ht 2 (by omega) hi h) ?_
    simp only [cond_true]
    exact date_j1_bad ht (by omega) _ _
  | false =>
    obtain ⟨j, hj, h⟩ := digits_no (b := true) ht 2 (by omega) hi h
    refine SBad.bind h ?_
    simp only [cond_true]
    exact date_j1_bad ht hj _ _
/-- Does a date of this form stand at the head? -/
def dform (l : List UInt8) : Bool := okd 4 l && pre ⟨#[45]⟩ (l.drop 4) && okd 2 (l.drop 5) && pre ⟨#[45]⟩ (l.drop 7) && okd 2 (l.drop 8)
def dnum (n : Nat) (l : List UInt8) : Int := (l.take n).foldl fw 0
/-- Of a month and day that are there. -/
def dgood (y m d : Int) : Bool := decide (1 ≤ y) && decide (1 ≤ m) && decide (m ≤ 12) && decide (1 ≤ d) && decide (d ≤ mon y m)
theorem date_no (ht : t.size ≤ 2000000) (hi : i ≤ t.size) (h : dform (rest t i) = false) : SBad t (fun k => spec_l01Reader_date.f k ⟨t, (i : Int), false⟩) := by
  refine SBad.step ?_
  simp only [spec_l01Reader_date.f]
  cases h4 : okd 4 (rest t i) with
  | false =>
    obtain ⟨j, hj, h⟩ := digits_no (b := false) ht 4 (by omega) hi h4
    refine SBad.bind h ?_
    simp only [cond_true]
    exact date_j0_bad ht hj _
  | true =>
    have l4 := okd_le h4
    rw [rest_len] at l4
    refine SBad.bind (digits_ok ht 4 (by omega) hi h4) ?_
    simp only [cond_false, takes_ (t := t) (i := i + 4) _ _ (by omega) ht, Option.bind_some, rest_add]
    cases p1 : pre ⟨#[45]⟩ ((rest t i).drop 4) with
    | false =>
      simp only [Bool.false_eq_true, if_false, Bool.not_false]
      exact date_j0_bad ht (by omega) _
    | true =>
      have q1 := pre_len p1
      rw [List.length_drop, rest_len, show (⟨#[45]⟩ : ByteArray).size = 1 from rfl] at q1
      simp only [if_true, Bool.not_true, show (⟨#[45]⟩ : ByteArray).data.toList.length = 1 from rfl]
      refine SBad.step ?_
      simp only [spec_l01Reader_date.j0]
      cases h2 : okd 2 (rest t (i + 4 + 1)) with
      | false =>
        obtain ⟨j, hj, h⟩ := digits_no (b := false) ht 2 (by omega) (by omega) h2
        refine SBad.bind h ?_
        simp only [cond_true]
        exact date_j1_bad ht hj _ _
      | true =>
        have l2 := okd_le h2
        rw [rest_len] at l2
        refine SBad.bind (digits_ok ht 2 (by omega) (by omega) h2) ?_
        simp only [cond_false, takes_ (t := t) (i := i + 4 + 1 + 2) _ _ (by omega) ht, Option.bind_some]
        cases p2 : pre ⟨#[45]⟩ (rest t (i + 4 + 1 + 2)) with
        | false =>
          simp only [Bool.false_eq_true, if_false, Bool.not_false]
          exact date_j1_bad ht (by omega) _ _
        | true =>
          have q2 := pre_len p2
          rw [rest_len, show (⟨#[45]⟩ : ByteArray).size = 1 from rfl] at q2
          simp only [if_true, Bool.not_true, show (⟨#[45]⟩ : ByteArray).data.toList.length = 1 from rfl]
          refine SBad.step ?_
          simp only [spec_l01Reader_date.j1]
          cases h3 : okd 2 (rest t (i + 4 + 1 + 2 + 1)) with
          | false =>
            obtain ⟨j, hj, h⟩ := digits_no (b := false) ht 2 (by omega) (by omega) h3
            refine SBad.bind h ?_
            simp only [cond_true, fail_, Option.bind_some]
            exact SBad.ret _ hj
          | true =>
            exfalso
            unfold dform at h
            rw [show i + 4 + 1 = i + 5 by omega] at h2
            rw [show i + 4 + 1 + 2 = i + 7 by omega] at p2
            rw [show i + 4 + 1 + 2 + 1 = i + 8 by omega] at h3
            rw [rest_add] at h2 p2 h3
            rw [h4, p1, h2, p2, h3] at h
            simp at h
theorem fw_bd {acc B : Int} (h : isD c = true) (h0 : 0 ≤ acc) (h1 : acc ≤ B) (hB : B ≤ 1000000000) : 0 ≤ fw acc c ∧ fw acc c ≤ B * 10 + 9 := by
  rw [fw_eq h]
  unfold isD at h; simp at h
  rw [w64 (by omega) (by omega)]; omega
theorem foldl_bd : ∀ (l : List UInt8), (∀ c ∈ l, isD c = true) → l.length ≤ 4 → 0 ≤ l.foldl fw 0 ∧ l.foldl fw 0 ≤ 9999 := by
  intro l hl hn
  match l, hl, hn with
  | [], _, _ => simp
  | [a], h, _ =>
    have h1 := fw_bd (acc := 0) (B := 0) (h a (by simp)) (by omega) (by omega) (by omega)
    exact ⟨h1.1, by show fw 0 a ≤ 9999; omega⟩
  | [a, b], h, _ =>
    have h1 := fw_bd (acc := 0) (B := 0) (h a (by simp)) (by omega) (by omega) (by omega)
    have h2 := fw_bd (acc := fw 0 a) (B := 9) (h b (by simp)) h1.1 (by omega) (by omega)
    exact ⟨h2.1, by show fw (fw 0 a) b ≤ 9999; omega⟩
  | [a, b, x], h, _ =>
    have h1 := fw_bd (acc := 0) (B := 0) (h a (by simp)) (by omega) (by omega) (by omega)
    have h2 := fw_bd (acc := fw 0 a) (B := 9) (h b (by simp)) h1.1 (by omega) (by omega)
    have h3 := fw_bd (acc := fw (fw 0 a) b) (B := 99) (h x (by simp)) h2.1 (by omega) (by omega)
    exact ⟨h3.1, by show fw (fw (fw 0 a) b) x ≤ 9999; omega⟩
  | [a, b, x, y], h, _ =>
    have h1 := fw_bd (acc := 0) (B := 0) (h a (by simp)) (by omega) (by omega) (by omega)
    have h2 := fw_bd (acc := fw 0 a) (B := 9) (h b (by simp)) h1.1 (by omega) (by omega)
    have h3 := fw_bd (acc := fw (fw 0 a) b) (B := 99) (h x (by simp)) h2.1 (by omega) (by omega)
    have h4 := fw_bd (acc := fw (fw (fw 0 a) b) x) (B := 999) (h y (by simp)) h3.1 (by omega) (by omega)
    exact ⟨h4.1, by show fw (fw (fw (fw 0 a) b) x) y ≤ 9999; omega⟩
  | _ :: _ :: _ :: _ :: _ :: _, _, hn => simp at hn
theorem dnum_bd {n : Nat} {l : List UInt8} (hn : n ≤ 4) (h : okd n l = true) : 0 ≤ dnum n l ∧ dnum n l ≤ 9999 := by
  unfold okd at h
  rw [Bool.and_eq_true] at h
  exact foldl_bd _ (fun c hc => List.all_eq_true.1 h.2 c hc) (by rw [List.length_take]; omega)
/-- A date's place in a text of its form. -/
theorem date_ok (ht : t.size ≤ 2000000) (hi : i ≤ t.size) (h : dform (rest t i) = true) : i + 10 ≤ t.size ∧
    (dgood (dnum 4 (rest t i)) (dnum 2 ((rest t i).drop 5)) (dnum 2 ((rest t i).drop 8)) = true → ∃ n : Int, (-9223372036854775808 ≤ n ∧ n ≤ 9223372036854775807) ∧ Ev (fun k => spec_l01Reader_date.f k ⟨t, (i : Int), false⟩) (⟨4, n, 0, ⟨#[]⟩, [], []⟩, ⟨t, ((i + 10 : Nat) : Int), false⟩) ∧ Ev (fun k => impl_dayNumber.f k (dnum 4 (rest t i)) (dnum 2 ((rest t i).drop 5)) (dnum 2 ((rest t i).drop 8))) n) ∧
    (dgood (dnum 4 (rest t i)) (dnum 2 ((rest t i).drop 5)) (dnum 2 ((rest t i).drop 8)) = false → SBad t (fun k => spec_l01Reader_date.f k ⟨t, (i : Int), false⟩)) := by
  unfold dform at h
  simp only [Bool.and_eq_true] at h
  obtain ⟨⟨⟨⟨h4, p1⟩, h2⟩, p2⟩, h3⟩ := h
  have l3 := okd_le h3
  rw [List.length_drop, rest_len] at l3
  have b4 := dnum_bd (by omega) h4
  have b2 := dnum_bd (by omega) h2
  have b3 := dnum_bd (by omega) h3
  have reach : ∀ R, Ev (fun k => spec_l01Reader_date.j1 k (dnum 4 (rest t i), ⟨t, ((i + 4 : Nat) : Int), false⟩) (dnum 2 ((rest t i).drop 5), ⟨t, ((i + 7 : Nat) : Int), false⟩) t ((i + 8 : Nat) : Int) false) R → Ev (fun k => spec_l01Reader_date.f k ⟨t, (i : Int), false⟩) R := by
    intro R g
    refine Ev.step ?_
    simp only [spec_l01Reader_date.f]
    refine Ev.bind (digits_ok ht 4 (by omega) hi h4) ?_
    simp only [cond_false, takes_ (t := t) (i := i + 4) _ _ (by omega) ht, Option.bind_some, rest_add, p1, if_true, Bool.not_true, show (⟨#[45]⟩ : ByteArray).data.toList.length = 1 from rfl]
    refine Ev.step ?_
    simp only [spec_l01Reader_date.j0]
    have h2' : okd 2 (rest t (i + 5)) = true := by rw [rest_add]; exact h2
    refine Ev.bind (digits_ok ht 2 (by omega) (i := i + 5) (by omega) h2') ?_
    have p2' : pre ⟨#[45]⟩ (rest t (i + 5 + 2)) = true := by rw [show i + 5 + 2 = i + 7 by omega, rest_add]; exact p2
    simp only [cond_false, takes_ (t := t) (i := i + 5 + 2) _ _ (by omega) ht, Option.bind_some, p2', if_true, Bool.not_true, show (⟨#[45]⟩ : ByteArray).data.toList.length = 1 from rfl]
    rw [rest_add 5]
    exact g
  have h3' : okd 2 (rest t (i + 8)) = true := by rw [rest_add]; exact h3
  generalize hY : dnum 4 (rest t i) = y at *
  generalize hM : dnum 2 ((rest t i).drop 5) = m at *
  have hD : ((rest t (i + 8)).take 2).foldl fw 0 = dnum 2 ((rest t i).drop 8) := by rw [rest_add]; rfl
  generalize dnum 2 ((rest t i).drop 8) = d at *
  refine ⟨by omega, fun hg => ?_, fun hg => ?_⟩
  · unfold dgood at hg
    simp only [Bool.and_eq_true, decide_eq_true_eq] at hg
    obtain ⟨⟨⟨⟨g1, g2⟩, g3⟩, g4⟩, g5⟩ := hg
    have mb := mon_bd y m
    obtain ⟨mn, rfl⟩ : ∃ mn : Nat, m = (mn : Int) := ⟨m.toNat, by omega⟩
    have db := dys_bd (y := y) (by omega) (by omega)
    obtain ⟨S, hS0, hS1, hs, hi2⟩ := dayloop y (m := mn) (by omega) (y, ⟨t, ((i + 4 : Nat) : Int), false⟩) ((mn : Int), ⟨t, ((i + 7 : Nat) : Int), false⟩) (d, ⟨t, ((i + 8 + 2 : Nat) : Int), false⟩) rfl rfl d ⟨by omega, by omega⟩ (mn - 1) 1 (by omega) (by omega) (by omega)
    refine ⟨dys y + d - 1 + S, by omega, reach _ (Ev.step ?_), dayNumber_f (by omega) (by omega) ?_⟩
    · simp only [spec_l01Reader_date.j1]
      refine Ev.bind (digits_ok ht 2 (by omega) (i := i + 8) (by omega) h3') ?_
      rw [hD]
      simp only [cond_false, show decide (y < 1) = false by simp; omega, show decide ((mn : Int) < 1) = false by simp; omega, show decide ((12 : Int) < (mn : Int)) = false by simp; omega, show decide (d < 1) = false by simp; omega, month_s _ y g2 g3, Option.bind_some, show decide (mon y (mn : Int) < d) = false by simp; omega, days_s _ (y := y) (by omega) (by omega)]
      rw [w64 (n := dys y + d) (by omega) (by omega), w64 (n := dys y + d - 1) (by omega) (by omega)]
      exact hs (dys y + d - 1) (by omega) (by omega)
    · have := hi2 (dys y) (by omega) (by omega)
      rw [show dys y + S + d - 1 = dys y + d - 1 + S by omega] at this
      exact this
  · obtain ⟨sv, j, hj, hb⟩ : SBad t (fun k => spec_l01Reader_date.j1 k (y, ⟨t, ((i + 4 : Nat) : Int), false⟩) (m, ⟨t, ((i + 7 : Nat) : Int), false⟩) t ((i + 8 : Nat) : Int) false) := by
      refine SBad.step ?_
      simp only [spec_l01Reader_date.j1]
      refine SBad.bind (digits_ok ht 2 (by omega) (i := i + 8) (by omega) h3') ?_
      rw [hD]
      simp only [cond_false, fail_, Option.bind_some]
      by_cases g1 : y < 1
      · simp only [decide_eq_true g1, cond_true]; exact SBad.ret _ (by omega)
      simp only [decide_eq_false g1, cond_false]
      by_cases g2 : m < 1
      · simp only [decide_eq_true g2, cond_true]; exact SBad.ret _ (by omega)
      simp only [decide_eq_false g2, cond_false]
      by_cases g3 : 12 < m
      · simp only [decide_eq_true g3, cond_true]; exact SBad.ret _ (by omega)
      simp only [decide_eq_false g3, cond_false]
      by_cases g4 : d < 1
      · simp only [decide_eq_true g4, cond_true]; exact SBad.ret _ (by omega)
      simp only [decide_eq_false g4, cond_false, month_s _ y (m := m) (by omega) (by omega), Option.bind_some]
      by_cases g5 : mon y m < d
      · simp only [decide_eq_true g5, cond_true]; exact SBad.ret _ (by omega)
      exfalso
      unfold dgood at hg
      rw [show decide (1 ≤ y) = true by simp; omega, show decide (1 ≤ m) = true by simp; omega, show decide (m ≤ 12) = true by simp; omega, show decide (1 ≤ d) = true by simp; omega, show decide (d ≤ mon y m) = true by simp; omega] at hg
      simp at hg
    exact ⟨sv, j, hj, reach _ hb⟩
/-! The program's reading of a date -/
theorem dnum_l0 {s : ByteArray} (hs : s.size ≤ 2000000) : ∀ (l : List UInt8) (p : Nat) (acc : Int), rest s p = l → Ev (fun k => impl_reader_date_1.l0 k s acc (p : Int)) (if l.all isD then l.foldl fw acc else -1) := by
  intro l
  induction l with
  | nil =>
    intro p acc h
    refine Ev.step ?_
    simp only [impl_reader_date_1.l0, lt_nil h, cond_false]
    exact Ev.ret _
  | cons c r ih =>
    intro p acc h
    have hl := rest_lt h
    refine Ev.step ?_
    simp only [impl_reader_date_1.l0, lt_cons h, cond_true, bix_cons h, Option.bind_some, isDigit_, fw_def, w1 (i := p) (by omega)]
    cases hd : isD c with
    | true =>
      simp only [cond_true, List.all_cons, hd, Bool.true_and, List.foldl_cons]
      exact ih (p + 1) _ (rest_next h)
    | false =>
      simp only [cond_false, List.all_cons, hd, Bool.false_and, Bool.false_eq_true, if_false]
      exact Ev.ret _
theorem dnum_ (l : List UInt8) (hl : l.length ≤ 2000000) : Ev (fun k => impl_reader_date_1.f k (bs l)) (if l.all isD then l.foldl fw 0 else -1) := by
  refine Ev.step ?_
  simp only [impl_reader_date_1.f]
  exact dnum_l0 (s := bs l) (by rw [bs_size]; exact hl) l 0 0 (rest_bs l)
theorem sub_bs {l : List UInt8} {a b : Nat} (h1 : a ≤ b) (h2 : b ≤ l.length) : sub (bs l) (a : Int) (b : Int) = some (bs ((l.drop a).take (b - a))) := by
  rw [sub_ij h1 (by rw [bs_size]; exact h2)]
  simp [rest, bs]
/-- Both read a date behind '@'. -/
theorem date_ (ht : t.size ≤ 2000000) (h : rest t i = 64 :: r) :
    (∃ n : Int, i + 11 ≤ t.size ∧ (-9223372036854775808 ≤ n ∧ n ≤ 9223372036854775807) ∧ Ev (fun k => spec_l01Reader_date.f k ⟨t, ((i + 1 : Nat) : Int), false⟩) (⟨4, n, 0, ⟨#[]⟩, [], []⟩, ⟨t, ((i + 11 : Nat) : Int), false⟩) ∧ Ev (fun k => impl_reader_date.f k ⟨t, (i : Int)⟩) (n, true, ⟨t, ((i + 11 : Nat) : Int)⟩)) ∨
    (SBad t (fun k => spec_l01Reader_date.f k ⟨t, ((i + 1 : Nat) : Int), false⟩) ∧ ∃ x s, Ev (fun k => impl_reader_date.f k ⟨t, (i : Int)⟩) (x, false, s)) := by
  have hl := rest_lt h
  have hn := rest_next h
  have hlen : r.length = t.size - (i + 1) := by rw [← hn, rest_len]
  have hw : IntKind.i64.wrap ((t.size : Int) - (i : Int)) = ((r.length + 1 : Nat) : Int) := by rw [w64 (by omega) (by omega)]; omega
  by_cases h11 : r.length < 10
  · right
    refine ⟨date_no ht (by omega) ?_, 0, ⟨t, (i : Int)⟩, ?_⟩
    · cases hd : dform (rest t (i + 1)) with
      | false => rfl
      | true => have := (date_ok ht (by omega) hd).1; omega
    · refine Ev.now fun k => ?_
      simp only [impl_reader_date.f, hw, show decide (((r.length + 1 : Nat) : Int) < 11) = true by simp; omega, cond_true]
  · have r10 : 10 ≤ r.length := by omega
    obtain ⟨c0, r0, rfl⟩ := List.exists_cons_of_length_pos (show 0 < r.length by (try simp only [List.length_cons] at r10); omega)
    obtain ⟨c1, r1, rfl⟩ := List.exists_cons_of_length_pos (show 0 < r0.length by (try simp only [List.length_cons] at r10); omega)
    obtain ⟨c2, r2, rfl⟩ := List.exists_cons_of_length_pos (show 0 < r1.length by (try simp only [List.length_cons] at r10); omega)
    obtain ⟨c3, r3, rfl⟩ := List.exists_cons_of_length_pos (show 0 < r2.length by (try simp only [List.length_cons] at r10); omega)
    obtain ⟨c4, r4, rfl⟩ := List.exists_cons_of_length_pos (show 0 < r3.length by (try simp only [List.length_cons] at r10); omega)
    obtain ⟨c5, r5, rfl⟩ := List.exists_cons_of_length_pos (show 0 < r4.length by (try simp only [List.length_cons] at r10); omega)
    obtain ⟨c6, r6, rfl⟩ := List.exists_cons_of_length_pos (show 0 < r5.length by (try simp only [List.length_cons] at r10); omega)
    obtain ⟨c7, r7, rfl⟩ := List.exists_cons_of_length_pos (show 0 < r6.length by (try simp only [List.length_cons] at r10); omega)
    obtain ⟨c8, r8, rfl⟩ := List.exists_cons_of_length_pos (show 0 < r7.length by (try simp only [List.length_cons] at r10); omega)
    obtain ⟨c9, r9, rfl⟩ := List.exists_cons_of_length_pos (show 0 < r8.length by (try simp only [List.length_cons] at r10); omega)
    clear r10
    have n1 := rest_next hn
    have n2 := rest_next n1
    have n3 := rest_next n2
    have n4 := rest_next n3
    have n5 := rest_next n4
    have n6 := rest_next n5
    have n7 := rest_next n6
    simp only [List.length_cons] at hlen h11 hw
    have hi11 : i + 11 ≤ t.size := by omega
    have b0 : bix t (i : Int) = some 64 := bix_cons h
    have b5 := bix_cons n4
    have b8 := bix_cons n7
    have e5 : IntKind.i64.wrap ((i : Int) + 5) = ((i + 1 + 1 + 1 + 1 + 1 : Nat) : Int) := wn 5 (by omega)
    have e8 : IntKind.i64.wrap ((i : Int) + 8) = ((i + 1 + 1 + 1 + 1 + 1 + 1 + 1 + 1 : Nat) : Int) := wn 8 (by omega)
    have e1 : IntKind.i64.wrap ((i : Int) + 1) = ((i + 1 : Nat) : Int) := wn 1 (by omega)
    have e11 : IntKind.i64.wrap ((i : Int) + 11) = ((i + 11 : Nat) : Int) := wn 11 (by omega)
    have hform : dform (rest t (i + 1)) = ((isD c0 && isD c1 && isD c2 && isD c3) && (45 == c4) && (isD c5 && isD c6) && (45 == c7) && (isD c8 && isD c9)) := by
      rw [hn]
      unfold dform okd
      simp [Bool.and_assoc, pre1]
    have hne : ((c4.toNat : Int) == 45) = (45 == c4) := by
      rw [Bool.eq_iff_iff]; simp
      constructor
      · intro h; exact UInt8.toNat_inj.1 (by show 45 = c4.toNat; omega)
      · intro h; rw [← h]; rfl
    have hne7 : ((c7.toNat : Int) == 45) = (45 == c7) := by
      rw [Bool.eq_iff_iff]; simp
      constructor
      · intro h; exact UInt8.toNat_inj.1 (by show 45 = c7.toNat; omega)
      · intro h; rw [← h]; rfl
    have impl0 : ∀ R, (45 == c4) = true → (45 == c7) = true → Ev (fun k => (impl_reader_date_1.f k (bs [c0, c1, c2, c3])).bind fun v6 => ((impl_reader_date_1.f k (bs [c5, c6])).bind fun v8 => ((impl_reader_date_1.f k (bs [c8, c9])).bind fun v10 => (bif decide (v6 < 1) then (some (0, false, (⟨t, ((i + 11 : Nat) : Int)⟩ : S52))) else (bif decide (v8 < 1) then (some (0, false, (⟨t, ((i + 11 : Nat) : Int)⟩ : S52))) else (bif decide (12 < v8) then (some (0, false, (⟨t, ((i + 11 : Nat) : Int)⟩ : S52))) else (bif decide (v10 < 1) then (some (0, false, (⟨t, ((i + 11 : Nat) : Int)⟩ : S52))) else ((impl_monthDays.f k v6 v8).bind fun v11 => (bif decide (v11 < v10) then (some (0, false, (⟨t, ((i + 11 : Nat) : Int)⟩ : S52))) else ((impl_dayNumber.f k v6 v8 v10).bind fun v12 => (some (v12, true, (⟨t, ((i + 11 : Nat) : Int)⟩ : S52))))))))))))) R → Ev (fun k => impl_reader_date.f k ⟨t, (i : Int)⟩) R := by
      intro R q1 q2 g
      have s0 : sub t ((i + 1 : Nat) : Int) ((i + 11 : Nat) : Int) = some (bs [c0, c1, c2, c3, c4, c5, c6, c7, c8, c9]) := by
        rw [sub_ij (by omega) (by omega), hn, show i + 11 - (i + 1) = 10 by omega]; rfl
      have s1 : sub (bs [c0, c1, c2, c3, c4, c5, c6, c7, c8, c9]) 0 4 = some (bs [c0, c1, c2, c3]) := sub_bs (a := 0) (b := 4) (by omega) (by simp)
      have s2 : sub (bs [c0, c1, c2, c3, c4, c5, c6, c7, c8, c9]) 5 7 = some (bs [c5, c6]) := sub_bs (a := 5) (b := 7) (by omega) (by simp)
      have s3 : sub (bs [c0, c1, c2, c3, c4, c5, c6, c7, c8, c9]) 8 ((bs [c0, c1, c2, c3, c4, c5, c6, c7, c8, c9]).size : Int) = some (bs [c8, c9]) := by
        rw [bs_size]; exact sub_bs (a := 8) (b := 10) (by omega) (by simp)
      simp only [impl_reader_date.f, hw, show decide (((r9.length + 1 + 1 + 1 + 1 + 1 + 1 + 1 + 1 + 1 + 1 + 1 : Nat) : Int) < 11) = false by simp; omega, cond_false, b0, Option.bind_some, show ((64 : Int) == 64) = true from rfl, cond_true, e5, b5, hne, q1, e8, b8, hne7, q2, e1, e11, s0, s1, s2, s3]
      exact g
    have tl : ∀ (x y : UInt8), [x, y].all isD = (isD x && isD y) := fun x y => by simp
    have tl4 : [c0, c1, c2, c3].all isD = (isD c0 && isD c1 && isD c2 && isD c3) := by simp [Bool.and_assoc]
    have hY : dnum 4 (rest t (i + 1)) = [c0, c1, c2, c3].foldl fw 0 := by rw [hn]; rfl
    have hM : dnum 2 ((rest t (i + 1)).drop 5) = [c5, c6].foldl fw 0 := by rw [hn]; rfl
    have hD : dnum 2 ((rest t (i + 1)).drop 8) = [c8, c9].foldl fw 0 := by rw [hn]; rfl
    cases hf : dform (rest t (i + 1)) with
    | false =>
      right
      refine ⟨date_no ht (by omega) hf, 0, ?_⟩
      rw [hform] at hf
      cases q1 : (45 == c4) with
      | false =>
        refine ⟨⟨t, (i : Int)⟩, Ev.now fun k => ?_⟩
        simp only [impl_reader_date.f, hw, show decide (((r9.length + 1 + 1 + 1 + 1 + 1 + 1 + 1 + 1 + 1 + 1 + 1 : Nat) : Int) < 11) = false by simp; omega, cond_false, b0, Option.bind_some, show ((64 : Int) == 64) = true from rfl, cond_true, e5, b5, hne, q1]
      | true =>
        cases q2 : (45 == c7) with
        | false =>
          refine ⟨⟨t, (i : Int)⟩, Ev.now fun k => ?_⟩
          simp only [impl_reader_date.f, hw, show decide (((r9.length + 1 + 1 + 1 + 1 + 1 + 1 + 1 + 1 + 1 + 1 + 1 : Nat) : Int) < 11) = false by simp; omega, cond_false, b0, Option.bind_some, show ((64 : Int) == 64) = true from rfl, cond_true, e5, b5, hne, q1, e8, b8, hne7, q2]
        | true =>
          refine ⟨⟨t, ((i + 11 : Nat) : Int)⟩, impl0 _ q1 q2 ?_⟩
          rw [q1, q2] at hf
          refine Ev.bind (dnum_ _ (by simp)) (Ev.bind (dnum_ _ (by simp)) (Ev.bind (dnum_ _ (by simp)) ?_))
          rw [tl4, tl, tl]
          cases w1 : (isD c0 && isD c1 && isD c2 && isD c3) with
          | false => simp only [Bool.false_eq_true, if_false, show decide ((-1 : Int) < 1) = true from rfl, cond_true]; exact Ev.ret _
          | true =>
            cases w2 : (isD c5 && isD c6) with
            | false =>
              simp only [Bool.false_eq_true, if_false, show decide ((-1 : Int) < 1) = true from rfl, cond_true, bif_same]
              exact Ev.ret _
            | true =>
              cases w3 : (isD c8 && isD c9) with
              | true => rw [w1, w2, w3] at hf; simp at hf
              | false =>
                simp only [Bool.false_eq_true, if_false, show decide ((-1 : Int) < 1) = true from rfl, cond_true, bif_same]
                exact Ev.ret _
    | true =>
      obtain ⟨_, g1, g2⟩ := date_ok ht (by omega) hf
      have hf' := hf
      rw [hform] at hf
      simp only [Bool.and_eq_true] at hf
      obtain ⟨⟨⟨⟨w1, q1⟩, w2⟩, q2⟩, w3⟩ := hf
      have w1' : [c0, c1, c2, c3].all isD = true := by rw [tl4]; simpa using w1
      have w2' : [c5, c6].all isD = true := by rw [tl]; simpa using w2
      have w3' : [c8, c9].all isD = true := by rw [tl]; simpa using w3
      rw [hY, hM, hD] at g1 g2
      cases hg : dgood ([c0, c1, c2, c3].foldl fw 0) ([c5, c6].foldl fw 0) ([c8, c9].foldl fw 0) with
      | true =>
        left
        obtain ⟨n, hnr, hs, hd⟩ := g1 hg
        refine ⟨n, hi11, hnr, hs, impl0 _ q1 q2 ?_⟩
        refine Ev.bind (dnum_ _ (by simp)) (Ev.bind (dnum_ _ (by simp)) (Ev.bind (dnum_ _ (by simp)) ?_))
        rw [w1', w2', w3']
        simp only [if_true]
        unfold dgood at hg
        simp only [Bool.and_eq_true, decide_eq_true_eq] at hg
        obtain ⟨⟨⟨⟨g1, g2⟩, g3⟩, g4⟩, g5⟩ := hg
        rw [decide_eq_false (by omega : ¬ [c0, c1, c2, c3].foldl fw 0 < 1), decide_eq_false (by omega : ¬ [c5, c6].foldl fw 0 < 1), decide_eq_false (by omega : ¬ 12 < [c5, c6].foldl fw 0), decide_eq_false (by omega : ¬ [c8, c9].foldl fw 0 < 1)]
        simp only [cond_false, month_i _ _ g2 g3, Option.bind_some, decide_eq_false (by omega : ¬ mon ([c0, c1, c2, c3].foldl fw 0) ([c5, c6].foldl fw 0) < [c8, c9].foldl fw 0)]
        exact Ev.bind hd (Ev.ret _)
      | false =>
        right
        refine ⟨g2 hg, 0, ⟨t, ((i + 11 : Nat) : Int)⟩, impl0 _ q1 q2 ?_⟩
        refine Ev.bind (dnum_ _ (by simp)) (Ev.bind (dnum_ _ (by simp)) (Ev.bind (dnum_ _ (by simp)) ?_))
        rw [w1', w2', w3']
        simp only [if_true]
        by_cases g1 : [c0, c1, c2, c3].foldl fw 0 < 1
        · simp only [decide_eq_true g1, cond_true]; exact Ev.ret _
        by_cases g2 : [c5, c6].foldl fw 0 < 1
        · simp only [decide_eq_false g1, decide_eq_true g2, cond_true, cond_false]; exact Ev.ret _
        by_cases g3 : 12 < [c5, c6].foldl fw 0
        · simp only [decide_eq_false g1, decide_eq_false g2, decide_eq_true g3, cond_true, cond_false]; exact Ev.ret _
        by_cases g4 : [c8, c9].foldl fw 0 < 1
        · simp only [decide_eq_false g1, decide_eq_false g2, decide_eq_false g3, decide_eq_true g4, cond_true, cond_false]; exact Ev.ret _
        simp only [decide_eq_false g1, decide_eq_false g2, decide_eq_false g3, decide_eq_false g4, cond_false, month_i _ _ (by omega : 1 ≤ [c5, c6].foldl fw 0) (by omega), Option.bind_some]
        by_cases g5 : mon ([c0, c1, c2, c3].foldl fw 0) ([c5, c6].foldl fw 0) < [c8, c9].foldl fw 0
        · simp only [decide_eq_true g5, cond_true]; exact Ev.ret _
        exfalso
        unfold dgood at hg
        rw [decide_eq_true (by omega : 1 ≤ [c0, c1, c2, c3].foldl fw 0), decide_eq_true (by omega : 1 ≤ [c5, c6].foldl fw 0), decide_eq_true (by omega : [c5, c6].foldl fw 0 ≤ 12), decide_eq_true (by omega : 1 ≤ [c8, c9].foldl fw 0), decide_eq_true (by omega : [c8, c9].foldl fw 0 ≤ mon ([c0, c1, c2, c3].foldl fw 0) ([c5, c6].foldl fw 0))] at hg
        simp at hg
end
end Go.Ab
