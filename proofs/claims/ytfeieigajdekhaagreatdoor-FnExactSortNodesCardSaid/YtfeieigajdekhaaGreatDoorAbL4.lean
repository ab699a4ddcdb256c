/- What both readers of values tell, part 4: things, points, paths, lists, maps, values. No condition. -/
import Derived.Test.YtfeieigajdekhaaGreatDoorAbL1
import Derived.Lib.Bytealg
namespace Go.Ab
open Go.Proofs
set_option linter.unusedVariables false
set_option linter.unusedSimpArgs false
section
variable {t : ByteArray} {i : Nat} {c : UInt8} {r : List UInt8}
theorem toI_items (k : Int) (l : List S100) (n : List ByteArray) : toI ⟨k, 0, 0, ⟨#[]⟩, l, n⟩ = ⟨k, 0, 0, ⟨#[]⟩, n, l.map toI⟩ := by rw [toI_eq]
theorem wf_flat {k a b : Int} (hk : 0 ≤ k ∧ k ≤ 10) (hb : k = 1 → a = 0 ∨ a = 1) (ha : -9223372036854775808 ≤ a ∧ a ≤ 9223372036854775807) (hb' : -9223372036854775808 ≤ b ∧ b ≤ 9223372036854775807) (hx : k = 6 ∨ k = 7 ∨ k = 10 → a = 0 ∧ b = 0 := by simp) (hp : k ≠ 5 → b = 0 := by simp) : Wf ⟨k, a, b, ⟨#[]⟩, [], []⟩ := .mk _ hk hb ⟨ha, hb'⟩ (by simp) (by simp) (fun x h => by simp at h) (fun _ => rfl) hx (fun _ => rfl) hp
theorem wf_text {k : Int} (hk : 0 ≤ k ∧ k ≤ 10) : Wf ⟨k, 0, 0, ⟨#[]⟩, [], []⟩ := wf_flat hk (fun _ => .inl rfl) (by omega) (by omega) (fun _ => ⟨rfl, rfl⟩) (fun _ => rfl)
theorem wf_txt (s : ByteArray) : Wf ⟨3, 0, 0, s, [], []⟩ := .mk _ (by simp) (fun _ => .inl rfl) (by simp) (by simp) (by simp) (fun x h => by simp at h) (fun h => absurd rfl h) (fun _ => ⟨rfl, rfl⟩) (fun _ => rfl) (fun _ => rfl)
theorem wf_num {k a : Int} (hk : 2 ≤ k ∧ k ≤ 10) (hn : ¬ (k = 6 ∨ k = 7 ∨ k = 10)) (ha : -9223372036854775808 ≤ a ∧ a ≤ 9223372036854775807) : Wf ⟨k, a, 0, ⟨#[]⟩, [], []⟩ := wf_flat (by omega) (fun h => by omega) ha (by omega) (fun h => absurd h hn) (fun _ => rfl)
theorem wf_items {k : Int} {l : List S100} {n : List ByteArray} (hk : k = 6 ∨ k = 7 ∨ k = 10) (hl : l.length ≤ 2000000) (hn : n.length = if k = 7 then l.length else 0) (h : ∀ x ∈ l, Wf x) : Wf ⟨k, 0, 0, ⟨#[]⟩, l, n⟩ := .mk _ (show 0 ≤ k ∧ k ≤ 10 by omega) (fun _ => .inl rfl) ⟨⟨by simp, by simp⟩, ⟨by simp, by simp⟩⟩ hl hn h (fun _ => rfl) (fun _ => ⟨rfl, rfl⟩) (fun h => absurd hk h) (fun _ => rfl)
theorem Res.step {sp : Nat → Option (S100 × S111)} {im : Nat → Option (S105 × Bool × S115)} (h : Res t i (fun k => sp (k + 1)) (fun k => im (k + 1))) : Res t i sp im := by
  rcases h with ⟨sv, j, h1, h2, hw, h3, h4⟩ | ⟨sv, j, iv, s, h1, h2, h3⟩
  · exact .inl ⟨sv, j, h1, h2, hw, h3.step, h4.step⟩
  · exact .inr ⟨sv, j, iv, s, h1, h2.step, h3.step⟩
theorem Res.istep {sp : Nat → Option (S100 × S111)} {im : Nat → Option (S105 × Bool × S115)} (h : Res t i sp (fun k => im (k + 1))) : Res t i sp im := by
  rcases h with ⟨sv, j, h1, h2, hw, h3, h4⟩ | ⟨sv, j, iv, s, h1, h2, h3⟩
  · exact .inl ⟨sv, j, h1, h2, hw, h3, h4.step⟩
  · exact .inr ⟨sv, j, iv, s, h1, h2, h3.step⟩
theorem Res.sstep {sp : Nat → Option (S100 × S111)} {im : Nat → Option (S105 × Bool × S115)} (h : Res t i (fun k => sp (k + 1)) im) : Res t i sp im := by
  rcases h with ⟨sv, j, h1, h2, hw, h3, h4⟩ | ⟨sv, j, iv, s, h1, h2, h3⟩
  · exact .inl ⟨sv, j, h1, h2, hw, h3.step, h4⟩
  · exact .inr ⟨sv, j, iv, s, h1, h2.step, h3⟩
theorem Res.sbind {α : Type} {f : Nat → Option α} {g : Nat → α → Option (S100 × S111)} {a : α} {im : Nat → Option (S105 × Bool × S115)} (h : Ev f a) (h' : Res t i (fun k => g k a) im) : Res t i (fun k => (f k).bind (g k)) im := by
  rcases h' with ⟨sv, j, h1, h2, hw, h3, h4⟩ | ⟨sv, j, iv, s, h1, h2, h3⟩
  · exact .inl ⟨sv, j, h1, h2, hw, h.bind h3, h4⟩
  · exact .inr ⟨sv, j, iv, s, h1, h.bind h2, h3⟩
theorem Res.ibind {α : Type} {f : Nat → Option α} {g : Nat → α → Option (S105 × Bool × S115)} {a : α} {sp : Nat → Option (S100 × S111)} (h : Ev f a) (h' : Res t i sp (fun k => g k a)) : Res t i sp (fun k => (f k).bind (g k)) := by
  rcases h' with ⟨sv, j, h1, h2, hw, h3, h4⟩ | ⟨sv, j, iv, s, h1, h2, h3⟩
  · exact .inl ⟨sv, j, h1, h2, hw, h3, h.bind h4⟩
  · exact .inr ⟨sv, j, iv, s, h1, h2, h.bind h3⟩
theorem Res.ret (sv : S100) (iv : S105) {j : Nat} (hj : j ≤ t.size) (hi : i < j) (e : iv = toI sv) (hw : Wf sv) : Res t i (fun _ => some (sv, ⟨t, (j : Int), false⟩)) (fun _ => some (iv, true, ⟨t, (j : Int)⟩)) := .inl ⟨sv, j, hi, hj, hw, Ev.ret _, e ▸ Ev.ret _⟩
theorem Res.none (sv : S100) (iv : S105) (s : S115) {j : Nat} (hj : j ≤ t.size) : Res t i (fun _ => some (sv, ⟨t, (j : Int), true⟩)) (fun _ => some (iv, false, s)) := .inr ⟨sv, j, iv, s, hj, Ev.ret _, Ev.ret _⟩
theorem Res.back {i' : Nat} {sp : Nat → Option (S100 × S111)} {im : Nat → Option (S105 × Bool × S115)} (h : Res t i' sp im) (hi : i ≤ i') : Res t i sp im := by
  rcases h with ⟨sv, j, h1, h2, hw, h3, h4⟩ | h
  · exact .inl ⟨sv, j, by omega, h2, hw, h3, h4⟩
  · exact .inr h
/-- A reading, handed on as it is. -/
theorem Res.pass {sp : Nat → Option (S100 × S111)} {im : Nat → Option (S105 × Bool × S115)} (h : Res t i sp im) : Res t i (fun k => (sp k).bind fun v => some (v.1, v.2)) (fun k => (im k).bind fun v => some (v.1, v.2.1, v.2.2)) := by
  rcases h with ⟨sv, j, h1, h2, hw, h3, h4⟩ | ⟨sv, j, iv, s, h1, h2, h3⟩
  · exact .inl ⟨sv, j, h1, h2, hw, h3.bind (Ev.ret _), h4.bind (Ev.ret _)⟩
  · exact .inr ⟨sv, j, iv, s, h1, h2.bind (Ev.ret _), h3.bind (Ev.ret _)⟩
theorem ceq_no {c x : UInt8} (h : c ≠ x) : ((c.toNat : Int) == (x.toNat : Int)) = false := by
  rw [Bool.eq_false_iff]
  intro e
  have : (c.toNat : Int) = (x.toNat : Int) := by simpa using e
  exact h (UInt8.toNat_inj.1 (by omega))
/-! The number of a node or an edge -/
def tok (l : List UInt8) : Bool := nok l && decide (1 ≤ num l) && decide (num l ≤ 1000000000000)
theorem tok_head {l : List UInt8} (h : tok l = true) : ∃ c r, l = c :: r ∧ isD c = true := by
  unfold tok at h
  simp only [Bool.and_eq_true, decide_eq_true_eq] at h
  obtain ⟨⟨h1, h2⟩, h3⟩ := h
  have h' : Lib.itoa (num l) = l.take (nlen l) := by simpa [nok] using h1
  rw [itoa_nn (by omega)] at h'
  cases hd : Lib.decDigits (num l).toNat with
  | nil => exact absurd hd (dec_ne _)
  | cons c r =>
    rw [hd] at h'
    cases l with
    | nil => simp at h'
    | cons c' r' =>
      have hp := (nok_pos h1).1
      obtain ⟨m, hm⟩ : ∃ m, nlen (c' :: r') = m + 1 := ⟨nlen (c' :: r') - 1, by omega⟩
      rw [hm, List.take_succ_cons, List.cons.injEq] at h'
      exact ⟨c', r', rfl, h'.1 ▸ dec_head hd⟩
theorem thing_s (kind : Int) (hi : i ≤ t.size) (ht : t.size ≤ 2000000) : Ev (fun k => spec_l01Reader_thing.f k kind ⟨t, (i : Int), false⟩) (⟨kind, num (rest t i), 0, ⟨#[]⟩, [], []⟩, ⟨t, ((i + nlen (rest t i) : Nat) : Int), !tok (rest t i)⟩) := by
  have h := number_ (b := false) hi ht
  unfold spec_l01Reader_thing.f
  refine Ev.bind h ?_
  unfold tok
  by_cases h1 : num (rest t i) < 1
  · simp only [decide_eq_true h1, cond_true, decide_eq_false (by omega : ¬ 1 ≤ num (rest t i)), Bool.and_false, Bool.false_and, Bool.not_false]
    exact Ev.ret _
  · by_cases h2 : 1000000000000 < num (rest t i)
    · simp only [decide_eq_false h1, decide_eq_true h2, cond_true, cond_false, decide_eq_false (by omega : ¬ num (rest t i) ≤ 1000000000000), Bool.and_false, Bool.not_false]
      exact Ev.ret _
    · simp only [decide_eq_false h1, decide_eq_false h2, cond_false, decide_eq_true (by omega : num (rest t i) ≤ 1000000000000), decide_eq_true (by omega : 1 ≤ num (rest t i)), Bool.and_true, Bool.false_or]
      exact Ev.ret _
theorem id_ (hi : i ≤ t.size) (ht : t.size ≤ 2000000) : ∃ x s, (tok (rest t i) = true → x = num (rest t i) ∧ s = ⟨t, ((i + nlen (rest t i) : Nat) : Int)⟩) ∧ Ev (fun k => impl_reader_id.f k ⟨t, (i : Int)⟩) (x, tok (rest t i), s) := by
  have hw := whole_ hi ht
  cases hr : rest t i with
  | nil =>
    refine ⟨0, ⟨t, (i : Int)⟩, fun h => ?_, Ev.now fun k => ?_⟩
    · obtain ⟨c, r, h, _⟩ := tok_head h; cases h
    · have e : tok [] = false := by
        cases h : tok [] with
        | false => rfl
        | true => obtain ⟨c, r, h, _⟩ := tok_head h; cases h
      simp only [impl_reader_id.f, peek_nil _ hr, Option.bind_some, e]
      rfl
  | cons c r =>
    rw [hr] at hw
    cases hd : isD c with
    | false =>
      have e : tok (c :: r) = false := by
        cases h : tok (c :: r) with
        | false => rfl
        | true =>
          obtain ⟨c', r', h, h'⟩ := tok_head h
          cases h; rw [hd] at h'; cases h'
      refine ⟨0, ⟨t, (i : Int)⟩, (fun h => by rw [e] at h; cases h), Ev.now fun k => ?_⟩
      simp only [impl_reader_id.f, peek_cons _ hr, Option.bind_some, isDigit_, hd, cond_false, e]
    | true =>
      cases hk : nok (c :: r) with
      | false =>
        have e : tok (c :: r) = false := by unfold tok; rw [hk]; rfl
        rw [hk] at hw
        refine ⟨0, ⟨t, ((i + nlen (c :: r) : Nat) : Int)⟩, (fun h => by rw [e] at h; cases h), ?_⟩
        unfold impl_reader_id.f
        simp only [peek_cons _ hr, Option.bind_some, isDigit_, hd, cond_true, e]
        exact Ev.bind hw (Ev.ret _)
      | true =>
        rw [hk] at hw
        refine ⟨num (c :: r), ⟨t, ((i + nlen (c :: r) : Nat) : Int)⟩, fun _ => ⟨rfl, rfl⟩, ?_⟩
        unfold impl_reader_id.f
        simp only [peek_cons _ hr, Option.bind_some, isDigit_, hd, cond_true]
        refine Ev.bind hw ?_
        unfold tok
        simp only [if_true, cond_true, hk, Bool.true_and]
        by_cases h1 : 1 ≤ num (c :: r)
        · simp only [decide_eq_true h1, cond_true, Bool.true_and]; exact Ev.ret _
        · simp only [decide_eq_false h1, cond_false, Bool.false_and]; exact Ev.ret _
theorem thing_i {kind : Int} (hk : (c = 110 ∧ kind = 8) ∨ (c = 101 ∧ kind = 9)) (h : rest t i = c :: r) (ht : t.size ≤ 2000000) : ∃ x s, (tok r = true → x = num r ∧ s = ⟨t, ((i + 1 + nlen r : Nat) : Int)⟩) ∧ Ev (fun k => impl_reader_thing.f k ⟨t, (i : Int)⟩) (⟨kind, x, 0, ⟨#[]⟩, [], []⟩, tok r, s) := by
  have hl := rest_lt h
  have hn := rest_next h
  obtain ⟨x, s, h1, h2⟩ := id_ (t := t) (i := i + 1) (by omega) ht
  rw [hn] at h1 h2
  refine ⟨x, s, h1, Ev.step ?_⟩
  simp only [impl_reader_thing.f, peek_cons _ h, Option.bind_some]
  rcases hk with ⟨rfl, rfl⟩ | ⟨rfl, rfl⟩
  · simp only [show (((110 : UInt8).toNat : Int) == 101) = false from rfl, show (((110 : UInt8).toNat : Int) == 110) = true from rfl, cond_true, cond_false]
    refine Ev.step ?_
    simp only [impl_reader_thing.j0, w1 (i := i) (by omega)]
    exact Ev.bind h2 (Ev.ret _)
  · simp only [show (((101 : UInt8).toNat : Int) == 101) = true from rfl, cond_true]
    refine Ev.step ?_
    simp only [impl_reader_thing.j0, w1 (i := i) (by omega)]
    exact Ev.bind h2 (Ev.ret _)
theorem thing_no (h : ∀ c r, rest t i = c :: r → c ≠ 110 ∧ c ≠ 101) : Ev (fun k => impl_reader_thing.f k ⟨t, (i : Int)⟩) (⟨0, 0, 0, ⟨#[]⟩, [], []⟩, false, ⟨t, (i : Int)⟩) := by
  refine Ev.step ?_
  simp only [impl_reader_thing.f]
  cases hr : rest t i with
  | nil => simp only [peek_nil _ hr, Option.bind_some, show ((0 : Int) == 101) = false from rfl, show ((0 : Int) == 110) = false from rfl, cond_false]; exact Ev.ret _
  | cons c r =>
    obtain ⟨h1, h2⟩ := h c r hr
    have e1 : ((c.toNat : Int) == 110) = false := ceq_no (x := 110) h1
    have e2 : ((c.toNat : Int) == 101) = false := ceq_no (x := 101) h2
    simp only [peek_cons _ hr, Option.bind_some, e1, e2, cond_false]; exact Ev.ret _
/-- A node or an edge, behind its letter and with it. -/
theorem thing_ {kind : Int} (hk : (c = 110 ∧ kind = 8) ∨ (c = 101 ∧ kind = 9)) (h : rest t i = c :: r) (ht : t.size ≤ 2000000) :
    (∃ sv j, i + 1 < j ∧ j ≤ t.size ∧ (sv.f0 = kind ∧ Wf sv) ∧ Ev (fun k => spec_l01Reader_thing.f k kind ⟨t, ((i + 1 : Nat) : Int), false⟩) (sv, ⟨t, (j : Int), false⟩) ∧ Ev (fun k => impl_reader_thing.f k ⟨t, (i : Int)⟩) (toI sv, true, ⟨t, (j : Int)⟩)) ∨
    (∃ sv j iv s, j ≤ t.size ∧ Ev (fun k => spec_l01Reader_thing.f k kind ⟨t, ((i + 1 : Nat) : Int), false⟩) (sv, ⟨t, ((j : Nat) : Int), true⟩) ∧ Ev (fun k => impl_reader_thing.f k ⟨t, (i : Int)⟩) (iv, false, s)) := by
  have hl := rest_lt h
  have hn := rest_next h
  have h1 := thing_s (t := t) (i := i + 1) kind (by omega) ht
  obtain ⟨x, s, h2, h3⟩ := thing_i hk h ht
  have hle := nlen_le r
  have hlen : r.length = t.size - (i + 1) := by rw [← hn, rest_len]
  rw [hn] at h1
  cases htk : tok r with
  | true =>
    obtain ⟨rfl, rfl⟩ := h2 htk
    rw [htk] at h1 h3
    have hp : 0 < nlen r := by
      unfold tok at htk; simp only [Bool.and_eq_true] at htk; exact (nok_pos htk.1.1).1
    exact .inl ⟨_, _, by omega, by omega, ⟨rfl, wf_num (by omega) (by omega) (num_rng r)⟩, h1, by rw [toI_flat]; exact h3⟩
  | false =>
    rw [htk] at h1 h3
    exact .inr ⟨_, _, _, _, by omega, h1, h3⟩
/-! Points -/
theorem value_j0_bad (hi : i ≤ t.size) (ht : t.size ≤ 2000000) (a : Int × S111) : SBad t (fun k => spec_l01Reader_value.j0 k a t (i : Int) true) := by
  have hle := nlen_le (rest t i)
  rw [rest_len] at hle
  refine SBad.step ?_
  simp only [spec_l01Reader_value.j0]
  refine SBad.bind (number_ (b := true) hi ht) ?_
  simp only [Bool.true_or, cond_true, fail_, Option.bind_some]
  exact SBad.ret _ (by omega)
theorem pre_cons (x c : UInt8) (r : List UInt8) : pre ⟨#[x]⟩ (c :: r) = (x == c) := pre1 x c r
theorem len1 (x : UInt8) : (⟨#[x]⟩ : ByteArray).data.toList.length = 1 := rfl
theorem pre_lt {x : UInt8} (h : pre ⟨#[x]⟩ (rest t i) = true) : i + 1 ≤ t.size := by
  have := pre_len h
  rw [rest_len, show (⟨#[x]⟩ : ByteArray).size = 1 from rfl] at this
  omega
/-- What the reference does behind '('. -/
def specPoint (t : ByteArray) (i : Nat) (k : Nat) : Option (S100 × S111) := ((spec_l01Reader_number.f k ⟨t, (i : Int), false⟩).bind fun v12 => (bif v12.2.f2 then (spec_l01Reader_value.j0 k v12 v12.2.f0 v12.2.f1 true) else ((spec_l01Reader_takes.f k (⟨#[32]⟩ : ByteArray) v12.2).bind fun v13 => (spec_l01Reader_value.j0 k v12 v13.2.f0 v13.2.f1 (!v13.1)))))
theorem point_ (h : rest t i = 40 :: r) (ht : t.size ≤ 2000000) : Res t i (specPoint t (i + 1)) (fun k => impl_reader_point.f k ⟨t, (i : Int)⟩) := by
  have hl := rest_lt h
  have hn := rest_next h
  have hs := number_ (t := t) (i := i + 1) (b := false) (by omega) ht
  have hw := whole_ (t := t) (i := i + 1) (by omega) ht
  have hle := nlen_le (rest t (i + 1))
  rw [rest_len] at hle
  unfold specPoint impl_reader_point.f
  simp only [eat_ (t := t) (i := i) _ _ (by omega) ht, h, pre_cons, show ((40 : UInt8) == 40) = true from rfl, if_true, len1, Option.bind_some, cond_true]
  refine Res.sbind hs (Res.ibind hw ?_)
  generalize hj : i + 1 + nlen (rest t (i + 1)) = j at *
  generalize num (rest t (i + 1)) = a at *
  simp only [Bool.false_or]
  cases hk : nok (rest t (i + 1)) with
  | false =>
    simp only [Bool.not_false, cond_true, eat_ (t := t) (i := j) _ _ (by omega) ht, Option.bind_some, cond_false, bif_same]
    exact Res.bad (value_j0_bad (by omega) ht _) (IBad.ret _ _)
  | true =>
    simp only [Bool.not_true, cond_false, cond_true, if_true, eat_ (t := t) (i := j) _ _ (by omega) ht, takes_ (t := t) (i := j) _ _ (by omega) ht, Option.bind_some, len1]
    cases hp : pre ⟨#[32]⟩ (rest t j) with
    | false =>
      simp only [Bool.false_eq_true, if_false, Bool.not_false, cond_false]
      exact Res.bad (value_j0_bad (by omega) ht _) (IBad.ret _ _)
    | true =>
      have hj1 := pre_lt hp
      have hs2 := number_ (t := t) (i := j + 1) (b := false) (by omega) ht
      have hw2 := whole_ (t := t) (i := j + 1) (by omega) ht
      have hle2 := nlen_le (rest t (j + 1))
      rw [rest_len] at hle2
      simp only [if_true, Bool.not_true, cond_true]
      refine Res.sstep ?_
      simp only [spec_l01Reader_value.j0]
      refine Res.sbind hs2 (Res.ibind hw2 ?_)
      generalize hj' : j + 1 + nlen (rest t (j + 1)) = j' at *
      generalize num (rest t (j + 1)) = b at *
      simp only [Bool.false_or]
      cases hk2 : nok (rest t (j + 1)) with
      | false =>
        simp only [Bool.not_false, cond_true, cond_false, fail_, Option.bind_some]
        exact Res.none _ _ _ (by omega)
      | true =>
        simp only [Bool.not_true, cond_false, cond_true, if_true, eat_ (t := t) (i := j') _ _ (by omega) ht, takes_ (t := t) (i := j') _ _ (by omega) ht, Option.bind_some, len1, fail_]
        cases hp2 : pre ⟨#[41]⟩ (rest t j') with
        | false =>
          simp only [Bool.false_eq_true, if_false, cond_false]
          exact Res.none _ _ _ (by omega)
        | true =>
          have hj2 := pre_lt hp2
          simp only [if_true, cond_true]
          by_cases g1 : a < -1000000
          · simp only [decide_eq_true g1, cond_true]; exact Res.none _ _ _ (by omega)
          by_cases g2 : 1000000 < a
          · simp only [decide_eq_false g1, decide_eq_true g2, cond_true, cond_false]; exact Res.none _ _ _ (by omega)
          by_cases g3 : b < -1000000
          · simp only [decide_eq_false g1, decide_eq_false g2, decide_eq_true g3, cond_true, cond_false]; exact Res.none _ _ _ (by omega)
          by_cases g4 : 1000000 < b
          · simp only [decide_eq_false g1, decide_eq_false g2, decide_eq_false g3, decide_eq_true g4, cond_true, cond_false]; exact Res.none _ _ _ (by omega)
          simp only [decide_eq_false g1, decide_eq_false g2, decide_eq_false g3, decide_eq_false g4, cond_false]
          exact Res.ret _ _ (by omega) (by omega) (toI_flat _ _ _ _).symm (wf_flat (by omega) (fun h => by omega) (by omega) (by omega))
/-! Paths -/
def want (n : Nat) : Int := if n % 2 = 1 then 9 else 8
theorem path_l0 (ht : t.size ≤ 2000000) : ∀ (n p : Nat) (items : List S100), t.size - p ≤ n → p ≤ t.size → items.length ≤ p → i < p → (∀ x ∈ items, Wf x) →
    Res t i (fun k => spec_l01Reader_path.l0 k t (p : Int) false items) (fun k => impl_reader_path.l0 k (want items.length) t (p : Int) (items.map toI)) := by
  intro n
  induction n using Nat.strongRecOn with
  | _ n ih =>
    intro p items hn hp hi hip hwf
    refine Res.step ?_
    simp only [spec_l01Reader_path.l0, impl_reader_path.l0, cond_false, rem_ _ 2 (by decide), Option.bind_some]
    have hm : (((items.length : Nat) : Int).tmod 2 == 1) = decide (items.length % 2 = 1) := by
      rw [Int.tmod_eq_emod_of_nonneg (by omega), Bool.eq_iff_iff]; simp; omega
    rw [hm]
    -- the letter that is wanted, and its kind
    have main : ∀ (w : UInt8) (kind : Int), ((w = 110 ∧ kind = 8) ∨ (w = 101 ∧ kind = 9)) → want items.length = kind → want (items.length + 1) = 17 - kind → Res t i (fun k => spec_l01Reader_path.j0 k ⟨#[w]⟩ kind t (p : Int) items) (fun k => ((impl_reader_thing.f k (⟨t, (p : Int)⟩ : S115)).bind fun v8 => (bif v8.2.1 then (bif (v8.1.f0 == want items.length) then ((app (items.map toI) ([v8.1] : List S105)).bind fun v9 => (bif (want items.length == 8) then ((impl_reader_eat.f k (⟨#[62]⟩ : ByteArray) v8.2.2).bind fun v10 => (bif v10.1 then (some ((⟨10, 0, 0, (⟨#[]⟩ : ByteArray), ([] : (List ByteArray)), v9⟩ : S105), true, v10.2)) else ((impl_reader_eat.f k (⟨#[32]⟩ : ByteArray) v10.2).bind fun v11 => (bif v11.1 then (impl_reader_path.l0 k (IntKind.i64.wrap (17 - want items.length)) v11.2.f0 v11.2.f1 v9) else (some ((⟨10, 0, 0, (⟨#[]⟩ : ByteArray), ([] : (List ByteArray)), v9⟩ : S105), false, v11.2)))))) else ((impl_reader_eat.f k (⟨#[32]⟩ : ByteArray) v8.2.2).bind fun v12 => (bif v12.1 then (impl_reader_path.l0 k (IntKind.i64.wrap (17 - want items.length)) v12.2.f0 v12.2.f1 v9) else (some ((⟨10, 0, 0, (⟨#[]⟩ : ByteArray), ([] : (List ByteArray)), v9⟩ : S105), false, v12.2)))))) else (some ((⟨10, 0, 0, (⟨#[]⟩ : ByteArray), ([] : (List ByteArray)), items.map toI⟩ : S105), false, v8.2.2))) else (some ((⟨10, 0, 0, (⟨#[]⟩ : ByteArray), ([] : (List ByteArray)), items.map toI⟩ : S105), false, v8.2.2))))) := by
      intro w kind hk hw hw'
      rw [hw]
      refine Res.sstep ?_
      simp only [spec_l01Reader_path.j0, takes_ (t := t) (i := p) _ _ hp ht, Option.bind_some, len1]
      cases hpre : pre ⟨#[w]⟩ (rest t p) with
      | false =>
        simp only [Bool.false_eq_true, if_false, cond_false, fail_, Option.bind_some]
        -- the program reads something else, or nothing
        refine Res.bad (SBad.ret _ hp) ?_
        by_cases hoth : ∃ c r, rest t p = c :: r ∧ (c = 110 ∨ c = 101)
        · obtain ⟨c, r, hr, hc⟩ := hoth
          have hne : c ≠ w := by
            intro e; subst e; rw [hr, pre_cons] at hpre; simp at hpre
          obtain ⟨k2, hk2, hkk⟩ : ∃ k2 : Int, ((c = 110 ∧ k2 = 8) ∨ (c = 101 ∧ k2 = 9)) ∧ k2 ≠ kind := by
            rcases hc with rfl | rfl
            · rcases hk with ⟨rfl, rfl⟩ | ⟨rfl, rfl⟩
              · exact absurd rfl hne
              · exact ⟨8, .inl ⟨rfl, rfl⟩, by decide⟩
            · rcases hk with ⟨rfl, rfl⟩ | ⟨rfl, rfl⟩
              · exact ⟨9, .inr ⟨rfl, rfl⟩, by decide⟩
              · exact absurd rfl hne
          obtain ⟨x, s, _, h3⟩ := thing_i hk2 hr ht
          refine IBad.bind h3 ?_
          cases tok r with
          | false => simp only [cond_false]; exact IBad.ret _ _
          | true =>
            simp only [cond_true, show (k2 == kind) = false by simpa using hkk, cond_false]
            exact IBad.ret _ _
        · refine IBad.bind (thing_no (fun c r hr => ⟨fun e => hoth ⟨c, r, hr, .inl e⟩, fun e => hoth ⟨c, r, hr, .inr e⟩⟩)) ?_
          simp only [cond_false]
          exact IBad.ret _ _
      | true =>
        have hp1 := pre_lt hpre
        obtain ⟨r, hr⟩ : ∃ r, rest t p = w :: r := by
          cases hr : rest t p with
          | nil => rw [hr, pre0] at hpre; cases hpre
          | cons c r => rw [hr, pre_cons] at hpre; exact ⟨r, by rw [← (by simpa using hpre : w = c)]⟩
        simp only [if_true, cond_true]
        have happ : ∀ sv : S100, app items [sv] = some (items ++ [sv]) := fun sv => app_one _ (by omega)
        have happi : ∀ sv : S105, app (items.map toI) [sv] = some (items.map toI ++ [sv]) := fun sv => app_one _ (by rw [List.length_map]; omega)
        rcases thing_ hk hr ht with ⟨sv, j, h1, h2, h3, h4, h5⟩ | ⟨sv, j, iv, s, h1, h2, h3⟩
        · refine Res.sbind h4 (Res.ibind h5 ?_)
          have hwf2 : ∀ x ∈ items ++ [sv], Wf x := fun x hx => (List.mem_append.1 hx).elim (hwf x) (fun h => List.mem_singleton.1 h ▸ h3.2)
          have ek : (toI sv).f0 = kind := by rw [toI_eq]; exact h3.1
          simp only [happ, happi, Option.bind_some, cond_true, ek, beq_self_eq_true, eat_ (t := t) (i := j) _ _ h2 ht, takes_ (t := t) (i := j) _ _ h2 ht, len1]
          have emap : items.map toI ++ [toI sv] = (items ++ [sv]).map toI := by simp
          have go : pre ⟨#[32]⟩ (rest t j) = true → Res t i (fun k => spec_l01Reader_path.l0 k t ((j + 1 : Nat) : Int) false (items ++ [sv])) (fun k => impl_reader_path.l0 k (IntKind.i64.wrap (17 - kind)) t ((j + 1 : Nat) : Int) (items.map toI ++ [toI sv])) := by
            intro hq
            have hj1 := pre_lt hq
            have := ih (t.size - (j + 1)) (by omega) (j + 1) (items ++ [sv]) (Nat.le_refl _) (by omega) (by simp; omega) (by omega) hwf2
            rw [List.length_append, List.length_singleton, hw'] at this
            rw [emap, show IntKind.i64.wrap (17 - kind) = 17 - kind by rcases hk with ⟨_, rfl⟩ | ⟨_, rfl⟩ <;> rfl]
            exact this
          have space : Res t i (fun k => (bif pre ⟨#[32]⟩ (rest t j) then spec_l01Reader_path.l0 k t (((if pre ⟨#[32]⟩ (rest t j) = true then j + 1 else j : Nat)) : Int) false (items ++ [sv]) else some (({ f0 := -1, f1 := 0, f2 := 0, f3 := ⟨#[]⟩, f4 := [], f5 := [] } : S100), ({ f0 := t, f1 := (((if pre ⟨#[32]⟩ (rest t j) = true then j + 1 else j : Nat)) : Int), f2 := true } : S111))))
              (fun k => (bif pre ⟨#[32]⟩ (rest t j) then impl_reader_path.l0 k (IntKind.i64.wrap (17 - kind)) t (((if pre ⟨#[32]⟩ (rest t j) = true then j + 1 else j : Nat)) : Int) (items.map toI ++ [toI sv]) else some (({ f0 := 10, f1 := 0, f2 := 0, f3 := ⟨#[]⟩, f4 := [], f5 := items.map toI ++ [toI sv] } : S105), false, ({ f0 := t, f1 := (((if pre ⟨#[32]⟩ (rest t j) = true then j + 1 else j : Nat)) : Int) } : S115)))) := by
            cases hq : pre ⟨#[32]⟩ (rest t j) with
            | true => simp only [cond_true, if_true]; exact go hq
            | false => simp only [Bool.false_eq_true, if_false, cond_false]; exact Res.none _ _ _ h2
          cases hk8 : (kind == 8) with
          | false => simp only [cond_false, fail_, Option.bind_some]; exact space
          | true =>
            simp only [cond_true]
            cases hq : pre ⟨#[62]⟩ (rest t j) with
            | true =>
              have hj1 := pre_lt hq
              simp only [if_true, cond_true]
              exact Res.ret _ _ (by omega) (by omega) (by rw [toI_items, emap]) (wf_items (by simp) (by simp; omega) rfl hwf2)
            | false =>
              simp only [Bool.false_eq_true, if_false, cond_false, fail_, eat_ (t := t) (i := j) _ _ h2 ht, takes_ (t := t) (i := j) _ _ h2 ht, len1, Option.bind_some]
              exact space
        · refine Res.sbind h2 (Res.ibind h3 ?_)
          simp only [happ, Option.bind_some, cond_false, takes_bad, fail_, bif_same]
          exact Res.none _ _ _ h1
    by_cases hodd : items.length % 2 = 1
    · simp only [decide_eq_true hodd, cond_true]
      exact main 101 9 (.inr ⟨rfl, rfl⟩) (by unfold want; rw [if_pos hodd]) (by unfold want; rw [if_neg (by omega)]; rfl)
    · simp only [decide_eq_false hodd, cond_false]
      exact main 110 8 (.inl ⟨rfl, rfl⟩) (by unfold want; rw [if_neg hodd]) (by unfold want; rw [if_pos (by omega)]; rfl)
theorem path_ (h : rest t i = 60 :: r) (ht : t.size ≤ 2000000) : Res t i (fun k => spec_l01Reader_path.f k ⟨t, ((i + 1 : Nat) : Int), false⟩) (fun k => impl_reader_path.f k ⟨t, (i : Int)⟩) := by
  have hl := rest_lt h
  refine Res.step ?_
  simp only [spec_l01Reader_path.f, impl_reader_path.f, eat_ (t := t) (i := i) _ _ (by omega) ht, h, pre_cons, show ((60 : UInt8) == 60) = true from rfl, if_true, len1, Option.bind_some, cond_true]
  exact path_l0 ht _ (i + 1) [] (Nat.le_refl _) (by omega) (by simp) (by omega) (fun x h => by simp at h)
end
end Go.Ab
namespace Go.Ab
open Go.Proofs
set_option linter.unusedVariables false
set_option linter.unusedSimpArgs false
/-! Rising names -/
def risingB : List ByteArray → Bool
 | a :: b :: r => slt a b && risingB (b :: r)
 | _ => true
theorem ix_drop {α : Type} {l r : List α} {p : Nat} {a : α} (h : l.drop p = a :: r) : ix l (p : Int) = some a := by
  unfold ix
  rw [if_pos (by omega)]
  have := congrArg List.head? h
  simpa using this
theorem rising_l0 {N : List ByteArray} (hN : N.length ≤ 2000000) : ∀ (r : List ByteArray) (a : ByteArray) (p : Nat), N.drop p = a :: r → Ev (fun k => spec_l01Rising.l0 k N ((p + 1 : Nat) : Int)) (risingB (a :: r)) := by
  intro r
  induction r with
  | nil =>
    intro a p h
    have hl := congrArg List.length h
    simp at hl
    refine Ev.step ?_
    simp only [spec_l01Rising.l0, show decide (((p + 1 : Nat) : Int) < (N.length : Int)) = false by simp; omega, cond_false]
    exact Ev.ret _
  | cons b r ih =>
    intro a p h
    have hl := congrArg List.length h
    simp at hl
    have hn : N.drop (p + 1) = b :: r := by rw [← List.drop_drop, h]; rfl
    refine Ev.step ?_
    have e : IntKind.i64.wrap (((p + 1 : Nat) : Int) - 1) = (p : Int) := by rw [w64 (by omega) (by omega)]; omega
    simp only [spec_l01Rising.l0, show decide (((p + 1 : Nat) : Int) < (N.length : Int)) = true by simp; omega, cond_true, e, ix_drop h, ix_drop hn, Option.bind_some, w1 (i := p + 1) (by omega), risingB]
    cases hs : slt a b with
    | true => simp only [cond_true, Bool.true_and]; exact ih b (p + 1) hn
    | false => simp only [cond_false, Bool.false_and]; exact Ev.ret _
theorem rising_ {N : List ByteArray} (hN : N.length ≤ 2000000) : Ev (fun k => spec_l01Rising.f k N) (risingB N) := by
  refine Ev.step ?_
  simp only [spec_l01Rising.f]
  cases hr : N with
  | nil =>
    refine Ev.step ?_
    simp only [spec_l01Rising.l0, show decide ((1 : Int) < (([] : List ByteArray).length : Int)) = false from rfl, cond_false]
    exact Ev.ret _
  | cons a r => rw [← hr]; have := rising_l0 hN r a 0 (by rw [hr]; rfl); rw [← hr] at this; exact this
theorem rising_app (s : ByteArray) : ∀ (N : List ByteArray) (x : ByteArray), N.getLast? = some x → risingB (N ++ [s]) = (risingB N && slt x s)
 | [], x, h => by simp at h
 | [a], x, h => by simp at h; subst h; simp [risingB]
 | a :: b :: r, x, h => by
   have := rising_app s (b :: r) x (by simpa using h)
   simp only [List.cons_append, risingB] at this ⊢
   rw [this, Bool.and_assoc]
theorem rising_no {N : List ByteArray} (s : ByteArray) (h : risingB N = false) : risingB (N ++ [s]) = false := by
  cases hl : N.getLast? with
  | none => rw [List.getLast?_eq_none_iff] at hl; subst hl; simp [risingB] at h
  | some x => rw [rising_app s N x hl, h]; rfl
section
variable {t : ByteArray} {i : Nat} {c : UInt8} {r : List UInt8}
theorem Res.ipass {sp : Nat → Option (S100 × S111)} {im : Nat → Option (S105 × Bool × S115)} (h : Res t i sp im) : Res t i sp (fun k => (im k).bind fun v => some (v.1, v.2.1, v.2.2)) := by
  rcases h with ⟨sv, j, h1, h2, hw, h3, h4⟩ | ⟨sv, j, iv, s, h1, h2, h3⟩
  · exact .inl ⟨sv, j, h1, h2, hw, h3, h4.bind (Ev.ret _)⟩
  · exact .inr ⟨sv, j, iv, s, h1, h2, h3.bind (Ev.ret _)⟩
/-- Values of depth d at i. -/
def ValAt (t : ByteArray) (d i : Nat) : Prop := Res t i (fun k => spec_l01Reader_value.f k (d : Int) ⟨t, (i : Int), false⟩) (fun k => impl_reader_value.f k (d : Int) ⟨t, (i : Int)⟩)
theorem list_l0 (ht : t.size ≤ 2000000) {d : Nat} (hd : d < 5) (ihv : ∀ p, i < p → p ≤ t.size → ValAt t (d + 1) p) : ∀ (n p : Nat) (items : List S100), t.size - p ≤ n → p ≤ t.size → items.length ≤ p → i < p → (∀ x ∈ items, Wf x) →
    Res t i (fun k => spec_l01Reader_list.l0 k (d : Int) t (p : Int) false items) (fun k => impl_reader_list.l0 k (d : Int) t (p : Int) (items.map toI)) := by
  intro n
  induction n using Nat.strongRecOn with
  | _ n ih =>
    intro p items hn hp hi hip hwf
    refine Res.step ?_
    simp only [spec_l01Reader_list.l0, impl_reader_list.l0, cond_false, w1 (i := d) (by omega)]
    have happ : ∀ sv : S100, app items [sv] = some (items ++ [sv]) := fun sv => app_one _ (by omega)
    have happi : ∀ sv : S105, app (items.map toI) [sv] = some (items.map toI ++ [sv]) := fun sv => app_one _ (by rw [List.length_map]; omega)
    rcases ihv p hip hp with ⟨sv, j, h1, h2, hw, h3, h4⟩ | ⟨sv, j, iv, s, h1, h2, h3⟩
    · refine Res.sbind h3 (Res.ibind h4 ?_)
      have emap : items.map toI ++ [toI sv] = (items ++ [sv]).map toI := by simp
      have hwf2 : ∀ x ∈ items ++ [sv], Wf x := fun x hx => (List.mem_append.1 hx).elim (hwf x) (fun h => List.mem_singleton.1 h ▸ hw)
      simp only [happ, happi, Option.bind_some, cond_true, eat_ (t := t) (i := j) _ _ h2 ht, takes_ (t := t) (i := j) _ _ h2 ht, len1]
      cases hq : pre ⟨#[93]⟩ (rest t j) with
      | true =>
        have hj1 := pre_lt hq
        simp only [if_true, cond_true]
        exact Res.ret _ _ (by omega) (by omega) (by rw [toI_items, emap]) (wf_items (by simp) (by simp; omega) rfl hwf2)
      | false =>
        simp only [Bool.false_eq_true, if_false, cond_false, fail_, eat_ (t := t) (i := j) _ _ h2 ht, takes_ (t := t) (i := j) _ _ h2 ht, len1, Option.bind_some]
        cases hq2 : pre ⟨#[44]⟩ (rest t j) with
        | true =>
          have hj1 := pre_lt hq2
          simp only [if_true, cond_true]
          rw [emap]
          exact ih (t.size - (j + 1)) (by omega) (j + 1) (items ++ [sv]) (Nat.le_refl _) (by omega) (by simp; omega) (by omega) hwf2
        | false =>
          simp only [Bool.false_eq_true, if_false, cond_false]
          exact Res.none _ _ _ h2
    · refine Res.sbind h2 (Res.ibind h3 ?_)
      simp only [happ, Option.bind_some, cond_false, takes_bad, fail_]
      exact Res.none _ _ _ h1
theorem list_ (h : rest t i = 91 :: r) (ht : t.size ≤ 2000000) {d : Nat} (hd : d < 5) (ihv : ∀ p, i < p → p ≤ t.size → ValAt t (d + 1) p) : Res t i (fun k => spec_l01Reader_list.f k (d : Int) ⟨t, ((i + 1 : Nat) : Int), false⟩) (fun k => impl_reader_list.f k (d : Int) ⟨t, (i : Int)⟩) := by
  have hl := rest_lt h
  refine Res.step ?_
  simp only [spec_l01Reader_list.f, impl_reader_list.f, eat_ (t := t) (i := i) _ _ (by omega) ht, h, pre_cons, show ((91 : UInt8) == 91) = true from rfl, if_true, len1, List.length_cons, List.length_nil, Nat.zero_add, Option.bind_some, cond_true, show ((d : Int) == 5) = false by simp; omega, cond_false, eat_ (t := t) (i := i + 1) _ _ (by omega) ht, takes_ (t := t) (i := i + 1) _ _ (by omega) ht]
  cases hq : pre ⟨#[93]⟩ (rest t (i + 1)) with
  | true =>
    have hj1 := pre_lt hq
    simp only [if_true, cond_true]
    exact Res.ret _ _ (by omega) (by omega) (toI_flat _ _ _ _).symm (wf_text (by omega))
  | false =>
    simp only [Bool.false_eq_true, if_false, cond_false]
    exact list_l0 ht hd ihv _ (i + 1) [] (Nat.le_refl _) (by omega) (by simp) (by omega) (fun x h => by simp at h)
/-- Names that do not rise: the reference tells none in the end. -/
theorem fields_bad (ht : t.size ≤ 2000000) {d : Nat} (hd : d < 5) (ihv : ∀ p, i < p → p ≤ t.size → ValAt t (d + 1) p) : ∀ (n p : Nat) (items : List S100) (names : List ByteArray), t.size - p ≤ n → p ≤ t.size → items.length ≤ p → names.length ≤ p → i < p → risingB names = false →
    SBad t (fun k => spec_l01Reader_fields.l0 k (d : Int) t (p : Int) false items names) := by
  intro n
  induction n using Nat.strongRecOn with
  | _ n ih =>
    intro p items names hn hp hi hnm hip hris
    refine SBad.step ?_
    simp only [spec_l01Reader_fields.l0, cond_false, w1 (i := d) (by omega)]
    have hle := nm_le (rest t p)
    rw [rest_len] at hle
    refine SBad.bind (sname_ (b := false) hp ht) ?_
    simp only [app_one (l := names) _ (by omega), Option.bind_some, Bool.false_or]
    generalize hj : p + (nm (rest t p)).length = j at *
    have hr2 := rising_no (bs (nm (rest t p))) hris
    cases hk : nameOk (nm (rest t p)) with
    | false =>
      simp only [Bool.not_false, takes_bad, Option.bind_some, cond_false, fail_]
      exact SBad.ret _ (by omega)
    | true =>
      simp only [Bool.not_true, takes_ (t := t) (i := j) _ _ (by omega) ht, Option.bind_some, len1, fail_]
      cases hq : pre ⟨#[58]⟩ (rest t j) with
      | false =>
        simp only [Bool.false_eq_true, if_false, cond_false]
        exact SBad.ret _ (by omega)
      | true =>
        have hj1 := pre_lt hq
        simp only [if_true, cond_true]
        rcases ihv (j + 1) (by omega) hj1 with ⟨sv, j', h1, h2, hw, h3, h4⟩ | ⟨sv, j', iv, s, h1, h2, h3⟩
        · refine SBad.bind h3 ?_
          simp only [app_one (l := items) _ (by omega), Option.bind_some, takes_ (t := t) (i := j') _ _ h2 ht, len1]
          cases hq1 : pre ⟨#[125]⟩ (rest t j') with
          | true =>
            have hj2 := pre_lt hq1
            simp only [if_true, cond_true]
            refine SBad.bind (rising_ (by simp; omega)) ?_
            rw [hr2]
            simp only [cond_false]
            exact SBad.ret _ (by omega)
          | false =>
            simp only [Bool.false_eq_true, if_false, cond_false, takes_ (t := t) (i := j') _ _ h2 ht, len1, Option.bind_some]
            cases hq2 : pre ⟨#[44]⟩ (rest t j') with
            | true =>
              have hj2 := pre_lt hq2
              simp only [if_true, cond_true]
              exact ih (t.size - (j' + 1)) (by omega) (j' + 1) _ _ (Nat.le_refl _) (by omega) (by simp; omega) (by simp; omega) (by omega) hr2
            | false =>
              simp only [Bool.false_eq_true, if_false, cond_false]
              exact SBad.ret _ h2
        · refine SBad.bind h2 ?_
          simp only [app_one (l := items) _ (by omega), Option.bind_some, takes_bad, cond_false]
          exact SBad.ret _ h1
theorem fields_l0 (ht : t.size ≤ 2000000) {d : Nat} (hd : d < 5) (ihv : ∀ p, i < p → p ≤ t.size → ValAt t (d + 1) p) : ∀ (n p : Nat) (items : List S100) (names : List ByteArray), t.size - p ≤ n → p ≤ t.size → items.length ≤ p → names.length ≤ p → i < p → risingB names = true → (∀ x ∈ items, Wf x) → names.length = items.length →
    Res t i (fun k => spec_l01Reader_fields.l0 k (d : Int) t (p : Int) false items names) (fun k => impl_reader_fields.l0 k (d : Int) t (p : Int) names (items.map toI)) := by
  intro n
  induction n using Nat.strongRecOn with
  | _ n ih =>
    intro p items names hn hp hi hnm hip hris hwf hnl
    refine Res.step ?_
    simp only [spec_l01Reader_fields.l0, impl_reader_fields.l0, cond_false, w1 (i := d) (by omega)]
    have hle := nm_le (rest t p)
    rw [rest_len] at hle
    refine Res.sbind (sname_ (b := false) hp ht) (Res.ibind (rname_ hp ht) ?_)
    simp only [app_one (l := names) _ (by omega), Option.bind_some, Bool.false_or]
    generalize hj : p + (nm (rest t p)).length = j at *
    cases hk : nameOk (nm (rest t p)) with
    | false =>
      simp only [Bool.not_false, takes_bad, Option.bind_some, cond_false, fail_]
      exact Res.none _ _ _ (by omega)
    | true =>
      generalize hS : bs (nm (rest t p)) = S at *
      simp only [Bool.not_true, cond_true, eat_ (t := t) (i := j) _ _ (by omega) ht, takes_ (t := t) (i := j) _ _ (by omega) ht, Option.bind_some, len1, fail_]
      cases hq : pre ⟨#[58]⟩ (rest t j) with
      | false =>
        simp only [Bool.false_eq_true, if_false, cond_false]
        exact Res.none _ _ _ (by omega)
      | true =>
        have hj1 := pre_lt hq
        simp only [if_true, cond_true]
        have good : risingB (names ++ [S]) = true → ∀ (x : Bool × S115) (y : ByteArray × Bool × S115), x.2 = ⟨t, ((j + 1 : Nat) : Int)⟩ → y.1 = S → Res t i (fun k => ((spec_l01Reader_value.f k ((d + 1 : Nat) : Int) (⟨t, ((j + 1 : Nat) : Int), false⟩ : S111)).bind fun v14 => ((app items ([v14.1] : List S100)).bind fun v15 => ((spec_l01Reader_takes.f k (⟨#[125]⟩ : ByteArray) v14.2).bind fun v16 => (bif v16.1 then ((spec_l01Rising.f k (names ++ [S])).bind fun v17 => (bif v17 then (some ((⟨7, 0, 0, (⟨#[]⟩ : ByteArray), v15, names ++ [S]⟩ : S100), v16.2)) else (some ((⟨-1, 0, 0, ⟨#[]⟩, [], []⟩ : S100), (⟨v16.2.f0, v16.2.f1, true⟩ : S111))))) else ((spec_l01Reader_takes.f k (⟨#[44]⟩ : ByteArray) v16.2).bind fun v19 => (bif v19.1 then (spec_l01Reader_fields.l0 k (d : Int) v19.2.f0 v19.2.f1 v19.2.f2 v15 (names ++ [S])) else (some ((⟨-1, 0, 0, ⟨#[]⟩, [], []⟩ : S100), (⟨v19.2.f0, v19.2.f1, true⟩ : S111)))))))))) (fun k => impl_reader_fields.j0 k (d : Int) y x names (items.map toI)) := by
          intro hr2 x y hx hy
          obtain ⟨x1, x2⟩ := x
          obtain ⟨y1, y2⟩ := y
          simp only at hx hy
          subst hx; subst hy
          refine Res.istep ?_
          simp only [impl_reader_fields.j0, w1 (i := d) (by omega)]
          have happi : ∀ sv : S105, app (items.map toI) [sv] = some (items.map toI ++ [sv]) := fun sv => app_one _ (by rw [List.length_map]; omega)
          rcases ihv (j + 1) (by omega) hj1 with ⟨sv, j', h1, h2, hw, h3, h4⟩ | ⟨sv, j', iv, s, h1, h2, h3⟩
          · refine Res.sbind h3 (Res.ibind h4 ?_)
            have emap : items.map toI ++ [toI sv] = (items ++ [sv]).map toI := by simp
            have hwf2 : ∀ x ∈ items ++ [sv], Wf x := fun x hx => (List.mem_append.1 hx).elim (hwf x) (fun h => List.mem_singleton.1 h ▸ hw)
            have hnl2 : (names ++ [y1]).length = (items ++ [sv]).length := by simp; omega
            simp only [cond_true, app_one (l := items) _ (by omega), app_one (l := names) _ (by omega), happi, Option.bind_some, takes_ (t := t) (i := j') _ _ h2 ht, eat_ (t := t) (i := j') _ _ h2 ht, len1]
            cases hq1 : pre ⟨#[125]⟩ (rest t j') with
            | true =>
              have hj2 := pre_lt hq1
              simp only [if_true, cond_true]
              refine Res.sbind (rising_ (by simp; omega)) ?_
              rw [hr2]
              simp only [cond_true]
              exact Res.ret _ _ (by omega) (by omega) (by rw [toI_items, emap]) (wf_items (by simp) (by simp; omega) hnl2 hwf2)
            | false =>
              simp only [Bool.false_eq_true, if_false, cond_false, takes_ (t := t) (i := j') _ _ h2 ht, eat_ (t := t) (i := j') _ _ h2 ht, len1, Option.bind_some]
              cases hq2 : pre ⟨#[44]⟩ (rest t j') with
              | true =>
                have hj2 := pre_lt hq2
                simp only [if_true, cond_true]
                rw [emap]
                exact ih (t.size - (j' + 1)) (by omega) (j' + 1) _ _ (Nat.le_refl _) (by omega) (by simp; omega) (by simp; omega) (by omega) hr2 hwf2 hnl2
              | false =>
                simp only [Bool.false_eq_true, if_false, cond_false]
                exact Res.none _ _ _ h2
          · refine Res.sbind h2 (Res.ibind h3 ?_)
            simp only [app_one (l := items) _ (by omega), Option.bind_some, takes_bad, cond_false]
            exact Res.none _ _ _ h1
        cases hL : names.getLast? with
        | none =>
          rw [List.getLast?_eq_none_iff] at hL
          subst hL
          simp only [show decide ((0 : Int) < (([] : List ByteArray).length : Int)) = false from rfl, cond_false]
          exact good (by simp [risingB]) _ _ rfl rfl
        | some z =>
          have hlen : 0 < names.length := by
            cases names with
            | nil => simp at hL
            | cons a b => simp
          have hix : ix names (IntKind.i64.wrap ((names.length : Int) - 1)) = some z := by
            rw [w64 (by omega) (by omega), show (names.length : Int) - 1 = ((names.length - 1 : Nat) : Int) by omega]
            unfold ix
            rw [if_pos (by omega), Int.toNat_natCast, ← List.getLast?_eq_getElem?]
            exact hL
          simp only [show decide ((0 : Int) < (names.length : Int)) = true by simp; omega, cond_true, hix, Option.bind_some]
          have hra := rising_app S names z hL
          cases hs : slt z S with
          | true =>
            simp only [cond_true]
            rw [hris, hs] at hra
            exact good hra _ _ rfl rfl
          | false =>
            simp only [cond_false]
            rw [hs, Bool.and_false] at hra
            refine Res.bad ?_ (IBad.ret _ _)
            -- the reference goes on, and tells none
            rcases ihv (j + 1) (by omega) hj1 with ⟨sv, j', h1, h2, hw, h3, h4⟩ | ⟨sv, j', iv, s, h1, h2, h3⟩
            · refine SBad.bind h3 ?_
              simp only [app_one (l := items) _ (by omega), Option.bind_some, takes_ (t := t) (i := j') _ _ h2 ht, len1]
              cases hq1 : pre ⟨#[125]⟩ (rest t j') with
              | true =>
                have hj2 := pre_lt hq1
                simp only [if_true, cond_true]
                refine SBad.bind (rising_ (by simp; omega)) ?_
                rw [hra]
                simp only [cond_false]
                exact SBad.ret _ (by omega)
              | false =>
                simp only [Bool.false_eq_true, if_false, cond_false, takes_ (t := t) (i := j') _ _ h2 ht, len1, Option.bind_some]
                cases hq2 : pre ⟨#[44]⟩ (rest t j') with
                | true =>
                  have hj2 := pre_lt hq2
                  simp only [if_true, cond_true]
                  exact fields_bad (i := i) ht hd ihv _ (j' + 1) _ _ (Nat.le_refl _) (by omega) (by simp; omega) (by simp; omega) (by omega) hra
                | false =>
                  simp only [Bool.false_eq_true, if_false, cond_false]
                  exact SBad.ret _ h2
            · refine SBad.bind h2 ?_
              simp only [app_one (l := items) _ (by omega), Option.bind_some, takes_bad, cond_false]
              exact SBad.ret _ h1
theorem fields_ (h : rest t i = 123 :: r) (ht : t.size ≤ 2000000) {d : Nat} (hd : d < 5) (ihv : ∀ p, i < p → p ≤ t.size → ValAt t (d + 1) p) : Res t i (fun k => spec_l01Reader_fields.f k (d : Int) ⟨t, ((i + 1 : Nat) : Int), false⟩) (fun k => impl_reader_fields.f k (d : Int) ⟨t, (i : Int)⟩) := by
  have hl := rest_lt h
  refine Res.step ?_
  simp only [spec_l01Reader_fields.f, impl_reader_fields.f, eat_ (t := t) (i := i) _ _ (by omega) ht, h, pre_cons, show ((123 : UInt8) == 123) = true from rfl, if_true, len1, List.length_cons, List.length_nil, Nat.zero_add, Option.bind_some, cond_true, show ((d : Int) == 5) = false by simp; omega, cond_false, eat_ (t := t) (i := i + 1) _ _ (by omega) ht, takes_ (t := t) (i := i + 1) _ _ (by omega) ht]
  cases hq : pre ⟨#[125]⟩ (rest t (i + 1)) with
  | true =>
    have hj1 := pre_lt hq
    simp only [if_true, cond_true]
    exact Res.ret _ _ (by omega) (by omega) (toI_flat _ _ _ _).symm (wf_text (by omega))
  | false =>
    simp only [Bool.false_eq_true, if_false, cond_false]
    exact fields_l0 ht hd ihv _ (i + 1) [] [] (Nat.le_refl _) (by omega) (by simp) (by simp) (by omega) rfl (fun x h => by simp at h) rfl
/-! Values -/
theorem nok_no {l : List UInt8} (h : ∀ c r, l = c :: r → c ≠ 45 ∧ isD c = false) : nok l = false := by
  cases hk : nok l with
  | false => rfl
  | true =>
    have hp := (nok_pos hk).1
    cases l with
    | nil => simp [nlen, dgs, sgn] at hp
    | cons c r =>
      obtain ⟨h1, h2⟩ := h c r rfl
      have hs : sgn (c :: r) = false := by
        unfold sgn; simp; intro e; exact h1 (UInt8.toNat_inj.1 e)
      unfold nlen dgs at hp
      rw [hs] at hp
      simp [h2] at hp
theorem pre_hd {x c : UInt8} (l r : List UInt8) (h : c ≠ x) : pre ⟨(x :: l).toArray⟩ (c :: r) = false := by
  unfold pre
  simp [List.isPrefixOf]
  intro e; exact absurd e.symm h
theorem value_j1 (hi : i ≤ t.size) (ht : t.size ≤ 2000000) (d : Nat) (h : d < 5 → pre ⟨#[123]⟩ (rest t i) = false) : Ev (fun k => spec_l01Reader_value.j1 k (d : Int) t (i : Int) false) (⟨2, num (rest t i), 0, ⟨#[]⟩, [], []⟩, ⟨t, ((i + nlen (rest t i) : Nat) : Int), !nok (rest t i)⟩) := by
  refine Ev.step ?_
  simp only [spec_l01Reader_value.j1]
  by_cases hd : d < 5
  · simp only [show decide ((d : Int) < 5) = true by simp; omega, cond_true, takes_ (t := t) (i := i) _ _ hi ht, h hd, Option.bind_some, Bool.false_eq_true, if_false, cond_false]
    exact Ev.bind (number_ (b := false) hi ht) (Ev.ret _)
  · simp only [show decide ((d : Int) < 5) = false by simp; omega, cond_false]
    exact Ev.bind (number_ (b := false) hi ht) (Ev.ret _)
theorem value_step (ht : t.size ≤ 2000000) (hi : i ≤ t.size) {d : Nat} (hd : d ≤ 5) (ihv : d < 5 → ∀ p, i < p → p ≤ t.size → ValAt t (d + 1) p) : ValAt t d i := by
  unfold ValAt
  refine Res.step ?_
  cases h : rest t i with
  | nil =>
    simp only [spec_l01Reader_value.f, impl_reader_value.f, le_nil h, peek_nil _ h, eat_ (t := t) (i := i) _ _ hi ht, h, show ∀ k, impl_isDigit.f k 0 = some false from fun _ => rfl, show pre (⟨#[110, 117, 108, 108]⟩ : ByteArray) [] = false from rfl, show pre (⟨#[116, 114, 117, 101]⟩ : ByteArray) [] = false from rfl, show pre (⟨#[102, 97, 108, 115, 101]⟩ : ByteArray) [] = false from rfl, show ((0 : Int) == 34) = false from rfl, show ((0 : Int) == 64) = false from rfl, show ((0 : Int) == 45) = false from rfl, show ((0 : Int) == 40) = false from rfl, show ((0 : Int) == 91) = false from rfl, show ((0 : Int) == 123) = false from rfl, show ((0 : Int) == 60) = false from rfl, show ((0 : Int) == 110) = false from rfl, show ((0 : Int) == 101) = false from rfl, fail_, Option.bind_some, cond_true, cond_false, Bool.false_eq_true, if_true, if_false, len1, List.length_cons, List.length_nil, Nat.zero_add, Nat.reduceAdd]
    exact Res.none _ _ _ hi
  | cons c r =>
    have hl := rest_lt h
    have hn := rest_next h
    have hle := nlen_le (c :: r)
    have hlen : (c :: r).length = t.size - i := by rw [← h, rest_len]
    have numbad : (c ≠ 45 ∧ isD c = false) → nok (rest t i) = false := fun hc => nok_no (fun c' r' e => by rw [h] at e; cases e; exact hc)
    have dlt : decide ((d : Int) < 5) = decide (d < 5) := by congr 1; simp; omega
    by_cases hc34 : c = 34
    · subst hc34
      simp only [spec_l01Reader_value.f, impl_reader_value.f, le_cons h, peek_cons _ h, isDigit_, takes_ (t := t) (i := i) _ _ (Nat.le_of_lt hl) ht, eat_ (t := t) (i := i) _ _ (Nat.le_of_lt hl) ht, h, Option.bind_some, cond_true, cond_false, Bool.false_eq_true, if_true, if_false, len1, List.length_cons, List.length_nil, Nat.zero_add, Nat.reduceAdd, show pre (⟨#[110, 117, 108, 108]⟩ : ByteArray) (34 :: r) = false from rfl, show pre (⟨#[116, 114, 117, 101]⟩ : ByteArray) (34 :: r) = false from rfl, show pre (⟨#[102, 97, 108, 115, 101]⟩ : ByteArray) (34 :: r) = false from rfl, show pre (⟨#[34]⟩ : ByteArray) (34 :: r) = true from rfl, show pre (⟨#[64]⟩ : ByteArray) (34 :: r) = false from rfl, show pre (⟨#[40]⟩ : ByteArray) (34 :: r) = false from rfl, show pre (⟨#[110]⟩ : ByteArray) (34 :: r) = false from rfl, show pre (⟨#[101]⟩ : ByteArray) (34 :: r) = false from rfl, show pre (⟨#[60]⟩ : ByteArray) (34 :: r) = false from rfl, show pre (⟨#[91]⟩ : ByteArray) (34 :: r) = false from rfl, show pre (⟨#[123]⟩ : ByteArray) (34 :: r) = false from rfl, show (((34 : UInt8).toNat : Int) == 34) = true from rfl, show (((34 : UInt8).toNat : Int) == 64) = false from rfl, show (((34 : UInt8).toNat : Int) == 45) = false from rfl, show (((34 : UInt8).toNat : Int) == 40) = false from rfl, show (((34 : UInt8).toNat : Int) == 91) = false from rfl, show (((34 : UInt8).toNat : Int) == 123) = false from rfl, show (((34 : UInt8).toNat : Int) == 60) = false from rfl, show (((34 : UInt8).toNat : Int) == 110) = false from rfl, show (((34 : UInt8).toNat : Int) == 101) = false from rfl, show isD 34 = false from rfl]
      rcases quoted_ (t := t) (i := i + 1) (b := false) ht (by omega) with ⟨s, j, h1, h2, h3, h4⟩ | ⟨j, x, s, h1, h2, h3⟩
      · refine Res.sbind h3 (Res.ibind (a := (bs s, true, ⟨t, (j : Int)⟩)) (Ev.step ?_) ?_)
        · simp only [impl_reader_quoted.f, eat_ (t := t) (i := i) _ _ hi ht, h, pre_cons, show ((34 : UInt8) == 34) = true from rfl, if_true, len1, Option.bind_some, cond_true]
          exact h4
        · exact Res.ret _ _ h2 (by omega) (toI_flat _ _ _ _).symm (wf_txt _)
      · refine Res.sbind h2 (Res.ibind (a := (x, false, s)) (Ev.step ?_) ?_)
        · simp only [impl_reader_quoted.f, eat_ (t := t) (i := i) _ _ hi ht, h, pre_cons, show ((34 : UInt8) == 34) = true from rfl, if_true, len1, Option.bind_some, cond_true]
          exact h3
        · exact Res.none _ _ _ h1
    by_cases hc64 : c = 64
    · subst hc64
      simp only [spec_l01Reader_value.f, impl_reader_value.f, le_cons h, peek_cons _ h, isDigit_, takes_ (t := t) (i := i) _ _ (Nat.le_of_lt hl) ht, eat_ (t := t) (i := i) _ _ (Nat.le_of_lt hl) ht, h, Option.bind_some, cond_true, cond_false, Bool.false_eq_true, if_true, if_false, len1, List.length_cons, List.length_nil, Nat.zero_add, Nat.reduceAdd, show pre (⟨#[110, 117, 108, 108]⟩ : ByteArray) (64 :: r) = false from rfl, show pre (⟨#[116, 114, 117, 101]⟩ : ByteArray) (64 :: r) = false from rfl, show pre (⟨#[102, 97, 108, 115, 101]⟩ : ByteArray) (64 :: r) = false from rfl, show pre (⟨#[34]⟩ : ByteArray) (64 :: r) = false from rfl, show pre (⟨#[64]⟩ : ByteArray) (64 :: r) = true from rfl, show pre (⟨#[40]⟩ : ByteArray) (64 :: r) = false from rfl, show pre (⟨#[110]⟩ : ByteArray) (64 :: r) = false from rfl, show pre (⟨#[101]⟩ : ByteArray) (64 :: r) = false from rfl, show pre (⟨#[60]⟩ : ByteArray) (64 :: r) = false from rfl, show pre (⟨#[91]⟩ : ByteArray) (64 :: r) = false from rfl, show pre (⟨#[123]⟩ : ByteArray) (64 :: r) = false from rfl, show (((64 : UInt8).toNat : Int) == 34) = false from rfl, show (((64 : UInt8).toNat : Int) == 64) = true from rfl, show (((64 : UInt8).toNat : Int) == 45) = false from rfl, show (((64 : UInt8).toNat : Int) == 40) = false from rfl, show (((64 : UInt8).toNat : Int) == 91) = false from rfl, show (((64 : UInt8).toNat : Int) == 123) = false from rfl, show (((64 : UInt8).toNat : Int) == 60) = false from rfl, show (((64 : UInt8).toNat : Int) == 110) = false from rfl, show (((64 : UInt8).toNat : Int) == 101) = false from rfl, show isD 64 = false from rfl]
      rcases date_ ht h with ⟨n, h1, hnr, h2, h3⟩ | ⟨⟨sv, j, hj, h2⟩, x, s, h3⟩
      · exact Res.sbind h2 (Res.ibind h3 (Res.ret _ _ h1 (by omega) (toI_flat _ _ _ _).symm (wf_num (by omega) (by omega) hnr)))
      · exact Res.sbind h2 (Res.ibind h3 (Res.none _ _ _ hj))
    by_cases hc40 : c = 40
    · subst hc40
      simp only [spec_l01Reader_value.f, impl_reader_value.f, le_cons h, peek_cons _ h, isDigit_, takes_ (t := t) (i := i) _ _ (Nat.le_of_lt hl) ht, eat_ (t := t) (i := i) _ _ (Nat.le_of_lt hl) ht, h, Option.bind_some, cond_true, cond_false, Bool.false_eq_true, if_true, if_false, len1, List.length_cons, List.length_nil, Nat.zero_add, Nat.reduceAdd, show pre (⟨#[110, 117, 108, 108]⟩ : ByteArray) (40 :: r) = false from rfl, show pre (⟨#[116, 114, 117, 101]⟩ : ByteArray) (40 :: r) = false from rfl, show pre (⟨#[102, 97, 108, 115, 101]⟩ : ByteArray) (40 :: r) = false from rfl, show pre (⟨#[34]⟩ : ByteArray) (40 :: r) = false from rfl, show pre (⟨#[64]⟩ : ByteArray) (40 :: r) = false from rfl, show pre (⟨#[40]⟩ : ByteArray) (40 :: r) = true from rfl, show pre (⟨#[110]⟩ : ByteArray) (40 :: r) = false from rfl, show pre (⟨#[101]⟩ : ByteArray) (40 :: r) = false from rfl, show pre (⟨#[60]⟩ : ByteArray) (40 :: r) = false from rfl, show pre (⟨#[91]⟩ : ByteArray) (40 :: r) = false from rfl, show pre (⟨#[123]⟩ : ByteArray) (40 :: r) = false from rfl, show (((40 : UInt8).toNat : Int) == 34) = false from rfl, show (((40 : UInt8).toNat : Int) == 64) = false from rfl, show (((40 : UInt8).toNat : Int) == 45) = false from rfl, show (((40 : UInt8).toNat : Int) == 40) = true from rfl, show (((40 : UInt8).toNat : Int) == 91) = false from rfl, show (((40 : UInt8).toNat : Int) == 123) = false from rfl, show (((40 : UInt8).toNat : Int) == 60) = false from rfl, show (((40 : UInt8).toNat : Int) == 110) = false from rfl, show (((40 : UInt8).toNat : Int) == 101) = false from rfl, show isD 40 = false from rfl]
      exact (point_ h ht).ipass
    by_cases hc110 : c = 110
    · subst hc110
      cases hw : pre (⟨#[110, 117, 108, 108]⟩ : ByteArray) (110 :: r) with
      | true =>
        have hp := pre_len hw
        rw [hlen, show (⟨#[110, 117, 108, 108]⟩ : ByteArray).size = 4 from rfl] at hp
        simp only [spec_l01Reader_value.f, impl_reader_value.f, le_cons h, peek_cons _ h, isDigit_, takes_ (t := t) (i := i) _ _ (Nat.le_of_lt hl) ht, eat_ (t := t) (i := i) _ _ (Nat.le_of_lt hl) ht, h, hw, Option.bind_some, cond_true, cond_false, Bool.false_eq_true, if_true, if_false, len1, List.length_cons, List.length_nil, Nat.zero_add, Nat.reduceAdd, show pre (⟨#[116, 114, 117, 101]⟩ : ByteArray) (110 :: r) = false from rfl, show pre (⟨#[102, 97, 108, 115, 101]⟩ : ByteArray) (110 :: r) = false from rfl, show pre (⟨#[34]⟩ : ByteArray) (110 :: r) = false from rfl, show pre (⟨#[64]⟩ : ByteArray) (110 :: r) = false from rfl, show pre (⟨#[40]⟩ : ByteArray) (110 :: r) = false from rfl, show pre (⟨#[110]⟩ : ByteArray) (110 :: r) = true from rfl, show pre (⟨#[101]⟩ : ByteArray) (110 :: r) = false from rfl, show pre (⟨#[60]⟩ : ByteArray) (110 :: r) = false from rfl, show pre (⟨#[91]⟩ : ByteArray) (110 :: r) = false from rfl, show pre (⟨#[123]⟩ : ByteArray) (110 :: r) = false from rfl, show (((110 : UInt8).toNat : Int) == 34) = false from rfl, show (((110 : UInt8).toNat : Int) == 64) = false from rfl, show (((110 : UInt8).toNat : Int) == 45) = false from rfl, show (((110 : UInt8).toNat : Int) == 40) = false from rfl, show (((110 : UInt8).toNat : Int) == 91) = false from rfl, show (((110 : UInt8).toNat : Int) == 123) = false from rfl, show (((110 : UInt8).toNat : Int) == 60) = false from rfl, show (((110 : UInt8).toNat : Int) == 110) = true from rfl, show (((110 : UInt8).toNat : Int) == 101) = false from rfl, show isD 110 = false from rfl]
        exact Res.ret _ _ (show i + 4 ≤ t.size by omega) (by omega) (toI_flat _ _ _ _).symm (wf_text (by omega))
      | false =>
        simp only [spec_l01Reader_value.f, impl_reader_value.f, le_cons h, peek_cons _ h, isDigit_, takes_ (t := t) (i := i) _ _ (Nat.le_of_lt hl) ht, eat_ (t := t) (i := i) _ _ (Nat.le_of_lt hl) ht, h, hw, Option.bind_some, cond_true, cond_false, Bool.false_eq_true, if_true, if_false, len1, List.length_cons, List.length_nil, Nat.zero_add, Nat.reduceAdd, show pre (⟨#[116, 114, 117, 101]⟩ : ByteArray) (110 :: r) = false from rfl, show pre (⟨#[102, 97, 108, 115, 101]⟩ : ByteArray) (110 :: r) = false from rfl, show pre (⟨#[34]⟩ : ByteArray) (110 :: r) = false from rfl, show pre (⟨#[64]⟩ : ByteArray) (110 :: r) = false from rfl, show pre (⟨#[40]⟩ : ByteArray) (110 :: r) = false from rfl, show pre (⟨#[110]⟩ : ByteArray) (110 :: r) = true from rfl, show pre (⟨#[101]⟩ : ByteArray) (110 :: r) = false from rfl, show pre (⟨#[60]⟩ : ByteArray) (110 :: r) = false from rfl, show pre (⟨#[91]⟩ : ByteArray) (110 :: r) = false from rfl, show pre (⟨#[123]⟩ : ByteArray) (110 :: r) = false from rfl, show (((110 : UInt8).toNat : Int) == 34) = false from rfl, show (((110 : UInt8).toNat : Int) == 64) = false from rfl, show (((110 : UInt8).toNat : Int) == 45) = false from rfl, show (((110 : UInt8).toNat : Int) == 40) = false from rfl, show (((110 : UInt8).toNat : Int) == 91) = false from rfl, show (((110 : UInt8).toNat : Int) == 123) = false from rfl, show (((110 : UInt8).toNat : Int) == 60) = false from rfl, show (((110 : UInt8).toNat : Int) == 110) = true from rfl, show (((110 : UInt8).toNat : Int) == 101) = false from rfl, show isD 110 = false from rfl]
        rcases thing_ (kind := 8) (.inl ⟨rfl, rfl⟩) h ht with ⟨sv, j, h1, h2, ⟨h3, hw3⟩, h4, h5⟩ | ⟨sv, j, iv, s, h1, h2, h3⟩
        · exact Res.sbind h4 (Res.ibind h5 (Res.ret _ _ h2 (by omega) rfl hw3))
        · exact Res.sbind h2 (Res.ibind h3 (Res.none _ _ _ h1))
    by_cases hc101 : c = 101
    · subst hc101
      simp only [spec_l01Reader_value.f, impl_reader_value.f, le_cons h, peek_cons _ h, isDigit_, takes_ (t := t) (i := i) _ _ (Nat.le_of_lt hl) ht, eat_ (t := t) (i := i) _ _ (Nat.le_of_lt hl) ht, h, Option.bind_some, cond_true, cond_false, Bool.false_eq_true, if_true, if_false, len1, List.length_cons, List.length_nil, Nat.zero_add, Nat.reduceAdd, show pre (⟨#[110, 117, 108, 108]⟩ : ByteArray) (101 :: r) = false from rfl, show pre (⟨#[116, 114, 117, 101]⟩ : ByteArray) (101 :: r) = false from rfl, show pre (⟨#[102, 97, 108, 115, 101]⟩ : ByteArray) (101 :: r) = false from rfl, show pre (⟨#[34]⟩ : ByteArray) (101 :: r) = false from rfl, show pre (⟨#[64]⟩ : ByteArray) (101 :: r) = false from rfl, show pre (⟨#[40]⟩ : ByteArray) (101 :: r) = false from rfl, show pre (⟨#[110]⟩ : ByteArray) (101 :: r) = false from rfl, show pre (⟨#[101]⟩ : ByteArray) (101 :: r) = true from rfl, show pre (⟨#[60]⟩ : ByteArray) (101 :: r) = false from rfl, show pre (⟨#[91]⟩ : ByteArray) (101 :: r) = false from rfl, show pre (⟨#[123]⟩ : ByteArray) (101 :: r) = false from rfl, show (((101 : UInt8).toNat : Int) == 34) = false from rfl, show (((101 : UInt8).toNat : Int) == 64) = false from rfl, show (((101 : UInt8).toNat : Int) == 45) = false from rfl, show (((101 : UInt8).toNat : Int) == 40) = false from rfl, show (((101 : UInt8).toNat : Int) == 91) = false from rfl, show (((101 : UInt8).toNat : Int) == 123) = false from rfl, show (((101 : UInt8).toNat : Int) == 60) = false from rfl, show (((101 : UInt8).toNat : Int) == 110) = false from rfl, show (((101 : UInt8).toNat : Int) == 101) = true from rfl, show isD 101 = false from rfl]
      rcases thing_ (kind := 9) (.inr ⟨rfl, rfl⟩) h ht with ⟨sv, j, h1, h2, ⟨h3, hw3⟩, h4, h5⟩ | ⟨sv, j, iv, s, h1, h2, h3⟩
      · exact Res.sbind h4 (Res.ibind h5 (Res.ret _ _ h2 (by omega) rfl hw3))
      · exact Res.sbind h2 (Res.ibind h3 (Res.none _ _ _ h1))
    by_cases hc60 : c = 60
    · subst hc60
      simp only [spec_l01Reader_value.f, impl_reader_value.f, le_cons h, peek_cons _ h, isDigit_, takes_ (t := t) (i := i) _ _ (Nat.le_of_lt hl) ht, eat_ (t := t) (i := i) _ _ (Nat.le_of_lt hl) ht, h, Option.bind_some, cond_true, cond_false, Bool.false_eq_true, if_true, if_false, len1, List.length_cons, List.length_nil, Nat.zero_add, Nat.reduceAdd, show pre (⟨#[110, 117, 108, 108]⟩ : ByteArray) (60 :: r) = false from rfl, show pre (⟨#[116, 114, 117, 101]⟩ : ByteArray) (60 :: r) = false from rfl, show pre (⟨#[102, 97, 108, 115, 101]⟩ : ByteArray) (60 :: r) = false from rfl, show pre (⟨#[34]⟩ : ByteArray) (60 :: r) = false from rfl, show pre (⟨#[64]⟩ : ByteArray) (60 :: r) = false from rfl, show pre (⟨#[40]⟩ : ByteArray) (60 :: r) = false from rfl, show pre (⟨#[110]⟩ : ByteArray) (60 :: r) = false from rfl, show pre (⟨#[101]⟩ : ByteArray) (60 :: r) = false from rfl, show pre (⟨#[60]⟩ : ByteArray) (60 :: r) = true from rfl, show pre (⟨#[91]⟩ : ByteArray) (60 :: r) = false from rfl, show pre (⟨#[123]⟩ : ByteArray) (60 :: r) = false from rfl, show (((60 : UInt8).toNat : Int) == 34) = false from rfl, show (((60 : UInt8).toNat : Int) == 64) = false from rfl, show (((60 : UInt8).toNat : Int) == 45) = false from rfl, show (((60 : UInt8).toNat : Int) == 40) = false from rfl, show (((60 : UInt8).toNat : Int) == 91) = false from rfl, show (((60 : UInt8).toNat : Int) == 123) = false from rfl, show (((60 : UInt8).toNat : Int) == 60) = true from rfl, show (((60 : UInt8).toNat : Int) == 110) = false from rfl, show (((60 : UInt8).toNat : Int) == 101) = false from rfl, show isD 60 = false from rfl]
      exact (path_ h ht).pass
    by_cases hc91 : c = 91
    · subst hc91
      by_cases hd5 : d < 5
      · simp only [spec_l01Reader_value.f, impl_reader_value.f, le_cons h, peek_cons _ h, isDigit_, takes_ (t := t) (i := i) _ _ (Nat.le_of_lt hl) ht, eat_ (t := t) (i := i) _ _ (Nat.le_of_lt hl) ht, h, Option.bind_some, cond_true, cond_false, Bool.false_eq_true, if_true, if_false, len1, List.length_cons, List.length_nil, Nat.zero_add, Nat.reduceAdd, show pre (⟨#[110, 117, 108, 108]⟩ : ByteArray) (91 :: r) = false from rfl, show pre (⟨#[116, 114, 117, 101]⟩ : ByteArray) (91 :: r) = false from rfl, show pre (⟨#[102, 97, 108, 115, 101]⟩ : ByteArray) (91 :: r) = false from rfl, show pre (⟨#[34]⟩ : ByteArray) (91 :: r) = false from rfl, show pre (⟨#[64]⟩ : ByteArray) (91 :: r) = false from rfl, show pre (⟨#[40]⟩ : ByteArray) (91 :: r) = false from rfl, show pre (⟨#[110]⟩ : ByteArray) (91 :: r) = false from rfl, show pre (⟨#[101]⟩ : ByteArray) (91 :: r) = false from rfl, show pre (⟨#[60]⟩ : ByteArray) (91 :: r) = false from rfl, show pre (⟨#[91]⟩ : ByteArray) (91 :: r) = true from rfl, show pre (⟨#[123]⟩ : ByteArray) (91 :: r) = false from rfl, show (((91 : UInt8).toNat : Int) == 34) = false from rfl, show (((91 : UInt8).toNat : Int) == 64) = false from rfl, show (((91 : UInt8).toNat : Int) == 45) = false from rfl, show (((91 : UInt8).toNat : Int) == 40) = false from rfl, show (((91 : UInt8).toNat : Int) == 91) = true from rfl, show (((91 : UInt8).toNat : Int) == 123) = false from rfl, show (((91 : UInt8).toNat : Int) == 60) = false from rfl, show (((91 : UInt8).toNat : Int) == 110) = false from rfl, show (((91 : UInt8).toNat : Int) == 101) = false from rfl, show isD 91 = false from rfl, dlt, decide_eq_true hd5]
        exact (list_ h ht hd5 (ihv hd5)).pass
      · obtain rfl : d = 5 := by omega
        simp only [spec_l01Reader_value.f, impl_reader_value.f, le_cons h, peek_cons _ h, isDigit_, takes_ (t := t) (i := i) _ _ (Nat.le_of_lt hl) ht, eat_ (t := t) (i := i) _ _ (Nat.le_of_lt hl) ht, h, Option.bind_some, cond_true, cond_false, Bool.false_eq_true, if_true, if_false, len1, List.length_cons, List.length_nil, Nat.zero_add, Nat.reduceAdd, show pre (⟨#[110, 117, 108, 108]⟩ : ByteArray) (91 :: r) = false from rfl, show pre (⟨#[116, 114, 117, 101]⟩ : ByteArray) (91 :: r) = false from rfl, show pre (⟨#[102, 97, 108, 115, 101]⟩ : ByteArray) (91 :: r) = false from rfl, show pre (⟨#[34]⟩ : ByteArray) (91 :: r) = false from rfl, show pre (⟨#[64]⟩ : ByteArray) (91 :: r) = false from rfl, show pre (⟨#[40]⟩ : ByteArray) (91 :: r) = false from rfl, show pre (⟨#[110]⟩ : ByteArray) (91 :: r) = false from rfl, show pre (⟨#[101]⟩ : ByteArray) (91 :: r) = false from rfl, show pre (⟨#[60]⟩ : ByteArray) (91 :: r) = false from rfl, show pre (⟨#[91]⟩ : ByteArray) (91 :: r) = true from rfl, show pre (⟨#[123]⟩ : ByteArray) (91 :: r) = false from rfl, show (((91 : UInt8).toNat : Int) == 34) = false from rfl, show (((91 : UInt8).toNat : Int) == 64) = false from rfl, show (((91 : UInt8).toNat : Int) == 45) = false from rfl, show (((91 : UInt8).toNat : Int) == 40) = false from rfl, show (((91 : UInt8).toNat : Int) == 91) = true from rfl, show (((91 : UInt8).toNat : Int) == 123) = false from rfl, show (((91 : UInt8).toNat : Int) == 60) = false from rfl, show (((91 : UInt8).toNat : Int) == 110) = false from rfl, show (((91 : UInt8).toNat : Int) == 101) = false from rfl, show isD 91 = false from rfl, dlt, show decide (5 < 5) = false from rfl]
        have hj := value_j1 hi ht 5 (fun h => absurd h (by omega))
        rw [numbad ⟨by decide, rfl⟩, h] at hj
        refine Res.bad ⟨_, _, ?_, hj⟩ (IBad.bind (a := (⟨6, 0, 0, ⟨#[]⟩, [], []⟩, false, ⟨t, ((i + 1 : Nat) : Int)⟩)) (Ev.step ?_) (IBad.ret _ _))
        · omega
        · simp only [impl_reader_list.f, eat_ (t := t) (i := i) _ _ hi ht, h, pre_cons, show ((91 : UInt8) == 91) = true from rfl, if_true, len1, Option.bind_some, cond_true, show (((5 : Nat) : Int) == 5) = true from rfl]
          exact Ev.ret _
    by_cases hc123 : c = 123
    · subst hc123
      by_cases hd5 : d < 5
      · simp only [spec_l01Reader_value.f, impl_reader_value.f, le_cons h, peek_cons _ h, isDigit_, takes_ (t := t) (i := i) _ _ (Nat.le_of_lt hl) ht, eat_ (t := t) (i := i) _ _ (Nat.le_of_lt hl) ht, h, Option.bind_some, cond_true, cond_false, Bool.false_eq_true, if_true, if_false, len1, List.length_cons, List.length_nil, Nat.zero_add, Nat.reduceAdd, show pre (⟨#[110, 117, 108, 108]⟩ : ByteArray) (123 :: r) = false from rfl, show pre (⟨#[116, 114, 117, 101]⟩ : ByteArray) (123 :: r) = false from rfl, show pre (⟨#[102, 97, 108, 115, 101]⟩ : ByteArray) (123 :: r) = false from rfl, show pre (⟨#[34]⟩ : ByteArray) (123 :: r) = false from rfl, show pre (⟨#[64]⟩ : ByteArray) (123 :: r) = false from rfl, show pre (⟨#[40]⟩ : ByteArray) (123 :: r) = false from rfl, show pre (⟨#[110]⟩ : ByteArray) (123 :: r) = false from rfl, show pre (⟨#[101]⟩ : ByteArray) (123 :: r) = false from rfl, show pre (⟨#[60]⟩ : ByteArray) (123 :: r) = false from rfl, show pre (⟨#[91]⟩ : ByteArray) (123 :: r) = false from rfl, show pre (⟨#[123]⟩ : ByteArray) (123 :: r) = true from rfl, show (((123 : UInt8).toNat : Int) == 34) = false from rfl, show (((123 : UInt8).toNat : Int) == 64) = false from rfl, show (((123 : UInt8).toNat : Int) == 45) = false from rfl, show (((123 : UInt8).toNat : Int) == 40) = false from rfl, show (((123 : UInt8).toNat : Int) == 91) = false from rfl, show (((123 : UInt8).toNat : Int) == 123) = true from rfl, show (((123 : UInt8).toNat : Int) == 60) = false from rfl, show (((123 : UInt8).toNat : Int) == 110) = false from rfl, show (((123 : UInt8).toNat : Int) == 101) = false from rfl, show isD 123 = false from rfl, dlt, decide_eq_true hd5]
        refine Res.sstep ?_
        simp only [spec_l01Reader_value.j1, dlt, decide_eq_true hd5, cond_true, takes_ (t := t) (i := i) _ _ hi ht, h, pre_cons, show ((123 : UInt8) == 123) = true from rfl, if_true, len1, Option.bind_some]
        exact (fields_ h ht hd5 (ihv hd5)).pass
      · obtain rfl : d = 5 := by omega
        simp only [spec_l01Reader_value.f, impl_reader_value.f, le_cons h, peek_cons _ h, isDigit_, takes_ (t := t) (i := i) _ _ (Nat.le_of_lt hl) ht, eat_ (t := t) (i := i) _ _ (Nat.le_of_lt hl) ht, h, Option.bind_some, cond_true, cond_false, Bool.false_eq_true, if_true, if_false, len1, List.length_cons, List.length_nil, Nat.zero_add, Nat.reduceAdd, show pre (⟨#[110, 117, 108, 108]⟩ : ByteArray) (123 :: r) = false from rfl, show pre (⟨#[116, 114, 117, 101]⟩ : ByteArray) (123 :: r) = false from rfl, show pre (⟨#[102, 97, 108, 115, 101]⟩ : ByteArray) (123 :: r) = false from rfl, show pre (⟨#[34]⟩ : ByteArray) (123 :: r) = false from rfl, show pre (⟨#[64]⟩ : ByteArray) (123 :: r) = false from rfl, show pre (⟨#[40]⟩ : ByteArray) (123 :: r) = false from rfl, show pre (⟨#[110]⟩ : ByteArray) (123 :: r) = false from rfl, show pre (⟨#[101]⟩ : ByteArray) (123 :: r) = false from rfl, show pre (⟨#[60]⟩ : ByteArray) (123 :: r) = false from rfl, show pre (⟨#[91]⟩ : ByteArray) (123 :: r) = false from rfl, show pre (⟨#[123]⟩ : ByteArray) (123 :: r) = true from rfl, show (((123 : UInt8).toNat : Int) == 34) = false from rfl, show (((123 : UInt8).toNat : Int) == 64) = false from rfl, show (((123 : UInt8).toNat : Int) == 45) = false from rfl, show (((123 : UInt8).toNat : Int) == 40) = false from rfl, show (((123 : UInt8).toNat : Int) == 91) = false from rfl, show (((123 : UInt8).toNat : Int) == 123) = true from rfl, show (((123 : UInt8).toNat : Int) == 60) = false from rfl, show (((123 : UInt8).toNat : Int) == 110) = false from rfl, show (((123 : UInt8).toNat : Int) == 101) = false from rfl, show isD 123 = false from rfl, dlt, show decide (5 < 5) = false from rfl]
        have hj := value_j1 hi ht 5 (fun h => absurd h (by omega))
        rw [numbad ⟨by decide, rfl⟩, h] at hj
        refine Res.bad ⟨_, _, ?_, hj⟩ (IBad.bind (a := (⟨7, 0, 0, ⟨#[]⟩, [], []⟩, false, ⟨t, ((i + 1 : Nat) : Int)⟩)) (Ev.step ?_) (IBad.ret _ _))
        · omega
        · simp only [impl_reader_fields.f, eat_ (t := t) (i := i) _ _ hi ht, h, pre_cons, show ((123 : UInt8) == 123) = true from rfl, if_true, len1, Option.bind_some, cond_true, show (((5 : Nat) : Int) == 5) = true from rfl]
          exact Ev.ret _
    by_cases hc116 : c = 116
    · subst hc116
      cases hw : pre (⟨#[116, 114, 117, 101]⟩ : ByteArray) (116 :: r) with
      | true =>
        have hp := pre_len hw
        rw [hlen, show (⟨#[116, 114, 117, 101]⟩ : ByteArray).size = 4 from rfl] at hp
        simp only [spec_l01Reader_value.f, impl_reader_value.f, le_cons h, peek_cons _ h, isDigit_, takes_ (t := t) (i := i) _ _ (Nat.le_of_lt hl) ht, eat_ (t := t) (i := i) _ _ (Nat.le_of_lt hl) ht, h, hw, Option.bind_some, cond_true, cond_false, Bool.false_eq_true, if_true, if_false, len1, List.length_cons, List.length_nil, Nat.zero_add, Nat.reduceAdd, show pre (⟨#[110, 117, 108, 108]⟩ : ByteArray) (116 :: r) = false from rfl, show pre (⟨#[102, 97, 108, 115, 101]⟩ : ByteArray) (116 :: r) = false from rfl, show pre (⟨#[34]⟩ : ByteArray) (116 :: r) = false from rfl, show pre (⟨#[64]⟩ : ByteArray) (116 :: r) = false from rfl, show pre (⟨#[40]⟩ : ByteArray) (116 :: r) = false from rfl, show pre (⟨#[110]⟩ : ByteArray) (116 :: r) = false from rfl, show pre (⟨#[101]⟩ : ByteArray) (116 :: r) = false from rfl, show pre (⟨#[60]⟩ : ByteArray) (116 :: r) = false from rfl, show pre (⟨#[91]⟩ : ByteArray) (116 :: r) = false from rfl, show pre (⟨#[123]⟩ : ByteArray) (116 :: r) = false from rfl, show (((116 : UInt8).toNat : Int) == 34) = false from rfl, show (((116 : UInt8).toNat : Int) == 64) = false from rfl, show (((116 : UInt8).toNat : Int) == 45) = false from rfl, show (((116 : UInt8).toNat : Int) == 40) = false from rfl, show (((116 : UInt8).toNat : Int) == 91) = false from rfl, show (((116 : UInt8).toNat : Int) == 123) = false from rfl, show (((116 : UInt8).toNat : Int) == 60) = false from rfl, show (((116 : UInt8).toNat : Int) == 110) = false from rfl, show (((116 : UInt8).toNat : Int) == 101) = false from rfl, show isD 116 = false from rfl]
        exact Res.ret _ _ (show i + 4 ≤ t.size by omega) (by omega) (toI_flat _ _ _ _).symm (wf_flat (by omega) (by simp) (by omega) (by omega))
      | false =>
        have hj := value_j1 hi ht d (fun _ => by rw [h]; rfl)
        rw [numbad ⟨by decide, rfl⟩, h] at hj
        simp only [spec_l01Reader_value.f, impl_reader_value.f, le_cons h, peek_cons _ h, isDigit_, takes_ (t := t) (i := i) _ _ (Nat.le_of_lt hl) ht, eat_ (t := t) (i := i) _ _ (Nat.le_of_lt hl) ht, h, hw, Option.bind_some, cond_true, cond_false, Bool.false_eq_true, if_true, if_false, len1, List.length_cons, List.length_nil, Nat.zero_add, Nat.reduceAdd, show pre (⟨#[110, 117, 108, 108]⟩ : ByteArray) (116 :: r) = false from rfl, show pre (⟨#[102, 97, 108, 115, 101]⟩ : ByteArray) (116 :: r) = false from rfl, show pre (⟨#[34]⟩ : ByteArray) (116 :: r) = false from rfl, show pre (⟨#[64]⟩ : ByteArray) (116 :: r) = false from rfl, show pre (⟨#[40]⟩ : ByteArray) (116 :: r) = false from rfl, show pre (⟨#[110]⟩ : ByteArray) (116 :: r) = false from rfl, show pre (⟨#[101]⟩ : ByteArray) (116 :: r) = false from rfl, show pre (⟨#[60]⟩ : ByteArray) (116 :: r) = false from rfl, show pre (⟨#[91]⟩ : ByteArray) (116 :: r) = false from rfl, show pre (⟨#[123]⟩ : ByteArray) (116 :: r) = false from rfl, show (((116 : UInt8).toNat : Int) == 34) = false from rfl, show (((116 : UInt8).toNat : Int) == 64) = false from rfl, show (((116 : UInt8).toNat : Int) == 45) = false from rfl, show (((116 : UInt8).toNat : Int) == 40) = false from rfl, show (((116 : UInt8).toNat : Int) == 91) = false from rfl, show (((116 : UInt8).toNat : Int) == 123) = false from rfl, show (((116 : UInt8).toNat : Int) == 60) = false from rfl, show (((116 : UInt8).toNat : Int) == 110) = false from rfl, show (((116 : UInt8).toNat : Int) == 101) = false from rfl, show isD 116 = false from rfl]
        by_cases hd5 : d < 5
        · simp only [dlt, decide_eq_true hd5, cond_true]
          exact Res.bad ⟨_, _, by omega, hj⟩ (IBad.ret _ _)
        · simp only [dlt, decide_eq_false hd5, cond_false]
          exact Res.bad ⟨_, _, by omega, hj⟩ (IBad.ret _ _)
    by_cases hc102 : c = 102
    · subst hc102
      cases hw : pre (⟨#[102, 97, 108, 115, 101]⟩ : ByteArray) (102 :: r) with
      | true =>
        have hp := pre_len hw
        rw [hlen, show (⟨#[102, 97, 108, 115, 101]⟩ : ByteArray).size = 5 from rfl] at hp
        simp only [spec_l01Reader_value.f, impl_reader_value.f, le_cons h, peek_cons _ h, isDigit_, takes_ (t := t) (i := i) _ _ (Nat.le_of_lt hl) ht, eat_ (t := t) (i := i) _ _ (Nat.le_of_lt hl) ht, h, hw, Option.bind_some, cond_true, cond_false, Bool.false_eq_true, if_true, if_false, len1, List.length_cons, List.length_nil, Nat.zero_add, Nat.reduceAdd, show pre (⟨#[110, 117, 108, 108]⟩ : ByteArray) (102 :: r) = false from rfl, show pre (⟨#[116, 114, 117, 101]⟩ : ByteArray) (102 :: r) = false from rfl, show pre (⟨#[34]⟩ : ByteArray) (102 :: r) = false from rfl, show pre (⟨#[64]⟩ : ByteArray) (102 :: r) = false from rfl, show pre (⟨#[40]⟩ : ByteArray) (102 :: r) = false from rfl, show pre (⟨#[110]⟩ : ByteArray) (102 :: r) = false from rfl, show pre (⟨#[101]⟩ : ByteArray) (102 :: r) = false from rfl, show pre (⟨#[60]⟩ : ByteArray) (102 :: r) = false from rfl, show pre (⟨#[91]⟩ : ByteArray) (102 :: r) = false from rfl, show pre (⟨#[123]⟩ : ByteArray) (102 :: r) = false from rfl, show (((102 : UInt8).toNat : Int) == 34) = false from rfl, show (((102 : UInt8).toNat : Int) == 64) = false from rfl, show (((102 : UInt8).toNat : Int) == 45) = false from rfl, show (((102 : UInt8).toNat : Int) == 40) = false from rfl, show (((102 : UInt8).toNat : Int) == 91) = false from rfl, show (((102 : UInt8).toNat : Int) == 123) = false from rfl, show (((102 : UInt8).toNat : Int) == 60) = false from rfl, show (((102 : UInt8).toNat : Int) == 110) = false from rfl, show (((102 : UInt8).toNat : Int) == 101) = false from rfl, show isD 102 = false from rfl]
        exact Res.ret _ _ (show i + 5 ≤ t.size by omega) (by omega) (toI_flat _ _ _ _).symm (wf_flat (by omega) (by simp) (by omega) (by omega))
      | false =>
        have hj := value_j1 hi ht d (fun _ => by rw [h]; rfl)
        rw [numbad ⟨by decide, rfl⟩, h] at hj
        simp only [spec_l01Reader_value.f, impl_reader_value.f, le_cons h, peek_cons _ h, isDigit_, takes_ (t := t) (i := i) _ _ (Nat.le_of_lt hl) ht, eat_ (t := t) (i := i) _ _ (Nat.le_of_lt hl) ht, h, hw, Option.bind_some, cond_true, cond_false, Bool.false_eq_true, if_true, if_false, len1, List.length_cons, List.length_nil, Nat.zero_add, Nat.reduceAdd, show pre (⟨#[110, 117, 108, 108]⟩ : ByteArray) (102 :: r) = false from rfl, show pre (⟨#[116, 114, 117, 101]⟩ : ByteArray) (102 :: r) = false from rfl, show pre (⟨#[34]⟩ : ByteArray) (102 :: r) = false from rfl, show pre (⟨#[64]⟩ : ByteArray) (102 :: r) = false from rfl, show pre (⟨#[40]⟩ : ByteArray) (102 :: r) = false from rfl, show pre (⟨#[110]⟩ : ByteArray) (102 :: r) = false from rfl, show pre (⟨#[101]⟩ : ByteArray) (102 :: r) = false from rfl, show pre (⟨#[60]⟩ : ByteArray) (102 :: r) = false from rfl, show pre (⟨#[91]⟩ : ByteArray) (102 :: r) = false from rfl, show pre (⟨#[123]⟩ : ByteArray) (102 :: r) = false from rfl, show (((102 : UInt8).toNat : Int) == 34) = false from rfl, show (((102 : UInt8).toNat : Int) == 64) = false from rfl, show (((102 : UInt8).toNat : Int) == 45) = false from rfl, show (((102 : UInt8).toNat : Int) == 40) = false from rfl, show (((102 : UInt8).toNat : Int) == 91) = false from rfl, show (((102 : UInt8).toNat : Int) == 123) = false from rfl, show (((102 : UInt8).toNat : Int) == 60) = false from rfl, show (((102 : UInt8).toNat : Int) == 110) = false from rfl, show (((102 : UInt8).toNat : Int) == 101) = false from rfl, show isD 102 = false from rfl]
        by_cases hd5 : d < 5
        · simp only [dlt, decide_eq_true hd5, cond_true]
          exact Res.bad ⟨_, _, by omega, hj⟩ (IBad.ret _ _)
        · simp only [dlt, decide_eq_false hd5, cond_false]
          exact Res.bad ⟨_, _, by omega, hj⟩ (IBad.ret _ _)
    have hj := value_j1 hi ht d (fun _ => by rw [h]; exact pre_hd _ _ hc123)
    have hw := whole_ hi ht
    rw [h] at hj hw numbad
    have sp : ∀ im : Nat → Option (S105 × Bool × S115), Res t i (fun k => spec_l01Reader_value.j1 k (d : Int) t (i : Int) false) im → Res t i (fun k => (bif decide ((d : Int) < 5) then spec_l01Reader_value.j1 k (d : Int) t (i : Int) false else spec_l01Reader_value.j1 k (d : Int) t (i : Int) false)) im := fun im g => by
      simp only [bif_same]; exact g
    have fin : Res t i (fun k => spec_l01Reader_value.j1 k (d : Int) t (i : Int) false) (fun k => (impl_reader_whole.f k ⟨t, (i : Int)⟩).bind fun v6 => some ((⟨2, v6.1, 0, (⟨#[]⟩ : ByteArray), ([] : (List ByteArray)), ([] : (List S105))⟩ : S105), v6.2.1, v6.2.2)) := by
      cases hk : nok (c :: r) with
      | true =>
        rw [hk] at hj hw
        have hp := (nok_pos hk).1
        exact .inl ⟨_, _, by omega, by omega, wf_num (by omega) (by omega) (num_rng _), hj, Ev.bind hw (by rw [toI_flat]; exact Ev.ret _)⟩
      | false =>
        rw [hk] at hj hw
        exact Res.bad ⟨_, _, by omega, hj⟩ (IBad.bind hw (IBad.ret _ _))
    by_cases hc45 : c = 45
    · simp only [spec_l01Reader_value.f, impl_reader_value.f, le_cons h, peek_cons _ h, isDigit_, takes_ (t := t) (i := i) _ _ (Nat.le_of_lt hl) ht, eat_ (t := t) (i := i) _ _ (Nat.le_of_lt hl) ht, h, Option.bind_some, cond_true, cond_false, Bool.false_eq_true, if_true, if_false, len1, List.length_cons, List.length_nil, Nat.zero_add, Nat.reduceAdd, show pre (⟨#[110, 117, 108, 108]⟩ : ByteArray) (c :: r) = false from pre_hd _ _ hc110, show pre (⟨#[116, 114, 117, 101]⟩ : ByteArray) (c :: r) = false from pre_hd _ _ hc116, show pre (⟨#[102, 97, 108, 115, 101]⟩ : ByteArray) (c :: r) = false from pre_hd _ _ hc102, show pre (⟨#[34]⟩ : ByteArray) (c :: r) = false from pre_hd _ _ hc34, show pre (⟨#[64]⟩ : ByteArray) (c :: r) = false from pre_hd _ _ hc64, show pre (⟨#[40]⟩ : ByteArray) (c :: r) = false from pre_hd _ _ hc40, show pre (⟨#[110]⟩ : ByteArray) (c :: r) = false from pre_hd _ _ hc110, show pre (⟨#[101]⟩ : ByteArray) (c :: r) = false from pre_hd _ _ hc101, show pre (⟨#[60]⟩ : ByteArray) (c :: r) = false from pre_hd _ _ hc60, show pre (⟨#[91]⟩ : ByteArray) (c :: r) = false from pre_hd _ _ hc91, show pre (⟨#[123]⟩ : ByteArray) (c :: r) = false from pre_hd _ _ hc123, show ((c.toNat : Int) == 34) = false from ceq_no (x := 34) hc34, show ((c.toNat : Int) == 64) = false from ceq_no (x := 64) hc64, show ((c.toNat : Int) == 40) = false from ceq_no (x := 40) hc40, show ((c.toNat : Int) == 91) = false from ceq_no (x := 91) hc91, show ((c.toNat : Int) == 123) = false from ceq_no (x := 123) hc123, show ((c.toNat : Int) == 60) = false from ceq_no (x := 60) hc60, show ((c.toNat : Int) == 110) = false from ceq_no (x := 110) hc110, show ((c.toNat : Int) == 101) = false from ceq_no (x := 101) hc101, show ((c.toNat : Int) == 45) = true by rw [hc45]; rfl]
      exact sp _ fin
    · cases hD : isD c with
      | true =>
        simp only [spec_l01Reader_value.f, impl_reader_value.f, le_cons h, peek_cons _ h, isDigit_, takes_ (t := t) (i := i) _ _ (Nat.le_of_lt hl) ht, eat_ (t := t) (i := i) _ _ (Nat.le_of_lt hl) ht, h, Option.bind_some, cond_true, cond_false, Bool.false_eq_true, if_true, if_false, len1, List.length_cons, List.length_nil, Nat.zero_add, Nat.reduceAdd, show pre (⟨#[110, 117, 108, 108]⟩ : ByteArray) (c :: r) = false from pre_hd _ _ hc110, show pre (⟨#[116, 114, 117, 101]⟩ : ByteArray) (c :: r) = false from pre_hd _ _ hc116, show pre (⟨#[102, 97, 108, 115, 101]⟩ : ByteArray) (c :: r) = false from pre_hd _ _ hc102, show pre (⟨#[34]⟩ : ByteArray) (c :: r) = false from pre_hd _ _ hc34, show pre (⟨#[64]⟩ : ByteArray) (c :: r) = false from pre_hd _ _ hc64, show pre (⟨#[40]⟩ : ByteArray) (c :: r) = false from pre_hd _ _ hc40, show pre (⟨#[110]⟩ : ByteArray) (c :: r) = false from pre_hd _ _ hc110, show pre (⟨#[101]⟩ : ByteArray) (c :: r) = false from pre_hd _ _ hc101, show pre (⟨#[60]⟩ : ByteArray) (c :: r) = false from pre_hd _ _ hc60, show pre (⟨#[91]⟩ : ByteArray) (c :: r) = false from pre_hd _ _ hc91, show pre (⟨#[123]⟩ : ByteArray) (c :: r) = false from pre_hd _ _ hc123, show ((c.toNat : Int) == 34) = false from ceq_no (x := 34) hc34, show ((c.toNat : Int) == 64) = false from ceq_no (x := 64) hc64, show ((c.toNat : Int) == 40) = false from ceq_no (x := 40) hc40, show ((c.toNat : Int) == 91) = false from ceq_no (x := 91) hc91, show ((c.toNat : Int) == 123) = false from ceq_no (x := 123) hc123, show ((c.toNat : Int) == 60) = false from ceq_no (x := 60) hc60, show ((c.toNat : Int) == 110) = false from ceq_no (x := 110) hc110, show ((c.toNat : Int) == 101) = false from ceq_no (x := 101) hc101, show ((c.toNat : Int) == 45) = false from ceq_no (x := 45) hc45, hD]
        exact sp _ fin
      | false =>
        simp only [spec_l01Reader_value.f, impl_reader_value.f, le_cons h, peek_cons _ h, isDigit_, takes_ (t := t) (i := i) _ _ (Nat.le_of_lt hl) ht, eat_ (t := t) (i := i) _ _ (Nat.le_of_lt hl) ht, h, Option.bind_some, cond_true, cond_false, Bool.false_eq_true, if_true, if_false, len1, List.length_cons, List.length_nil, Nat.zero_add, Nat.reduceAdd, show pre (⟨#[110, 117, 108, 108]⟩ : ByteArray) (c :: r) = false from pre_hd _ _ hc110, show pre (⟨#[116, 114, 117, 101]⟩ : ByteArray) (c :: r) = false from pre_hd _ _ hc116, show pre (⟨#[102, 97, 108, 115, 101]⟩ : ByteArray) (c :: r) = false from pre_hd _ _ hc102, show pre (⟨#[34]⟩ : ByteArray) (c :: r) = false from pre_hd _ _ hc34, show pre (⟨#[64]⟩ : ByteArray) (c :: r) = false from pre_hd _ _ hc64, show pre (⟨#[40]⟩ : ByteArray) (c :: r) = false from pre_hd _ _ hc40, show pre (⟨#[110]⟩ : ByteArray) (c :: r) = false from pre_hd _ _ hc110, show pre (⟨#[101]⟩ : ByteArray) (c :: r) = false from pre_hd _ _ hc101, show pre (⟨#[60]⟩ : ByteArray) (c :: r) = false from pre_hd _ _ hc60, show pre (⟨#[91]⟩ : ByteArray) (c :: r) = false from pre_hd _ _ hc91, show pre (⟨#[123]⟩ : ByteArray) (c :: r) = false from pre_hd _ _ hc123, show ((c.toNat : Int) == 34) = false from ceq_no (x := 34) hc34, show ((c.toNat : Int) == 64) = false from ceq_no (x := 64) hc64, show ((c.toNat : Int) == 40) = false from ceq_no (x := 40) hc40, show ((c.toNat : Int) == 91) = false from ceq_no (x := 91) hc91, show ((c.toNat : Int) == 123) = false from ceq_no (x := 123) hc123, show ((c.toNat : Int) == 60) = false from ceq_no (x := 60) hc60, show ((c.toNat : Int) == 110) = false from ceq_no (x := 110) hc110, show ((c.toNat : Int) == 101) = false from ceq_no (x := 101) hc101, show ((c.toNat : Int) == 45) = false from ceq_no (x := 45) hc45, hD]
        rw [numbad ⟨hc45, hD⟩] at hj
        exact sp _ (Res.bad ⟨_, _, by omega, hj⟩ (IBad.ret _ _))
theorem value_ (ht : t.size ≤ 2000000) : ∀ (n i d : Nat), t.size - i ≤ n → i ≤ t.size → d ≤ 5 → ValAt t d i := by
  intro n
  induction n using Nat.strongRecOn with
  | _ n ih =>
    intro i d hn hi hd
    exact value_step ht hi hd (fun hd5 p hp hpt => ih (t.size - p) (by omega) p (d + 1) (Nat.le_refl _) hpt (by omega))
/-- Both read the same of a text. -/
theorem read_ (t : ByteArray) : (∃ sv, Wf sv ∧ Ev (fun k => spec_l01Read.f k t) sv ∧ Ev (fun k => impl_read.f k t) (toI sv, true)) ∨ (∃ iv, Ev (fun k => spec_l01Read.f k t) ⟨-1, 0, 0, ⟨#[]⟩, [], []⟩ ∧ Ev (fun k => impl_read.f k t) (iv, false)) := by
  unfold spec_l01Read.f impl_read.f
  by_cases hs : 2000 < t.size
  · simp only [show decide ((2000 : Int) < (t.size : Int)) = true by simp; omega, cond_true]
    exact .inr ⟨_, Ev.ret _, Ev.ret _⟩
  · simp only [show decide ((2000 : Int) < (t.size : Int)) = false by simp; omega, cond_false]
    rcases value_ (t := t) (by omega) _ 0 0 (Nat.le_refl _) (by omega) (by omega) with ⟨sv, j, h1, h2, hw, h3, h4⟩ | ⟨sv, j, iv, s, h1, h2, h3⟩
    · by_cases hj : j = t.size
      · subst hj
        refine .inl ⟨sv, hw, Ev.bind h3 ?_, Ev.bind h4 ?_⟩
        · simp only [cond_false, beq_self_eq_true, cond_true]; exact Ev.ret _
        · simp only [cond_true, beq_self_eq_true]; exact Ev.ret _
      · have e : ((j : Int) == (t.size : Int)) = false := by simp; omega
        refine .inr ⟨toI sv, Ev.bind h3 ?_, Ev.bind h4 ?_⟩
        · simp only [cond_false, e]; exact Ev.ret _
        · simp only [cond_true, e]; exact Ev.ret _
    · refine .inr ⟨iv, Ev.bind h2 ?_, Ev.bind h3 ?_⟩
      · simp only [cond_true]; exact Ev.ret _
      · simp only [cond_false]; exact Ev.ret _
end
end Go.Ab
namespace Go.Ab
open Go.Proofs
set_option linter.unusedVariables false
set_option linter.unusedSimpArgs false
/-! Comparing -/
def cmpI (a b : Int) : Int := if a < b then -1 else if b < a then 1 else 0
def cmpB (a b : ByteArray) : Int := if slt a b then -1 else if slt b a then 1 else 0
theorem less_asym : ∀ (a b : List UInt8), Op.bytesLess a b = true → Op.bytesLess b a = false
 | [], [], h => by simp [Op.bytesLess] at h
 | [], _ :: _, _ => by simp [Op.bytesLess]
 | _ :: _, [], h => by simp [Op.bytesLess] at h
 | x :: a, y :: b, h => by
   simp only [Op.bytesLess, Bool.or_eq_true, Bool.and_eq_true, decide_eq_true_eq, beq_iff_eq] at h ⊢
   rw [Bool.eq_false_iff]
   intro h'
   simp only [Bool.or_eq_true, Bool.and_eq_true, decide_eq_true_eq, beq_iff_eq] at h'
   rcases h with h | ⟨rfl, h⟩
   · rcases h' with h' | ⟨rfl, _⟩
     · exact absurd h (by simp only [UInt8.lt_iff_toNat_lt] at h h' ⊢; omega)
     · exact absurd h (by simp only [UInt8.lt_iff_toNat_lt]; omega)
   · rcases h' with h' | ⟨_, h'⟩
     · exact absurd h' (by simp only [UInt8.lt_iff_toNat_lt]; omega)
     · have := less_asym a b h; rw [this] at h'; cases h'
theorem cmp_list : ∀ (a b : List UInt8), Lib.compareBytes a b = (if Op.bytesLess a b then -1 else if Op.bytesLess b a then 1 else 0) ∧ (Lib.compareBytes a b = 0 ↔ a = b)
 | [], [] => by simp [Lib.compareBytes, Op.bytesLess]
 | [], _ :: _ => by simp [Lib.compareBytes, Op.bytesLess]
 | _ :: _, [] => by simp [Lib.compareBytes, Op.bytesLess]
 | x :: a, y :: b => by
   obtain ⟨i1, i2⟩ := cmp_list a b
   unfold Lib.compareBytes
   by_cases h1 : x < y
   · have h2 : ¬ y < x := by simp only [UInt8.lt_iff_toNat_lt] at h1 ⊢; omega
     have h3 : x ≠ y := by rintro rfl; simp only [UInt8.lt_iff_toNat_lt] at h1; omega
     rw [if_pos h1]
     simp [Op.bytesLess, h1, h3]
   · rw [if_neg h1]
     by_cases h2 : y < x
     · have h3 : x ≠ y := by rintro rfl; exact h1 h2
       rw [if_pos h2]
       simp [Op.bytesLess, h1, h2, h3]
     · rw [if_neg h2]
       have h3 : x = y := UInt8.toNat_inj.1 (by simp only [UInt8.lt_iff_toNat_lt] at h1 h2; omega)
       subst h3
       simp only [Op.bytesLess, h1, decide_false, beq_self_eq_true, Bool.true_and, Bool.false_or, List.cons.injEq, true_and]
       exact ⟨i1, i2⟩
theorem cmpB_eq {a b : ByteArray} : cmpB a b = 0 ↔ a = b := by
  have h : cmpB a b = Lib.compareBytes a.data.toList b.data.toList := by
    unfold cmpB slt
    rw [ByteArray.toList_eq, ByteArray.toList_eq, (cmp_list _ _).1]
  rw [h, (cmp_list _ _).2]
  constructor
  · intro e; exact ByteArray.ext (Array.toList_inj.1 e)
  · rintro rfl; rfl
theorem cmpI_eq {a b : Int} : cmpI a b = 0 ↔ a = b := by 
  unfold cmpI
  split
  · omega
  · split <;> omega
theorem cmpI_rng (a b : Int) : cmpI a b = -1 ∨ cmpI a b = 0 ∨ cmpI a b = 1 := by 
  unfold cmpI
  split
  · simp
  · split <;> simp
theorem cmpB_rng (a b : ByteArray) : cmpB a b = -1 ∨ cmpB a b = 0 ∨ cmpB a b = 1 := by 
  unfold cmpB
  split
  · simp
  · split <;> simp
theorem ix_lt {α : Type} {l : List α} {i : Nat} (h : i < l.length) : ix l (i : Int) = some l[i] := by
  unfold ix; rw [if_pos (by omega), Int.toNat_natCast, List.getElem?_eq_getElem h]
section
variable (x : S100)
theorem toI_0 : (toI x).f0 = x.f0 := by rw [toI_eq]
theorem toI_1 : (toI x).f1 = x.f1 := by rw [toI_eq]
theorem toI_2 : (toI x).f2 = x.f2 := by rw [toI_eq]
theorem toI_3 : (toI x).f3 = x.f3 := by rw [toI_eq]
theorem toI_4 : (toI x).f4 = x.f5 := by rw [toI_eq]
theorem toI_5 : (toI x).f5 = x.f4.map toI := by rw [toI_eq]
end
theorem Wf.p {v : S100} (h : Wf v) : (0 ≤ v.f0 ∧ v.f0 ≤ 10) ∧ v.f4.length ≤ 2000000 ∧ (v.f5.length = if v.f0 = 7 then v.f4.length else 0) ∧ (∀ x ∈ v.f4, Wf x) ∧ (v.f0 = 6 ∨ v.f0 = 7 ∨ v.f0 = 10 → v.f1 = 0 ∧ v.f2 = 0) ∧ (¬ (v.f0 = 6 ∨ v.f0 = 7 ∨ v.f0 = 10) → v.f4 = []) ∧ (v.f0 ≠ 5 → v.f2 = 0) := by
  cases h with | mk _ hk hb hr hl hm hi ht hx hy hp => exact ⟨hk, hl, hm, hi, hx, hy, hp⟩
theorem item_size {x y : S100} (h : y ∈ x.f4) : SizeOf.sizeOf y < SizeOf.sizeOf x := by
  have := List.sizeOf_lt_of_mem h
  cases x; simp only [S100.mk.sizeOf_spec] at this ⊢; omega
section
variable {x y : S100}
def Both (f g : Nat → Option Int) (P : Int → Prop) : Prop := ∃ c, (c = -1 ∨ c = 0 ∨ c = 1) ∧ P c ∧ Ev f c ∧ Ev g c
theorem Both.step {f g : Nat → Option Int} {P : Int → Prop} (h : Both (fun k => f (k + 1)) (fun k => g (k + 1)) P) : Both f g P := by
  obtain ⟨c, h1, h2, h3, h4⟩ := h; exact ⟨c, h1, h2, h3.step, h4.step⟩
theorem Both.sstep {f g : Nat → Option Int} {P : Int → Prop} (h : Both (fun k => f (k + 1)) g P) : Both f g P := by
  obtain ⟨c, h1, h2, h3, h4⟩ := h; exact ⟨c, h1, h2, h3.step, h4⟩
theorem Both.istep {f g : Nat → Option Int} {P : Int → Prop} (h : Both f (fun k => g (k + 1)) P) : Both f g P := by
  obtain ⟨c, h1, h2, h3, h4⟩ := h; exact ⟨c, h1, h2, h3, h4.step⟩
theorem Both.bind {α β : Type} {f : Nat → Option α} {g : Nat → Option β} {f' : Nat → α → Option Int} {g' : Nat → β → Option Int} {a : α} {b : β} {P : Int → Prop} (h : Ev f a) (h' : Ev g b) (k : Both (fun n => f' n a) (fun n => g' n b) P) : Both (fun n => (f n).bind (f' n)) (fun n => (g n).bind (g' n)) P := by
  obtain ⟨c, h1, h2, h3, h4⟩ := k; exact ⟨c, h1, h2, h.bind h3, h'.bind h4⟩
theorem Both.ret {P : Int → Prop} {c : Int} (h : c = -1 ∨ c = 0 ∨ c = 1) (hP : P c) : Both (fun _ => some c) (fun _ => some c) P := ⟨c, h, hP, Ev.ret _, Ev.ret _⟩
theorem getm {l : List S100} {i : Nat} (h : i < l.length) : ix (l.map toI) (i : Int) = some (toI l[i]) := by
  rw [ix_lt (by simpa using h)]; simp
end
end Go.Ab
