/- What both readers of values tell, part 4: things, points, paths, lists, maps, values. No condition. -/
import Derived.Test.YtadopgcbfghnpaaDoorAbL3
namespace Go.Ab
open Go.Proofs
set_option linter.unusedVariables false
set_option linter.unusedSimpArgs false
section
variable {t : ByteArray} {i : Nat} {c : UInt8} {r : List UInt8}
theorem toI_items (k : Int) (l : List S26) (n : List ByteArray) : toI ⟨k, 0, 0, ⟨#[]⟩, l, n⟩ = ⟨k, 0, 0, ⟨#[]⟩, n, l.map toI⟩ := by rw [toI_eq]
theorem wf_flat {k a b : Int} (hk : 0 ≤ k ∧ k ≤ 10) (hb : k = 1 → a = 0 ∨ a = 1) (ha : -9223372036854775808 ≤ a ∧ a ≤ 9223372036854775807) (hb' : -9223372036854775808 ≤ b ∧ b ≤ 9223372036854775807) (hx : k = 6 ∨ k = 7 ∨ k = 10 → a = 0 ∧ b = 0 := by simp) (hp : k ≠ 5 → b = 0 := by simp) : Wf ⟨k, a, b, ⟨#[]⟩, [], []⟩ := .mk _ hk hb ⟨ha, hb'⟩ (by simp) (by simp) (fun x h => by simp at h) (fun _ => rfl) hx (fun _ => rfl) hp
theorem wf_text {k : Int} (hk : 0 ≤ k ∧ k ≤ 10) : Wf ⟨k, 0, 0, ⟨#[]⟩, [], []⟩ := wf_flat hk (fun _ => .inl rfl) (by omega) (by omega) (fun _ => ⟨rfl, rfl⟩) (fun _ => rfl)
theorem wf_txt (s : ByteArray) : Wf ⟨3, 0, 0, s, [], []⟩ := .mk _ (by simp) (fun _ => .inl rfl) (by simp) (by simp) (by simp) (fun x h => by simp at h) (fun h => absurd rfl h) (fun _ => ⟨rfl, rfl⟩) (fun _ => rfl) (fun _ => rfl)
theorem wf_num {k a : Int} (hk : 2 ≤ k ∧ k ≤ 10) (hn : ¬ (k = 6 ∨ k = 7 ∨ k = 10)) (ha : -9223372036854775808 ≤ a ∧ a ≤ 9223372036854775807) : Wf ⟨k, a, 0, ⟨#[]⟩, [], []⟩ := wf_flat (by omega) (fun h => by omega) ha (by omega) (fun h => absurd h hn) (fun _ => rfl)
theorem wf_items {k : Int} {l : List S26} {n : List ByteArray} (hk : k = 6 ∨ k = 7 ∨ k = 10) (hl : l.length ≤ 2000000) (hn : n.length = if k = 7 then l.length else 0) (h : ∀ x ∈ l, Wf x) : Wf ⟨k, 0, 0, ⟨#[]⟩, l, n⟩ := .mk _ (show 0 ≤ k ∧ k ≤ 10 by omega) (fun _ => .inl rfl) ⟨⟨by simp, by simp⟩, ⟨by simp, by simp⟩⟩ hl hn h (fun _ => rfl) (fun _ => ⟨rfl, rfl⟩) (fun h => absurd hk h) (fun _ => rfl)
theorem Res.step {sp : Nat → Option (S26 × S37)} {im : Nat → Option (S31 × Bool × S52)} (h : Res t i (fun k => sp (k + 1)) (fun k => im (k + 1))) : Res t i sp im := by
  rcases h with ⟨sv, j, h1, h2, hw, h3, h4⟩ | ⟨sv, j, iv, s, h1, h2, h3⟩
  · exact .inl ⟨sv, j, h1, h2, hw, h3.step, h4.step⟩
  · exact .inr ⟨sv, j, iv, s, h1, h2.step, h3.step⟩
theorem Res.istep {sp : Nat → Option (S26 × S37)} {im : Nat → Option (S31 × Bool × S52)} (h : Res t i sp (fun k => im (k + 1))) : Res t i sp im := by
  rcases h with ⟨sv, j, h1, h2, hw, h3, h4⟩ | ⟨sv, j, iv, s, h1, h2, h3⟩
  · exact .inl ⟨sv, j, h1, h2, hw, h3, h4.step⟩
  · exact .inr ⟨sv, j, iv, s, h1, h2, h3.step⟩
theorem Res.sstep {sp : Nat → Option (S26 × S37)} {im : Nat → Option (S31 × Bool × S52)} (h : Res t i (fun k => sp (k + 1)) im) : Res t i sp im := by
  rcases h with ⟨sv, j, h1, h2, hw, h3, h4⟩ | ⟨sv, j, iv, s, h1, h2, h3⟩
  · exact .inl ⟨sv, j, h1, h2, hw, h3.step, h4⟩
  · exact .inr ⟨sv, j, iv, s, h1, h2.step, h3⟩
theorem Res.sbind {α : Type} {f : Nat → Option α} {g : Nat → α → Option (S26 × S37)} {a : α} {im : Nat → Option (S31 × Bool × S52)} (h : Ev f a) (h' : Res t i (fun k => g k a) im) : Res t i (fun k => (f k).bind (g k)) im := by
  rcases h' with ⟨sv, j, h1, h2, hw, h3, h4⟩ | ⟨sv, j, iv, s, h1, h2, h3⟩
  · exact .inl ⟨sv, j, h1, h2, hw, h.bind h3, h4⟩
  · exact .inr ⟨sv, j, iv, s, h1, h.bind h2, h3⟩
theorem Res.ibind {α : Type} {f : Nat → Option α} {g : Nat → α → Option (S31 × Bool × S52)} {a : α} {sp : Nat → Option (S26 × S37)} (h : Ev f a) (h' : Res t i sp (fun k => g k a)) : Res t i sp (fun k => (f k).bind (g k)) := by
  rcases h' with ⟨sv, j, h1, h2, hw, h3, h4⟩ | ⟨sv, j, iv, s, h1, h2, h3⟩
  · exact .inl ⟨sv, j, h1, h2, hw, h3, h.bind h4⟩
  · exact .inr ⟨sv, j, iv, s, h1, h2, h.bind h3⟩
theorem Res.ret (sv : S26) (iv : S31) {j : Nat} (hj : j ≤ t.size) (hi : i < j) (e : iv = toI sv) (hw : Wf sv) : Res t i (fun _ => some (sv, ⟨t, (j : Int), false⟩)) (fun _ => some (iv, true, ⟨t, (j : Int)⟩)) := .inl ⟨sv, j, hi, hj, hw, Ev.ret _, e ▸ Ev.ret _⟩
theorem Res.none (sv : S26) (iv : S31) (s : S52) {j : Nat} (hj : j ≤ t.size) : Res t i (fun _ => some (sv, ⟨t, (j : Int), true⟩)) (fun _ => some (iv, false, s)) := .inr ⟨sv, j, iv, s, hj, Ev.ret _, Ev.ret _⟩
theorem Res.back {i' : Nat} {sp : Nat → Option (S26 × S37)} {im : Nat → Option (S31 × Bool × S52)} (h : Res t i' sp im) (hi : i ≤ i') : Res t i sp im := by
  rcases h with ⟨sv, j, h1, h2, hw, h3, h4⟩ | h
  · exact .inl ⟨sv, j, by omega, h2, hw, h3, h4⟩
  · exact .inr h
/-- A reading, handed on as it is. -/
theorem Res.pass {sp : Nat → Option (S26 × S37)} {im : Nat → Option (S31 × Bool × S52)} (h : Res t i sp im) : Res t i (fun k => (sp k).bind fun v => some (v.1, v.2)) (fun k => (im k).bind fun v => some (v.1, v.2.1, v.2.2)) := by
  rcases h with ⟨sv, j, h1, h2, hw, h3, h4⟩ | ⟨sv, j, iv, s, h1, h2, h3⟩
  · exact .inl ⟨sv, j, h1, h2, hw, h3.bind (Ev.ret _), h4.bind (Ev.ret _)⟩
  · exact .inr ⟨sv, j, iv, s, h1, h2.bind (Ev.ret _), h3.bind (Ev.ret _)⟩
theorem ceq_no {c x : UInt8} (h : c ≠ x) : ((c.toNat : Int) == (x.toNat : Int)) = false := by
  rw [Bool.eq_false_iff]
  intro e
  have : (c.toNat : Int) = (x.toNat : Int) := by simpa using e
  exact h (UInt8.toNat_inj.1 (by omega))
/-! The number of a node or an edge -/
def tok (l : List UInt8) : Bool := nok l && decide (1 ≤ num l) && decide (num l ≤ 1000000000000)
theorem tok_head {l : List UInt8} (h : tok l = true) : ∃ c r, l = c :: r ∧ isD c = true := by
  unfold tok at h
  simp only [Bool.and_eq_true, decide_eq_true_eq] at h
  obtain ⟨⟨h1, h2⟩, h3⟩ := h
  have h' : Lib.itoa (num l) = l.take (nlen l) := by simpa [nok] using h1
  rw [itoa_nn (by omega)] at h'
  cases hd : Lib.decDigits (num l).toNat with
  | nil => exact absurd hd (dec_ne _)
  | cons c r =>
    rw [hd] at h'
    cases l with
    | nil => simp at h'
    | cons c' r' =>
      have hp := (nok_pos h1).1
      obtain ⟨m, hm⟩ : ∃ m, nlen (c' :: r') = m + 1 := ⟨nlen (c' :: r') - 1, by omega⟩
      rw [hm, List.take_succ_cons, List.cons.injEq] at h'
      exact ⟨c', r', rfl, h'.1 ▸ dec_head hd⟩
theorem thing_s (kind : Int) (hi : i ≤ t.size) (ht : t.size ≤ 2000000) : Ev (fun k => spec_l01Reader_thing.f k kind ⟨t, (i : Int), false⟩) (⟨kind, num (rest t i), 0, ⟨#[]⟩, [], []⟩, ⟨t, ((i + nlen (rest t i) : Nat) : Int), !tok (rest t i)⟩) := by
  have h := number_ (b := false) hi ht
  unfold spec_l01Reader_thing.f
  refine Ev.bind h ?_
  unfold tok
  by_cases h1 : num (rest t i) < 1
  · simp only [decide_eq_true h1, cond_true, decide_eq_false (by omega : ¬ 1 ≤ num (rest t i)), Bool.and_false, Bool.false_and, Bool.not_false]
    exact Ev.ret _
  · by_cases h2 : 1000000000000 < num (rest t i)
    · simp only [decide_eq_false h1, decide_eq_true h2, cond_true, cond_false, decide_eq_false (by omega : ¬ num (rest t i) ≤ 1000000000000), Bool.and_false, Bool.not_false]
      exact Ev.ret _
    · simp only [decide_eq_false h1, decide_eq_false h2, cond_false, decide_eq_true (by omega : num (rest t i) ≤ 1000000000000), decide_eq_true (by omega : 1 ≤ num (rest t i)), Bool.and_true, Bool.false_or]
      exact Ev.ret _
theorem id_ (hi : i ≤ t.size) (ht : t.size ≤ 2000000) : ∃ x s, (tok (rest t i) = true → x = num (rest t i) ∧ s = ⟨t, ((i + nlen (rest t i) : Nat) : Int)⟩) ∧ Ev (fun k => impl_reader_id.f k ⟨t, (i : Int)⟩) (x, tok (rest t i), s) := by
  have hw := whole_ hi ht
  cases hr : rest t i with
  | nil =>
    refine ⟨0, ⟨t, (i : Int)⟩, fun h => ?_, Ev.now fun k => ?_⟩
    · obtain ⟨c, r, h, _⟩ := tok_head h; cases h
    · have e : tok [] = false := by
        cases h : tok [] with
        | false => rfl
        | true => obtain ⟨c, r, h, _⟩ := tok_head h; cases h
      simp only [impl_reader_id.f, peek_nil _ hr, Option.bind_some, e]
      rfl
  | cons c r =>
    rw [hr] at hw
    cases hd : isD c with
    | false =>
      have e : tok (c :: r) = false := by
        cases h : tok (c :: r) with
        | false => rfl
        | true =>
          obtain ⟨c', r', h, h'⟩ := tok_head h
          cases h; rw [hd] at h'; cases h'
      refine ⟨0, ⟨t, (i : Int)⟩, (fun h => by rw [e] at h; cases h), Ev.now fun k => ?_⟩
      simp only [impl_reader_id.f, peek_cons _ hr, Option.bind_some, isDigit_, hd, cond_false, e]
    | true =>
      cases hk : nok (c :: r) with
      | false =>
        have e : tok (c :: r) = false := by unfold tok; rw [hk]; rfl
        rw [hk] at hw
        refine ⟨0, ⟨t, ((i + nlen (c :: r) : Nat) : Int)⟩, (fun h => by rw [e] at h; cases h), ?_⟩
        unfold impl_reader_id.f
        simp only [peek_cons _ hr, Option.bind_some, isDigit_, hd, cond_true, e]
        exact Ev.bind hw (Ev.ret _)
      | true =>
        rw [hk] at hw
        refine ⟨num (c :: r), ⟨t, ((i + nlen (c :: r) : Nat) : Int)⟩, fun _ => ⟨rfl, rfl⟩, ?_⟩
        unfold impl_reader_id.f
        simp only [peek_cons _ hr, Option.bind_some, isDigit_, hd, cond_true]
        refine Ev.bind hw ?_
        unfold tok
        simp only [if_true, cond_true, hk, Bool.true_and]
        by_cases h1 : 1 ≤ num (c :: r)
        · simp only [decide_eq_true h1, cond_true, Bool.true_and]; exact Ev.ret _
        · simp only [decide_eq_false h1, cond_false, Bool.false_and]; exact Ev.ret _
theorem thing_i {kind : Int} (hk : (c = 110 ∧ kind = 8) ∨ (c = 101 ∧ kind = 9)) (h : rest t i = c :: r) (ht : t.size ≤ 2000000) : ∃ x s, (tok r = true → x = num r ∧ s = ⟨t, ((i + 1 + nlen r : Nat) : Int)⟩) ∧ Ev (fun k => impl_reader_thing.f k ⟨t, (i : Int)⟩) (⟨kind, x, 0, ⟨#[]⟩, [], []⟩, tok r, s) := by
  have hl := rest_lt h
  have hn := rest_next h
  obtain ⟨x, s, h1, h2⟩ := id_ (t := t) (i := i + 1) (by omega) ht
  rw [hn] at h1 h2
  refine ⟨x, s, h1, Ev.step ?_⟩
  simp only [impl_reader_thing.f, peek_cons _ h, Option.bind_some]
  rcases hk with ⟨rfl, rfl⟩ | ⟨rfl, rfl⟩
  · simp only [show (((110 : UInt8).toNat : Int) == 101) = false from rfl, show (((110 : UInt8).toNat : Int) == 110) = true from rfl, cond_true, cond_false]
    refine Ev.step ?_
    simp only [impl_reader_thing.j0, w1 (i := i) (by omega)]
    exact Ev.bind h2 (Ev.ret _)
  · simp only [show (((101 : UInt8).toNat : Int) == 101) = true from rfl, cond_true]
    refine Ev.step ?_
    simp only [impl_reader_thing.j0, w1 (i := i) (by omega)]
    exact Ev.bind h2 (Ev.ret _)
theorem thing_no (h : ∀ c r, rest t i = c :: r → c ≠ 110 ∧ c ≠ 101) : Ev (fun k => impl_reader_thing.f k ⟨t, (i : Int)⟩) (⟨0, 0, 0, ⟨#[]⟩, [], []⟩, false, ⟨t, (i : Int)⟩) := by
  refine Ev.step ?_
  simp only [impl_reader_thing.f]
  cases hr : rest t i with
  | nil => simp only [peek_nil _ hr, Option.bind_some, show ((0 : Int) == 101) = false from rfl, show ((0 : Int) == 110) = false from rfl, cond_false]; exact Ev.ret _
  | cons c r =>
    obtain ⟨h1, h2⟩ := h c r hr
    have e1 : ((c.toNat : Int) == 110) = false := ceq_no (x := 110) h1
    have e2 : ((c.toNat : Int) == 101) = false := ceq_no (x := 101) h2
    simp only [peek_cons _ hr, Option.bind_some, e1, e2, cond_false]; exact Ev.ret _
/-- A node or an edge, behind its letter and with it. -/
theorem thing_ {kind : Int} (hk : (c = 110 ∧ kind = 8) ∨ (c = 101 ∧ kind = 9)) (h : rest t i = c :: r) (ht : t.size ≤ 2000000) :
    (∃ sv j, i + 1 < j ∧ j ≤ t.size ∧ (sv.f0 = kind ∧ Wf sv) ∧ Ev (fun k => spec_l01Reader_thing.f k kind ⟨t, ((i + 1 : Nat) : Int), false⟩) (sv, ⟨t, (j : Int), false⟩) ∧ Ev (fun k => impl_reader_thing.f k ⟨t, (i : Int)⟩) (toI sv, true, ⟨t, (j : Int)⟩)) ∨
    (∃ sv j iv s, j ≤ t.size ∧ Ev (fun k => spec_l01Reader_thing.f k kind ⟨t, ((i + 1 : Nat) : Int), false⟩) (sv, ⟨t, ((j : Nat) : Int), true⟩) ∧ Ev (fun k => impl_reader_thing.f k ⟨t, (i : Int)⟩) (iv, false, s)) := by
  have hl := rest_lt h
  have hn := rest_next h
  have h1 := thing_s (t := t) (i := i + 1) kind (by omega) ht
  obtain ⟨x, s, h2, h3⟩ := thing_i hk h ht
  have hle := nlen_le r
  have hlen : r.length = t.size - (i + 1) := by rw [← hn, rest_len]
  rw [hn] at h1
  cases htk : tok r with
  | true =>
    obtain ⟨rfl, rfl⟩ := h2 htk
    rw [htk] at h1 h3
    have hp : 0 < nlen r := by
      unfold tok at htk; simp only [Bool.and_eq_true] at htk; exact (nok_pos htk.1.1).1
    exact .inl ⟨_, _, by omega, by omega, ⟨rfl, wf_num (by omega) (by omega) (num_rng r)⟩, h1, by rw [toI_flat]; exact h3⟩
  | false =>
    rw [htk] at h1 h3
    exact .inr ⟨_, _, _, _, by omega, h1, h3⟩
/-! Points -/
theorem value_j0_bad (hi : i ≤ t.size) (ht : t.size ≤ 2000000) (a : Int × S37) : SBad t (fun k => spec_l01Reader_value.j0 k a t (i : Int) true) := by
  have hle := nlen_le (rest t i)
  rw [rest_len] at hle
  refine SBad.step ?_
  simp only [spec_l01Reader_value.j0]
  refine SBad.bind (number_ (b := true) hi ht) ?_
  simp only [Bool.true_or, cond_true, fail_, Option.bind_some]
  exact SBad.ret _ (by omega)
theorem pre_cons (x c : UInt8) (r : List UInt8) : pre ⟨#[x]⟩ (c :: r) = (x == c) := pre1 x c r
theorem len1 (x : UInt8) : (⟨#[x]⟩ : ByteArray).data.toList.length = 1 := rfl
theorem pre_lt {x : UInt8} (h : pre ⟨#[x]⟩ (rest t i) = true) : i + 1 ≤ t.size := by
  have := pre_len h
  rw [rest_len, show (⟨#[x]⟩ : ByteArray).size = 1 from rfl] at this
  omega
/-- What the reference does behind '('. -/
def specPoint (t : ByteArray) (i : Nat) (k : Nat) : Option (S26 × S37) := ((spec_l01Reader_number.f k ⟨t, (i : Int), false⟩).bind fun v12 => (bif v12.2.f2 then (spec_l01Reader_value.j0 k v12 v12.2.f0 v12.2.f1 true) else ((spec_l01Reader_takes.f k (⟨#[32]⟩ : ByteArray) v12.2).bind fun v13 => (spec_l01Reader_value.j0 k v12 v13.2.f0 v13.2.f1 (!v13.1)))))
theorem point_ (h : rest t i = 40 :: r) (ht : t.size ≤ 2000000) : Res t i (specPoint t (i + 1)) (fun k => impl_reader_point.f k ⟨t, (i : Int)⟩) := by
  have hl := rest_lt h
  have hn := rest_next h
  have hs := number_ (t := t) (i := i + 1) (b := false) (by omega) ht
  have hw := whole_ (t := t) (i := i + 1) (by omega) ht
  have hle := nlen_le (rest t (i + 1))
  rw [rest_len] at hle
  unfold specPoint impl_reader_point.f
  simp only [eat_ (t := t) (i := i) _ _ (by omega) ht, h, pre_cons, show ((40 : UInt8) == 40) = true from rfl, if_true, len1, Option.bind_some, cond_true]
  refine Res.sbind hs (Res.ibind hw ?_)
  generalize hj : i + 1 + nlen (rest t (i + 1)) = j at *
  generalize num (rest t (i + 1)) = a at *
  simp only [Bool.false_or]
  cases hk : nok (rest t (i + 1)) with
  | false =>
    simp only [Bool.not_false, cond_true, eat_ (t := t) (i := j) _ _ (by omega) ht, Option.bind_some, cond_false, bif_same]
    exact Res.bad (value_j0_bad (by omega) ht _) (IBad.ret _ _)
  | true =>
    simp only [Bool.not_true, cond_false, cond_true, if_true, eat_ (t := t) (i := j) _ _ (by omega) ht, takes_ (t := t) (i := j) _ _ (by omega) ht, Option.bind_some, len1]
    cases hp : pre ⟨#[32]⟩ (rest t j) with
    | false =>
      simp only [Bool.false_eq_true, if_false, Bool.not_false, cond_false]
      exact Res.bad (value_j0_bad (by omega) ht _) (IBad.ret _ _)
    | true =>
      have hj1 := pre_lt hp
      have hs2 := number_ (t := t) (i := j + 1) (b := false) (by omega) ht
      have hw2 := whole_ (t := t) (i := j + 1) (by omega) ht
      have hle2 := nlen_le (rest t (j + 1))
      rw [rest_len] at hle2
      simp only [if_true, Bool.not_true, cond_true]
      refine Res.sstep ?_
      simp only [spec_l01Reader_value.j0]
      refine Res.sbind hs2 (Res.ibind hw2 ?_)
      generalize hj' : j + 1 + nlen (rest t (j + 1)) = j' at *
      generalize num (rest t (j + 1)) = b at *
      simp only [Bool.false_or]
      cases hk2 : nok (rest t (j + 1)) with
      | false =>
        simp only [Bool.not_false, cond_true, cond_false, fail_, Option.bind_some]
        exact Res.none _ _ _ (by omega)
      | true =>
        simp only [Bool.not_true, cond_false, cond_true, if_true, eat_ (t := t) (i := j') _ _ (by omega) ht, takes_ (t := t) (i := j') _ _ (by omega) ht, Option.bind_some, len1, fail_]
        cases hp2 : pre ⟨#[41]⟩ (rest t j') with
        | false =>
          simp only [Bool.false_eq_true, if_false, cond_false]
          exact Res.none _ _ _ (by omega)
        | true =>
          have hj2 := pre_lt hp2
          simp only [if_true, cond_true]
          by_cases g1 : a < -1000000
          · simp only [decide_eq_true g1, cond_true]; exact Res.none _ _ _ (by omega)
          by_cases g2 : 1000000 < a
          · simp only [decide_eq_false g1, decide_eq_true g2, cond_true, cond_false]; exact Res.none _ _ _ (by omega)
          by_cases g3 : b < -1000000
          · simp only [decide_eq_false g1, decide_eq_false g2, decide_eq_true g3, cond_true, cond_false]; exact Res.none _ _ _ (by omega)
          by_cases g4 : 1000000 < b
          · simp only [decide_eq_false g1, decide_eq_false g2, decide_eq_false g3, decide_eq_true g4, cond_true, cond_false]; exact Res.none _ _ _ (by omega)
          simp only [decide_eq_false g1, decide_eq_false g2, decide_eq_false g3, decide_eq_false g4, cond_false]
          exact Res.ret _ _ (by omega) (by omega) (toI_flat _ _ _ _).symm (wf_flat (by omega) (fun h => by omega) (by omega) (by omega))
/-! Paths -/
def want (n : Nat) : Int := if n % 2 = 1 then 9 else 8
theorem path_l0 (ht : t.size ≤ 2000000) : ∀ (n p : Nat) (items : List S26), t.size - p ≤ n → p ≤ t.size → items.length ≤ p → i < p → (∀ x ∈ items, Wf x) →
    Res t i (fun k => spec_l01Reader_path.l0 k t (p : Int) false items) (fun k => impl_reader_path.l0 k (want items.length) t (p : Int) (items.map toI)) := by
  intro n
  induction n using Nat.strongRecOn with
  | _ n ih =>
    intro p items hn hp hi hip hwf
    refine Res.step ?_
    simp only [spec_l01Reader_path.l0, impl_reader_path.l0, cond_false, rem_ _ 2 (by decide), Option.bind_some]
    have hm : (((items.length : Nat) : Int).tmod 2 == 1) = decide (items.length % 2 = 1) := by
      rw [Int.tmod_eq_emod_of_nonneg (by omega), Bool.eq_iff_iff]; simp; omega
    rw [hm]
    -- the letter that is wanted, and its kind
    have main : ∀ (w : UInt8) (kind : Int), ((w = 110 ∧ kind = 8) ∨ (w = 101 ∧ kind = 9)) → want items.length = kind → want (items.length + 1) = 17 - kind → Res t i (fun k => spec_l01Reader_path.j0 k ⟨#[w]⟩ kind t (p : Int) items) (fun k => ((impl_reader_thing.f k (⟨t, (p : Int)⟩ : S52)).bind fun v8 => (bif v8.2.1 then (bif (v8.1.f0 == want items.length) then ((app (items.map toI) ([v8.1] : List S31)).bind fun v9 => (bif (want items.length == 8) then ((impl_reader_eat.f k (⟨#[62]⟩ : ByteArray) v8.2.2).bind fun v10 => (bif v10.1 then (some ((⟨10, 0, 0, (⟨#[]⟩ : ByteArray), ([] : (List ByteArray)), v9⟩ : S31), true, v10.2)) else ((impl_reader_eat.f k (⟨#[32]⟩ : ByteArray) v10.2).bind fun v11 => (bif v11.1 then (impl_reader_path.l0 k (IntKind.i64.wrap (17 - want items.length)) v11.2.f0 v11.2.f1 v9) else (some ((⟨10, 0, 0, (⟨#[]⟩ : ByteArray), ([] : (List ByteArray)), v9⟩ : S31), false, v11.2)))))) else ((impl_reader_eat.f k (⟨#[32]⟩ : ByteArray) v8.2.2).bind fun v12 => (bif v12.1 then (impl_reader_path.l0 k (IntKind.i64.wrap (17 - want items.length)) v12.2.f0 v12.2.f1 v9) else (some ((⟨10, 0, 0, (⟨#[]⟩ : ByteArray), ([] : (List ByteArray)), v9⟩ : S31), false, v12.2)))))) else (some ((⟨10, 0, 0, (⟨#[]⟩ : ByteArray), ([] : (List ByteArray)), items.map toI⟩ : S31), false, v8.2.2))) else (some ((⟨10, 0, 0, (⟨#[]⟩ : ByteArray), ([] : (List ByteArray)), items.map toI⟩ : S31), false, v8.2.2))))) := by
      intro w kind hk hw hw'
      rw [hw]
      refine Res.sstep ?_
      simp only [spec_l01Reader_path.j0, takes_ (t := t) (i := p) _ _ hp ht, Option.bind_some, len1]
      cases hpre : pre ⟨#[w]⟩ (rest t p) with
      | false =>
        simp only [Bool.false_eq_true, if_false, cond_false, fail_, Option.bind_some]
        -- the program reads something else, or nothing
        refine Res.bad (SBad.ret _ hp) ?_
        by_cases hoth : ∃ c r, rest t p = c :: r ∧ (c = 110 ∨ c = 101)
        · obtain ⟨c, r, hr, hc⟩ := hoth
          have hne : c ≠ w := by
            intro e; subst e; rw [hr, pre_cons] at hpre; simp at hpre
          obtain ⟨k2, hk2, hkk⟩ : ∃ k2 : Int, ((c = 110 ∧ k2 = 8) ∨ (c = 101 ∧ k2 = 9)) ∧ k2 ≠ kind := by
            rcases hc with rfl | rfl
            · rcases hk with ⟨rfl, rfl⟩ | ⟨rfl, rfl⟩
              · exact absurd rfl hne
              · exact ⟨8, .inl ⟨rfl, rfl⟩, by decide⟩
            · rcases hk with ⟨rfl, rfl⟩ | ⟨rfl, rfl⟩
              · exact ⟨9, .inr ⟨rfl, rfl⟩, by decide⟩
              · exact absurd rfl hne
          obtain ⟨x, s, _, h3⟩ := thing_i hk2 hr ht
          refine IBad.bind h3 ?_
          cases tok r with
          | false => simp only [cond_false]; exact IBad.ret _ _
          | true =>
            simp only [cond_true, show (k2 == kind) = false by simpa using hkk, cond_false]
            exact IBad.ret _ _
        · refine IBad.bind (thing_no (fun c r hr => ⟨fun e => hoth ⟨c, r, hr, .inl e⟩, fun e => hoth ⟨c, r, hr, .inr e⟩⟩)) ?_
          simp only [cond_false]
          exact IBad.ret _ _
      | true =>
        have hp1 := pre_lt hpre
        obtain ⟨r, hr⟩ : ∃ r, rest t p = w :: r := by
          cases hr : rest t p with
          | nil => rw [hr, pre0] at hpre; cases hpre
          | cons c r => rw [hr, pre_cons] at hpre; exact ⟨r, by rw [← (by simpa using hpre : w = c)]⟩
        simp only [if_true, cond_true]
        have happ : ∀ sv : S26, app items [sv] = some (items ++ [sv]) := fun sv => app_one _ (by omega)
        have happi : ∀ sv : S31, app (items.map toI) [sv] = some (items.map toI ++ [sv]) := fun sv => app_one _ (by rw [List.length_map]; omega)
        rcases thing_ hk hr ht with ⟨sv, j, h1, h2, h3, h4, h5⟩ | ⟨sv, j, iv, s, h1, h2, h3⟩
        · refine Res.sbind h4 (Res.ibind h5 ?_)
          have hwf2 : ∀ x ∈ items ++ [sv], Wf x := fun x hx => (List.mem_append.1 hx).elim (hwf x) (fun h => List.mem_singleton.1 h ▸ h3.2)
          have ek : (toI sv).f0 = kind := by rw [toI_eq]; exact h3.1
          simp only [happ, happi, Option.bind_some, cond_true, ek, beq_self_eq_true, eat_ (t := t) (i := j) _ _ h2 ht, takes_ (t := t) (i := j) _ _ h2 ht, len1]
          have emap : items.map toI ++ [toI sv] = (items ++ [sv]).map toI := by simp
          have go : pre ⟨#[32]⟩ (rest t j) = true → Res t i (fun k => spec_l01Reader_path.l0 k t ((j + 1 : Nat) : Int) false (items ++ [sv])) (fun k => impl_reader_path.l0 k (IntKind.i64.wrap (17 - kind)) t ((j + 1 : Nat) : Int) (items.map toI ++ [toI sv])) := by
            intro hq
            have hj1 := pre_lt hq
            have := ih (t.size - (j + 1)) (by omega) (j + 1) (items ++ [sv]) (Nat.le_refl _) (by omega) (by simp; omega) (by omega) hwf2
            rw [List.length_append, List.length_singleton, hw'] at this
            rw [emap, show IntKind.i64.wrap (17 - kind) = 17 - kind by rcases hk with ⟨_, rfl⟩ | ⟨_, rfl⟩ <;> rfl]
            exact this
          have space : Res t i (fun k => (bif pre ⟨#[32]⟩ (rest t j) then spec_l01Reader_path.l0 k t (((if pre ⟨#[32]⟩ (rest t j) = true then j + 1 else j : Nat)) : Int) false (items ++ [sv]) else some (({ f0 := -1, f1 := 0, f2 := 0, f3 := ⟨#[]⟩, f4 := [], f5 := [] } : S26), ({ f0 := t, f1 := (((if pre ⟨#[32]⟩ (rest t j) = true then j + 1 else j : Nat)) : Int), f2 := true } : S37))))
              (fun k => (bif pre ⟨#[32]⟩ (rest t j) then impl_reader_path.l0 k (IntKind.i64.wrap (17 - kind)) t (((if pre ⟨#[32]⟩ (rest t j) = true then j + 1 else j : Nat)) : Int) (items.map toI ++ [toI sv]) else some (({ f0 := 10, f1 := 0, f2 := 0, f3 := ⟨#[]⟩, f4 := [], f5 := items.map toI ++ [toI sv] } : S31), false, ({ f0 := t, f1 := (((if pre ⟨#[32]⟩ (rest t j) = true then j + 1 else j : Nat)) : Int) } : S52)))) := by
            cases hq : pre ⟨#[32]⟩ (rest t j) with
            | true => simp only [cond_true, if_true]; exact go hq
            | false => simp only [Bool.false_eq_true, if_false, cond_false]; exact Res.none _ _ _ h2
          cases hk8 : (kind == 8) with
          | false => simp only [cond_false, fail_, Option.bind_some]; exact space
          | true =>
            simp only [cond_true]
            cases hq : pre ⟨#[62]⟩ (rest t j) with
            | true =>
              have hj1 := pre_lt hq
              simp only [if_true, cond_true]
              exact Res.ret _ _ (by omega) (by omega) (by rw [toI_items, emap]) (wf_items (by simp) (by simp; omega) rfl hwf2)
            | false =>
              simp only [Bool.false_eq_true, if_false, cond_false, fail_, eat_ (t := t) (i := j) _ _ h2 ht, takes_ (t := t) (i := j) _ _ h2 ht, len1, Option.bind_some]
              exact space
        · refine Res.sbind h2 (Res.ibind h3 ?_)
          simp only [happ, Option.bind_some, cond_false, takes_bad, fail_, bif_same]
          exact Res.none _ _ _ h1
    by_cases hodd : items.length % 2 = 1
    · simp only [decide_eq_true hodd, cond_true]
      exact main 101 9 (.inr ⟨rfl, rfl⟩) (by unfold want; rw [if_pos hodd]) (by unfold want; rw [if_neg (by omega)]; rfl)
    · simp only [decide_eq_false hodd, cond_false]
      exact main 110 8 (.inl ⟨rfl, rfl⟩) (by unfold want; rw [if_neg hodd]) (by unfold want; rw [if_pos (by omega)]; rfl)
theorem path_ (h : rest t i = 60 :: r) (ht : t.size ≤ 2000000) : Res t i (fun k => spec_l01Reader_path.f k ⟨t, ((i + 1 : Nat) : Int), false⟩) (fun k => impl_reader_path.f k ⟨t, (i : Int)⟩) := by
  have hl := rest_lt h
  refine Res.step ?_
  simp only [spec_l01Reader_path.f, impl_reader_path.f, eat_ (t := t) (i := i) _ _ (by omega) ht, h, pre_cons, show ((60 : UInt8) == 60) = true from rfl, if_true, len1, Option.bind_some, cond_true]
  exact path_l0 ht _ (i + 1) [] (Nat.le_refl _) (by omega) (by simp) (by omega) (fun x h => by simp at h)
end
end Go.Ab
