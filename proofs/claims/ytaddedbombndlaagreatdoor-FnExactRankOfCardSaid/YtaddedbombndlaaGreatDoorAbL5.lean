/- What both readers of values tell, part 5: lists, maps, values. No condition. -/
import Derived.Test.YtaddedbombndlaaGreatDoorAbL1
import Derived.Lib.Bytealg
namespace Go.Ab
open Go.Proofs
set_option linter.unusedVariables false
set_option linter.unusedSimpArgs false
/-! Rising names -/
def risingB : List ByteArray → Bool
 | a :: b :: r => slt a b && risingB (b :: r)
 | _ => true
theorem ix_drop {α : Type} {l r : List α} {p : Nat} {a : α} (h : l.drop p = a :: r) : ix l (p : Int) = some a := by
  unfold ix
  rw [if_pos (by omega)]
  have := congrArg List.head? h
  simpa using this
theorem rising_l0 {N : List ByteArray} (hN : N.length ≤ 2000000) : ∀ (r : List ByteArray) (a : ByteArray) (p : Nat), N.drop p = a :: r → Ev (fun k => spec_l01Rising.l0 k N ((p + 1 : Nat) : Int)) (risingB (a :: r)) := by
  intro r
  induction r with
  | nil =>
    intro a p h
    have hl := congrArg List.length h
    simp at hl
    refine Ev.step ?_
    simp only [spec_l01Rising.l0, show decide (((p + 1 : Nat) : Int) < (N.length : Int)) = false by simp; omega, cond_false]
    exact Ev.ret _
  | cons b r ih =>
    intro a p h
    have hl := congrArg List.length h
    simp at hl
    have hn : N.drop (p + 1) = b :: r := by rw [← List.drop_drop, h]; rfl
    refine Ev.step ?_
    have e : IntKind.i64.wrap (((p + 1 : Nat) : Int) - 1) = (p : Int) := by rw [w64 (by omega) (by omega)]; omega
    simp only [spec_l01Rising.l0, show decide (((p + 1 : Nat) : Int) < (N.length : Int)) = true by simp; omega, cond_true, e, ix_drop h, ix_drop hn, Option.bind_some, w1 (i := p + 1) (by omega), risingB]
    cases hs : slt a b with
    | true => simp only [cond_true, Bool.true_and]; exact ih b (p + 1) hn
    | false => simp only [cond_false, Bool.false_and]; exact Ev.ret _
theorem rising_ {N : List ByteArray} (hN : N.length ≤ 2000000) : Ev (fun k => spec_l01Rising.f k N) (risingB N) := by
  refine Ev.step ?_
  simp only [spec_l01Rising.f]
  cases hr : N with
  | nil =>
    refine Ev.step ?_
    simp only [spec_l01Rising.l0, show decide ((1 : Int) < (([] : List ByteArray).length : Int)) = false from rfl, cond_false]
    exact Ev.ret _
  | cons a r => rw [← hr]; have := rising_l0 hN r a 0 (by rw [hr]; rfl); rw [← hr] at this; exact this
theorem rising_app (s : ByteArray) : ∀ (N : List ByteArray) (x : ByteArray), N.getLast? = some x → risingB (N ++ [s]) = (risingB N && slt x s)
 | [], x, h => by simp at h
 | [a], x, h => by simp at h; subst h; simp [risingB]
 | a :: b :: r, x, h => by
   have := rising_app s (b :: r) x (by simpa using h)
   simp only [List.cons_append, risingB] at this ⊢
   rw [this, Bool.and_assoc]
theorem rising_no {N : List ByteArray} (s : ByteArray) (h : risingB N = false) : risingB (N ++ [s]) = false := by
  cases hl : N.getLast? with
  | none => rw [List.getLast?_eq_none_iff] at hl; subst hl; simp [risingB] at h
  | some x => rw [rising_app s N x hl, h]; rfl
section
variable {t : ByteArray} {i : Nat} {c : UInt8} {r : List UInt8}
theorem Res.ipass {sp : Nat → Option (S101 × S112)} {im : Nat → Option (S106 × Bool × S116)} (h : Res t i sp im) : Res t i sp (fun k => (im k).bind fun v => some (v.1, v.2.1, v.2.2)) := by
  rcases h with ⟨sv, j, h1, h2, hw, h3, h4⟩ | ⟨sv, j, iv, s, h1, h2, h3⟩
  · exact .inl ⟨sv, j, h1, h2, hw, h3, h4.bind (Ev.ret _)⟩
  · exact .inr ⟨sv, j, iv, s, h1, h2, h3.bind (Ev.ret _)⟩
/-- Values of depth d at i. -/
def ValAt (t : ByteArray) (d i : Nat) : Prop := Res t i (fun k => spec_l01Reader_value.f k (d : Int) ⟨t, (i : Int), false⟩) (fun k => impl_reader_value.f k (d : Int) ⟨t, (i : Int)⟩)
theorem list_l0 (ht : t.size ≤ 2000000) {d : Nat} (hd : d < 5) (ihv : ∀ p, i < p → p ≤ t.size → ValAt t (d + 1) p) : ∀ (n p : Nat) (items : List S101), t.size - p ≤ n → p ≤ t.size → items.length ≤ p → i < p → (∀ x ∈ items, Wf x) →
    Res t i (fun k => spec_l01Reader_list.l0 k (d : Int) t (p : Int) false items) (fun k => impl_reader_list.l0 k (d : Int) t (p : Int) (items.map toI)) := by
  intro n
  induction n using Nat.strongRecOn with
  | _ n ih =>
    intro p items hn hp hi hip hwf
    refine Res.step ?_
    simp only [spec_l01Reader_list.l0, impl_reader_list.l0, cond_false, w1 (i := d) (by omega)]
    have happ : ∀ sv : S101, app items [sv] = some (items ++ [sv]) := fun sv => app_one _ (by omega)
    have happi : ∀ sv : S106, app (items.map toI) [sv] = some (items.map toI ++ [sv]) := fun sv => app_one _ (by rw [List.length_map]; omega)
    rcases ihv p hip hp with ⟨sv, j, h1, h2, hw, h3, h4⟩ | ⟨sv, j, iv, s, h1, h2, h3⟩
    · refine Res.sbind h3 (Res.ibind h4 ?_)
      have emap : items.map toI ++ [toI sv] = (items ++ [sv]).map toI := by simp
      have hwf2 : ∀ x ∈ items ++ [sv], Wf x := fun x hx => (List.mem_append.1 hx).elim (hwf x) (fun h => List.mem_singleton.1 h ▸ hw)
      simp only [happ, happi, Option.bind_some, cond_true, eat_ (t := t) (i := j) _ _ h2 ht, takes_ (t := t) (i := j) _ _ h2 ht, len1]
      cases hq : pre ⟨#[93]⟩ (rest t j) with
      | true =>
        have hj1 := pre_lt hq
        simp only [if_true, cond_true]
        exact Res.ret _ _ (by omega) (by omega) (by rw [toI_items, emap]) (wf_items (by simp) (by simp; omega) rfl hwf2)
      | false =>
        simp only [Bool.false_eq_true, if_false, cond_false, fail_, eat_ (t := t) (i := j) _ _ h2 ht, takes_ (t := t) (i := j) _ _ h2 ht, len1, Option.bind_some]
        cases hq2 : pre ⟨#[44]⟩ (rest t j) with
        | true =>
          have hj1 := pre_lt hq2
          simp only [if_true, cond_true]
          rw [emap]
          exact ih (t.size - (j + 1)) (by omega) (j + 1) (items ++ [sv]) (Nat.le_refl _) (by omega) (by simp; omega) (by omega) hwf2
        | false =>
          simp only [Bool.false_eq_true, if_false, cond_false]
          exact Res.none _ _ _ h2
    · refine Res.sbind h2 (Res.ibind h3 ?_)
      simp only [happ, Option.bind_some, cond_false, takes_bad, fail_]
      exact Res.none _ _ _ h1
theorem list_ (h : rest t i = 91 :: r) (ht : t.size ≤ 2000000) {d : Nat} (hd : d < 5) (ihv : ∀ p, i < p → p ≤ t.size → ValAt t (d + 1) p) : Res t i (fun k => spec_l01Reader_list.f k (d : Int) ⟨t, ((i + 1 : Nat) : Int), false⟩) (fun k => impl_reader_list.f k (d : Int) ⟨t, (i : Int)⟩) := by
  have hl := rest_lt h
  refine Res.step ?_
  simp only [spec_l01Reader_list.f, impl_reader_list.f, eat_ (t := t) (i := i) _ _ (by omega) ht, h, pre_cons, show ((91 : UInt8) == 91) = true from rfl, if_true, len1, List.length_cons, List.length_nil, Nat.zero_add, Option.bind_some, cond_true, show ((d : Int) == 5) = false by simp; omega, cond_false, eat_ (t := t) (i := i + 1) _ _ (by omega) ht, takes_ (t := t) (i := i + 1) _ _ (by omega) ht]
  cases hq : pre ⟨#[93]⟩ (rest t (i + 1)) with
  | true =>
    have hj1 := pre_lt hq
    simp only [if_true, cond_true]
    exact Res.ret _ _ (by omega) (by omega) (toI_flat _ _ _ _).symm (wf_text (by omega))
  | false =>
    simp only [Bool.false_eq_true, if_false, cond_false]
    exact list_l0 ht hd ihv _ (i + 1) [] (Nat.le_refl _) (by omega) (by simp) (by omega) (fun x h => by simp at h)
/-- Names that do not rise: the reference tells none in the end. -/
theorem fields_bad (ht : t.size ≤ 2000000) {d : Nat} (hd : d < 5) (ihv : ∀ p, i < p → p ≤ t.size → ValAt t (d + 1) p) : ∀ (n p : Nat) (items : List S101) (names : List ByteArray), t.size - p ≤ n → p ≤ t.size → items.length ≤ p → names.length ≤ p → i < p → risingB names = false →
    SBad t (fun k => spec_l01Reader_fields.l0 k (d : Int) t (p : Int) false items names) := by
  intro n
  induction n using Nat.strongRecOn with
  | _ n ih =>
    intro p items names hn hp hi hnm hip hris
    refine SBad.step ?_
    simp only [spec_l01Reader_fields.l0, cond_false, w1 (i := d) (by omega)]
    have hle := nm_le (rest t p)
    rw [rest_len] at hle
    refine SBad.bind (sname_ (b := false) hp ht) ?_
    simp only [app_one (l := names) _ (by omega), Option.bind_some, Bool.false_or]
    generalize hj : p + (nm (rest t p)).length = j at *
    have hr2 := rising_no (bs (nm (rest t p))) hris
    cases hk : nameOk (nm (rest t p)) with
    | false =>
      simp only [Bool.not_false, takes_bad, Option.bind_some, cond_false, fail_]
      exact SBad.ret _ (by omega)
    | true =>
      simp only [Bool.not_true, takes_ (t := t) (i := j) _ _ (by omega) ht, Option.bind_some, len1, fail_]
      cases hq : pre ⟨#[58]⟩ (rest t j) with
      | false =>
        simp only [Bool.false_eq_true, if_false, cond_false]
        exact SBad.ret _ (by omega)
      | true =>
        have hj1 := pre_lt hq
        simp only [if_true, cond_true]
        rcases ihv (j + 1) (by omega) hj1 with ⟨sv, j', h1, h2, hw, h3, h4⟩ | ⟨sv, j', iv, s, h1, h2, h3⟩
        · refine SBad.bind h3 ?_
          simp only [app_one (l := items) _ (by omega), Option.bind_some, takes_ (t := t) (i := j') _ _ h2 ht, len1]
          cases hq1 : pre ⟨#[125]⟩ (rest t j') with
          | true =>
            have hj2 := pre_lt hq1
            simp only [if_true, cond_true]
            refine SBad.bind (rising_ (by simp; omega)) ?_
            rw [hr2]
            simp only [cond_false]
            exact SBad.ret _ (by omega)
          | false =>
            simp only [Bool.false_eq_true, if_false, cond_false, takes_ (t := t) (i := j') _ _ h2 ht, len1, Option.bind_some]
            cases hq2 : pre ⟨#[44]⟩ (rest t j') with
            | true =>
              have hj2 := pre_lt hq2
              simp only [if_true, cond_true]
              exact ih (t.size - (j' + 1)) (by omega) (j' + 1) _ _ (Nat.le_refl _) (by omega) (by simp; omega) (by simp; omega) (by omega) hr2
            | false =>
              simp only [Bool.false_eq_true, if_false, cond_false]
              exact SBad.ret _ h2
        · refine SBad.bind h2 ?_
          simp only [app_one (l := items) _ (by omega), Option.bind_some, takes_bad, cond_false]
          exact SBad.ret _ h1
theorem fields_l0 (ht : t.size ≤ 2000000) {d : Nat} (hd : d < 5) (ihv : ∀ p, i < p → p ≤ t.size → ValAt t (d + 1) p) : ∀ (n p : Nat) (items : List S101) (names : List ByteArray), t.size - p ≤ n → p ≤ t.size → items.length ≤ p → names.length ≤ p → i < p → risingB names = true → (∀ x ∈ items, Wf x) → names.length = items.length →
    Res t i (fun k => spec_l01Reader_fields.l0 k (d : Int) t (p : Int) false items names) (fun k => impl_reader_fields.l0 k (d : Int) t (p : Int) names (items.map toI)) := by
  intro n
  induction n using Nat.strongRecOn with
  | _ n ih =>
    intro p items names hn hp hi hnm hip hris hwf hnl
    refine Res.step ?_
    simp only [spec_l01Reader_fields.l0, impl_reader_fields.l0, cond_false, w1 (i := d) (by omega)]
    have hle := nm_le (rest t p)
    rw [rest_len] at hle
    refine Res.sbind (sname_ (b := false) hp ht) (Res.ibind (rname_ hp ht) ?_)
    simp only [app_one (l := names) _ (by omega), Option.bind_some, Bool.false_or]
    generalize hj : p + (nm (rest t p)).length = j at *
    cases hk : nameOk (nm (rest t p)) with
    | false =>
      simp only [Bool.not_false, takes_bad, Option.bind_some, cond_false, fail_]
      exact Res.none _ _ _ (by omega)
    | true =>
      generalize hS : bs (nm (rest t p)) = S at *
      simp only [Bool.not_true, cond_true, eat_ (t := t) (i := j) _ _ (by omega) ht, takes_ (t := t) (i := j) _ _ (by omega) ht, Option.bind_some, len1, fail_]
      cases hq : pre ⟨#[58]⟩ (rest t j) with
      | false =>
        simp only [Bool.false_eq_true, if_false, cond_false]
        exact Res.none _ _ _ (by omega)
      | true =>
        have hj1 := pre_lt hq
        simp only [if_true, cond_true]
        have good : risingB (names ++ [S]) = true → ∀ (x : Bool × S116) (y : ByteArray × Bool × S116), x.2 = ⟨t, ((j + 1 : Nat) : Int)⟩ → y.1 = S → Res t i (fun k => ((spec_l01Reader_value.f k ((d + 1 : Nat) : Int) (⟨t, ((j + 1 : Nat) : Int), false⟩ : S112)).bind fun v14 => ((app items ([v14.1] : List S101)).bind fun v15 => ((spec_l01Reader_takes.f k (⟨#[125]⟩ : ByteArray) v14.2).bind fun v16 => (bif v16.1 then ((spec_l01Rising.f k (names ++ [S])).bind fun v17 => (bif v17 then (some ((⟨7, 0, 0, (⟨#[]⟩ : ByteArray), v15, names ++ [S]⟩ : S101), v16.2)) else (some ((⟨-1, 0, 0, ⟨#[]⟩, [], []⟩ : S101), (⟨v16.2.f0, v16.2.f1, true⟩ : S112))))) else ((spec_l01Reader_takes.f k (⟨#[44]⟩ : ByteArray) v16.2).bind fun v19 => (bif v19.1 then (spec_l01Reader_fields.l0 k (d : Int) v19.2.f0 v19.2.f1 v19.2.f2 v15 (names ++ [S])) else (some ((⟨-1, 0, 0, ⟨#[]⟩, [], []⟩ : S101), (⟨v19.2.f0, v19.2.f1, true⟩ : S112)))))))))) (fun k => impl_reader_fields.j0 k (d : Int) y x names (items.map toI)) := by
          intro hr2 x y hx hy
          obtain ⟨x1, x2⟩ := x
          obtain ⟨y1, y2⟩ := y
          simp only at hx hy
          subst hx; subst hy
          refine Res.istep ?_
          simp only [impl_reader_fields.j0, w1 (i := d) (by omega)]
          have happi : ∀ sv : S106, app (items.map toI) [sv] = some (items.map toI ++ [sv]) := fun sv => app_one _ (by rw [List.length_map]; omega)
          rcases ihv (j + 1) (by omega) hj1 with ⟨sv, j', h1, h2, hw, h3, h4⟩ | ⟨sv, j', iv, s, h1, h2, h3⟩
          · refine Res.sbind h3 (Res.ibind h4 ?_)
            have emap : items.map toI ++ [toI sv] = (items ++ [sv]).map toI := by simp
            have hwf2 : ∀ x ∈ items ++ [sv], Wf x := fun x hx => (List.mem_append.1 hx).elim (hwf x) (fun h => List.mem_singleton.1 h ▸ hw)
            have hnl2 : (names ++ [y1]).length = (items ++ [sv]).length := by simp; omega
            simp only [cond_true, app_one (l := items) _ (by omega), app_one (l := names) _ (by omega), happi, Option.bind_some, takes_ (t := t) (i := j') _ _ h2 ht, eat_ (t := t) (i := j') _ _ h2 ht, len1]
            cases hq1 : pre ⟨#[125]⟩ (rest t j') with
            | true =>
              have hj2 := pre_lt hq1
              simp only [if_true, cond_true]
              refine Res.sbind (rising_ (by simp; omega)) ?_
              rw [hr2]
              simp only [cond_true]
              exact Res.ret _ _ (by omega) (by omega) (by rw [toI_items, emap]) (wf_items (by simp) (by simp; omega) hnl2 hwf2)
            | false =>
              simp only [Bool.false_eq_true, if_false, cond_false, takes_ (t := t) (i := j') _ _ h2 ht, eat_ (t := t) (i := j') _ _ h2 ht, len1, Option.bind_some]
              cases hq2 : pre ⟨#[44]⟩ (rest t j') with
              | true =>
                have hj2 := pre_lt hq2
                simp only [if_true, cond_true]
                rw [emap]
                exact ih (t.size - (j' + 1)) (by omega) (j' + 1) _ _ (Nat.le_refl _) (by omega) (by simp; omega) (by simp; omega) (by omega) hr2 hwf2 hnl2
              | false =>
                simp only [Bool.false_eq_true, if_false, cond_false]
                exact Res.none _ _ _ h2
          · refine Res.sbind h2 (Res.ibind h3 ?_)
            simp only [app_one (l := items) _ (by omega), Option.bind_some, takes_bad, cond_false]
            exact Res.none _ _ _ h1
        cases hL : names.getLast? with
        | none =>
          rw [List.getLast?_eq_none_iff] at hL
          subst hL
          simp only [show decide ((0 : Int) < (([] : List ByteArray).length : Int)) = false from rfl, cond_false]
          exact good (by simp [risingB]) _ _ rfl rfl
        | some z =>
          have hlen : 0 < names.length := by
            cases names with
            | nil => simp at hL
            | cons a b => simp
          have hix : ix names (IntKind.i64.wrap ((names.length : Int) - 1)) = some z := by
            rw [w64 (by omega) (by omega), show (names.length : Int) - 1 = ((names.length - 1 : Nat) : Int) by omega]
            unfold ix
            rw [if_pos (by omega), Int.toNat_natCast, ← List.getLast?_eq_getElem?]
            exact hL
          simp only [show decide ((0 : Int) < (names.length : Int)) = true by simp; omega, cond_true, hix, Option.bind_some]
          have hra := rising_app S names z hL
          cases hs : slt z S with
          | true =>
            simp only [cond_true]
            rw [hris, hs] at hra
            exact good hra _ _ rfl rfl
          | false =>
            simp only [cond_false]
            rw [hs, Bool.and_false] at hra
            refine Res.bad ?_ (IBad.ret _ _)
            -- the reference goes on, and tells none
            rcases ihv (j + 1) (by omega) hj1 with ⟨sv, j', h1, h2, hw, h3, h4⟩ | ⟨sv, j', iv, s, h1, h2, h3⟩
            · refine SBad.bind h3 ?_
              simp only [app_one (l := items) _ (by omega), Option.bind_some, takes_ (t := t) (i := j') _ _ h2 ht, len1]
              cases hq1 : pre ⟨#[125]⟩ (rest t j') with
              | true =>
                have hj2 := pre_lt hq1
                simp only [if_true, cond_true]
                refine SBad.bind (rising_ (by simp; omega)) ?_
                rw [hra]
                simp only [cond_false]
                exact SBad.ret _ (by omega)
              | false =>
                simp only [Bool.false_eq_true, if_false, cond_false, takes_ (t := t) (i := j') _ _ h2 ht, len1, Option.bind_some]
                cases hq2 : pre ⟨#[44]⟩ (rest t j') with
                | true =>
                  have hj2 := pre_lt hq2
                  simp only [if_true, cond_true]
                  exact fields_bad (i := i) ht hd ihv _ (j' + 1) _ _ (Nat.le_refl _) (by omega) (by simp; omega) (by simp; omega) (by omega) hra
                | false =>
                  simp only [Bool.false_eq_true, if_false, cond_false]
                  exact SBad.ret _ h2
            · refine SBad.bind h2 ?_
              simp only [app_one (l := items) _ (by omega), Option.bind_some, takes_bad, cond_false]
              exact SBad.ret _ h1
theorem fields_ (h : rest t i = 123 :: r) (ht : t.size ≤ 2000000) {d : Nat} (hd : d < 5) (ihv : ∀ p, i < p → p ≤ t.size → ValAt t (d + 1) p) : Res t i (fun k => spec_l01Reader_fields.f k (d : Int) ⟨t, ((i + 1 : Nat) : Int), false⟩) (fun k => impl_reader_fields.f k (d : Int) ⟨t, (i : Int)⟩) := by
  have hl := rest_lt h
  refine Res.step ?_
  simp only [spec_l01Reader_fields.f, impl_reader_fields.f, eat_ (t := t) (i := i) _ _ (by omega) ht, h, pre_cons, show ((123 : UInt8) == 123) = true from rfl, if_true, len1, List.length_cons, List.length_nil, Nat.zero_add, Option.bind_some, cond_true, show ((d : Int) == 5) = false by simp; omega, cond_false, eat_ (t := t) (i := i + 1) _ _ (by omega) ht, takes_ (t := t) (i := i + 1) _ _ (by omega) ht]
  cases hq : pre ⟨#[125]⟩ (rest t (i + 1)) with
  | true =>
    have hj1 := pre_lt hq
    simp only [if_true, cond_true]
    exact Res.ret _ _ (by omega) (by omega) (toI_flat _ _ _ _).symm (wf_text (by omega))
  | false =>
    simp only [Bool.false_eq_true, if_false, cond_false]
    exact fields_l0 ht hd ihv _ (i + 1) [] [] (Nat.le_refl _) (by omega) (by simp) (by simp) (by omega) rfl (fun x h => by simp at h) rfl
/-! Values -/
theorem nok_no {l : List UInt8} (h : ∀ c r, l = c :: r → c ≠ 45 ∧ isD c = false) : nok l = false := by
  cases hk : nok l with
  | false => rfl
  | true =>
    have hp := (nok_pos hk).1
    cases l with
    | nil => simp [nlen, dgs, sgn] at hp
    | cons c r =>
      obtain ⟨h1, h2⟩ := h c r rfl
      have hs : sgn (c :: r) = false := by
        unfold sgn; simp; intro e; exact h1 (UInt8.toNat_inj.1 e)
      unfold nlen dgs at hp
      rw [hs] at hp
      simp [h2] at hp
theorem pre_hd {x c : UInt8} (l r : List UInt8) (h : c ≠ x) : pre ⟨(x :: l).toArray⟩ (c :: r) = false := by
  unfold pre
  simp [List.isPrefixOf]
  intro e; exact absurd e.symm h
theorem value_j1 (hi : i ≤ t.size) (ht : t.size ≤ 2000000) (d : Nat) (h : d < 5 → pre ⟨#[123]⟩ (rest t i) = false) : Ev (fun k => spec_l01Reader_value.j1 k (d : Int) t (i : Int) false) (⟨2, num (rest t i), 0, ⟨#[]⟩, [], []⟩, ⟨t, ((i + nlen (rest t i) : Nat) : Int), !nok (rest t i)⟩) := by
  refine Ev.step ?_
  simp only [spec_l01Reader_value.j1]
  by_cases hd : d < 5
  · simp only [show decide ((d : Int) < 5) = true by simp; omega, cond_true, takes_ (t := t) (i := i) _ _ hi ht, h hd, Option.bind_some, Bool.false_eq_true, if_false, cond_false]
    exact Ev.bind (number_ (b := false) hi ht) (Ev.ret _)
  · simp only [show decide ((d : Int) < 5) = false by simp; omega, cond_false]
    exact Ev.bind (number_ (b := false) hi ht) (Ev.ret _)
theorem value_step (ht : t.size ≤ 2000000) (hi : i ≤ t.size) {d : Nat} (hd : d ≤ 5) (ihv : d < 5 → ∀ p, i < p → p ≤ t.size → ValAt t (d + 1) p) : ValAt t d i := by
  unfold ValAt
  refine Res.step ?_
  cases h : rest t i with
  | nil =>
    simp only [spec_l01Reader_value.f, impl_reader_value.f, le_nil h, peek_nil _ h, eat_ (t := t) (i := i) _ _ hi ht, h, show ∀ k, impl_isDigit.f k 0 = some false from fun _ => rfl, show pre (⟨#[110, 117, 108, 108]⟩ : ByteArray) [] = false from rfl, show pre (⟨#[116, 114, 117, 101]⟩ : ByteArray) [] = false from rfl, show pre (⟨#[102, 97, 108, 115, 101]⟩ : ByteArray) [] = false from rfl, show ((0 : Int) == 34) = false from rfl, show ((0 : Int) == 64) = false from rfl, show ((0 : Int) == 45) = false from rfl, show ((0 : Int) == 40) = false from rfl, show ((0 : Int) == 91) = false from rfl, show ((0 : Int) == 123) = false from rfl, show ((0 : Int) == 60) = false from rfl, show ((0 : Int) == 110) = false from rfl, show ((0 : Int) == 101) = false from rfl, fail_, Option.bind_some, cond_true, cond_false, Bool.false_eq_true, if_true, if_false, len1, List.length_cons, List.length_nil, Nat.zero_add, Nat.reduceAdd]
    exact Res.none _ _ _ hi
  | cons c r =>
    have hl := rest_lt h
    have hn := rest_next h
    have hle := nlen_le (c :: r)
    have hlen : (c :: r).length = t.size - i := by rw [← h, rest_len]
    have numbad : (c ≠ 45 ∧ isD c = false) → nok (rest t i) = false := fun hc => nok_no (fun c' r' e => by rw [h] at e; cases e; exact hc)
    have dlt : decide ((d : Int) < 5) = decide (d < 5) := by congr 1; simp; omega
    by_cases hc34 : c = 34
    · subst hc34
      simp only [spec_l01Reader_value.f, impl_reader_value.f, le_cons h, peek_cons _ h, isDigit_, takes_ (t := t) (i := i) _ _ (Nat.le_of_lt hl) ht, eat_ (t := t) (i := i) _ _ (Nat.le_of_lt hl) ht, h, Option.bind_some, cond_true, cond_false, Bool.false_eq_true, if_true, if_false, len1, List.length_cons, List.length_nil, Nat.zero_add, Nat.reduceAdd, show pre (⟨#[110, 117, 108, 108]⟩ : ByteArray) (34 :: r) = false from rfl, show pre (⟨#[116, 114, 117, 101]⟩ : ByteArray) (34 :: r) = false from rfl, show pre (⟨#[102, 97, 108, 115, 101]⟩ : ByteArray) (34 :: r) = false from rfl, show pre (⟨#[34]⟩ : ByteArray) (34 :: r) = true from rfl, show pre (⟨#[64]⟩ : ByteArray) (34 :: r) = false from rfl, show pre (⟨#[40]⟩ : ByteArray) (34 :: r) = false from rfl, show pre (⟨#[110]⟩ : ByteArray) (34 :: r) = false from rfl, show pre (⟨#[101]⟩ : ByteArray) (34 :: r) = false from rfl, show pre (⟨#[60]⟩ : ByteArray) (34 :: r) = false from rfl, show pre (⟨#[91]⟩ : ByteArray) (34 :: r) = false from rfl, show pre (⟨#[123]⟩ : ByteArray) (34 :: r) = false from rfl, show (((34 : UInt8).toNat : Int) == 34) = true from rfl, show (((34 : UInt8).toNat : Int) == 64) = false from rfl, show (((34 : UInt8).toNat : Int) == 45) = false from rfl, show (((34 : UInt8).toNat : Int) == 40) = false from rfl, show (((34 : UInt8).toNat : Int) == 91) = false from rfl, show (((34 : UInt8).toNat : Int) == 123) = false from rfl, show (((34 : UInt8).toNat : Int) == 60) = false from rfl, show (((34 : UInt8).toNat : Int) == 110) = false from rfl, show (((34 : UInt8).toNat : Int) == 101) = false from rfl, show isD 34 = false from rfl]
      rcases quoted_ (t := t) (i := i + 1) (b := false) ht (by omega) with ⟨s, j, h1, h2, h3, h4⟩ | ⟨j, x, s, h1, h2, h3⟩
      · refine Res.sbind h3 (Res.ibind (a := (bs s, true, ⟨t, (j : Int)⟩)) (Ev.step ?_) ?_)
        · simp only [impl_reader_quoted.f, eat_ (t := t) (i := i) _ _ hi ht, h, pre_cons, show ((34 : UInt8) == 34) = true from rfl, if_true, len1, Option.bind_some, cond_true]
          exact h4
        · exact Res.ret _ _ h2 (by omega) (toI_flat _ _ _ _).symm (wf_txt _)
      · refine Res.sbind h2 (Res.ibind (a := (x, false, s)) (Ev.step ?_) ?_)
        · simp only [impl_reader_quoted.f, eat_ (t := t) (i := i) _ _ hi ht, h, pre_cons, show ((34 : UInt8) == 34) = true from rfl, if_true, len1, Option.bind_some, cond_true]
          exact h3
        · exact Res.none _ _ _ h1
    by_cases hc64 : c = 64
    · subst hc64
      simp only [spec_l01Reader_value.f, impl_reader_value.f, le_cons h, peek_cons _ h, isDigit_, takes_ (t := t) (i := i) _ _ (Nat.le_of_lt hl) ht, eat_ (t := t) (i := i) _ _ (Nat.le_of_lt hl) ht, h, Option.bind_some, cond_true, cond_false, Bool.false_eq_true, if_true, if_false, len1, List.length_cons, List.length_nil, Nat.zero_add, Nat.reduceAdd, show pre (⟨#[110, 117, 108, 108]⟩ : ByteArray) (64 :: r) = false from rfl, show pre (⟨#[116, 114, 117, 101]⟩ : ByteArray) (64 :: r) = false from rfl, show pre (⟨#[102, 97, 108, 115, 101]⟩ : ByteArray) (64 :: r) = false from rfl, show pre (⟨#[34]⟩ : ByteArray) (64 :: r) = false from rfl, show pre (⟨#[64]⟩ : ByteArray) (64 :: r) = true from rfl, show pre (⟨#[40]⟩ : ByteArray) (64 :: r) = false from rfl, show pre (⟨#[110]⟩ : ByteArray) (64 :: r) = false from rfl, show pre (⟨#[101]⟩ : ByteArray) (64 :: r) = false from rfl, show pre (⟨#[60]⟩ : ByteArray) (64 :: r) = false from rfl, show pre (⟨#[91]⟩ : ByteArray) (64 :: r) = false from rfl, show pre (⟨#[123]⟩ : ByteArray) (64 :: r) = false from rfl, show (((64 : UInt8).toNat : Int) == 34) = false from rfl, show (((64 : UInt8).toNat : Int) == 64) = true from rfl, show (((64 : UInt8).toNat : Int) == 45) = false from rfl, show (((64 : UInt8).toNat : Int) == 40) = false from rfl, show (((64 : UInt8).toNat : Int) == 91) = false from rfl, show (((64 : UInt8).toNat : Int) == 123) = false from rfl, show (((64 : UInt8).toNat : Int) == 60) = false from rfl, show (((64 : UInt8).toNat : Int) == 110) = false from rfl, show (((64 : UInt8).toNat : Int) == 101) = false from rfl, show isD 64 = false from rfl]
      rcases date_ ht h with ⟨n, h1, hnr, h2, h3⟩ | ⟨⟨sv, j, hj, h2⟩, x, s, h3⟩
      · exact Res.sbind h2 (Res.ibind h3 (Res.ret _ _ h1 (by omega) (toI_flat _ _ _ _).symm (wf_num (by omega) (by omega) hnr)))
      · exact Res.sbind h2 (Res.ibind h3 (Res.none _ _ _ hj))
    by_cases hc40 : c = 40
    · subst hc40
      simp only [spec_l01Reader_value.f, impl_reader_value.f, le_cons h, peek_cons _ h, isDigit_, takes_ (t := t) (i := i) _ _ (Nat.le_of_lt hl) ht, eat_ (t := t) (i := i) _ _ (Nat.le_of_lt hl) ht, h, Option.bind_some, cond_true, cond_false, Bool.false_eq_true, if_true, if_false, len1, List.length_cons, List.length_nil, Nat.zero_add, Nat.reduceAdd, show pre (⟨#[110, 117, 108, 108]⟩ : ByteArray) (40 :: r) = false from rfl, show pre (⟨#[116, 114, 117, 101]⟩ : ByteArray) (40 :: r) = false from rfl, show pre (⟨#[102, 97, 108, 115, 101]⟩ : ByteArray) (40 :: r) = false from rfl, show pre (⟨#[34]⟩ : ByteArray) (40 :: r) = false from rfl, show pre (⟨#[64]⟩ : ByteArray) (40 :: r) = false from rfl, show pre (⟨#[40]⟩ : ByteArray) (40 :: r) = true from rfl, show pre (⟨#[110]⟩ : ByteArray) (40 :: r) = false from rfl, show pre (⟨#[101]⟩ : ByteArray) (40 :: r) = false from rfl, show pre (⟨#[60]⟩ : ByteArray) (40 :: r) = false from rfl, show pre (⟨#[91]⟩ : ByteArray) (40 :: r) = false from rfl, show pre (⟨#[123]⟩ : ByteArray) (40 :: r) = false from rfl, show (((40 : UInt8).toNat : Int) == 34) = false from rfl, show (((40 : UInt8).toNat : Int) == 64) = false from rfl, show (((40 : UInt8).toNat : Int) == 45) = false from rfl, show (((40 : UInt8).toNat : Int) == 40) = true from rfl, show (((40 : UInt8).toNat : Int) == 91) = false from rfl, show (((40 : UInt8).toNat : Int) == 123) = false from rfl, show (((40 : UInt8).toNat : Int) == 60) = false from rfl, show (((40 : UInt8).toNat : Int) == 110) = false from rfl, show (((40 : UInt8).toNat : Int) == 101) = false from rfl, show isD 40 = false from rfl]
      exact (point_ h ht).ipass
    by_cases hc110 : c = 110
    · subst hc110
      cases hw : pre (⟨#[110, 117, 108, 108]⟩ : ByteArray) (110 :: r) with
      | true =>
        have hp := pre_len hw
        rw [hlen, show (⟨#[110, 117, 108, 108]⟩ : ByteArray).size = 4 from rfl] at hp
        simp only [spec_l01Reader_value.f, impl_reader_value.f, le_cons h, peek_cons _ h, isDigit_, takes_ (t := t) (i := i) _ _ (Nat.le_of_lt hl) ht, eat_ (t := t) (i := i) _ _ (Nat.le_of_lt hl) ht, h, hw, Option.bind_some, cond_true, cond_false, Bool.false_eq_true, if_true, if_false, len1, List.length_cons, List.length_nil, Nat.zero_add, Nat.reduceAdd, show pre (⟨#[116, 114, 117, 101]⟩ : ByteArray) (110 :: r) = false from rfl, show pre (⟨#[102, 97, 108, 115, 101]⟩ : ByteArray) (110 :: r) = false from rfl, show pre (⟨#[34]⟩ : ByteArray) (110 :: r) = false from rfl, show pre (⟨#[64]⟩ : ByteArray) (110 :: r) = false from rfl, show pre (⟨#[40]⟩ : ByteArray) (110 :: r) = false from rfl, show pre (⟨#[110]⟩ : ByteArray) (110 :: r) = true from rfl, show pre (⟨#[101]⟩ : ByteArray) (110 :: r) = false from rfl, show pre (⟨#[60]⟩ : ByteArray) (110 :: r) = false from rfl, show pre (⟨#[91]⟩ : ByteArray) (110 :: r) = false from rfl, show pre (⟨#[123]⟩ : ByteArray) (110 :: r) = false from rfl, show (((110 : UInt8).toNat : Int) == 34) = false from rfl, show (((110 : UInt8).toNat : Int) == 64) = false from rfl, show (((110 : UInt8).toNat : Int) == 45) = false from rfl, show (((110 : UInt8).toNat : Int) == 40) = false from rfl, show (((110 : UInt8).toNat : Int) == 91) = false from rfl, show (((110 : UInt8).toNat : Int) == 123) = false from rfl, show (((110 : UInt8).toNat : Int) == 60) = false from rfl, show (((110 : UInt8).toNat : Int) == 110) = true from rfl, show (((110 : UInt8).toNat : Int) == 101) = false from rfl, show isD 110 = false from rfl]
        exact Res.ret _ _ (show i + 4 ≤ t.size by omega) (by omega) (toI_flat _ _ _ _).symm (wf_text (by omega))
      | false =>
        simp only [spec_l01Reader_value.f, impl_reader_value.f, le_cons h, peek_cons _ h, isDigit_, takes_ (t := t) (i := i) _ _ (Nat.le_of_lt hl) ht, eat_ (t := t) (i := i) _ _ (Nat.le_of_lt hl) ht, h, hw, Option.bind_some, cond_true, cond_false, Bool.false_eq_true, if_true, if_false, len1, List.length_cons, List.length_nil, Nat.zero_add, Nat.reduceAdd, show pre (⟨#[116, 114, 117, 101]⟩ : ByteArray) (110 :: r) = false from rfl, show pre (⟨#[102, 97, 108, 115, 101]⟩ : ByteArray) (110 :: r) = false from rfl, show pre (⟨#[34]⟩ : ByteArray) (110 :: r) = false from rfl, show pre (⟨#[64]⟩ : ByteArray) (110 :: r) = false from rfl, show pre (⟨#[40]⟩ : ByteArray) (110 :: r) = false from rfl, show pre (⟨#[110]⟩ : ByteArray) (110 :: r) = true from rfl, show pre (⟨#[101]⟩ : ByteArray) (110 :: r) = false from rfl, show pre (⟨#[60]⟩ : ByteArray) (110 :: r) = false from rfl, show pre (⟨#[91]⟩ : ByteArray) (110 :: r) = false from rfl, show pre (⟨#[123]⟩ : ByteArray) (110 :: r) = false from rfl, show (((110 : UInt8).toNat : Int) == 34) = false from rfl, show (((110 : UInt8).toNat : Int) == 64) = false from rfl, show (((110 : UInt8).toNat : Int) == 45) = false from rfl, show (((110 : UInt8).toNat : Int) == 40) = false from rfl, show (((110 : UInt8).toNat : Int) == 91) = false from rfl, show (((110 : UInt8).toNat : Int) == 123) = false from rfl, show (((110 : UInt8).toNat : Int) == 60) = false from rfl, show (((110 : UInt8).toNat : Int) == 110) = true from rfl, show (((110 : UInt8).toNat : Int) == 101) = false from rfl, show isD 110 = false from rfl]
        rcases thing_ (kind := 8) (.inl ⟨rfl, rfl⟩) h ht with ⟨sv, j, h1, h2, ⟨h3, hw3⟩, h4, h5⟩ | ⟨sv, j, iv, s, h1, h2, h3⟩
        · exact Res.sbind h4 (Res.ibind h5 (Res.ret _ _ h2 (by omega) rfl hw3))
        · exact Res.sbind h2 (Res.ibind h3 (Res.none _ _ _ h1))
    by_cases hc101 : c = 101
    · subst hc101
      simp only [spec_l01Reader_value.f, impl_reader_value.f, le_cons h, peek_cons _ h, isDigit_, takes_ (t := t) (i := i) _ _ (Nat.le_of_lt hl) ht, eat_ (t := t) (i := i) _ _ (Nat.le_of_lt hl) ht, h, Option.bind_some, cond_true, cond_false, Bool.false_eq_true, if_true, if_false, len1, List.length_cons, List.length_nil, Nat.zero_add, Nat.reduceAdd, show pre (⟨#[110, 117, 108, 108]⟩ : ByteArray) (101 :: r) = false from rfl, show pre (⟨#[116, 114, 117, 101]⟩ : ByteArray) (101 :: r) = false from rfl, show pre (⟨#[102, 97, 108, 115, 101]⟩ : ByteArray) (101 :: r) = false from rfl, show pre (⟨#[34]⟩ : ByteArray) (101 :: r) = false from rfl, show pre (⟨#[64]⟩ : ByteArray) (101 :: r) = false from rfl, show pre (⟨#[40]⟩ : ByteArray) (101 :: r) = false from rfl, show pre (⟨#[110]⟩ : ByteArray) (101 :: r) = false from rfl, show pre (⟨#[101]⟩ : ByteArray) (101 :: r) = true from rfl, show pre (⟨#[60]⟩ : ByteArray) (101 :: r) = false from rfl, show pre (⟨#[91]⟩ : ByteArray) (101 :: r) = false from rfl, show pre (⟨#[123]⟩ : ByteArray) (101 :: r) = false from rfl, show (((101 : UInt8).toNat : Int) == 34) = false from rfl, show (((101 : UInt8).toNat : Int) == 64) = false from rfl, show (((101 : UInt8).toNat : Int) == 45) = false from rfl, show (((101 : UInt8).toNat : Int) == 40) = false from rfl, show (((101 : UInt8).toNat : Int) == 91) = false from rfl, show (((101 : UInt8).toNat : Int) == 123) = false from rfl, show (((101 : UInt8).toNat : Int) == 60) = false from rfl, show (((101 : UInt8).toNat : Int) == 110) = false from rfl, show (((101 : UInt8).toNat : Int) == 101) = true from rfl, show isD 101 = false from rfl]
      rcases thing_ (kind := 9) (.inr ⟨rfl, rfl⟩) h ht with ⟨sv, j, h1, h2, ⟨h3, hw3⟩, h4, h5⟩ | ⟨sv, j, iv, s, h1, h2, h3⟩
      · exact Res.sbind h4 (Res.ibind h5 (Res.ret _ _ h2 (by omega) rfl hw3))
      · exact Res.sbind h2 (Res.ibind h3 (Res.none _ _ _ h1))
    by_cases hc60 : c = 60
    · subst hc60
      simp only [spec_l01Reader_value.f, impl_reader_value.f, le_cons h, peek_cons _ h, isDigit_, takes_ (t := t) (i := i) _ _ (Nat.le_of_lt hl) ht, eat_ (t := t) (i := i) _ _ (Nat.le_of_lt hl) ht, h, Option.bind_some, cond_true, cond_false, Bool.false_eq_true, if_true, if_false, len1, List.length_cons, List.length_nil, Nat.zero_add, Nat.reduceAdd, show pre (⟨#[110, 117, 108, 108]⟩ : ByteArray) (60 :: r) = false from rfl, show pre (⟨#[116, 114, 117, 101]⟩ : ByteArray) (60 :: r) = false from rfl, show pre (⟨#[102, 97, 108, 115, 101]⟩ : ByteArray) (60 :: r) = false from rfl, show pre (⟨#[34]⟩ : ByteArray) (60 :: r) = false from rfl, show pre (⟨#[64]⟩ : ByteArray) (60 :: r) = false from rfl, show pre (⟨#[40]⟩ : ByteArray) (60 :: r) = false from rfl, show pre (⟨#[110]⟩ : ByteArray) (60 :: r) = false from rfl, show pre (⟨#[101]⟩ : ByteArray) (60 :: r) = false from rfl, show pre (⟨#[60]⟩ : ByteArray) (60 :: r) = true from rfl, show pre (⟨#[91]⟩ : ByteArray) (60 :: r) = false from rfl, show pre (⟨#[123]⟩ : ByteArray) (60 :: r) = false from rfl, show (((60 : UInt8).toNat : Int) == 34) = false from rfl, show (((60 : UInt8).toNat : Int) == 64) = false from rfl, show (((60 : UInt8).toNat : Int) == 45) = false from rfl, show (((60 : UInt8).toNat : Int) == 40) = false from rfl, show (((60 : UInt8).toNat : Int) == 91) = false from rfl, show (((60 : UInt8).toNat : Int) == 123) = false from rfl, show (((60 : UInt8).toNat : Int) == 60) = true from rfl, show (((60 : UInt8).toNat : Int) == 110) = false from rfl, show (((60 : UInt8).toNat : Int) == 101) = false from rfl, show isD 60 = false from rfl]
      exact (path_ h ht).pass
    by_cases hc91 : c = 91
    · subst hc91
      by_cases hd5 : d < 5
      · simp only [spec_l01Reader_value.f, impl_reader_value.f, le_cons h, peek_cons _ h, isDigit_, takes_ (t := t) (i := i) _ _ (Nat.le_of_lt hl) ht, eat_ (t := t) (i := i) _ _ (Nat.le_of_lt hl) ht, h, Option.bind_some, cond_true, cond_false, Bool.false_eq_true, if_true, if_false, len1, List.length_cons, List.length_nil, Nat.zero_add, Nat.reduceAdd, show pre (⟨#[110, 117, 108, 108]⟩ : ByteArray) (91 :: r) = false from rfl, show pre (⟨#[116, 114, 117, 101]⟩ : ByteArray) (91 :: r) = false from rfl, show pre (⟨#[102, 97, 108, 115, 101]⟩ : ByteArray) (91 :: r) = false from rfl, show pre (⟨#[34]⟩ : ByteArray) (91 :: r) = false from rfl, show pre (⟨#[64]⟩ : ByteArray) (91 :: r) = false from rfl, show pre (⟨#[40]⟩ : ByteArray) (91 :: r) = false from rfl, show pre (⟨#[110]⟩ : ByteArray) (91 :: r) = false from rfl, show pre (⟨#[101]⟩ : ByteArray) (91 :: r) = false from rfl, show pre (⟨#[60]⟩ : ByteArray) (91 :: r) = false from rfl, show pre (⟨#[91]⟩ : ByteArray) (91 :: r) = true from rfl, show pre (⟨#[123]⟩ : ByteArray) (91 :: r) = false from rfl, show (((91 : UInt8).toNat : Int) == 34) = false from rfl, show (((91 : UInt8).toNat : Int) == 64) = false from rfl, show (((91 : UInt8).toNat : Int) == 45) = false from rfl, show (((91 : UInt8).toNat : Int) == 40) = false from rfl, show (((91 : UInt8).toNat : Int) == 91) = true from rfl, show (((91 : UInt8).toNat : Int) == 123) = false from rfl, show (((91 : UInt8).toNat : Int) == 60) = false from rfl, show (((91 : UInt8).toNat : Int) == 110) = false from rfl, show (((91 : UInt8).toNat : Int) == 101) = false from rfl, show isD 91 = false from rfl, dlt, decide_eq_true hd5]
        exact (list_ h ht hd5 (ihv hd5)).pass
      · obtain rfl : d = 5 := by omega
        simp only [spec_l01Reader_value.f, impl_reader_value.f, le_cons h, peek_cons _ h, isDigit_, takes_ (t := t) (i := i) _ _ (Nat.le_of_lt hl) ht, eat_ (t := t) (i := i) _ _ (Nat.le_of_lt hl) ht, h, Option.bind_some, cond_true, cond_false, Bool.false_eq_true, if_true, if_false, len1, List.length_cons, List.length_nil, Nat.zero_add, Nat.reduceAdd, show pre (⟨#[110, 117, 108, 108]⟩ : ByteArray) (91 :: r) = false from rfl, show pre (⟨#[116, 114, 117, 101]⟩ : ByteArray) (91 :: r) = false from rfl, show pre (⟨#[102, 97, 108, 115, 101]⟩ : ByteArray) (91 :: r) = false from rfl, show pre (⟨#[34]⟩ : ByteArray) (91 :: r) = false from rfl, show pre (⟨#[64]⟩ : ByteArray) (91 :: r) = false from rfl, show pre (⟨#[40]⟩ : ByteArray) (91 :: r) = false from rfl, show pre (⟨#[110]⟩ : ByteArray) (91 :: r) = false from rfl, show pre (⟨#[101]⟩ : ByteArray) (91 :: r) = false from rfl, show pre (⟨#[60]⟩ : ByteArray) (91 :: r) = false from rfl, show pre (⟨#[91]⟩ : ByteArray) (91 :: r) = true from rfl, show pre (⟨#[123]⟩ : ByteArray) (91 :: r) = false from rfl, show (((91 : UInt8).toNat : Int) == 34) = false from rfl, show (((91 : UInt8).toNat : Int) == 64) = false from rfl, show (((91 : UInt8).toNat : Int) == 45) = false from rfl, show (((91 : UInt8).toNat : Int) == 40) = false from rfl, show (((91 : UInt8).toNat : Int) == 91) = true from rfl, show (((91 : UInt8).toNat : Int) == 123) = false from rfl, show (((91 : UInt8).toNat : Int) == 60) = false from rfl, show (((91 : UInt8).toNat : Int) == 110) = false from rfl, show (((91 : UInt8).toNat : Int) == 101) = false from rfl, show isD 91 = false from rfl, dlt, show decide (5 < 5) = false from rfl]
        have hj := value_j1 hi ht 5 (fun h => absurd h (by omega))
        rw [numbad ⟨by decide, rfl⟩, h] at hj
        refine Res.bad ⟨_, _, ?_, hj⟩ (IBad.bind (a := (⟨6, 0, 0, ⟨#[]⟩, [], []⟩, false, ⟨t, ((i + 1 : Nat) : Int)⟩)) (Ev.step ?_) (IBad.ret _ _))
        · omega
        · simp only [impl_reader_list.f, eat_ (t := t) (i := i) _ _ hi ht, h, pre_cons, show ((91 : UInt8) == 91) = true from rfl, if_true, len1, Option.bind_some, cond_true, show (((5 : Nat) : Int) == 5) = true from rfl]
          exact Ev.ret _
    by_cases hc123 : c = 123
    · subst hc123
      by_cases hd5 : d < 5
      · simp only [spec_l01Reader_value.f, impl_reader_value.f, le_cons h, peek_cons _ h, isDigit_, takes_ (t := t) (i := i) _ _ (Nat.le_of_lt hl) ht, eat_ (t := t) (i := i) _ _ (Nat.le_of_lt hl) ht, h, Option.bind_some, cond_true, cond_false, Bool.false_eq_true, if_true, if_false, len1, List.length_cons, List.length_nil, Nat.zero_add, Nat.reduceAdd, show pre (⟨#[110, 117, 108, 108]⟩ : ByteArray) (123 :: r) = false from rfl, show pre (⟨#[116, 114, 117, 101]⟩ : ByteArray) (123 :: r) = false from rfl, show pre (⟨#[102, 97, 108, 115, 101]⟩ : ByteArray) (123 :: r) = false from rfl, show pre (⟨#[34]⟩ : ByteArray) (123 :: r) = false from rfl, show pre (⟨#[64]⟩ : ByteArray) (123 :: r) = false from rfl, show pre (⟨#[40]⟩ : ByteArray) (123 :: r) = false from rfl, show pre (⟨#[110]⟩ : ByteArray) (123 :: r) = false from rfl, show pre (⟨#[101]⟩ : ByteArray) (123 :: r) = false from rfl, show pre (⟨#[60]⟩ : ByteArray) (123 :: r) = false from rfl, show pre (⟨#[91]⟩ : ByteArray) (123 :: r) = false from rfl, show pre (⟨#[123]⟩ : ByteArray) (123 :: r) = true from rfl, show (((123 : UInt8).toNat : Int) == 34) = false from rfl, show (((123 : UInt8).toNat : Int) == 64) = false from rfl, show (((123 : UInt8).toNat : Int) == 45) = false from rfl, show (((123 : UInt8).toNat : Int) == 40) = false from rfl, show (((123 : UInt8).toNat : Int) == 91) = false from rfl, show (((123 : UInt8).toNat : Int) == 123) = true from rfl, show (((123 : UInt8).toNat : Int) == 60) = false from rfl, show (((123 : UInt8).toNat : Int) == 110) = false from rfl, show (((123 : UInt8).toNat : Int) == 101) = false from rfl, show isD 123 = false from rfl, dlt, decide_eq_true hd5]
        refine Res.sstep ?_
        simp only [spec_l01Reader_value.j1, dlt, decide_eq_true hd5, cond_true, takes_ (t := t) (i := i) _ _ hi ht, h, pre_cons, show ((123 : UInt8) == 123) = true from rfl, if_true, len1, Option.bind_some]
        exact (fields_ h ht hd5 (ihv hd5)).pass
      · obtain rfl : d = 5 := by omega
        simp only [spec_l01Reader_value.f, impl_reader_value.f, le_cons h, peek_cons _ h, isDigit_, takes_ (t := t) (i := i) _ _ (Nat.le_of_lt hl) ht, eat_ (t := t) (i := i) _ _ (Nat.le_of_lt hl) ht, h, Option.bind_some, cond_true, cond_false, Bool.false_eq_true, if_true, if_false, len1, List.length_cons, List.length_nil, Nat.zero_add, Nat.reduceAdd, show pre (⟨#[110, 117, 108, 108]⟩ : ByteArray) (123 :: r) = false from rfl, show pre (⟨#[116, 114, 117, 101]⟩ : ByteArray) (123 :: r) = false from rfl, show pre (⟨#[102, 97, 108, 115, 101]⟩ : ByteArray) (123 :: r) = false from rfl, show pre (⟨#[34]⟩ : ByteArray) (123 :: r) = false from rfl, show pre (⟨#[64]⟩ : ByteArray) (123 :: r) = false from rfl, show pre (⟨#[40]⟩ : ByteArray) (123 :: r) = false from rfl, show pre (⟨#[110]⟩ : ByteArray) (123 :: r) = false from rfl, show pre (⟨#[101]⟩ : ByteArray) (123 :: r) = false from rfl, show pre (⟨#[60]⟩ : ByteArray) (123 :: r) = false from rfl, show pre (⟨#[91]⟩ : ByteArray) (123 :: r) = false from rfl, show pre (⟨#[123]⟩ : ByteArray) (123 :: r) = true from rfl, show (((123 : UInt8).toNat : Int) == 34) = false from rfl, show (((123 : UInt8).toNat : Int) == 64) = false from rfl, show (((123 : UInt8).toNat : Int) == 45) = false from rfl, show (((123 : UInt8).toNat : Int) == 40) = false from rfl, show (((123 : UInt8).toNat : Int) == 91) = false from rfl, show (((123 : UInt8).toNat : Int) == 123) = true from rfl, show (((123 : UInt8).toNat : Int) == 60) = false from rfl, show (((123 : UInt8).toNat : Int) == 110) = false from rfl, show (((123 : UInt8).toNat : Int) == 101) = false from rfl, show isD 123 = false from rfl, dlt, show decide (5 < 5) = false from rfl]
        have hj := value_j1 hi ht 5 (fun h => absurd h (by omega))
        rw [numbad ⟨by decide, rfl⟩, h] at hj
        refine Res.bad ⟨_, _, ?_, hj⟩ (IBad.bind (a := (⟨7, 0, 0, ⟨#[]⟩, [], []⟩, false, ⟨t, ((i + 1 : Nat) : Int)⟩)) (Ev.step ?_) (IBad.ret _ _))
        · omega
        · simp only [impl_reader_fields.f, eat_ (t := t) (i := i) _ _ hi ht, h, pre_cons, show ((123 : UInt8) == 123) = true from rfl, if_true, len1, Option.bind_some, cond_true, show (((5 : Nat) : Int) == 5) = true from rfl]
          exact Ev.ret _
    by_cases hc116 : c = 116
    · subst hc116
      cases hw : pre (⟨#[116, 114, 117, 101]⟩ : ByteArray) (116 :: r) with
      | true =>
        have hp := pre_len hw
        rw [hlen, show (⟨#[116, 114, 117, 101]⟩ : ByteArray).size = 4 from rfl] at hp
        simp only [spec_l01Reader_value.f, impl_reader_value.f, le_cons h, peek_cons _ h, isDigit_, takes_ (t := t) (i := i) _ _ (Nat.le_of_lt hl) ht, eat_ (t := t) (i := i) _ _ (Nat.le_of_lt hl) ht, h, hw, Option.bind_some, cond_true, cond_false, Bool.false_eq_true, if_true, if_false, len1, List.length_cons, List.length_nil, Nat.zero_add, Nat.reduceAdd, show pre (⟨#[110, 117, 108, 108]⟩ : ByteArray) (116 :: r) = false from rfl, show pre (⟨#[102, 97, 108, 115, 101]⟩ : ByteArray) (116 :: r) = false from rfl, show pre (⟨#[34]⟩ : ByteArray) (116 :: r) = false from rfl, show pre (⟨#[64]⟩ : ByteArray) (116 :: r) = false from rfl, show pre (⟨#[40]⟩ : ByteArray) (116 :: r) = false from rfl, show pre (⟨#[110]⟩ : ByteArray) (116 :: r) = false from rfl, show pre (⟨#[101]⟩ : ByteArray) (116 :: r) = false from rfl, show pre (⟨#[60]⟩ : ByteArray) (116 :: r) = false from rfl, show pre (⟨#[91]⟩ : ByteArray) (116 :: r) = false from rfl, show pre (⟨#[123]⟩ : ByteArray) (116 :: r) = false from rfl, show (((116 : UInt8).toNat : Int) == 34) = false from rfl, show (((116 : UInt8).toNat : Int) == 64) = false from rfl, show (((116 : UInt8).toNat : Int) == 45) = false from rfl, show (((116 : UInt8).toNat : Int) == 40) = false from rfl, show (((116 : UInt8).toNat : Int) == 91) = false from rfl, show (((116 : UInt8).toNat : Int) == 123) = false from rfl, show (((116 : UInt8).toNat : Int) == 60) = false from rfl, show (((116 : UInt8).toNat : Int) == 110) = false from rfl, show (((116 : UInt8).toNat : Int) == 101) = false from rfl, show isD 116 = false from rfl]
        exact Res.ret _ _ (show i + 4 ≤ t.size by omega) (by omega) (toI_flat _ _ _ _).symm (wf_flat (by omega) (by simp) (by omega) (by omega))
      | false =>
        have hj := value_j1 hi ht d (fun _ => by rw [h]; rfl)
        rw [numbad ⟨by decide, rfl⟩, h] at hj
        simp only [spec_l01Reader_value.f, impl_reader_value.f, le_cons h, peek_cons _ h, isDigit_, takes_ (t := t) (i := i) _ _ (Nat.le_of_lt hl) ht, eat_ (t := t) (i := i) _ _ (Nat.le_of_lt hl) ht, h, hw, Option.bind_some, cond_true, cond_false, Bool.false_eq_true, if_true, if_false, len1, List.length_cons, List.length_nil, Nat.zero_add, Nat.reduceAdd, show pre (⟨#[110, 117, 108, 108]⟩ : ByteArray) (116 :: r) = false from rfl, show pre (⟨#[102, 97, 108, 115, 101]⟩ : ByteArray) (116 :: r) = false from rfl, show pre (⟨#[34]⟩ : ByteArray) (116 :: r) = false from rfl, show pre (⟨#[64]⟩ : ByteArray) (116 :: r) = false from rfl, show pre (⟨#[40]⟩ : ByteArray) (116 :: r) = false from rfl, show pre (⟨#[110]⟩ : ByteArray) (116 :: r) = false from rfl, show pre (⟨#[101]⟩ : ByteArray) (116 :: r) = false from rfl, show pre (⟨#[60]⟩ : ByteArray) (116 :: r) = false from rfl, show pre (⟨#[91]⟩ : ByteArray) (116 :: r) = false from rfl, show pre (⟨#[123]⟩ : ByteArray) (116 :: r) = false from rfl, show (((116 : UInt8).toNat : Int) == 34) = false from rfl, show (((116 : UInt8).toNat : Int) == 64) = false from rfl, show (((116 : UInt8).toNat : Int) == 45) = false from rfl, show (((116 : UInt8).toNat : Int) == 40) = false from rfl, show (((116 : UInt8).toNat : Int) == 91) = false from rfl, show (((116 : UInt8).toNat : Int) == 123) = false from rfl, show (((116 : UInt8).toNat : Int) == 60) = false from rfl, show (((116 : UInt8).toNat : Int) == 110) = false from rfl, show (((116 : UInt8).toNat : Int) == 101) = false from rfl, show isD 116 = false from rfl]
        by_cases hd5 : d < 5
        · simp only [dlt, decide_eq_true hd5, cond_true]
          exact Res.bad ⟨_, _, by omega, hj⟩ (IBad.ret _ _)
        · simp only [dlt, decide_eq_false hd5, cond_false]
          exact Res.bad ⟨_, _, by omega, hj⟩ (IBad.ret _ _)
    by_cases hc102 : c = 102
    · subst hc102
      cases hw : pre (⟨#[102, 97, 108, 115, 101]⟩ : ByteArray) (102 :: r) with
      | true =>
        have hp := pre_len hw
        rw [hlen, show (⟨#[102, 97, 108, 115, 101]⟩ : ByteArray).size = 5 from rfl] at hp
        simp only [spec_l01Reader_value.f, impl_reader_value.f, le_cons h, peek_cons _ h, isDigit_, takes_ (t := t) (i := i) _ _ (Nat.le_of_lt hl) ht, eat_ (t := t) (i := i) _ _ (Nat.le_of_lt hl) ht, h, hw, Option.bind_some, cond_true, cond_false, Bool.false_eq_true, if_true, if_false, len1, List.length_cons, List.length_nil, Nat.zero_add, Nat.reduceAdd, show pre (⟨#[110, 117, 108, 108]⟩ : ByteArray) (102 :: r) = false from rfl, show pre (⟨#[116, 114, 117, 101]⟩ : ByteArray) (102 :: r) = false from rfl, show pre (⟨#[34]⟩ : ByteArray) (102 :: r) = false from rfl, show pre (⟨#[64]⟩ : ByteArray) (102 :: r) = false from rfl, show pre (⟨#[40]⟩ : ByteArray) (102 :: r) = false from rfl, show pre (⟨#[110]⟩ : ByteArray) (102 :: r) = false from rfl, show pre (⟨#[101]⟩ : ByteArray) (102 :: r) = false from rfl, show pre (⟨#[60]⟩ : ByteArray) (102 :: r) = false from rfl, show pre (⟨#[91]⟩ : ByteArray) (102 :: r) = false from rfl, show pre (⟨#[123]⟩ : ByteArray) (102 :: r) = false from rfl, show (((102 : UInt8).toNat : Int) == 34) = false from rfl, show (((102 : UInt8).toNat : Int) == 64) = false from rfl, show (((102 : UInt8).toNat : Int) == 45) = false from rfl, show (((102 : UInt8).toNat : Int) == 40) = false from rfl, show (((102 : UInt8).toNat : Int) == 91) = false from rfl, show (((102 : UInt8).toNat : Int) == 123) = false from rfl, show (((102 : UInt8).toNat : Int) == 60) = false from rfl, show (((102 : UInt8).toNat : Int) == 110) = false from rfl, show (((102 : UInt8).toNat : Int) == 101) = false from rfl, show isD 102 = false from rfl]
        exact Res.ret _ _ (show i + 5 ≤ t.size by omega) (by omega) (toI_flat _ _ _ _).symm (wf_flat (by omega) (by simp) (by omega) (by omega))
      | false =>
        have hj := value_j1 hi ht d (fun _ => by rw [h]; rfl)
        rw [numbad ⟨by decide, rfl⟩, h] at hj
        simp only [spec_l01Reader_value.f, impl_reader_value.f, le_cons h, peek_cons _ h, isDigit_, takes_ (t := t) (i := i) _ _ (Nat.le_of_lt hl) ht, eat_ (t := t) (i := i) _ _ (Nat.le_of_lt hl) ht, h, hw, Option.bind_some, cond_true, cond_false, Bool.false_eq_true, if_true, if_false, len1, List.length_cons, List.length_nil, Nat.zero_add, Nat.reduceAdd, show pre (⟨#[110, 117, 108, 108]⟩ : ByteArray) (102 :: r) = false from rfl, show pre (⟨#[116, 114, 117, 101]⟩ : ByteArray) (102 :: r) = false from rfl, show pre (⟨#[34]⟩ : ByteArray) (102 :: r) = false from rfl, show pre (⟨#[64]⟩ : ByteArray) (102 :: r) = false from rfl, show pre (⟨#[40]⟩ : ByteArray) (102 :: r) = false from rfl, show pre (⟨#[110]⟩ : ByteArray) (102 :: r) = false from rfl, show pre (⟨#[101]⟩ : ByteArray) (102 :: r) = false from rfl, show pre (⟨#[60]⟩ : ByteArray) (102 :: r) = false from rfl, show pre (⟨#[91]⟩ : ByteArray) (102 :: r) = false from rfl, show pre (⟨#[123]⟩ : ByteArray) (102 :: r) = false from rfl, show (((102 : UInt8).toNat : Int) == 34) = false from rfl, show (((102 : UInt8).toNat : Int) == 64) = false from rfl, show (((102 : UInt8).toNat : Int) == 45) = false from rfl, show (((102 : UInt8).toNat : Int) == 40) = false from rfl, show (((102 : UInt8).toNat : Int) == 91) = false from rfl, show (((102 : UInt8).toNat : Int) == 123) = false from rfl, show (((102 : UInt8).toNat : Int) == 60) = false from rfl, show (((102 : UInt8).toNat : Int) == 110) = false from rfl, show (((102 : UInt8).toNat : Int) == 101) = false from rfl, show isD 102 = false from rfl]
        by_cases hd5 : d < 5
        · simp only [dlt, decide_eq_true hd5, cond_true]
          exact Res.bad ⟨_, _, by omega, hj⟩ (IBad.ret _ _)
        · simp only [dlt, decide_eq_false hd5, cond_false]
          exact Res.bad ⟨_, _, by omega, hj⟩ (IBad.ret _ _)
    have hj := value_j1 hi ht d (fun _ => by rw [h]; exact pre_hd _ _ hc123)
    have hw := whole_ hi ht
    rw [h] at hj hw numbad
    have sp : ∀ im : Nat → Option (S106 × Bool × S116), Res t i (fun k => spec_l01Reader_value.j1 k (d : Int) t (i : Int) false) im → Res t i (fun k => (bif decide ((d : Int) < 5) then spec_l01Reader_value.j1 k (d : Int) t (i : Int) false else spec_l01Reader_value.j1 k (d : Int) t (i : Int) false)) im := fun im g => by
      simp only [bif_same]; exact g
    have fin : Res t i (fun k => spec_l01Reader_value.j1 k (d : Int) t (i : Int) false) (fun k => (impl_reader_whole.f k ⟨t, (i : Int)⟩).bind fun v6 => some ((⟨2, v6.1, 0, (⟨#[]⟩ : ByteArray), ([] : (List ByteArray)), ([] : (List S106))⟩ : S106), v6.2.1, v6.2.2)) := by
      cases hk : nok (c :: r) with
      | true =>
        rw [hk] at hj hw
        have hp := (nok_pos hk).1
        exact .inl ⟨_, _, by omega, by omega, wf_num (by omega) (by omega) (num_rng _), hj, Ev.bind hw (by rw [toI_flat]; exact Ev.ret _)⟩
      | false =>
        rw [hk] at hj hw
        exact Res.bad ⟨_, _, by omega, hj⟩ (IBad.bind hw (IBad.ret _ _))
    by_cases hc45 : c = 45
    · simp only [spec_l01Reader_value.f, impl_reader_value.f, le_cons h, peek_cons _ h, isDigit_, takes_ (t := t) (i := i) _ _ (Nat.le_of_lt hl) ht, eat_ (t := t) (i := i) _ _ (Nat.le_of_lt hl) ht, h, Option.bind_some, cond_true, cond_false, Bool.false_eq_true, if_true, if_false, len1, List.length_cons, List.length_nil, Nat.zero_add, Nat.reduceAdd, show pre (⟨#[110, 117, 108, 108]⟩ : ByteArray) (c :: r) = false from pre_hd _ _ hc110, show pre (⟨#[116, 114, 117, 101]⟩ : ByteArray) (c :: r) = false from pre_hd _ _ hc116, show pre (⟨#[102, 97, 108, 115, 101]⟩ : ByteArray) (c :: r) = false from pre_hd _ _ hc102, show pre (⟨#[34]⟩ : ByteArray) (c :: r) = false from pre_hd _ _ hc34, show pre (⟨#[64]⟩ : ByteArray) (c :: r) = false from pre_hd _ _ hc64, show pre (⟨#[40]⟩ : ByteArray) (c :: r) = false from pre_hd _ _ hc40, show pre (⟨#[110]⟩ : ByteArray) (c :: r) = false from pre_hd _ _ hc110, show pre (⟨#[101]⟩ : ByteArray) (c :: r) = false from pre_hd _ _ hc101, show pre (⟨#[60]⟩ : ByteArray) (c :: r) = false from pre_hd _ _ hc60, show pre (⟨#[91]⟩ : ByteArray) (c :: r) = false from pre_hd _ _ hc91, show pre (⟨#[123]⟩ : ByteArray) (c :: r) = false from pre_hd _ _ hc123, show ((c.toNat : Int) == 34) = false from ceq_no (x := 34) hc34, show ((c.toNat : Int) == 64) = false from ceq_no (x := 64) hc64, show ((c.toNat : Int) == 40) = false from ceq_no (x := 40) hc40, show ((c.toNat : Int) == 91) = false from ceq_no (x := 91) hc91, show ((c.toNat : Int) == 123) = false from ceq_no (x := 123) hc123, show ((c.toNat : Int) == 60) = false from ceq_no (x := 60) hc60, show ((c.toNat : Int) == 110) = false from ceq_no (x := 110) hc110, show ((c.toNat : Int) == 101) = false from ceq_no (x := 101) hc101, show ((c.toNat : Int) == 45) = true by rw [hc45]; rfl]
      exact sp _ fin
    · cases hD : isD c with
      | true =>
        simp only [spec_l01Reader_value.f, impl_reader_value.f, le_cons h, peek_cons _ h, isDigit_, takes_ (t := t) (i := i) _ _ (Nat.le_of_lt hl) ht, eat_ (t := t) (i := i) _ _ (Nat.le_of_lt hl) ht, h, Option.bind_some, cond_true, cond_false, Bool.false_eq_true, if_true, if_false, len1, List.length_cons, List.length_nil, Nat.zero_add, Nat.reduceAdd, show pre (⟨#[110, 117, 108, 108]⟩ : ByteArray) (c :: r) = false from pre_hd _ _ hc110, show pre (⟨#[116, 114, 117, 101]⟩ : ByteArray) (c :: r) = false from pre_hd _ _ hc116, show pre (⟨#[102, 97, 108, 115, 101]⟩ : ByteArray) (c :: r) = false from pre_hd _ _ hc102, show pre (⟨#[34]⟩ : ByteArray) (c :: r) = false from pre_hd _ _ hc34, show pre (⟨#[64]⟩ : ByteArray) (c :: r) = false from pre_hd _ _ hc64, show pre (⟨#[40]⟩ : ByteArray) (c :: r) = false from pre_hd _ _ hc40, show pre (⟨#[110]⟩ : ByteArray) (c :: r) = false from pre_hd _ _ hc110, show pre (⟨#[101]⟩ : ByteArray) (c :: r) = false from pre_hd _ _ hc101, show pre (⟨#[60]⟩ : ByteArray) (c :: r) = false from pre_hd _ _ hc60, show pre (⟨#[91]⟩ : ByteArray) (c :: r) = false from pre_hd _ _ hc91, show pre (⟨#[123]⟩ : ByteArray) (c :: r) = false from pre_hd _ _ hc123, show ((c.toNat : Int) == 34) = false from ceq_no (x := 34) hc34, show ((c.toNat : Int) == 64) = false from ceq_no (x := 64) hc64, show ((c.toNat : Int) == 40) = false from ceq_no (x := 40) hc40, show ((c.toNat : Int) == 91) = false from ceq_no (x := 91) hc91, show ((c.toNat : Int) == 123) = false from ceq_no (x := 123) hc123, show ((c.toNat : Int) == 60) = false from ceq_no (x := 60) hc60, show ((c.toNat : Int) == 110) = false from ceq_no (x := 110) hc110, show ((c.toNat : Int) == 101) = false from ceq_no (x := 101) hc101, show ((c.toNat : Int) == 45) = false from ceq_no (x := 45) hc45, hD]
        exact sp _ fin
      | false =>
        simp only [spec_l01Reader_value.f, impl_reader_value.f, le_cons h, peek_cons _ h, isDigit_, takes_ (t := t) (i := i) _ _ (Nat.le_of_lt hl) ht, eat_ (t := t) (i := i) _ _ (Nat.le_of_lt hl) ht, h, Option.bind_some, cond_true, cond_false, Bool.false_eq_true, if_true, if_false, len1, List.length_cons, List.length_nil, Nat.zero_add, Nat.reduceAdd, show pre (⟨#[110, 117, 108, 108]⟩ : ByteArray) (c :: r) = false from pre_hd _ _ hc110, show pre (⟨#[116, 114, 117, 101]⟩ : ByteArray) (c :: r) = false from pre_hd _ _ hc116, show pre (⟨#[102, 97, 108, 115, 101]⟩ : ByteArray) (c :: r) = false from pre_hd _ _ hc102, show pre (⟨#[34]⟩ : ByteArray) (c :: r) = false from pre_hd _ _ hc34, show pre (⟨#[64]⟩ : ByteArray) (c :: r) = false from pre_hd _ _ hc64, show pre (⟨#[40]⟩ : ByteArray) (c :: r) = false from pre_hd _ _ hc40, show pre (⟨#[110]⟩ : ByteArray) (c :: r) = false from pre_hd _ _ hc110, show pre (⟨#[101]⟩ : ByteArray) (c :: r) = false from pre_hd _ _ hc101, show pre (⟨#[60]⟩ : ByteArray) (c :: r) = false from pre_hd _ _ hc60, show pre (⟨#[91]⟩ : ByteArray) (c :: r) = false from pre_hd _ _ hc91, show pre (⟨#[123]⟩ : ByteArray) (c :: r) = false from pre_hd _ _ hc123, show ((c.toNat : Int) == 34) = false from ceq_no (x := 34) hc34, show ((c.toNat : Int) == 64) = false from ceq_no (x := 64) hc64, show ((c.toNat : Int) == 40) = false from ceq_no (x := 40) hc40, show ((c.toNat : Int) == 91) = false from ceq_no (x := 91) hc91, show ((c.toNat : Int) == 123) = false from ceq_no (x := 123) hc123, show ((c.toNat : Int) == 60) = false from ceq_no (x := 60) hc60, show ((c.toNat : Int) == 110) = false from ceq_no (x := 110) hc110, show ((c.toNat : Int) == 101) = false from ceq_no (x := 101) hc101, show ((c.toNat : Int) == 45) = false from ceq_no (x := 45) hc45, hD]
        rw [numbad ⟨hc45, hD⟩] at hj
        exact sp _ (Res.bad ⟨_, _, by omega, hj⟩ (IBad.ret _ _))
theorem value_ (ht : t.size ≤ 2000000) : ∀ (n i d : Nat), t.size - i ≤ n → i ≤ t.size → d ≤ 5 → ValAt t d i := by
  intro n
  induction n using Nat.strongRecOn with
  | _ n ih =>
    intro i d hn hi hd
    exact value_step ht hi hd (fun hd5 p hp hpt => ih (t.size - p) (by omega) p (d + 1) (Nat.le_refl _) hpt (by omega))
/-- Both read the same of a text. -/
theorem read_ (t : ByteArray) : (∃ sv, Wf sv ∧ Ev (fun k => spec_l01Read.f k t) sv ∧ Ev (fun k => impl_read.f k t) (toI sv, true)) ∨ (∃ iv, Ev (fun k => spec_l01Read.f k t) ⟨-1, 0, 0, ⟨#[]⟩, [], []⟩ ∧ Ev (fun k => impl_read.f k t) (iv, false)) := by
  unfold spec_l01Read.f impl_read.f
  by_cases hs : 2000 < t.size
  · simp only [show decide ((2000 : Int) < (t.size : Int)) = true by simp; omega, cond_true]
    exact .inr ⟨_, Ev.ret _, Ev.ret _⟩
  · simp only [show decide ((2000 : Int) < (t.size : Int)) = false by simp; omega, cond_false]
    rcases value_ (t := t) (by omega) _ 0 0 (Nat.le_refl _) (by omega) (by omega) with ⟨sv, j, h1, h2, hw, h3, h4⟩ | ⟨sv, j, iv, s, h1, h2, h3⟩
    · by_cases hj : j = t.size
      · subst hj
        refine .inl ⟨sv, hw, Ev.bind h3 ?_, Ev.bind h4 ?_⟩
        · simp only [cond_false, beq_self_eq_true, cond_true]; exact Ev.ret _
        · simp only [cond_true, beq_self_eq_true]; exact Ev.ret _
      · have e : ((j : Int) == (t.size : Int)) = false := by simp; omega
        refine .inr ⟨toI sv, Ev.bind h3 ?_, Ev.bind h4 ?_⟩
        · simp only [cond_false, e]; exact Ev.ret _
        · simp only [cond_true, e]; exact Ev.ret _
    · refine .inr ⟨iv, Ev.bind h2 ?_, Ev.bind h3 ?_⟩
      · simp only [cond_true]; exact Ev.ret _
      · simp only [cond_false]; exact Ev.ret _
end
end Go.Ab
namespace Go.Ab
open Go.Proofs
set_option linter.unusedVariables false
set_option linter.unusedSimpArgs false
/-! Comparing -/
def cmpI (a b : Int) : Int := if a < b then -1 else if b < a then 1 else 0
def cmpB (a b : ByteArray) : Int := if slt a b then -1 else if slt b a then 1 else 0
theorem less_asym : ∀ (a b : List UInt8), Op.bytesLess a b = true → Op.bytesLess b a = false
 | [], [], h => by simp [Op.bytesLess] at h
 | [], _ :: _, _ => by simp [Op.bytesLess]
 | _ :: _, [], h => by simp [Op.bytesLess] at h
 | x :: a, y :: b, h => by
   simp only [Op.bytesLess, Bool.or_eq_true, Bool.and_eq_true, decide_eq_true_eq, beq_iff_eq] at h ⊢
   rw [Bool.eq_false_iff]
   intro h'
   simp only [Bool.or_eq_true, Bool.and_eq_true, decide_eq_true_eq, beq_iff_eq] at h'
   rcases h with h | ⟨rfl, h⟩
   · rcases h' with h' | ⟨rfl, _⟩
     · exact absurd h (by simp only [UInt8.lt_iff_toNat_lt] at h h' ⊢; omega)
     · exact absurd h (by simp only [UInt8.lt_iff_toNat_lt]; omega)
   · rcases h' with h' | ⟨_, h'⟩
     · exact absurd h' (by simp only [UInt8.lt_iff_toNat_lt]; omega)
     · have := less_asym a b h; rw [this] at h'; cases h'
theorem cmp_list : ∀ (a b : List UInt8), Lib.compareBytes a b = (if Op.bytesLess a b then -1 else if Op.bytesLess b a then 1 else 0) ∧ (Lib.compareBytes a b = 0 ↔ a = b)
 | [], [] => by simp [Lib.compareBytes, Op.bytesLess]
 | [], _ :: _ => by simp [Lib.compareBytes, Op.bytesLess]
 | _ :: _, [] => by simp [Lib.compareBytes, Op.bytesLess]
 | x :: a, y :: b => by
   obtain ⟨i1, i2⟩ := cmp_list a b
   unfold Lib.compareBytes
   by_cases h1 : x < y
   · have h2 : ¬ y < x := by simp only [UInt8.lt_iff_toNat_lt] at h1 ⊢; omega
     have h3 : x ≠ y := by rintro rfl; simp only [UInt8.lt_iff_toNat_lt] at h1; omega
     rw [if_pos h1]
     simp [Op.bytesLess, h1, h3]
   · rw [if_neg h1]
     by_cases h2 : y < x
     · have h3 : x ≠ y := by rintro rfl; exact h1 h2
       rw [if_pos h2]
       simp [Op.bytesLess, h1, h2, h3]
     · rw [if_neg h2]
       have h3 : x = y := UInt8.toNat_inj.1 (by simp only [UInt8.lt_iff_toNat_lt] at h1 h2; omega)
       subst h3
       simp only [Op.bytesLess, h1, decide_false, beq_self_eq_true, Bool.true_and, Bool.false_or, List.cons.injEq, true_and]
       exact ⟨i1, i2⟩
theorem cmpB_eq {a b : ByteArray} : cmpB a b = 0 ↔ a = b := by
  have h : cmpB a b = Lib.compareBytes a.data.toList b.data.toList := by
    unfold cmpB slt
    rw [ByteArray.toList_eq, ByteArray.toList_eq, (cmp_list _ _).1]
  rw [h, (cmp_list _ _).2]
  constructor
  · intro e; exact ByteArray.ext (Array.toList_inj.1 e)
  · rintro rfl; rfl
theorem cmpI_eq {a b : Int} : cmpI a b = 0 ↔ a = b := by 
  unfold cmpI
  split
  · omega
  · split <;> omega
theorem cmpI_rng (a b : Int) : cmpI a b = -1 ∨ cmpI a b = 0 ∨ cmpI a b = 1 := by 
  unfold cmpI
  split
  · simp
  · split <;> simp
theorem cmpB_rng (a b : ByteArray) : cmpB a b = -1 ∨ cmpB a b = 0 ∨ cmpB a b = 1 := by 
  unfold cmpB
  split
  · simp
  · split <;> simp
theorem ix_lt {α : Type} {l : List α} {i : Nat} (h : i < l.length) : ix l (i : Int) = some l[i] := by
  unfold ix; rw [if_pos (by omega), Int.toNat_natCast, List.getElem?_eq_getElem h]
section
variable (x : S101)
theorem toI_0 : (toI x).f0 = x.f0 := by rw [toI_eq]
theorem toI_1 : (toI x).f1 = x.f1 := by rw [toI_eq]
theorem toI_2 : (toI x).f2 = x.f2 := by rw [toI_eq]
theorem toI_3 : (toI x).f3 = x.f3 := by rw [toI_eq]
theorem toI_4 : (toI x).f4 = x.f5 := by rw [toI_eq]
theorem toI_5 : (toI x).f5 = x.f4.map toI := by rw [toI_eq]
end
theorem Wf.p {v : S101} (h : Wf v) : (0 ≤ v.f0 ∧ v.f0 ≤ 10) ∧ v.f4.length ≤ 2000000 ∧ (v.f5.length = if v.f0 = 7 then v.f4.length else 0) ∧ (∀ x ∈ v.f4, Wf x) ∧ (v.f0 = 6 ∨ v.f0 = 7 ∨ v.f0 = 10 → v.f1 = 0 ∧ v.f2 = 0) ∧ (¬ (v.f0 = 6 ∨ v.f0 = 7 ∨ v.f0 = 10) → v.f4 = []) ∧ (v.f0 ≠ 5 → v.f2 = 0) := by
  cases h with | mk _ hk hb hr hl hm hi ht hx hy hp => exact ⟨hk, hl, hm, hi, hx, hy, hp⟩
theorem item_size {x y : S101} (h : y ∈ x.f4) : SizeOf.sizeOf y < SizeOf.sizeOf x := by
  have := List.sizeOf_lt_of_mem h
  cases x; simp only [S101.mk.sizeOf_spec] at this ⊢; omega
section
variable {x y : S101}
def Both (f g : Nat → Option Int) (P : Int → Prop) : Prop := ∃ c, (c = -1 ∨ c = 0 ∨ c = 1) ∧ P c ∧ Ev f c ∧ Ev g c
theorem Both.step {f g : Nat → Option Int} {P : Int → Prop} (h : Both (fun k => f (k + 1)) (fun k => g (k + 1)) P) : Both f g P := by
  obtain ⟨c, h1, h2, h3, h4⟩ := h; exact ⟨c, h1, h2, h3.step, h4.step⟩
theorem Both.sstep {f g : Nat → Option Int} {P : Int → Prop} (h : Both (fun k => f (k + 1)) g P) : Both f g P := by
  obtain ⟨c, h1, h2, h3, h4⟩ := h; exact ⟨c, h1, h2, h3.step, h4⟩
theorem Both.istep {f g : Nat → Option Int} {P : Int → Prop} (h : Both f (fun k => g (k + 1)) P) : Both f g P := by
  obtain ⟨c, h1, h2, h3, h4⟩ := h; exact ⟨c, h1, h2, h3, h4.step⟩
theorem Both.bind {α β : Type} {f : Nat → Option α} {g : Nat → Option β} {f' : Nat → α → Option Int} {g' : Nat → β → Option Int} {a : α} {b : β} {P : Int → Prop} (h : Ev f a) (h' : Ev g b) (k : Both (fun n => f' n a) (fun n => g' n b) P) : Both (fun n => (f n).bind (f' n)) (fun n => (g n).bind (g' n)) P := by
  obtain ⟨c, h1, h2, h3, h4⟩ := k; exact ⟨c, h1, h2, h.bind h3, h'.bind h4⟩
theorem Both.ret {P : Int → Prop} {c : Int} (h : c = -1 ∨ c = 0 ∨ c = 1) (hP : P c) : Both (fun _ => some c) (fun _ => some c) P := ⟨c, h, hP, Ev.ret _, Ev.ret _⟩
theorem getm {l : List S101} {i : Nat} (h : i < l.length) : ix (l.map toI) (i : Int) = some (toI l[i]) := by
  rw [ix_lt (by simpa using h)]; simp
end
end Go.Ab
