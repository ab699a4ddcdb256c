/- What both readers of values tell, part 5: lists, maps, values. No condition. -/
import Derived.Test.YtldiipekkdaffaaGreatDoorAbL1
import Derived.Test.YtldiipekkdaffaaGreatDoorAbH0
namespace Go.Ab
open Go.Proofs
set_option linter.unusedVariables false
set_option linter.unusedSimpArgs false
section
variable {t : ByteArray} {i : Nat} {c : UInt8} {r : List UInt8}
theorem Res.ipass {sp : Nat → Option (S40 × S65)} {im : Nat → Option (S45 × Bool × S69)} (h : Res t i sp im) : Res t i sp (fun k => (im k).bind fun v => some (v.1, v.2.1, v.2.2)) := by
  rcases h with ⟨sv, j, h1, h2, hw, h3, h4⟩ | ⟨sv, j, iv, s, h1, h2, h3⟩
  · exact .inl ⟨sv, j, h1, h2, hw, h3, h4.bind (Ev.ret _)⟩
  · exact .inr ⟨sv, j, iv, s, h1, h2, h3.bind (Ev.ret _)⟩
/-- Values of depth d at i. -/
def ValAt (t : ByteArray) (d i : Nat) : Prop := Res t i (fun k => spec_l01Reader_value.f k (d : Int) ⟨t, (i : Int), false⟩) (fun k => impl_reader_value.f k (d : Int) ⟨t, (i : Int)⟩)
theorem list_l0 (ht : t.size ≤ 2000000) {d : Nat} (hd : d < 5) (ihv : ∀ p, i < p → p ≤ t.size → ValAt t (d + 1) p) : ∀ (n p : Nat) (items : List S40), t.size - p ≤ n → p ≤ t.size → items.length ≤ p → i < p → (∀ x ∈ items, Wf x) → (∃ ls : List (List UInt8), ls.length = items.length ∧ (∀ (i : Nat) (x : S40) (l : List UInt8), items[i]? = some x → ls[i]? = some l → Txt x l) ∧ rest t i = 91 :: (ls.flatMap (· ++ [44]) ++ rest t p)) →
    Res t i (fun k => spec_l01Reader_list.l0 k (d : Int) t (p : Int) false items) (fun k => impl_reader_list.l0 k (d : Int) t (p : Int) (items.map toI)) := by
  intro n
  induction n using Nat.strongRecOn with
  | _ n ih =>
    intro p items hn hp hi hip hwf htx
    refine Res.step ?_
    simp only [spec_l01Reader_list.l0, impl_reader_list.l0, cond_false, w1 (i := d) (by omega)]
    have happ : ∀ sv : S40, app items [sv] = some (items ++ [sv]) := fun sv => app_one _ (by omega)
    have happi : ∀ sv : S45, app (items.map toI) [sv] = some (items.map toI ++ [sv]) := fun sv => app_one _ (by rw [List.length_map]; omega)
    rcases ihv p hip hp with ⟨sv, j, h1, h2, hw, h3, h4⟩ | ⟨sv, j, iv, s, h1, h2, h3⟩
    · refine Res.sbind h3 (Res.ibind h4 ?_)
      have emap : items.map toI ++ [toI sv] = (items ++ [sv]).map toI := by simp
      have hwf2 : ∀ x ∈ items ++ [sv], Wf x := fun x hx => (List.mem_append.1 hx).elim (hwf x) (fun h => List.mem_singleton.1 h ▸ hw.1)
      obtain ⟨ls, hls, htxs, hrt⟩ := htx
      obtain ⟨lx, htx1, hrx⟩ := hw.2
      have hls2 : (ls ++ [lx]).length = (items ++ [sv]).length := by simp [hls]
      have htx2 := txt_snoc hls htxs htx1
      simp only [happ, happi, Option.bind_some, cond_true, eat_ (t := t) (i := j) _ _ h2 ht, takes_ (t := t) (i := j) _ _ h2 ht, len1]
      cases hq : pre ⟨#[93]⟩ (rest t j) with
      | true =>
        have hj1 := pre_lt hq
        simp only [if_true, cond_true]
        exact Res.ret _ _ (by omega) (by omega) (by rw [toI_items, emap]) ⟨wf_items (by simp) (by simp; omega) rfl hwf2, _, .list _ (ls ++ [lx]) hls2 htx2, by rw [hrt, hrx, rest_one hq, joinS_snoc]; simp⟩
      | false =>
        simp only [Bool.false_eq_true, if_false, cond_false, fail_, eat_ (t := t) (i := j) _ _ h2 ht, takes_ (t := t) (i := j) _ _ h2 ht, len1, Option.bind_some]
        cases hq2 : pre ⟨#[44]⟩ (rest t j) with
        | true =>
          have hj1 := pre_lt hq2
          simp only [if_true, cond_true]
          rw [emap]
          exact ih (t.size - (j + 1)) (by omega) (j + 1) (items ++ [sv]) (Nat.le_refl _) (by omega) (by simp; omega) (by omega) hwf2 ⟨ls ++ [lx], hls2, htx2, by rw [hrt, hrx, rest_one hq2]; simp⟩
        | false =>
          simp only [Bool.false_eq_true, if_false, cond_false]
          exact Res.none _ _ _ h2
    · refine Res.sbind h2 (Res.ibind h3 ?_)
      simp only [happ, Option.bind_some, cond_false, takes_bad, fail_]
      exact Res.none _ _ _ h1
theorem list_ (h : rest t i = 91 :: r) (ht : t.size ≤ 2000000) {d : Nat} (hd : d < 5) (ihv : ∀ p, i < p → p ≤ t.size → ValAt t (d + 1) p) : Res t i (fun k => spec_l01Reader_list.f k (d : Int) ⟨t, ((i + 1 : Nat) : Int), false⟩) (fun k => impl_reader_list.f k (d : Int) ⟨t, (i : Int)⟩) := by
  have hl := rest_lt h
  refine Res.step ?_
  simp only [spec_l01Reader_list.f, impl_reader_list.f, eat_ (t := t) (i := i) _ _ (by omega) ht, h, pre_cons, show ((91 : UInt8) == 91) = true from rfl, if_true, len1, List.length_cons, List.length_nil, Nat.zero_add, Option.bind_some, cond_true, show ((d : Int) == 5) = false by simp; omega, cond_false, eat_ (t := t) (i := i + 1) _ _ (by omega) ht, takes_ (t := t) (i := i + 1) _ _ (by omega) ht]
  cases hq : pre ⟨#[93]⟩ (rest t (i + 1)) with
  | true =>
    have hj1 := pre_lt hq
    simp only [if_true, cond_true]
    exact Res.ret _ _ (by omega) (by omega) (toI_flat _ _ _ _).symm ⟨wf_text (by omega), _, .list [] [] rfl (fun _ _ _ h => by simp at h), by rw [h, ← rest_next h, rest_one hq]; rfl⟩
  | false =>
    simp only [Bool.false_eq_true, if_false, cond_false]
    exact list_l0 ht hd ihv _ (i + 1) [] (Nat.le_refl _) (by omega) (by simp) (by omega) (fun x h => by simp at h) ⟨[], rfl, fun _ _ _ h => by simp at h, by rw [rest_next h, h]; rfl⟩
/-- Names that do not rise: the reference tells none in the end. -/
theorem fields_bad (ht : t.size ≤ 2000000) {d : Nat} (hd : d < 5) (ihv : ∀ p, i < p → p ≤ t.size → ValAt t (d + 1) p) : ∀ (n p : Nat) (items : List S40) (names : List ByteArray), t.size - p ≤ n → p ≤ t.size → items.length ≤ p → names.length ≤ p → i < p → risingB names = false →
    SBad t (fun k => spec_l01Reader_fields.l0 k (d : Int) t (p : Int) false items names) := by
  intro n
  induction n using Nat.strongRecOn with
  | _ n ih =>
    intro p items names hn hp hi hnm hip hris
    refine SBad.step ?_
    simp only [spec_l01Reader_fields.l0, cond_false, w1 (i := d) (by omega)]
    have hle := nm_le (rest t p)
    rw [rest_len] at hle
    refine SBad.bind (sname_ (b := false) hp ht) ?_
    simp only [app_one (l := names) _ (by omega), Option.bind_some, Bool.false_or]
    generalize hj : p + (nm (rest t p)).length = j at *
    have hr2 := rising_no (bs (nm (rest t p))) hris
    cases hk : nameOk (nm (rest t p)) with
    | false =>
      simp only [Bool.not_false, takes_bad, Option.bind_some, cond_false, fail_]
      exact SBad.ret _ (by omega)
    | true =>
      simp only [Bool.not_true, takes_ (t := t) (i := j) _ _ (by omega) ht, Option.bind_some, len1, fail_]
      cases hq : pre ⟨#[58]⟩ (rest t j) with
      | false =>
        simp only [Bool.false_eq_true, if_false, cond_false]
        exact SBad.ret _ (by omega)
      | true =>
        have hj1 := pre_lt hq
        simp only [if_true, cond_true]
        rcases ihv (j + 1) (by omega) hj1 with ⟨sv, j', h1, h2, hw, h3, h4⟩ | ⟨sv, j', iv, s, h1, h2, h3⟩
        · refine SBad.bind h3 ?_
          simp only [app_one (l := items) _ (by omega), Option.bind_some, takes_ (t := t) (i := j') _ _ h2 ht, len1]
          cases hq1 : pre ⟨#[125]⟩ (rest t j') with
          | true =>
            have hj2 := pre_lt hq1
            simp only [if_true, cond_true]
            refine SBad.bind (rising_ (by simp; omega)) ?_
            rw [hr2]
            simp only [cond_false]
            exact SBad.ret _ (by omega)
          | false =>
            simp only [Bool.false_eq_true, if_false, cond_false, takes_ (t := t) (i := j') _ _ h2 ht, len1, Option.bind_some]
            cases hq2 : pre ⟨#[44]⟩ (rest t j') with
            | true =>
              have hj2 := pre_lt hq2
              simp only [if_true, cond_true]
              exact ih (t.size - (j' + 1)) (by omega) (j' + 1) _ _ (Nat.le_refl _) (by omega) (by simp; omega) (by simp; omega) (by omega) hr2
            | false =>
              simp only [Bool.false_eq_true, if_false, cond_false]
              exact SBad.ret _ h2
        · refine SBad.bind h2 ?_
          simp only [app_one (l := items) _ (by omega), Option.bind_some, takes_bad, cond_false]
          exact SBad.ret _ h1
theorem fields_l0 (ht : t.size ≤ 2000000) {d : Nat} (hd : d < 5) (ihv : ∀ p, i < p → p ≤ t.size → ValAt t (d + 1) p) : ∀ (n p : Nat) (items : List S40) (names : List ByteArray), t.size - p ≤ n → p ≤ t.size → items.length ≤ p → names.length ≤ p → i < p → risingB names = true → (∀ x ∈ items, Wf x) → names.length = items.length → (∃ ls : List (List UInt8), ls.length = items.length ∧ (∀ (i : Nat) (x : S40) (l : List UInt8), items[i]? = some x → ls[i]? = some l → Txt x l) ∧ rest t i = 123 :: ((List.zipWith (fun (n : ByteArray) l => n.data.toList ++ 58 :: l) names ls).flatMap (· ++ [44]) ++ rest t p)) → (∀ s ∈ names, nameOk s.data.toList = true) →
    Res t i (fun k => spec_l01Reader_fields.l0 k (d : Int) t (p : Int) false items names) (fun k => impl_reader_fields.l0 k (d : Int) t (p : Int) names (items.map toI)) := by
  intro n
  induction n using Nat.strongRecOn with
  | _ n ih =>
    intro p items names hn hp hi hnm hip hris hwf hnl htx hnk
    refine Res.step ?_
    simp only [spec_l01Reader_fields.l0, impl_reader_fields.l0, cond_false, w1 (i := d) (by omega)]
    have hle := nm_le (rest t p)
    rw [rest_len] at hle
    refine Res.sbind (sname_ (b := false) hp ht) (Res.ibind (rname_ hp ht) ?_)
    simp only [app_one (l := names) _ (by omega), Option.bind_some, Bool.false_or]
    generalize hj : p + (nm (rest t p)).length = j at *
    cases hk : nameOk (nm (rest t p)) with
    | false =>
      simp only [Bool.not_false, takes_bad, Option.bind_some, cond_false, fail_]
      exact Res.none _ _ _ (by omega)
    | true =>
      have hSk : nameOk (bs (nm (rest t p))).data.toList = true := by simpa [bs] using hk
      have hSt : rest t p = (bs (nm (rest t p))).data.toList ++ rest t j := by
        rw [← hj, rest_add]
        have : (bs (nm (rest t p))).data.toList = (rest t p).take (nm (rest t p)).length := by rw [nm_take]; simp [bs]
        rw [this, List.take_append_drop]
      generalize hS : bs (nm (rest t p)) = S at *
      simp only [Bool.not_true, cond_true, eat_ (t := t) (i := j) _ _ (by omega) ht, takes_ (t := t) (i := j) _ _ (by omega) ht, Option.bind_some, len1, fail_]
      cases hq : pre ⟨#[58]⟩ (rest t j) with
      | false =>
        simp only [Bool.false_eq_true, if_false, cond_false]
        exact Res.none _ _ _ (by omega)
      | true =>
        have hj1 := pre_lt hq
        simp only [if_true, cond_true]
        have good : risingB (names ++ [S]) = true → ∀ (x : Bool × S69) (y : ByteArray × Bool × S69), x.2 = ⟨t, ((j + 1 : Nat) : Int)⟩ → y.1 = S → Res t i (fun k => ((spec_l01Reader_value.f k ((d + 1 : Nat) : Int) (⟨t, ((j + 1 : Nat) : Int), false⟩ : S65)).bind fun v14 => ((app items ([v14.1] : List S40)).bind fun v15 => ((spec_l01Reader_takes.f k (⟨#[125]⟩ : ByteArray) v14.2).bind fun v16 => (bif v16.1 then ((spec_l01Rising.f k (names ++ [S])).bind fun v17 => (bif v17 then (some ((⟨7, 0, 0, (⟨#[]⟩ : ByteArray), v15, names ++ [S]⟩ : S40), v16.2)) else (some ((⟨-1, 0, 0, ⟨#[]⟩, [], []⟩ : S40), (⟨v16.2.f0, v16.2.f1, true⟩ : S65))))) else ((spec_l01Reader_takes.f k (⟨#[44]⟩ : ByteArray) v16.2).bind fun v19 => (bif v19.1 then (spec_l01Reader_fields.l0 k (d : Int) v19.2.f0 v19.2.f1 v19.2.f2 v15 (names ++ [S])) else (some ((⟨-1, 0, 0, ⟨#[]⟩, [], []⟩ : S40), (⟨v19.2.f0, v19.2.f1, true⟩ : S65)))))))))) (fun k => impl_reader_fields.j0 k (d : Int) y x names (items.map toI)) := by
          intro hr2 x y hx hy
          obtain ⟨x1, x2⟩ := x
          obtain ⟨y1, y2⟩ := y
          simp only at hx hy
          subst hx; subst hy
          refine Res.istep ?_
          simp only [impl_reader_fields.j0, w1 (i := d) (by omega)]
          have happi : ∀ sv : S45, app (items.map toI) [sv] = some (items.map toI ++ [sv]) := fun sv => app_one _ (by rw [List.length_map]; omega)
          rcases ihv (j + 1) (by omega) hj1 with ⟨sv, j', h1, h2, hw, h3, h4⟩ | ⟨sv, j', iv, s, h1, h2, h3⟩
          · refine Res.sbind h3 (Res.ibind h4 ?_)
            have emap : items.map toI ++ [toI sv] = (items ++ [sv]).map toI := by simp
            have hwf2 : ∀ x ∈ items ++ [sv], Wf x := fun x hx => (List.mem_append.1 hx).elim (hwf x) (fun h => List.mem_singleton.1 h ▸ hw.1)
            obtain ⟨ls, hls, htxs, hrt⟩ := htx
            obtain ⟨lx, htx1, hrx⟩ := hw.2
            have hls2 : (ls ++ [lx]).length = (items ++ [sv]).length := by simp [hls]
            have htx2 := txt_snoc hls htxs htx1
            have hnk2 : ∀ s ∈ names ++ [y1], nameOk s.data.toList = true := fun s hs => (List.mem_append.1 hs).elim (hnk s) (fun h => by rw [List.mem_singleton.1 h]; exact hSk)
            have hzip : List.zipWith (fun (n : ByteArray) l => n.data.toList ++ 58 :: l) (names ++ [y1]) (ls ++ [lx]) = List.zipWith (fun (n : ByteArray) l => n.data.toList ++ 58 :: l) names ls ++ [y1.data.toList ++ 58 :: lx] := by
              rw [List.zipWith_append (by omega)]; rfl
            have hnl2 : (names ++ [y1]).length = (items ++ [sv]).length := by simp; omega
            simp only [cond_true, app_one (l := items) _ (by omega), app_one (l := names) _ (by omega), happi, Option.bind_some, takes_ (t := t) (i := j') _ _ h2 ht, eat_ (t := t) (i := j') _ _ h2 ht, len1]
            cases hq1 : pre ⟨#[125]⟩ (rest t j') with
            | true =>
              have hj2 := pre_lt hq1
              simp only [if_true, cond_true]
              refine Res.sbind (rising_ (by simp; omega)) ?_
              rw [hr2]
              simp only [cond_true]
              exact Res.ret _ _ (by omega) (by omega) (by rw [toI_items, emap]) ⟨wf_items (by simp) (by simp; omega) hnl2 hwf2, _, .map _ _ (ls ++ [lx]) hls2 hnl2 hr2 hnk2 htx2, by rw [hrt, hSt, rest_one hq, hrx, rest_one hq1, hzip, joinS_snoc]; simp⟩
            | false =>
              simp only [Bool.false_eq_true, if_false, cond_false, takes_ (t := t) (i := j') _ _ h2 ht, eat_ (t := t) (i := j') _ _ h2 ht, len1, Option.bind_some]
              cases hq2 : pre ⟨#[44]⟩ (rest t j') with
              | true =>
                have hj2 := pre_lt hq2
                simp only [if_true, cond_true]
                rw [emap]
                exact ih (t.size - (j' + 1)) (by omega) (j' + 1) _ _ (Nat.le_refl _) (by omega) (by simp; omega) (by simp; omega) (by omega) hr2 hwf2 hnl2 ⟨ls ++ [lx], hls2, htx2, by rw [hrt, hSt, rest_one hq, hrx, rest_one hq2, hzip]; simp⟩ hnk2
              | false =>
                simp only [Bool.false_eq_true, if_false, cond_false]
                exact Res.none _ _ _ h2
          · refine Res.sbind h2 (Res.ibind h3 ?_)
            simp only [app_one (l := items) _ (by omega), Option.bind_some, takes_bad, cond_false]
            exact Res.none _ _ _ h1
        cases hL : names.getLast? with
        | none =>
          rw [List.getLast?_eq_none_iff] at hL
          subst hL
          simp only [show decide ((0 : Int) < (([] : List ByteArray).length : Int)) = false from rfl, cond_false]
          exact good (by simp [risingB]) _ _ rfl rfl
        | some z =>
          have hlen : 0 < names.length := by
            cases names with
            | nil => simp at hL
            | cons a b => simp
          have hix : ix names (IntKind.i64.wrap ((names.length : Int) - 1)) = some z := by
            rw [w64 (by omega) (by omega), show (names.length : Int) - 1 = ((names.length - 1 : Nat) : Int) by omega]
            unfold ix
            rw [if_pos (by omega), Int.toNat_natCast, ← List.getLast?_eq_getElem?]
            exact hL
          simp only [show decide ((0 : Int) < (names.length : Int)) = true by simp; omega, cond_true, hix, Option.bind_some]
          have hra := rising_app S names z hL
          cases hs : slt z S with
          | true =>
            simp only [cond_true]
            rw [hris, hs] at hra
            exact good hra _ _ rfl rfl
          | false =>
            simp only [cond_false]
            rw [hs, Bool.and_false] at hra
            refine Res.bad ?_ (IBad.ret _ _)
            -- the reference goes on, and tells none
            rcases ihv (j + 1) (by omega) hj1 with ⟨sv, j', h1, h2, hw, h3, h4⟩ | ⟨sv, j', iv, s, h1, h2, h3⟩
            · refine SBad.bind h3 ?_
              simp only [app_one (l := items) _ (by omega), Option.bind_some, takes_ (t := t) (i := j') _ _ h2 ht, len1]
              cases hq1 : pre ⟨#[125]⟩ (rest t j') with
              | true =>
                have hj2 := pre_lt hq1
                simp only [if_true, cond_true]
                refine SBad.bind (rising_ (by simp; omega)) ?_
                rw [hra]
                simp only [cond_false]
                exact SBad.ret _ (by omega)
              | false =>
                simp only [Bool.false_eq_true, if_false, cond_false, takes_ (t := t) (i := j') _ _ h2 ht, len1, Option.bind_some]
                cases hq2 : pre ⟨#[44]⟩ (rest t j') with
                | true =>
                  have hj2 := pre_lt hq2
                  simp only [if_true, cond_true]
                  exact fields_bad (i := i) ht hd ihv _ (j' + 1) _ _ (Nat.le_refl _) (by omega) (by simp; omega) (by simp; omega) (by omega) hra
                | false =>
                  simp only [Bool.false_eq_true, if_false, cond_false]
                  exact SBad.ret _ h2
            · refine SBad.bind h2 ?_
              simp only [app_one (l := items) _ (by omega), Option.bind_some, takes_bad, cond_false]
              exact SBad.ret _ h1
theorem fields_ (h : rest t i = 123 :: r) (ht : t.size ≤ 2000000) {d : Nat} (hd : d < 5) (ihv : ∀ p, i < p → p ≤ t.size → ValAt t (d + 1) p) : Res t i (fun k => spec_l01Reader_fields.f k (d : Int) ⟨t, ((i + 1 : Nat) : Int), false⟩) (fun k => impl_reader_fields.f k (d : Int) ⟨t, (i : Int)⟩) := by
  have hl := rest_lt h
  refine Res.step ?_
  simp only [spec_l01Reader_fields.f, impl_reader_fields.f, eat_ (t := t) (i := i) _ _ (by omega) ht, h, pre_cons, show ((123 : UInt8) == 123) = true from rfl, if_true, len1, List.length_cons, List.length_nil, Nat.zero_add, Option.bind_some, cond_true, show ((d : Int) == 5) = false by simp; omega, cond_false, eat_ (t := t) (i := i + 1) _ _ (by omega) ht, takes_ (t := t) (i := i + 1) _ _ (by omega) ht]
  cases hq : pre ⟨#[125]⟩ (rest t (i + 1)) with
  | true =>
    have hj1 := pre_lt hq
    simp only [if_true, cond_true]
    exact Res.ret _ _ (by omega) (by omega) (toI_flat _ _ _ _).symm ⟨wf_text (by omega), _, .map [] [] [] rfl rfl rfl (fun _ h => by simp at h) (fun _ _ _ h => by simp at h), by rw [h, ← rest_next h, rest_one hq]; rfl⟩
  | false =>
    simp only [Bool.false_eq_true, if_false, cond_false]
    exact fields_l0 ht hd ihv _ (i + 1) [] [] (Nat.le_refl _) (by omega) (by simp) (by simp) (by omega) rfl (fun x h => by simp at h) rfl ⟨[], rfl, fun _ _ _ h => by simp at h, by rw [rest_next h, h]; rfl⟩ (fun _ h => by simp at h)
theorem rest_word {a : List UInt8} (h : pre ⟨a.toArray⟩ (rest t i) = true) : rest t i = a ++ rest t (i + a.length) := by
  unfold pre at h
  rw [List.isPrefixOf_iff_prefix] at h
  obtain ⟨z, hz⟩ := h
  have hz' : a ++ z = rest t i := by simpa using hz
  rw [rest_add, ← hz']; simp
/-! Values -/
theorem nok_no {l : List UInt8} (h : ∀ c r, l = c :: r → c ≠ 45 ∧ isD c = false) : nok l = false := by
  cases hk : nok l with
  | false => rfl
  | true =>
    have hp := (nok_pos hk).1
    cases l with
    | nil => simp [nlen, dgs, sgn] at hp
    | cons c r =>
      obtain ⟨h1, h2⟩ := h c r rfl
      have hs : sgn (c :: r) = false := by
        unfold sgn; simp; intro e; exact h1 (UInt8.toNat_inj.1 e)
      unfold nlen dgs at hp
      rw [hs] at hp
      simp [h2] at hp
theorem pre_hd {x c : UInt8} (l r : List UInt8) (h : c ≠ x) : pre ⟨(x :: l).toArray⟩ (c :: r) = false := by
  unfold pre
  simp [List.isPrefixOf]
  intro e; exact absurd e.symm h
theorem value_j1 (hi : i ≤ t.size) (ht : t.size ≤ 2000000) (d : Nat) (h : d < 5 → pre ⟨#[123]⟩ (rest t i) = false) : Ev (fun k => spec_l01Reader_value.j1 k (d : Int) t (i : Int) false) (⟨2, num (rest t i), 0, ⟨#[]⟩, [], []⟩, ⟨t, ((i + nlen (rest t i) : Nat) : Int), !nok (rest t i)⟩) := by
  refine Ev.step ?_
  simp only [spec_l01Reader_value.j1]
  by_cases hd : d < 5
  · simp only [show decide ((d : Int) < 5) = true by simp; omega, cond_true, takes_ (t := t) (i := i) _ _ hi ht, h hd, Option.bind_some, Bool.false_eq_true, if_false, cond_false]
    exact Ev.bind (number_ (b := false) hi ht) (Ev.ret _)
  · simp only [show decide ((d : Int) < 5) = false by simp; omega, cond_false]
    exact Ev.bind (number_ (b := false) hi ht) (Ev.ret _)
theorem value_step (ht : t.size ≤ 2000000) (hi : i ≤ t.size) {d : Nat} (hd : d ≤ 5) (ihv : d < 5 → ∀ p, i < p → p ≤ t.size → ValAt t (d + 1) p) : ValAt t d i := by
  unfold ValAt
  refine Res.step ?_
  cases h : rest t i with
  | nil =>
    simp only [spec_l01Reader_value.f, impl_reader_value.f, le_nil h, peek_nil _ h, eat_ (t := t) (i := i) _ _ hi ht, h, show ∀ k, impl_isDigit.f k 0 = some false from fun _ => rfl, show pre (⟨#[110, 117, 108, 108]⟩ : ByteArray) [] = false from rfl, show pre (⟨#[116, 114, 117, 101]⟩ : ByteArray) [] = false from rfl, show pre (⟨#[102, 97, 108, 115, 101]⟩ : ByteArray) [] = false from rfl, show ((0 : Int) == 34) = false from rfl, show ((0 : Int) == 64) = false from rfl, show ((0 : Int) == 45) = false from rfl, show ((0 : Int) == 40) = false from rfl, show ((0 : Int) == 91) = false from rfl, show ((0 : Int) == 123) = false from rfl, show ((0 : Int) == 60) = false from rfl, show ((0 : Int) == 110) = false from rfl, show ((0 : Int) == 101) = false from rfl, fail_, Option.bind_some, cond_true, cond_false, Bool.false_eq_true, if_true, if_false, len1, List.length_cons, List.length_nil, Nat.zero_add, Nat.reduceAdd]
    exact Res.none _ _ _ hi
  | cons c r =>
    have hl := rest_lt h
    have hn := rest_next h
    have hle := nlen_le (c :: r)
    have hlen : (c :: r).length = t.size - i := by rw [← h, rest_len]
    have numbad : (c ≠ 45 ∧ isD c = false) → nok (rest t i) = false := fun hc => nok_no (fun c' r' e => by rw [h] at e; cases e; exact hc)
    have dlt : decide ((d : Int) < 5) = decide (d < 5) := by congr 1; simp; omega
    by_cases hc34 : c = 34
    · subst hc34
      simp only [spec_l01Reader_value.f, impl_reader_value.f, le_cons h, peek_cons _ h, isDigit_, takes_ (t := t) (i := i) _ _ (Nat.le_of_lt hl) ht, eat_ (t := t) (i := i) _ _ (Nat.le_of_lt hl) ht, h, Option.bind_some, cond_true, cond_false, Bool.false_eq_true, if_true, if_false, len1, List.length_cons, List.length_nil, Nat.zero_add, Nat.reduceAdd, show pre (⟨#[110, 117, 108, 108]⟩ : ByteArray) (34 :: r) = false from rfl, show pre (⟨#[116, 114, 117, 101]⟩ : ByteArray) (34 :: r) = false from rfl, show pre (⟨#[102, 97, 108, 115, 101]⟩ : ByteArray) (34 :: r) = false from rfl, show pre (⟨#[34]⟩ : ByteArray) (34 :: r) = true from rfl, show pre (⟨#[64]⟩ : ByteArray) (34 :: r) = false from rfl, show pre (⟨#[40]⟩ : ByteArray) (34 :: r) = false from rfl, show pre (⟨#[110]⟩ : ByteArray) (34 :: r) = false from rfl, show pre (⟨#[101]⟩ : ByteArray) (34 :: r) = false from rfl, show pre (⟨#[60]⟩ : ByteArray) (34 :: r) = false from rfl, show pre (⟨#[91]⟩ : ByteArray) (34 :: r) = false from rfl, show pre (⟨#[123]⟩ : ByteArray) (34 :: r) = false from rfl, show (((34 : UInt8).toNat : Int) == 34) = true from rfl, show (((34 : UInt8).toNat : Int) == 64) = false from rfl, show (((34 : UInt8).toNat : Int) == 45) = false from rfl, show (((34 : UInt8).toNat : Int) == 40) = false from rfl, show (((34 : UInt8).toNat : Int) == 91) = false from rfl, show (((34 : UInt8).toNat : Int) == 123) = false from rfl, show (((34 : UInt8).toNat : Int) == 60) = false from rfl, show (((34 : UInt8).toNat : Int) == 110) = false from rfl, show (((34 : UInt8).toNat : Int) == 101) = false from rfl, show isD 34 = false from rfl]
      rcases quoted_ (t := t) (i := i + 1) (b := false) ht (by omega) with ⟨s, j, h1, h2, hq, h3, h4⟩ | ⟨j, x, s, h1, h2, h3⟩
      · refine Res.sbind h3 (Res.ibind (a := (bs s, true, ⟨t, (j : Int)⟩)) (Ev.step ?_) ?_)
        · simp only [impl_reader_quoted.f, eat_ (t := t) (i := i) _ _ hi ht, h, pre_cons, show ((34 : UInt8) == 34) = true from rfl, if_true, len1, Option.bind_some, cond_true]
          exact h4
        · exact Res.ret _ _ h2 (by omega) (toI_flat _ _ _ _).symm ⟨wf_txt _, _, .text s, by rw [h, ← hn, hq]; simp⟩
      · refine Res.sbind h2 (Res.ibind (a := (x, false, s)) (Ev.step ?_) ?_)
        · simp only [impl_reader_quoted.f, eat_ (t := t) (i := i) _ _ hi ht, h, pre_cons, show ((34 : UInt8) == 34) = true from rfl, if_true, len1, Option.bind_some, cond_true]
          exact h3
        · exact Res.none _ _ _ h1
    by_cases hc64 : c = 64
    · subst hc64
      simp only [spec_l01Reader_value.f, impl_reader_value.f, le_cons h, peek_cons _ h, isDigit_, takes_ (t := t) (i := i) _ _ (Nat.le_of_lt hl) ht, eat_ (t := t) (i := i) _ _ (Nat.le_of_lt hl) ht, h, Option.bind_some, cond_true, cond_false, Bool.false_eq_true, if_true, if_false, len1, List.length_cons, List.length_nil, Nat.zero_add, Nat.reduceAdd, show pre (⟨#[110, 117, 108, 108]⟩ : ByteArray) (64 :: r) = false from rfl, show pre (⟨#[116, 114, 117, 101]⟩ : ByteArray) (64 :: r) = false from rfl, show pre (⟨#[102, 97, 108, 115, 101]⟩ : ByteArray) (64 :: r) = false from rfl, show pre (⟨#[34]⟩ : ByteArray) (64 :: r) = false from rfl, show pre (⟨#[64]⟩ : ByteArray) (64 :: r) = true from rfl, show pre (⟨#[40]⟩ : ByteArray) (64 :: r) = false from rfl, show pre (⟨#[110]⟩ : ByteArray) (64 :: r) = false from rfl, show pre (⟨#[101]⟩ : ByteArray) (64 :: r) = false from rfl, show pre (⟨#[60]⟩ : ByteArray) (64 :: r) = false from rfl, show pre (⟨#[91]⟩ : ByteArray) (64 :: r) = false from rfl, show pre (⟨#[123]⟩ : ByteArray) (64 :: r) = false from rfl, show (((64 : UInt8).toNat : Int) == 34) = false from rfl, show (((64 : UInt8).toNat : Int) == 64) = true from rfl, show (((64 : UInt8).toNat : Int) == 45) = false from rfl, show (((64 : UInt8).toNat : Int) == 40) = false from rfl, show (((64 : UInt8).toNat : Int) == 91) = false from rfl, show (((64 : UInt8).toNat : Int) == 123) = false from rfl, show (((64 : UInt8).toNat : Int) == 60) = false from rfl, show (((64 : UInt8).toNat : Int) == 110) = false from rfl, show (((64 : UInt8).toNat : Int) == 101) = false from rfl, show isD 64 = false from rfl]
      rcases date_ ht h with ⟨n, h1, hnr, h2, h3⟩ | ⟨⟨sv, j, hj, h2⟩, x, s, h3⟩
      · exact Res.sbind h2 (Res.ibind h3 (Res.ret _ _ h1 (by omega) (toI_flat _ _ _ _).symm ⟨wf_num (by omega) (by omega) hnr.1, by obtain ⟨l, q1, q2⟩ := hnr.2; exact ⟨_, .date n l q1, by rw [h, ← hn, q2]; rfl⟩⟩))
      · exact Res.sbind h2 (Res.ibind h3 (Res.none _ _ _ hj))
    by_cases hc40 : c = 40
    · subst hc40
      simp only [spec_l01Reader_value.f, impl_reader_value.f, le_cons h, peek_cons _ h, isDigit_, takes_ (t := t) (i := i) _ _ (Nat.le_of_lt hl) ht, eat_ (t := t) (i := i) _ _ (Nat.le_of_lt hl) ht, h, Option.bind_some, cond_true, cond_false, Bool.false_eq_true, if_true, if_false, len1, List.length_cons, List.length_nil, Nat.zero_add, Nat.reduceAdd, show pre (⟨#[110, 117, 108, 108]⟩ : ByteArray) (40 :: r) = false from rfl, show pre (⟨#[116, 114, 117, 101]⟩ : ByteArray) (40 :: r) = false from rfl, show pre (⟨#[102, 97, 108, 115, 101]⟩ : ByteArray) (40 :: r) = false from rfl, show pre (⟨#[34]⟩ : ByteArray) (40 :: r) = false from rfl, show pre (⟨#[64]⟩ : ByteArray) (40 :: r) = false from rfl, show pre (⟨#[40]⟩ : ByteArray) (40 :: r) = true from rfl, show pre (⟨#[110]⟩ : ByteArray) (40 :: r) = false from rfl, show pre (⟨#[101]⟩ : ByteArray) (40 :: r) = false from rfl, show pre (⟨#[60]⟩ : ByteArray) (40 :: r) = false from rfl, show pre (⟨#[91]⟩ : ByteArray) (40 :: r) = false from rfl, show pre (⟨#[123]⟩ : ByteArray) (40 :: r) = false from rfl, show (((40 : UInt8).toNat : Int) == 34) = false from rfl, show (((40 : UInt8).toNat : Int) == 64) = false from rfl, show (((40 : UInt8).toNat : Int) == 45) = false from rfl, show (((40 : UInt8).toNat : Int) == 40) = true from rfl, show (((40 : UInt8).toNat : Int) == 91) = false from rfl, show (((40 : UInt8).toNat : Int) == 123) = false from rfl, show (((40 : UInt8).toNat : Int) == 60) = false from rfl, show (((40 : UInt8).toNat : Int) == 110) = false from rfl, show (((40 : UInt8).toNat : Int) == 101) = false from rfl, show isD 40 = false from rfl]
      exact (point_ h ht).ipass
    by_cases hc110 : c = 110
    · subst hc110
      cases hw : pre (⟨#[110, 117, 108, 108]⟩ : ByteArray) (110 :: r) with
      | true =>
        have hp := pre_len hw
        rw [hlen, show (⟨#[110, 117, 108, 108]⟩ : ByteArray).size = 4 from rfl] at hp
        simp only [spec_l01Reader_value.f, impl_reader_value.f, le_cons h, peek_cons _ h, isDigit_, takes_ (t := t) (i := i) _ _ (Nat.le_of_lt hl) ht, eat_ (t := t) (i := i) _ _ (Nat.le_of_lt hl) ht, h, hw, Option.bind_some, cond_true, cond_false, Bool.false_eq_true, if_true, if_false, len1, List.length_cons, List.length_nil, Nat.zero_add, Nat.reduceAdd, show pre (⟨#[116, 114, 117, 101]⟩ : ByteArray) (110 :: r) = false from rfl, show pre (⟨#[102, 97, 108, 115, 101]⟩ : ByteArray) (110 :: r) = false from rfl, show pre (⟨#[34]⟩ : ByteArray) (110 :: r) = false from rfl, show pre (⟨#[64]⟩ : ByteArray) (110 :: r) = false from rfl, show pre (⟨#[40]⟩ : ByteArray) (110 :: r) = false from rfl, show pre (⟨#[110]⟩ : ByteArray) (110 :: r) = true from rfl, show pre (⟨#[101]⟩ : ByteArray) (110 :: r) = false from rfl, show pre (⟨#[60]⟩ : ByteArray) (110 :: r) = false from rfl, show pre (⟨#[91]⟩ : ByteArray) (110 :: r) = false from rfl, show pre (⟨#[123]⟩ : ByteArray) (110 :: r) = false from rfl, show (((110 : UInt8).toNat : Int) == 34) = false from rfl, show (((110 : UInt8).toNat : Int) == 64) = false from rfl, show (((110 : UInt8).toNat : Int) == 45) = false from rfl, show (((110 : UInt8).toNat : Int) == 40) = false from rfl, show (((110 : UInt8).toNat : Int) == 91) = false from rfl, show (((110 : UInt8).toNat : Int) == 123) = false from rfl, show (((110 : UInt8).toNat : Int) == 60) = false from rfl, show (((110 : UInt8).toNat : Int) == 110) = true from rfl, show (((110 : UInt8).toNat : Int) == 101) = false from rfl, show isD 110 = false from rfl]
        exact Res.ret _ _ (show i + 4 ≤ t.size by omega) (by omega) (toI_flat _ _ _ _).symm ⟨wf_text (by omega), _, .null, rest_word (t := t) (i := i) (a := [110, 117, 108, 108]) (by rw [h]; exact hw)⟩
      | false =>
        simp only [spec_l01Reader_value.f, impl_reader_value.f, le_cons h, peek_cons _ h, isDigit_, takes_ (t := t) (i := i) _ _ (Nat.le_of_lt hl) ht, eat_ (t := t) (i := i) _ _ (Nat.le_of_lt hl) ht, h, hw, Option.bind_some, cond_true, cond_false, Bool.false_eq_true, if_true, if_false, len1, List.length_cons, List.length_nil, Nat.zero_add, Nat.reduceAdd, show pre (⟨#[116, 114, 117, 101]⟩ : ByteArray) (110 :: r) = false from rfl, show pre (⟨#[102, 97, 108, 115, 101]⟩ : ByteArray) (110 :: r) = false from rfl, show pre (⟨#[34]⟩ : ByteArray) (110 :: r) = false from rfl, show pre (⟨#[64]⟩ : ByteArray) (110 :: r) = false from rfl, show pre (⟨#[40]⟩ : ByteArray) (110 :: r) = false from rfl, show pre (⟨#[110]⟩ : ByteArray) (110 :: r) = true from rfl, show pre (⟨#[101]⟩ : ByteArray) (110 :: r) = false from rfl, show pre (⟨#[60]⟩ : ByteArray) (110 :: r) = false from rfl, show pre (⟨#[91]⟩ : ByteArray) (110 :: r) = false from rfl, show pre (⟨#[123]⟩ : ByteArray) (110 :: r) = false from rfl, show (((110 : UInt8).toNat : Int) == 34) = false from rfl, show (((110 : UInt8).toNat : Int) == 64) = false from rfl, show (((110 : UInt8).toNat : Int) == 45) = false from rfl, show (((110 : UInt8).toNat : Int) == 40) = false from rfl, show (((110 : UInt8).toNat : Int) == 91) = false from rfl, show (((110 : UInt8).toNat : Int) == 123) = false from rfl, show (((110 : UInt8).toNat : Int) == 60) = false from rfl, show (((110 : UInt8).toNat : Int) == 110) = true from rfl, show (((110 : UInt8).toNat : Int) == 101) = false from rfl, show isD 110 = false from rfl]
        rcases thing_ (kind := 8) (.inl ⟨rfl, rfl⟩) h ht with ⟨sv, j, h1, h2, ⟨h3, hw3⟩, h4, h5⟩ | ⟨sv, j, iv, s, h1, h2, h3⟩
        · exact Res.sbind h4 (Res.ibind h5 (Res.ret _ _ h2 (by omega) rfl hw3))
        · exact Res.sbind h2 (Res.ibind h3 (Res.none _ _ _ h1))
    by_cases hc101 : c = 101
    · subst hc101
      simp only [spec_l01Reader_value.f, impl_reader_value.f, le_cons h, peek_cons _ h, isDigit_, takes_ (t := t) (i := i) _ _ (Nat.le_of_lt hl) ht, eat_ (t := t) (i := i) _ _ (Nat.le_of_lt hl) ht, h, Option.bind_some, cond_true, cond_false, Bool.false_eq_true, if_true, if_false, len1, List.length_cons, List.length_nil, Nat.zero_add, Nat.reduceAdd, show pre (⟨#[110, 117, 108, 108]⟩ : ByteArray) (101 :: r) = false from rfl, show pre (⟨#[116, 114, 117, 101]⟩ : ByteArray) (101 :: r) = false from rfl, show pre (⟨#[102, 97, 108, 115, 101]⟩ : ByteArray) (101 :: r) = false from rfl, show pre (⟨#[34]⟩ : ByteArray) (101 :: r) = false from rfl, show pre (⟨#[64]⟩ : ByteArray) (101 :: r) = false from rfl, show pre (⟨#[40]⟩ : ByteArray) (101 :: r) = false from rfl, show pre (⟨#[110]⟩ : ByteArray) (101 :: r) = false from rfl, show pre (⟨#[101]⟩ : ByteArray) (101 :: r) = true from rfl, show pre (⟨#[60]⟩ : ByteArray) (101 :: r) = false from rfl, show pre (⟨#[91]⟩ : ByteArray) (101 :: r) = false from rfl, show pre (⟨#[123]⟩ : ByteArray) (101 :: r) = false from rfl, show (((101 : UInt8).toNat : Int) == 34) = false from rfl, show (((101 : UInt8).toNat : Int) == 64) = false from rfl, show (((101 : UInt8).toNat : Int) == 45) = false from rfl, show (((101 : UInt8).toNat : Int) == 40) = false from rfl, show (((101 : UInt8).toNat : Int) == 91) = false from rfl, show (((101 : UInt8).toNat : Int) == 123) = false from rfl, show (((101 : UInt8).toNat : Int) == 60) = false from rfl, show (((101 : UInt8).toNat : Int) == 110) = false from rfl, show (((101 : UInt8).toNat : Int) == 101) = true from rfl, show isD 101 = false from rfl]
      rcases thing_ (kind := 9) (.inr ⟨rfl, rfl⟩) h ht with ⟨sv, j, h1, h2, ⟨h3, hw3⟩, h4, h5⟩ | ⟨sv, j, iv, s, h1, h2, h3⟩
      · exact Res.sbind h4 (Res.ibind h5 (Res.ret _ _ h2 (by omega) rfl hw3))
      · exact Res.sbind h2 (Res.ibind h3 (Res.none _ _ _ h1))
    by_cases hc60 : c = 60
    · subst hc60
      simp only [spec_l01Reader_value.f, impl_reader_value.f, le_cons h, peek_cons _ h, isDigit_, takes_ (t := t) (i := i) _ _ (Nat.le_of_lt hl) ht, eat_ (t := t) (i := i) _ _ (Nat.le_of_lt hl) ht, h, Option.bind_some, cond_true, cond_false, Bool.false_eq_true, if_true, if_false, len1, List.length_cons, List.length_nil, Nat.zero_add, Nat.reduceAdd, show pre (⟨#[110, 117, 108, 108]⟩ : ByteArray) (60 :: r) = false from rfl, show pre (⟨#[116, 114, 117, 101]⟩ : ByteArray) (60 :: r) = false from rfl, show pre (⟨#[102, 97, 108, 115, 101]⟩ : ByteArray) (60 :: r) = false from rfl, show pre (⟨#[34]⟩ : ByteArray) (60 :: r) = false from rfl, show pre (⟨#[64]⟩ : ByteArray) (60 :: r) = false from rfl, show pre (⟨#[40]⟩ : ByteArray) (60 :: r) = false from rfl, show pre (⟨#[110]⟩ : ByteArray) (60 :: r) = false from rfl, show pre (⟨#[101]⟩ : ByteArray) (60 :: r) = false from rfl, show pre (⟨#[60]⟩ : ByteArray) (60 :: r) = true from rfl, show pre (⟨#[91]⟩ : ByteArray) (60 :: r) = false from rfl, show pre (⟨#[123]⟩ : ByteArray) (60 :: r) = false from rfl, show (((60 : UInt8).toNat : Int) == 34) = false from rfl, show (((60 : UInt8).toNat : Int) == 64) = false from rfl, show (((60 : UInt8).toNat : Int) == 45) = false from rfl, show (((60 : UInt8).toNat : Int) == 40) = false from rfl, show (((60 : UInt8).toNat : Int) == 91) = false from rfl, show (((60 : UInt8).toNat : Int) == 123) = false from rfl, show (((60 : UInt8).toNat : Int) == 60) = true from rfl, show (((60 : UInt8).toNat : Int) == 110) = false from rfl, show (((60 : UInt8).toNat : Int) == 101) = false from rfl, show isD 60 = false from rfl]
      exact (path_ h ht).pass
    by_cases hc91 : c = 91
    · subst hc91
      by_cases hd5 : d < 5
      · simp only [spec_l01Reader_value.f, impl_reader_value.f, le_cons h, peek_cons _ h, isDigit_, takes_ (t := t) (i := i) _ _ (Nat.le_of_lt hl) ht, eat_ (t := t) (i := i) _ _ (Nat.le_of_lt hl) ht, h, Option.bind_some, cond_true, cond_false, Bool.false_eq_true, if_true, if_false, len1, List.length_cons, List.length_nil, Nat.zero_add, Nat.reduceAdd, show pre (⟨#[110, 117, 108, 108]⟩ : ByteArray) (91 :: r) = false from rfl, show pre (⟨#[116, 114, 117, 101]⟩ : ByteArray) (91 :: r) = false from rfl, show pre (⟨#[102, 97, 108, 115, 101]⟩ : ByteArray) (91 :: r) = false from rfl, show pre (⟨#[34]⟩ : ByteArray) (91 :: r) = false from rfl, show pre (⟨#[64]⟩ : ByteArray) (91 :: r) = false from rfl, show pre (⟨#[40]⟩ : ByteArray) (91 :: r) = false from rfl, show pre (⟨#[110]⟩ : ByteArray) (91 :: r) = false from rfl, show pre (⟨#[101]⟩ : ByteArray) (91 :: r) = false from rfl, show pre (⟨#[60]⟩ : ByteArray) (91 :: r) = false from rfl, show pre (⟨#[91]⟩ : ByteArray) (91 :: r) = true from rfl, show pre (⟨#[123]⟩ : ByteArray) (91 :: r) = false from rfl, show (((91 : UInt8).toNat : Int) == 34) = false from rfl, show (((91 : UInt8).toNat : Int) == 64) = false from rfl, show (((91 : UInt8).toNat : Int) == 45) = false from rfl, show (((91 : UInt8).toNat : Int) == 40) = false from rfl, show (((91 : UInt8).toNat : Int) == 91) = true from rfl, show (((91 : UInt8).toNat : Int) == 123) = false from rfl, show (((91 : UInt8).toNat : Int) == 60) = false from rfl, show (((91 : UInt8).toNat : Int) == 110) = false from rfl, show (((91 : UInt8).toNat : Int) == 101) = false from rfl, show isD 91 = false from rfl, dlt, decide_eq_true hd5]
        exact (list_ h ht hd5 (ihv hd5)).pass
      · obtain rfl : d = 5 := by omega
        simp only [spec_l01Reader_value.f, impl_reader_value.f, le_cons h, peek_cons _ h, isDigit_, takes_ (t := t) (i := i) _ _ (Nat.le_of_lt hl) ht, eat_ (t := t) (i := i) _ _ (Nat.le_of_lt hl) ht, h, Option.bind_some, cond_true, cond_false, Bool.false_eq_true, if_true, if_false, len1, List.length_cons, List.length_nil, Nat.zero_add, Nat.reduceAdd, show pre (⟨#[110, 117, 108, 108]⟩ : ByteArray) (91 :: r) = false from rfl, show pre (⟨#[116, 114, 117, 101]⟩ : ByteArray) (91 :: r) = false from rfl, show pre (⟨#[102, 97, 108, 115, 101]⟩ : ByteArray) (91 :: r) = false from rfl, show pre (⟨#[34]⟩ : ByteArray) (91 :: r) = false from rfl, show pre (⟨#[64]⟩ : ByteArray) (91 :: r) = false from rfl, show pre (⟨#[40]⟩ : ByteArray) (91 :: r) = false from rfl, show pre (⟨#[110]⟩ : ByteArray) (91 :: r) = false from rfl, show pre (⟨#[101]⟩ : ByteArray) (91 :: r) = false from rfl, show pre (⟨#[60]⟩ : ByteArray) (91 :: r) = false from rfl, show pre (⟨#[91]⟩ : ByteArray) (91 :: r) = true from rfl, show pre (⟨#[123]⟩ : ByteArray) (91 :: r) = false from rfl, show (((91 : UInt8).toNat : Int) == 34) = false from rfl, show (((91 : UInt8).toNat : Int) == 64) = false from rfl, show (((91 : UInt8).toNat : Int) == 45) = false from rfl, show (((91 : UInt8).toNat : Int) == 40) = false from rfl, show (((91 : UInt8).toNat : Int) == 91) = true from rfl, show (((91 : UInt8).toNat : Int) == 123) = false from rfl, show (((91 : UInt8).toNat : Int) == 60) = false from rfl, show (((91 : UInt8).toNat : Int) == 110) = false from rfl, show (((91 : UInt8).toNat : Int) == 101) = false from rfl, show isD 91 = false from rfl, dlt, show decide (5 < 5) = false from rfl]
        have hj := value_j1 hi ht 5 (fun h => absurd h (by omega))
        rw [numbad ⟨by decide, rfl⟩, h] at hj
        refine Res.bad ⟨_, _, ?_, hj⟩ (IBad.bind (a := (⟨6, 0, 0, ⟨#[]⟩, [], []⟩, false, ⟨t, ((i + 1 : Nat) : Int)⟩)) (Ev.step ?_) (IBad.ret _ _))
        · omega
        · simp only [impl_reader_list.f, eat_ (t := t) (i := i) _ _ hi ht, h, pre_cons, show ((91 : UInt8) == 91) = true from rfl, if_true, len1, Option.bind_some, cond_true, show (((5 : Nat) : Int) == 5) = true from rfl]
          exact Ev.ret _
    by_cases hc123 : c = 123
    · subst hc123
      by_cases hd5 : d < 5
      · simp only [spec_l01Reader_value.f, impl_reader_value.f, le_cons h, peek_cons _ h, isDigit_, takes_ (t := t) (i := i) _ _ (Nat.le_of_lt hl) ht, eat_ (t := t) (i := i) _ _ (Nat.le_of_lt hl) ht, h, Option.bind_some, cond_true, cond_false, Bool.false_eq_true, if_true, if_false, len1, List.length_cons, List.length_nil, Nat.zero_add, Nat.reduceAdd, show pre (⟨#[110, 117, 108, 108]⟩ : ByteArray) (123 :: r) = false from rfl, show pre (⟨#[116, 114, 117, 101]⟩ : ByteArray) (123 :: r) = false from rfl, show pre (⟨#[102, 97, 108, 115, 101]⟩ : ByteArray) (123 :: r) = false from rfl, show pre (⟨#[34]⟩ : ByteArray) (123 :: r) = false from rfl, show pre (⟨#[64]⟩ : ByteArray) (123 :: r) = false from rfl, show pre (⟨#[40]⟩ : ByteArray) (123 :: r) = false from rfl, show pre (⟨#[110]⟩ : ByteArray) (123 :: r) = false from rfl, show pre (⟨#[101]⟩ : ByteArray) (123 :: r) = false from rfl, show pre (⟨#[60]⟩ : ByteArray) (123 :: r) = false from rfl, show pre (⟨#[91]⟩ : ByteArray) (123 :: r) = false from rfl, show pre (⟨#[123]⟩ : ByteArray) (123 :: r) = true from rfl, show (((123 : UInt8).toNat : Int) == 34) = false from rfl, show (((123 : UInt8).toNat : Int) == 64) = false from rfl, show (((123 : UInt8).toNat : Int) == 45) = false from rfl, show (((123 : UInt8).toNat : Int) == 40) = false from rfl, show (((123 : UInt8).toNat : Int) == 91) = false from rfl, show (((123 : UInt8).toNat : Int) == 123) = true from rfl, show (((123 : UInt8).toNat : Int) == 60) = false from rfl, show (((123 : UInt8).toNat : Int) == 110) = false from rfl, show (((123 : UInt8).toNat : Int) == 101) = false from rfl, show isD 123 = false from rfl, dlt, decide_eq_true hd5]
        refine Res.sstep ?_
        simp only [spec_l01Reader_value.j1, dlt, decide_eq_true hd5, cond_true, takes_ (t := t) (i := i) _ _ hi ht, h, pre_cons, show ((123 : UInt8) == 123) = true from rfl, if_true, len1, Option.bind_some]
        exact (fields_ h ht hd5 (ihv hd5)).pass
      · obtain rfl : d = 5 := by omega
        simp only [spec_l01Reader_value.f, impl_reader_value.f, le_cons h, peek_cons _ h, isDigit_, takes_ (t := t) (i := i) _ _ (Nat.le_of_lt hl) ht, eat_ (t := t) (i := i) _ _ (Nat.le_of_lt hl) ht, h, Option.bind_some, cond_true, cond_false, Bool.false_eq_true, if_true, if_false, len1, List.length_cons, List.length_nil, Nat.zero_add, Nat.reduceAdd, show pre (⟨#[110, 117, 108, 108]⟩ : ByteArray) (123 :: r) = false from rfl, show pre (⟨#[116, 114, 117, 101]⟩ : ByteArray) (123 :: r) = false from rfl, show pre (⟨#[102, 97, 108, 115, 101]⟩ : ByteArray) (123 :: r) = false from rfl, show pre (⟨#[34]⟩ : ByteArray) (123 :: r) = false from rfl, show pre (⟨#[64]⟩ : ByteArray) (123 :: r) = false from rfl, show pre (⟨#[40]⟩ : ByteArray) (123 :: r) = false from rfl, show pre (⟨#[110]⟩ : ByteArray) (123 :: r) = false from rfl, show pre (⟨#[101]⟩ : ByteArray) (123 :: r) = false from rfl, show pre (⟨#[60]⟩ : ByteArray) (123 :: r) = false from rfl, show pre (⟨#[91]⟩ : ByteArray) (123 :: r) = false from rfl, show pre (⟨#[123]⟩ : ByteArray) (123 :: r) = true from rfl, show (((123 : UInt8).toNat : Int) == 34) = false from rfl, show (((123 : UInt8).toNat : Int) == 64) = false from rfl, show (((123 : UInt8).toNat : Int) == 45) = false from rfl, show (((123 : UInt8).toNat : Int) == 40) = false from rfl, show (((123 : UInt8).toNat : Int) == 91) = false from rfl, show (((123 : UInt8).toNat : Int) == 123) = true from rfl, show (((123 : UInt8).toNat : Int) == 60) = false from rfl, show (((123 : UInt8).toNat : Int) == 110) = false from rfl, show (((123 : UInt8).toNat : Int) == 101) = false from rfl, show isD 123 = false from rfl, dlt, show decide (5 < 5) = false from rfl]
        have hj := value_j1 hi ht 5 (fun h => absurd h (by omega))
        rw [numbad ⟨by decide, rfl⟩, h] at hj
        refine Res.bad ⟨_, _, ?_, hj⟩ (IBad.bind (a := (⟨7, 0, 0, ⟨#[]⟩, [], []⟩, false, ⟨t, ((i + 1 : Nat) : Int)⟩)) (Ev.step ?_) (IBad.ret _ _))
        · omega
        · simp only [impl_reader_fields.f, eat_ (t := t) (i := i) _ _ hi ht, h, pre_cons, show ((123 : UInt8) == 123) = true from rfl, if_true, len1, Option.bind_some, cond_true, show (((5 : Nat) : Int) == 5) = true from rfl]
          exact Ev.ret _
    by_cases hc116 : c = 116
    · subst hc116
      cases hw : pre (⟨#[116, 114, 117, 101]⟩ : ByteArray) (116 :: r) with
      | true =>
        have hp := pre_len hw
        rw [hlen, show (⟨#[116, 114, 117, 101]⟩ : ByteArray).size = 4 from rfl] at hp
        simp only [spec_l01Reader_value.f, impl_reader_value.f, le_cons h, peek_cons _ h, isDigit_, takes_ (t := t) (i := i) _ _ (Nat.le_of_lt hl) ht, eat_ (t := t) (i := i) _ _ (Nat.le_of_lt hl) ht, h, hw, Option.bind_some, cond_true, cond_false, Bool.false_eq_true, if_true, if_false, len1, List.length_cons, List.length_nil, Nat.zero_add, Nat.reduceAdd, show pre (⟨#[110, 117, 108, 108]⟩ : ByteArray) (116 :: r) = false from rfl, show pre (⟨#[102, 97, 108, 115, 101]⟩ : ByteArray) (116 :: r) = false from rfl, show pre (⟨#[34]⟩ : ByteArray) (116 :: r) = false from rfl, show pre (⟨#[64]⟩ : ByteArray) (116 :: r) = false from rfl, show pre (⟨#[40]⟩ : ByteArray) (116 :: r) = false from rfl, show pre (⟨#[110]⟩ : ByteArray) (116 :: r) = false from rfl, show pre (⟨#[101]⟩ : ByteArray) (116 :: r) = false from rfl, show pre (⟨#[60]⟩ : ByteArray) (116 :: r) = false from rfl, show pre (⟨#[91]⟩ : ByteArray) (116 :: r) = false from rfl, show pre (⟨#[123]⟩ : ByteArray) (116 :: r) = false from rfl, show (((116 : UInt8).toNat : Int) == 34) = false from rfl, show (((116 : UInt8).toNat : Int) == 64) = false from rfl, show (((116 : UInt8).toNat : Int) == 45) = false from rfl, show (((116 : UInt8).toNat : Int) == 40) = false from rfl, show (((116 : UInt8).toNat : Int) == 91) = false from rfl, show (((116 : UInt8).toNat : Int) == 123) = false from rfl, show (((116 : UInt8).toNat : Int) == 60) = false from rfl, show (((116 : UInt8).toNat : Int) == 110) = false from rfl, show (((116 : UInt8).toNat : Int) == 101) = false from rfl, show isD 116 = false from rfl]
        exact Res.ret _ _ (show i + 4 ≤ t.size by omega) (by omega) (toI_flat _ _ _ _).symm ⟨wf_flat (by omega) (by simp) (by omega) (by omega), _, .tru, rest_word (t := t) (i := i) (a := [116, 114, 117, 101]) (by rw [h]; exact hw)⟩
      | false =>
        have hj := value_j1 hi ht d (fun _ => by rw [h]; rfl)
        rw [numbad ⟨by decide, rfl⟩, h] at hj
        simp only [spec_l01Reader_value.f, impl_reader_value.f, le_cons h, peek_cons _ h, isDigit_, takes_ (t := t) (i := i) _ _ (Nat.le_of_lt hl) ht, eat_ (t := t) (i := i) _ _ (Nat.le_of_lt hl) ht, h, hw, Option.bind_some, cond_true, cond_false, Bool.false_eq_true, if_true, if_false, len1, List.length_cons, List.length_nil, Nat.zero_add, Nat.reduceAdd, show pre (⟨#[110, 117, 108, 108]⟩ : ByteArray) (116 :: r) = false from rfl, show pre (⟨#[102, 97, 108, 115, 101]⟩ : ByteArray) (116 :: r) = false from rfl, show pre (⟨#[34]⟩ : ByteArray) (116 :: r) = false from rfl, show pre (⟨#[64]⟩ : ByteArray) (116 :: r) = false from rfl, show pre (⟨#[40]⟩ : ByteArray) (116 :: r) = false from rfl, show pre (⟨#[110]⟩ : ByteArray) (116 :: r) = false from rfl, show pre (⟨#[101]⟩ : ByteArray) (116 :: r) = false from rfl, show pre (⟨#[60]⟩ : ByteArray) (116 :: r) = false from rfl, show pre (⟨#[91]⟩ : ByteArray) (116 :: r) = false from rfl, show pre (⟨#[123]⟩ : ByteArray) (116 :: r) = false from rfl, show (((116 : UInt8).toNat : Int) == 34) = false from rfl, show (((116 : UInt8).toNat : Int) == 64) = false from rfl, show (((116 : UInt8).toNat : Int) == 45) = false from rfl, show (((116 : UInt8).toNat : Int) == 40) = false from rfl, show (((116 : UInt8).toNat : Int) == 91) = false from rfl, show (((116 : UInt8).toNat : Int) == 123) = false from rfl, show (((116 : UInt8).toNat : Int) == 60) = false from rfl, show (((116 : UInt8).toNat : Int) == 110) = false from rfl, show (((116 : UInt8).toNat : Int) == 101) = false from rfl, show isD 116 = false from rfl]
        by_cases hd5 : d < 5
        · simp only [dlt, decide_eq_true hd5, cond_true]
          exact Res.bad ⟨_, _, by omega, hj⟩ (IBad.ret _ _)
        · simp only [dlt, decide_eq_false hd5, cond_false]
          exact Res.bad ⟨_, _, by omega, hj⟩ (IBad.ret _ _)
    by_cases hc102 : c = 102
    · subst hc102
      cases hw : pre (⟨#[102, 97, 108, 115, 101]⟩ : ByteArray) (102 :: r) with
      | true =>
        have hp := pre_len hw
        rw [hlen, show (⟨#[102, 97, 108, 115, 101]⟩ : ByteArray).size = 5 from rfl] at hp
        simp only [spec_l01Reader_value.f, impl_reader_value.f, le_cons h, peek_cons _ h, isDigit_, takes_ (t := t) (i := i) _ _ (Nat.le_of_lt hl) ht, eat_ (t := t) (i := i) _ _ (Nat.le_of_lt hl) ht, h, hw, Option.bind_some, cond_true, cond_false, Bool.false_eq_true, if_true, if_false, len1, List.length_cons, List.length_nil, Nat.zero_add, Nat.reduceAdd, show pre (⟨#[110, 117, 108, 108]⟩ : ByteArray) (102 :: r) = false from rfl, show pre (⟨#[116, 114, 117, 101]⟩ : ByteArray) (102 :: r) = false from rfl, show pre (⟨#[34]⟩ : ByteArray) (102 :: r) = false from rfl, show pre (⟨#[64]⟩ : ByteArray) (102 :: r) = false from rfl, show pre (⟨#[40]⟩ : ByteArray) (102 :: r) = false from rfl, show pre (⟨#[110]⟩ : ByteArray) (102 :: r) = false from rfl, show pre (⟨#[101]⟩ : ByteArray) (102 :: r) = false from rfl, show pre (⟨#[60]⟩ : ByteArray) (102 :: r) = false from rfl, show pre (⟨#[91]⟩ : ByteArray) (102 :: r) = false from rfl, show pre (⟨#[123]⟩ : ByteArray) (102 :: r) = false from rfl, show (((102 : UInt8).toNat : Int) == 34) = false from rfl, show (((102 : UInt8).toNat : Int) == 64) = false from rfl, show (((102 : UInt8).toNat : Int) == 45) = false from rfl, show (((102 : UInt8).toNat : Int) == 40) = false from rfl, show (((102 : UInt8).toNat : Int) == 91) = false from rfl, show (((102 : UInt8).toNat : Int) == 123) = false from rfl, show (((102 : UInt8).toNat : Int) == 60) = false from rfl, show (((102 : UInt8).toNat : Int) == 110) = false from rfl, show (((102 : UInt8).toNat : Int) == 101) = false from rfl, show isD 102 = false from rfl]
        exact Res.ret _ _ (show i + 5 ≤ t.size by omega) (by omega) (toI_flat _ _ _ _).symm ⟨wf_flat (by omega) (by simp) (by omega) (by omega), _, .fls, rest_word (t := t) (i := i) (a := [102, 97, 108, 115, 101]) (by rw [h]; exact hw)⟩
      | false =>
        have hj := value_j1 hi ht d (fun _ => by rw [h]; rfl)
        rw [numbad ⟨by decide, rfl⟩, h] at hj
        simp only [spec_l01Reader_value.f, impl_reader_value.f, le_cons h, peek_cons _ h, isDigit_, takes_ (t := t) (i := i) _ _ (Nat.le_of_lt hl) ht, eat_ (t := t) (i := i) _ _ (Nat.le_of_lt hl) ht, h, hw, Option.bind_some, cond_true, cond_false, Bool.false_eq_true, if_true, if_false, len1, List.length_cons, List.length_nil, Nat.zero_add, Nat.reduceAdd, show pre (⟨#[110, 117, 108, 108]⟩ : ByteArray) (102 :: r) = false from rfl, show pre (⟨#[116, 114, 117, 101]⟩ : ByteArray) (102 :: r) = false from rfl, show pre (⟨#[34]⟩ : ByteArray) (102 :: r) = false from rfl, show pre (⟨#[64]⟩ : ByteArray) (102 :: r) = false from rfl, show pre (⟨#[40]⟩ : ByteArray) (102 :: r) = false from rfl, show pre (⟨#[110]⟩ : ByteArray) (102 :: r) = false from rfl, show pre (⟨#[101]⟩ : ByteArray) (102 :: r) = false from rfl, show pre (⟨#[60]⟩ : ByteArray) (102 :: r) = false from rfl, show pre (⟨#[91]⟩ : ByteArray) (102 :: r) = false from rfl, show pre (⟨#[123]⟩ : ByteArray) (102 :: r) = false from rfl, show (((102 : UInt8).toNat : Int) == 34) = false from rfl, show (((102 : UInt8).toNat : Int) == 64) = false from rfl, show (((102 : UInt8).toNat : Int) == 45) = false from rfl, show (((102 : UInt8).toNat : Int) == 40) = false from rfl, show (((102 : UInt8).toNat : Int) == 91) = false from rfl, show (((102 : UInt8).toNat : Int) == 123) = false from rfl, show (((102 : UInt8).toNat : Int) == 60) = false from rfl, show (((102 : UInt8).toNat : Int) == 110) = false from rfl, show (((102 : UInt8).toNat : Int) == 101) = false from rfl, show isD 102 = false from rfl]
        by_cases hd5 : d < 5
        · simp only [dlt, decide_eq_true hd5, cond_true]
          exact Res.bad ⟨_, _, by omega, hj⟩ (IBad.ret _ _)
        · simp only [dlt, decide_eq_false hd5, cond_false]
          exact Res.bad ⟨_, _, by omega, hj⟩ (IBad.ret _ _)
    have hj := value_j1 hi ht d (fun _ => by rw [h]; exact pre_hd _ _ hc123)
    have hw := whole_ hi ht
    rw [h] at hj hw numbad
    have sp : ∀ im : Nat → Option (S45 × Bool × S69), Res t i (fun k => spec_l01Reader_value.j1 k (d : Int) t (i : Int) false) im → Res t i (fun k => (bif decide ((d : Int) < 5) then spec_l01Reader_value.j1 k (d : Int) t (i : Int) false else spec_l01Reader_value.j1 k (d : Int) t (i : Int) false)) im := fun im g => by
      simp only [bif_same]; exact g
    have fin : Res t i (fun k => spec_l01Reader_value.j1 k (d : Int) t (i : Int) false) (fun k => (impl_reader_whole.f k ⟨t, (i : Int)⟩).bind fun v6 => some ((⟨2, v6.1, 0, (⟨#[]⟩ : ByteArray), ([] : (List ByteArray)), ([] : (List S45))⟩ : S45), v6.2.1, v6.2.2)) := by
      cases hk : nok (c :: r) with
      | true =>
        rw [hk] at hj hw
        have hp := (nok_pos hk).1
        exact .inl ⟨_, _, by omega, by omega, ⟨wf_num (by omega) (by omega) (num_rng _), _, .num _ (num_rng _), by have := rest_num (t := t) (i := i) (by rw [h]; exact hk); rw [h] at this ⊢; exact this⟩, hj, Ev.bind hw (by rw [toI_flat]; exact Ev.ret _)⟩
      | false =>
        rw [hk] at hj hw
        exact Res.bad ⟨_, _, by omega, hj⟩ (IBad.bind hw (IBad.ret _ _))
    by_cases hc45 : c = 45
    · simp only [spec_l01Reader_value.f, impl_reader_value.f, le_cons h, peek_cons _ h, isDigit_, takes_ (t := t) (i := i) _ _ (Nat.le_of_lt hl) ht, eat_ (t := t) (i := i) _ _ (Nat.le_of_lt hl) ht, h, Option.bind_some, cond_true, cond_false, Bool.false_eq_true, if_true, if_false, len1, List.length_cons, List.length_nil, Nat.zero_add, Nat.reduceAdd, show pre (⟨#[110, 117, 108, 108]⟩ : ByteArray) (c :: r) = false from pre_hd _ _ hc110, show pre (⟨#[116, 114, 117, 101]⟩ : ByteArray) (c :: r) = false from pre_hd _ _ hc116, show pre (⟨#[102, 97, 108, 115, 101]⟩ : ByteArray) (c :: r) = false from pre_hd _ _ hc102, show pre (⟨#[34]⟩ : ByteArray) (c :: r) = false from pre_hd _ _ hc34, show pre (⟨#[64]⟩ : ByteArray) (c :: r) = false from pre_hd _ _ hc64, show pre (⟨#[40]⟩ : ByteArray) (c :: r) = false from pre_hd _ _ hc40, show pre (⟨#[110]⟩ : ByteArray) (c :: r) = false from pre_hd _ _ hc110, show pre (⟨#[101]⟩ : ByteArray) (c :: r) = false from pre_hd _ _ hc101, show pre (⟨#[60]⟩ : ByteArray) (c :: r) = false from pre_hd _ _ hc60, show pre (⟨#[91]⟩ : ByteArray) (c :: r) = false from pre_hd _ _ hc91, show pre (⟨#[123]⟩ : ByteArray) (c :: r) = false from pre_hd _ _ hc123, show ((c.toNat : Int) == 34) = false from ceq_no (x := 34) hc34, show ((c.toNat : Int) == 64) = false from ceq_no (x := 64) hc64, show ((c.toNat : Int) == 40) = false from ceq_no (x := 40) hc40, show ((c.toNat : Int) == 91) = false from ceq_no (x := 91) hc91, show ((c.toNat : Int) == 123) = false from ceq_no (x := 123) hc123, show ((c.toNat : Int) == 60) = false from ceq_no (x := 60) hc60, show ((c.toNat : Int) == 110) = false from ceq_no (x := 110) hc110, show ((c.toNat : Int) == 101) = false from ceq_no (x := 101) hc101, show ((c.toNat : Int) == 45) = true by rw [hc45]; rfl]
      exact sp _ fin
    · cases hD : isD c with
      | true =>
        simp only [spec_l01Reader_value.f, impl_reader_value.f, le_cons h, peek_cons _ h, isDigit_, takes_ (t := t) (i := i) _ _ (Nat.le_of_lt hl) ht, eat_ (t := t) (i := i) _ _ (Nat.le_of_lt hl) ht, h, Option.bind_some, cond_true, cond_false, Bool.false_eq_true, if_true, if_false, len1, List.length_cons, List.length_nil, Nat.zero_add, Nat.reduceAdd, show pre (⟨#[110, 117, 108, 108]⟩ : ByteArray) (c :: r) = false from pre_hd _ _ hc110, show pre (⟨#[116, 114, 117, 101]⟩ : ByteArray) (c :: r) = false from pre_hd _ _ hc116, show pre (⟨#[102, 97, 108, 115, 101]⟩ : ByteArray) (c :: r) = false from pre_hd _ _ hc102, show pre (⟨#[34]⟩ : ByteArray) (c :: r) = false from pre_hd _ _ hc34, show pre (⟨#[64]⟩ : ByteArray) (c :: r) = false from pre_hd _ _ hc64, show pre (⟨#[40]⟩ : ByteArray) (c :: r) = false from pre_hd _ _ hc40, show pre (⟨#[110]⟩ : ByteArray) (c :: r) = false from pre_hd _ _ hc110, show pre (⟨#[101]⟩ : ByteArray) (c :: r) = false from pre_hd _ _ hc101, show pre (⟨#[60]⟩ : ByteArray) (c :: r) = false from pre_hd _ _ hc60, show pre (⟨#[91]⟩ : ByteArray) (c :: r) = false from pre_hd _ _ hc91, show pre (⟨#[123]⟩ : ByteArray) (c :: r) = false from pre_hd _ _ hc123, show ((c.toNat : Int) == 34) = false from ceq_no (x := 34) hc34, show ((c.toNat : Int) == 64) = false from ceq_no (x := 64) hc64, show ((c.toNat : Int) == 40) = false from ceq_no (x := 40) hc40, show ((c.toNat : Int) == 91) = false from ceq_no (x := 91) hc91, show ((c.toNat : Int) == 123) = false from ceq_no (x := 123) hc123, show ((c.toNat : Int) == 60) = false from ceq_no (x := 60) hc60, show ((c.toNat : Int) == 110) = false from ceq_no (x := 110) hc110, show ((c.toNat : Int) == 101) = false from ceq_no (x := 101) hc101, show ((c.toNat : Int) == 45) = false from ceq_no (x := 45) hc45, hD]
        exact sp _ fin
      | false =>
        simp only [spec_l01Reader_value.f, impl_reader_value.f, le_cons h, peek_cons _ h, isDigit_, takes_ (t := t) (i := i) _ _ (Nat.le_of_lt hl) ht, eat_ (t := t) (i := i) _ _ (Nat.le_of_lt hl) ht, h, Option.bind_some, cond_true, cond_false, Bool.false_eq_true, if_true, if_false, len1, List.length_cons, List.length_nil, Nat.zero_add, Nat.reduceAdd, show pre (⟨#[110, 117, 108, 108]⟩ : ByteArray) (c :: r) = false from pre_hd _ _ hc110, show pre (⟨#[116, 114, 117, 101]⟩ : ByteArray) (c :: r) = false from pre_hd _ _ hc116, show pre (⟨#[102, 97, 108, 115, 101]⟩ : ByteArray) (c :: r) = false from pre_hd _ _ hc102, show pre (⟨#[34]⟩ : ByteArray) (c :: r) = false from pre_hd _ _ hc34, show pre (⟨#[64]⟩ : ByteArray) (c :: r) = false from pre_hd _ _ hc64, show pre (⟨#[40]⟩ : ByteArray) (c :: r) = false from pre_hd _ _ hc40, show pre (⟨#[110]⟩ : ByteArray) (c :: r) = false from pre_hd _ _ hc110, show pre (⟨#[101]⟩ : ByteArray) (c :: r) = false from pre_hd _ _ hc101, show pre (⟨#[60]⟩ : ByteArray) (c :: r) = false from pre_hd _ _ hc60, show pre (⟨#[91]⟩ : ByteArray) (c :: r) = false from pre_hd _ _ hc91, show pre (⟨#[123]⟩ : ByteArray) (c :: r) = false from pre_hd _ _ hc123, show ((c.toNat : Int) == 34) = false from ceq_no (x := 34) hc34, show ((c.toNat : Int) == 64) = false from ceq_no (x := 64) hc64, show ((c.toNat : Int) == 40) = false from ceq_no (x := 40) hc40, show ((c.toNat : Int) == 91) = false from ceq_no (x := 91) hc91, show ((c.toNat : Int) == 123) = false from ceq_no (x := 123) hc123, show ((c.toNat : Int) == 60) = false from ceq_no (x := 60) hc60, show ((c.toNat : Int) == 110) = false from ceq_no (x := 110) hc110, show ((c.toNat : Int) == 101) = false from ceq_no (x := 101) hc101, show ((c.toNat : Int) == 45) = false from ceq_no (x := 45) hc45, hD]
        rw [numbad ⟨hc45, hD⟩] at hj
        exact sp _ (Res.bad ⟨_, _, by omega, hj⟩ (IBad.ret _ _))
theorem value_ (ht : t.size ≤ 2000000) : ∀ (n i d : Nat), t.size - i ≤ n → i ≤ t.size → d ≤ 5 → ValAt t d i := by
  intro n
  induction n using Nat.strongRecOn with
  | _ n ih =>
    intro i d hn hi hd
    exact value_step ht hi hd (fun hd5 p hp hpt => ih (t.size - p) (by omega) p (d + 1) (Nat.le_refl _) hpt (by omega))
/-- Both read the same of a text. -/
theorem readT_ (t : ByteArray) : (∃ sv, (Wf sv ∧ t.size ≤ 2000 ∧ Txt sv t.data.toList) ∧ Ev (fun k => spec_l01Read.f k t) sv ∧ Ev (fun k => impl_read.f k t) (toI sv, true)) ∨ (∃ iv, Ev (fun k => spec_l01Read.f k t) ⟨-1, 0, 0, ⟨#[]⟩, [], []⟩ ∧ Ev (fun k => impl_read.f k t) (iv, false)) := by
  unfold spec_l01Read.f impl_read.f
  by_cases hs : 2000 < t.size
  · simp only [show decide ((2000 : Int) < (t.size : Int)) = true by simp; omega, cond_true]
    exact .inr ⟨_, Ev.ret _, Ev.ret _⟩
  · simp only [show decide ((2000 : Int) < (t.size : Int)) = false by simp; omega, cond_false]
    rcases value_ (t := t) (by omega) _ 0 0 (Nat.le_refl _) (by omega) (by omega) with ⟨sv, j, h1, h2, hw, h3, h4⟩ | ⟨sv, j, iv, s, h1, h2, h3⟩
    · by_cases hj : j = t.size
      · subst hj
        refine .inl ⟨sv, ⟨hw.1, by omega, by
          obtain ⟨l, q1, q2⟩ := hw.2
          have e : rest t 0 = t.data.toList := by simp [rest]
          have e2 : rest t t.size = [] := by rw [size_list]; simp [rest]
          rw [e, e2, List.append_nil] at q2
          rw [q2]; exact q1⟩, Ev.bind h3 ?_, Ev.bind h4 ?_⟩
        · simp only [cond_false, beq_self_eq_true, cond_true]; exact Ev.ret _
        · simp only [cond_true, beq_self_eq_true]; exact Ev.ret _
      · have e : ((j : Int) == (t.size : Int)) = false := by simp; omega
        refine .inr ⟨toI sv, Ev.bind h3 ?_, Ev.bind h4 ?_⟩
        · simp only [cond_false, e]; exact Ev.ret _
        · simp only [cond_true, e]; exact Ev.ret _
    · refine .inr ⟨iv, Ev.bind h2 ?_, Ev.bind h3 ?_⟩
      · simp only [cond_true]; exact Ev.ret _
      · simp only [cond_false]; exact Ev.ret _
theorem read_ (t : ByteArray) : (∃ sv, Wf sv ∧ Ev (fun k => spec_l01Read.f k t) sv ∧ Ev (fun k => impl_read.f k t) (toI sv, true)) ∨ (∃ iv, Ev (fun k => spec_l01Read.f k t) ⟨-1, 0, 0, ⟨#[]⟩, [], []⟩ ∧ Ev (fun k => impl_read.f k t) (iv, false)) := by
  rcases readT_ t with ⟨sv, h, h1, h2⟩ | h
  · exact .inl ⟨sv, h.1, h1, h2⟩
  · exact .inr h
end
end Go.Ab
namespace Go.Ab
open Go.Proofs
set_option linter.unusedVariables false
set_option linter.unusedSimpArgs false
theorem natc {n : Nat} {m : Nat} (h : (n : Int) = (m : Int)) : n = m := by omega
def q1 (c : UInt8) : List Int := if c.toNat = 10 then [92, 110] else if c.toNat = 34 ∨ c.toNat = 92 then [92, (c.toNat : Int)] else [(c.toNat : Int)]
def qL (l : List UInt8) : List Int := l.flatMap q1
theorem q1_len (c : UInt8) : (q1 c).length ≤ 2 := by 
  unfold q1
  split
  · simp
  · split <;> simp
theorem app_q {a b : List Int} (h : a.length + b.length ≤ 60000000000) : app a b = some (a ++ b) := by unfold app; rw [if_pos (by omega)]
theorem iquote_l0 {s : ByteArray} (hs : s.size ≤ 2000) : ∀ (l : List UInt8) (i : Nat) (o : List Int), rest s i = l → i ≤ s.size → o.length ≤ 1 + 2 * i → Ev (fun k => impl_quote.l0 k s o (i : Int)) (bstr (o ++ qL l ++ [34])) := by
  intro l
  induction l with
  | nil =>
    intro i o hr hi ho
    refine Ev.step ?_
    simp only [impl_quote.l0, lt_nil hr, cond_false]
    rw [app_q (by simp; omega)]
    simp only [Option.bind_some, qL, List.flatMap_nil, List.append_nil]
    exact Ev.ret _
  | cons c l ih =>
    intro i o hr hi ho
    have hlt := rest_lt hr
    have hn := rest_next hr
    have w : IntKind.i64.wrap ((i : Int) + 1) = ((i + 1 : Nat) : Int) := wup hlt (show s.size ≤ 2000000 by omega)
    have hq : qL (c :: l) = q1 c ++ qL l := by simp [qL]
    have hql := q1_len c
    have g := ih (i + 1) (o ++ q1 c) hn (by omega) (by rw [List.length_append]; omega)
    rw [hq, ← List.append_assoc]
    have j : ∀ b : Bool, (b = true ↔ c.toNat = 34 ∨ c.toNat = 92) → Ev (fun k => impl_quote.j0 k s o (i : Int) (c.toNat : Int) b) (bstr (o ++ q1 c ++ qL l ++ [34])) := fun b hb => by
      refine Ev.step ?_
      simp only [impl_quote.j0, bix_cons hr, Option.bind_some]
      cases b with
      | true =>
        have h := hb.1 rfl
        have e : q1 c = [92, (c.toNat : Int)] := by unfold q1; rw [if_neg (by omega), if_pos h]
        rw [e] at g ⊢
        simp only [cond_true]
        rw [app_q (by simp; omega)]
        simp only [Option.bind_some, w]
        exact g
      | false =>
        have hno : ¬ (c.toNat = 34 ∨ c.toNat = 92) := fun h => by have := hb.2 h; cases this
        simp only [cond_false]
        by_cases h10 : c.toNat = 10
        · have e : q1 c = [92, 110] := by unfold q1; rw [if_pos h10]
          rw [e] at g ⊢
          simp only [show ((c.toNat : Int) == 10) = true by simp [h10], cond_true]
          rw [app_q (by simp; omega)]
          simp only [Option.bind_some, w]
          exact g
        · have e : q1 c = [(c.toNat : Int)] := by unfold q1; rw [if_neg h10, if_neg hno]
          rw [e] at g ⊢
          simp only [show ((c.toNat : Int) == 10) = false by simp; omega, cond_false]
          rw [app_q (by simp; omega)]
          simp only [Option.bind_some, w]
          exact g
    refine Ev.step ?_
    simp only [impl_quote.l0, lt_cons hr, cond_true, bix_cons hr, Option.bind_some]
    by_cases h34 : c.toNat = 34
    · simp only [show ((c.toNat : Int) == 34) = true by simp [h34], cond_true]
      exact j true ⟨fun _ => .inl h34, fun _ => rfl⟩
    · simp only [show ((c.toNat : Int) == 34) = false by simp; omega, cond_false]
      exact j _ ⟨fun h => .inr (natc (by simpa using h)), fun h => by have := h.resolve_left h34; simp [this]⟩
def quoted (s : ByteArray) : ByteArray := bstr ([34] ++ qL s.data.toList ++ [34])
theorem iquote {s : ByteArray} (hs : s.size ≤ 2000) : Ev (fun k => impl_quote.f k s) (quoted s) :=
  Ev.step (by simp only [impl_quote.f]; exact iquote_l0 hs _ 0 [34] (by simp [rest]) (Nat.zero_le _) (by simp))
theorem qL_len (l : List UInt8) : (qL l).length ≤ 2 * l.length := by
  induction l with
  | nil => simp [qL]
  | cons c l ih =>
    have h1 := q1_len c
    have : qL (c :: l) = q1 c ++ qL l := by simp [qL]
    rw [this, List.length_append, List.length_cons]; omega
theorem quoted_size {s : ByteArray} (hs : s.size ≤ 2000) : (quoted s).size ≤ 100000 := by
  have h := qL_len s.data.toList
  have hl : s.data.toList.length = s.size := by rw [Array.length_toList]; rfl
  have : (quoted s).size = ([34] ++ qL s.data.toList ++ [34] : List Int).length := by
    unfold quoted bstr
    show Array.size _ = _
    simp
  rw [this]; simp; omega
end Go.Ab
