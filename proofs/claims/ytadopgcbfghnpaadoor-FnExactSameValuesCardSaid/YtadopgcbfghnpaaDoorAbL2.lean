/- What both readers of values tell, part 2: names, quoted texts, dates, points, nodes and edges, paths. No condition. -/
import Derived.Test.YtadopgcbfghnpaaDoorAbL1
namespace Go.Ab
open Go.Proofs
set_option linter.unusedVariables false
set_option linter.unusedSimpArgs false
/-- The reference's value as the program's. -/
def toI (x : S26) : S31 := ⟨x.f0, x.f1, x.f2, x.f3, x.f5, x.f4.attach.map fun y => toI y.1⟩
termination_by SizeOf.sizeOf x
decreasing_by (have h_ := List.sizeOf_lt_of_mem y.2; cases x; simp_all; omega)
theorem toI_eq (x : S26) : toI x = ⟨x.f0, x.f1, x.f2, x.f3, x.f5, x.f4.map toI⟩ := by rw [toI]; simp
theorem toI_flat (a b c : Int) (s : ByteArray) : toI ⟨a, b, c, s, [], []⟩ = ⟨a, b, c, s, [], []⟩ := by rw [toI_eq]; rfl
/-- What every value that is read has. -/
inductive Wf : S26 → Prop
 | mk (v : S26) (hk : 0 ≤ v.f0 ∧ v.f0 ≤ 10) (hb : v.f0 = 1 → v.f1 = 0 ∨ v.f1 = 1) (hr : (-9223372036854775808 ≤ v.f1 ∧ v.f1 ≤ 9223372036854775807) ∧ (-9223372036854775808 ≤ v.f2 ∧ v.f2 ≤ 9223372036854775807)) (hl : v.f4.length ≤ 2000000) (hm : v.f5.length = if v.f0 = 7 then v.f4.length else 0) (hi : ∀ x ∈ v.f4, Wf x) (ht : v.f0 ≠ 3 → v.f3 = ⟨#[]⟩) (hx : v.f0 = 6 ∨ v.f0 = 7 ∨ v.f0 = 10 → v.f1 = 0 ∧ v.f2 = 0) (hy : ¬ (v.f0 = 6 ∨ v.f0 = 7 ∨ v.f0 = 10) → v.f4 = []) (hp : v.f0 ≠ 5 → v.f2 = 0) : Wf v
/-- Both tell the same value and stand at the same place, or both tell that there is none. -/
def Res (t : ByteArray) (i : Nat) (sp : Nat → Option (S26 × S37)) (im : Nat → Option (S31 × Bool × S52)) : Prop :=
  (∃ sv j, i < j ∧ j ≤ t.size ∧ Wf sv ∧ Ev sp (sv, ⟨t, ((j : Nat) : Int), false⟩) ∧ Ev im (toI sv, true, ⟨t, ((j : Nat) : Int)⟩)) ∨
  (∃ sv j iv s, j ≤ t.size ∧ Ev sp (sv, ⟨t, ((j : Nat) : Int), true⟩) ∧ Ev im (iv, false, s))
/-- The reference alone: none. -/
def SBad (t : ByteArray) (sp : Nat → Option (S26 × S37)) : Prop := ∃ sv j, j ≤ t.size ∧ Ev sp (sv, ⟨t, ((j : Nat) : Int), true⟩)
def IBad (im : Nat → Option (S31 × Bool × S52)) : Prop := ∃ iv s, Ev im (iv, false, s)
section
variable {t : ByteArray} {i : Nat} {c : UInt8} {r : List UInt8}
theorem Res.bad {sp : Nat → Option (S26 × S37)} {im : Nat → Option (S31 × Bool × S52)} (h : SBad t sp) (h' : IBad im) : Res t i sp im := by
  obtain ⟨sv, j, hj, h⟩ := h
  obtain ⟨iv, s, h'⟩ := h'
  exact .inr ⟨sv, j, iv, s, hj, h, h'⟩
theorem SBad.step {sp : Nat → Option (S26 × S37)} (h : SBad t (fun k => sp (k + 1))) : SBad t sp := by
  obtain ⟨sv, j, hj, h⟩ := h
  exact ⟨sv, j, hj, h.step⟩
theorem IBad.step {im : Nat → Option (S31 × Bool × S52)} (h : IBad (fun k => im (k + 1))) : IBad im := by
  obtain ⟨sv, j, h⟩ := h
  exact ⟨sv, j, h.step⟩
theorem SBad.bind {α : Type} {f : Nat → Option α} {g : Nat → α → Option (S26 × S37)} {a : α} (h : Ev f a) (h' : SBad t (fun k => g k a)) : SBad t (fun k => (f k).bind (g k)) := by
  obtain ⟨sv, j, hj, h'⟩ := h'
  exact ⟨sv, j, hj, h.bind h'⟩
theorem IBad.bind {α : Type} {f : Nat → Option α} {g : Nat → α → Option (S31 × Bool × S52)} {a : α} (h : Ev f a) (h' : IBad (fun k => g k a)) : IBad (fun k => (f k).bind (g k)) := by
  obtain ⟨sv, j, h'⟩ := h'
  exact ⟨sv, j, h.bind h'⟩
theorem SBad.ret (sv : S26) {j : Nat} (hj : j ≤ t.size) : SBad t (fun _ => some (sv, ⟨t, (j : Int), true⟩)) := ⟨sv, j, hj, Ev.ret _⟩
theorem IBad.ret (iv : S31) (s : S52) : IBad (fun _ => some (iv, false, s)) := ⟨iv, s, Ev.ret _⟩
/-! Names -/
def isL (c : UInt8) : Bool := bif decide (97 ≤ c.toNat) then (bif decide (c.toNat ≤ 122) then true else (bif decide (65 ≤ c.toNat) then decide (c.toNat ≤ 90) else false)) else (bif decide (65 ≤ c.toNat) then decide (c.toNat ≤ 90) else false)
def isN (c : UInt8) : Bool := isL c || isD c || c.toNat == 95
theorem letter_ (k : Nat) : spec_l01Letter.f k (c.toNat : Int) = some (isL c) := by
  unfold spec_l01Letter.f isL
  have h1 : decide ((97 : Int) ≤ (c.toNat : Int)) = decide (97 ≤ c.toNat) := by congr 1; simp; omega
  have h2 : decide ((c.toNat : Int) ≤ 122) = decide (c.toNat ≤ 122) := by congr 1; simp; omega
  have h3 : decide ((65 : Int) ≤ (c.toNat : Int)) = decide (65 ≤ c.toNat) := by congr 1; simp; omega
  have h4 : decide ((c.toNat : Int) ≤ 90) = decide (c.toNat ≤ 90) := by congr 1; simp; omega
  rw [h1, h2, h3, h4]
  cases decide (97 ≤ c.toNat) <;> cases decide (c.toNat ≤ 122) <;> cases decide (65 ≤ c.toNat) <;> rfl
theorem isLetter_ (k : Nat) : impl_isLetter.f k (c.toNat : Int) = some (isL c) := letter_ k
theorem us_ : ((c.toNat : Int) == 95) = (c.toNat == 95) := by
  rw [Bool.eq_iff_iff]; simp; omega
def nameOk (l : List UInt8) : Bool := decide (1 ≤ l.length) && decide (l.length ≤ 20) && l.head?.any isL && l.all isN
theorem lname_l0 {s : ByteArray} (hs : s.size ≤ 2000000) : ∀ (l : List UInt8) (p : Nat), rest s p = l → Ev (fun k => spec_l01Name.l0 k s (p : Int)) (l.all isN) := by
  intro l
  induction l with
  | nil =>
    intro p h
    refine Ev.step ?_
    simp only [spec_l01Name.l0, lt_nil h, cond_false]
    exact Ev.ret _
  | cons c r ih =>
    intro p h
    have hl := rest_lt h
    refine Ev.step ?_
    simp only [spec_l01Name.l0, lt_cons h, cond_true, bix_cons h, Option.bind_some, letter_, digit_, us_, w1 (i := p) (by omega), List.all_cons]
    have := ih (p + 1) (rest_next h)
    cases h1 : isL c with
    | true => simpa [isN, h1] using this
    | false =>
      cases h2 : isD c with
      | true => simpa [isN, h1, h2] using this
      | false =>
        cases h3 : (c.toNat == 95) with
        | true => simp only [isN, h1, h2, h3, cond_true, cond_false, Bool.or_true, Bool.true_and]; exact this
        | false => simp only [isN, h1, h2, h3, cond_false, Bool.or_false, Bool.false_and]; exact Ev.ret _
theorem iname_l0 {s : ByteArray} (hs : s.size ≤ 2000000) : ∀ (l : List UInt8) (p : Nat), rest s p = l → Ev (fun k => impl_isName.l0 k s (p : Int)) (l.all isN) := by
  intro l
  induction l with
  | nil =>
    intro p h
    refine Ev.step ?_
    simp only [impl_isName.l0, lt_nil h, cond_false]
    exact Ev.ret _
  | cons c r ih =>
    intro p h
    have hl := rest_lt h
    refine Ev.step ?_
    simp only [impl_isName.l0, lt_cons h, cond_true, bix_cons h, Option.bind_some, isLetter_, isDigit_, us_, w1 (i := p) (by omega), List.all_cons]
    have := ih (p + 1) (rest_next h)
    cases h1 : isL c with
    | true => simpa [isN, h1] using this
    | false =>
      cases h2 : isD c with
      | true => simpa [isN, h1, h2] using this
      | false =>
        cases h3 : (c.toNat == 95) with
        | true => simp only [isN, h1, h2, h3, cond_true, cond_false, Bool.or_true, Bool.true_and]; exact this
        | false => simp only [isN, h1, h2, h3, cond_false, Bool.or_false, Bool.false_and]; exact Ev.ret _
theorem rest_bs (l : List UInt8) : rest (bs l) 0 = l := by simp [rest, bs]
theorem rest_bs1 (c : UInt8) (l : List UInt8) : rest (bs (c :: l)) 1 = l := by simp [rest, bs]
theorem lname_ (l : List UInt8) : Ev (fun k => spec_l01Name.f k (bs l)) (nameOk l) := by
  refine Ev.step ?_
  simp only [spec_l01Name.f, bs_size]
  cases l with
  | nil => exact Ev.ret _
  | cons c r =>
    rw [show decide (((c :: r).length : Int) < 1) = false by simp; omega]
    simp only [cond_false]
    by_cases h20 : 20 < (c :: r).length
    · rw [show decide ((20 : Int) < ((c :: r).length : Int)) = true by simp at h20 ⊢; omega, show nameOk (c :: r) = false by unfold nameOk; rw [show decide ((c :: r).length ≤ 20) = false by simp at h20 ⊢; omega]; simp]
      exact Ev.ret _
    · rw [show decide ((20 : Int) < ((c :: r).length : Int)) = false by simp at h20 ⊢; omega]
      simp only [cond_false]
      have hb := bix_cons (rest_bs (c :: r))
      simp only [Int.natCast_zero] at hb
      simp only [show bix (bs (c :: r)) 0 = some (c.toNat : Int) from hb, Option.bind_some, letter_]
      have e : nameOk (c :: r) = (isL c && r.all isN) := by
        unfold nameOk
        rw [show decide ((c :: r).length ≤ 20) = true by simp at h20 ⊢; omega]
        simp [isN]
        cases isL c <;> simp
      rw [e]
      cases hL : isL c with
      | false => exact Ev.ret _
      | true =>
        simp only [cond_true, Bool.true_and]
        exact lname_l0 (s := bs (c :: r)) (by rw [bs_size]; omega) r 1 (rest_bs1 c r)
theorem iname_ (l : List UInt8) : Ev (fun k => impl_isName.f k (bs l)) (nameOk l) := by
  refine Ev.step ?_
  simp only [impl_isName.f, bs_size]
  cases l with
  | nil => exact Ev.ret _
  | cons c r =>
    rw [show decide (((c :: r).length : Int) < 1) = false by simp; omega]
    simp only [cond_false]
    by_cases h20 : 20 < (c :: r).length
    · rw [show decide ((20 : Int) < ((c :: r).length : Int)) = true by simp at h20 ⊢; omega, show nameOk (c :: r) = false by unfold nameOk; rw [show decide ((c :: r).length ≤ 20) = false by simp at h20 ⊢; omega]; simp]
      exact Ev.ret _
    · rw [show decide ((20 : Int) < ((c :: r).length : Int)) = false by simp at h20 ⊢; omega]
      simp only [cond_false]
      have hb := bix_cons (rest_bs (c :: r))
      simp only [Int.natCast_zero] at hb
      simp only [show bix (bs (c :: r)) 0 = some (c.toNat : Int) from hb, Option.bind_some, isLetter_]
      have e : nameOk (c :: r) = (isL c && (c :: r).all isN) := by
        unfold nameOk
        rw [show decide ((c :: r).length ≤ 20) = true by simp at h20 ⊢; omega]
        simp
      rw [e]
      cases hL : isL c with
      | false => exact Ev.ret _
      | true =>
        simp only [cond_true, Bool.true_and]
        exact iname_l0 (s := bs (c :: r)) (by rw [bs_size]; omega) (c :: r) 0 (rest_bs _)
theorem sname_l0 {q : Nat} {b : Bool} (ht : t.size ≤ 2000000) : ∀ (l : List UInt8) (p : Nat), rest t p = l → q ≤ p → p ≤ t.size → Ev (fun k => spec_l01Reader_name.l0 k ⟨t, (q : Int), b⟩ (p : Int)) (bs ((rest t q).take (p + (l.takeWhile isN).length - q)), ⟨t, ((p + (l.takeWhile isN).length : Nat) : Int), b || !nameOk ((rest t q).take (p + (l.takeWhile isN).length - q))⟩) := by
  have fin : ∀ (p : Nat), q ≤ p → p ≤ t.size → Ev (fun k => spec_l01Reader_name.j1 k ⟨t, (q : Int), b⟩ (p : Int)) (bs ((rest t q).take (p - q)), ⟨t, (p : Int), b || !nameOk ((rest t q).take (p - q))⟩) := by
    intro p hq hp
    refine Ev.step ?_
    simp only [spec_l01Reader_name.j1, sub_ij hq hp, Option.bind_some]
    refine Ev.bind (lname_ _) ?_
    cases nameOk ((rest t q).take (p - q)) <;> simp only [cond_true, cond_false, Bool.not_false, Bool.not_true, Bool.or_true, Bool.or_false] <;> exact Ev.ret _
  intro l
  induction l with
  | nil =>
    intro p h hq hp
    refine Ev.step ?_
    simp only [spec_l01Reader_name.l0, lt_nil h, cond_false]
    exact fin p hq hp
  | cons c r ih =>
    intro p h hq hp
    have hl := rest_lt h
    refine Ev.step ?_
    simp only [spec_l01Reader_name.l0, lt_cons h, cond_true, bix_cons h, Option.bind_some, letter_, digit_, us_]
    have go : Ev (fun k => spec_l01Reader_name.j0 k ⟨t, (q : Int), b⟩ (p : Int)) (bs ((rest t q).take (p + ((r.takeWhile isN).length + 1) - q)), ⟨t, ((p + ((r.takeWhile isN).length + 1) : Nat) : Int), b || !nameOk ((rest t q).take (p + ((r.takeWhile isN).length + 1) - q))⟩) := by
      refine Ev.step ?_
      simp only [spec_l01Reader_name.j0, w1 (i := p) (by omega)]
      have := ih (p + 1) (rest_next h) (by omega) (by omega)
      rw [show p + ((r.takeWhile isN).length + 1) = p + 1 + (r.takeWhile isN).length by omega]
      exact this
    cases hN : isN c with
    | true =>
      simp only [List.takeWhile_cons, hN, if_true, List.length_cons]
      cases h1 : isL c with
      | true => exact go
      | false =>
        cases h2 : isD c with
        | true => exact go
        | false =>
          have h3 : (c.toNat == 95) = true := by simpa [isN, h1, h2] using hN
          simp only [h3, cond_true, cond_false]
          exact go
    | false =>
      have h123 : isL c = false ∧ isD c = false ∧ (c.toNat == 95) = false := by
        simp only [isN, Bool.or_eq_false_iff] at hN; exact ⟨hN.1.1, hN.1.2, hN.2⟩
      simp only [h123.1, h123.2.1, h123.2.2, cond_false]
      simpa [List.takeWhile_cons, hN] using fin p hq hp
theorem iname_r0 {q : Nat} (ht : t.size ≤ 2000000) : ∀ (l : List UInt8) (p : Nat), rest t p = l → q ≤ p → p ≤ t.size → Ev (fun k => impl_reader_name.l0 k ⟨t, (q : Int)⟩ (p : Int)) (bs ((rest t q).take (p + (l.takeWhile isN).length - q)), nameOk ((rest t q).take (p + (l.takeWhile isN).length - q)), ⟨t, ((p + (l.takeWhile isN).length : Nat) : Int)⟩) := by
  have fin : ∀ (p : Nat), q ≤ p → p ≤ t.size → Ev (fun k => impl_reader_name.j1 k ⟨t, (q : Int)⟩ (p : Int)) (bs ((rest t q).take (p - q)), nameOk ((rest t q).take (p - q)), ⟨t, (p : Int)⟩) := by
    intro p hq hp
    refine Ev.step ?_
    simp only [impl_reader_name.j1, sub_ij hq hp, Option.bind_some]
    exact Ev.bind (iname_ _) (Ev.ret _)
  intro l
  induction l with
  | nil =>
    intro p h hq hp
    refine Ev.step ?_
    simp only [impl_reader_name.l0, lt_nil h, cond_false]
    exact fin p hq hp
  | cons c r ih =>
    intro p h hq hp
    have hl := rest_lt h
    refine Ev.step ?_
    simp only [impl_reader_name.l0, lt_cons h, cond_true, bix_cons h, Option.bind_some, isLetter_, isDigit_, us_]
    have go : Ev (fun k => impl_reader_name.j0 k ⟨t, (q : Int)⟩ (p : Int)) (bs ((rest t q).take (p + ((r.takeWhile isN).length + 1) - q)), nameOk ((rest t q).take (p + ((r.takeWhile isN).length + 1) - q)), ⟨t, ((p + ((r.takeWhile isN).length + 1) : Nat) : Int)⟩) := by
      refine Ev.step ?_
      simp only [impl_reader_name.j0, w1 (i := p) (by omega)]
      have := ih (p + 1) (rest_next h) (by omega) (by omega)
      rw [show p + ((r.takeWhile isN).length + 1) = p + 1 + (r.takeWhile isN).length by omega]
      exact this
    cases hN : isN c with
    | true =>
      simp only [List.takeWhile_cons, hN, if_true, List.length_cons]
      cases h1 : isL c with
      | true => exact go
      | false =>
        cases h2 : isD c with
        | true => exact go
        | false =>
          have h3 : (c.toNat == 95) = true := by simpa [isN, h1, h2] using hN
          simp only [h3, cond_true, cond_false]
          exact go
    | false =>
      have h123 : isL c = false ∧ isD c = false ∧ (c.toNat == 95) = false := by
        simp only [isN, Bool.or_eq_false_iff] at hN; exact ⟨hN.1.1, hN.1.2, hN.2⟩
      simp only [h123.1, h123.2.1, h123.2.2, cond_false]
      simpa [List.takeWhile_cons, hN] using fin p hq hp
/-- The name at the head of a text. -/
def nm (l : List UInt8) : List UInt8 := l.takeWhile isN
theorem nm_take (l : List UInt8) : l.take (nm l).length = nm l := take_tw isN l
theorem nm_le (l : List UInt8) : (nm l).length ≤ l.length := (List.takeWhile_prefix isN (l := l)).length_le
theorem sname_ {b : Bool} (hi : i ≤ t.size) (ht : t.size ≤ 2000000) : Ev (fun k => spec_l01Reader_name.f k ⟨t, (i : Int), b⟩) (bs (nm (rest t i)), ⟨t, ((i + (nm (rest t i)).length : Nat) : Int), b || !nameOk (nm (rest t i))⟩) := by
  refine Ev.step ?_
  simp only [spec_l01Reader_name.f]
  have := sname_l0 (q := i) (b := b) ht (rest t i) i rfl (Nat.le_refl _) hi
  rw [show i + ((rest t i).takeWhile isN).length - i = (nm (rest t i)).length by unfold nm; omega, nm_take] at this
  exact this
theorem rname_ (hi : i ≤ t.size) (ht : t.size ≤ 2000000) : Ev (fun k => impl_reader_name.f k ⟨t, (i : Int)⟩) (bs (nm (rest t i)), nameOk (nm (rest t i)), ⟨t, ((i + (nm (rest t i)).length : Nat) : Int)⟩) := by
  refine Ev.step ?_
  simp only [impl_reader_name.f]
  have := iname_r0 (q := i) ht (rest t i) i rfl (Nat.le_refl _) hi
  rw [show i + ((rest t i).takeWhile isN).length - i = (nm (rest t i)).length by unfold nm; omega, nm_take] at this
  exact this
/-! Quoted texts -/
def nums (l : List UInt8) : List Int := l.map fun c => (c.toNat : Int)
theorem bstr_nums (l : List UInt8) : bstr (nums l) = bs l := by
  unfold bstr nums bs
  rw [List.map_map]
  congr 2
  conv => rhs; rw [← List.map_id l]
  apply List.map_congr_left
  intro c _
  simp
theorem app_one {α : Type} {l : List α} (x : α) (h : l.length ≤ 2000000) : app l [x] = some (l ++ [x]) := by
  unfold app; rw [if_pos (by simp; omega)]
theorem app_num {l : List UInt8} {x : Int} (c : UInt8) (hx : x = (c.toNat : Int)) (h : l.length ≤ 2000000) : app (nums l) [x] = some (nums (l ++ [c])) := by
  rw [app_one _ (by simpa [nums] using h)]; simp [nums, hx]
theorem eqn {n : Nat} (m : Nat) : ((n : Int) == (m : Int)) = decide (n = m) := by
  rw [Bool.eq_iff_iff]; simp; omega
theorem quoted_l0 {q : Int} {b : Bool} (ht : t.size ≤ 2000000) : ∀ (n : Nat) (l L : List UInt8) (p : Nat), l.length ≤ n → rest t p = l → p ≤ t.size → L.length ≤ p →
    (∃ (s : List UInt8) (j : Nat), p < j ∧ j ≤ t.size ∧ Ev (fun k => spec_l01Reader_quoted.l0 k (nums L) ⟨t, q, b⟩ (p : Int)) (bs s, ⟨t, (j : Int), b⟩) ∧ Ev (fun k => impl_reader_quoted.l0 k (nums L) t (p : Int)) (bs s, true, ⟨t, (j : Int)⟩)) ∨
    (∃ (j : Nat) (x : ByteArray) (s : S52), j ≤ t.size ∧ Ev (fun k => spec_l01Reader_quoted.l0 k (nums L) ⟨t, q, b⟩ (p : Int)) (⟨#[]⟩, ⟨t, (j : Int), true⟩) ∧ Ev (fun k => impl_reader_quoted.l0 k (nums L) t (p : Int)) (x, false, s)) := by
  intro n
  induction n with
  | zero =>
    intro l L p hl h hp hL
    obtain rfl : l = [] := List.eq_nil_of_length_eq_zero (by omega)
    right
    refine ⟨p, ⟨#[]⟩, ⟨t, (p : Int)⟩, hp, Ev.step ?_, Ev.step ?_⟩
    · simp only [spec_l01Reader_quoted.l0, lt_nil h, cond_false]; exact Ev.ret _
    · simp only [impl_reader_quoted.l0, lt_nil h, cond_false]; exact Ev.ret _
  | succ n ih =>
    intro l L p hl h hp hL
    cases l with
    | nil =>
      right
      refine ⟨p, ⟨#[]⟩, ⟨t, (p : Int)⟩, hp, Ev.step ?_, Ev.step ?_⟩
      · simp only [spec_l01Reader_quoted.l0, lt_nil h, cond_false]; exact Ev.ret _
      · simp only [impl_reader_quoted.l0, lt_nil h, cond_false]; exact Ev.ret _
    | cons c r =>
      have hlt := rest_lt h
      have hw1 := w1 (i := p) (by omega)
      have hn := rest_next h
      have e34 : ((c.toNat : Int) == 34) = decide (c.toNat = 34) := eqn 34
      have e92 : ((c.toNat : Int) == 92) = decide (c.toNat = 92) := eqn 92
      have e32 : decide ((c.toNat : Int) < 32) = decide (c.toNat < 32) := by congr 1; simp; omega
      by_cases h34 : c.toNat = 34
      · left
        refine ⟨L, p + 1, by omega, by omega, Ev.step ?_, Ev.step ?_⟩
        · simp only [spec_l01Reader_quoted.l0, lt_cons h, cond_true, bix_cons h, Option.bind_some, e34, h34, decide_true, hw1, bstr_nums]; exact Ev.ret _
        · simp only [impl_reader_quoted.l0, lt_cons h, cond_true, bix_cons h, Option.bind_some, e34, h34, decide_true, hw1, bstr_nums]; exact Ev.ret _
      · by_cases h92 : c.toNat = 92
        · have d92 : decide (c.toNat < 32) = false := by simp; omega
          have d34 : decide (c.toNat = 34) = false := by simp; omega
          cases r with
          | nil =>
            right
            refine ⟨p + 1, ⟨#[]⟩, ⟨t, ((p + 1 : Nat) : Int)⟩, by omega, Ev.step ?_, Ev.step ?_⟩
            · simp only [spec_l01Reader_quoted.l0, lt_cons h, cond_true, bix_cons h, Option.bind_some, e34, d34, e32, d92, e92, decide_eq_true h92, hw1, le_nil hn, cond_false]; exact Ev.ret _
            · simp only [impl_reader_quoted.l0, lt_cons h, cond_true, bix_cons h, Option.bind_some, e34, d34, e32, d92, e92, decide_eq_true h92, hw1, peek_nil _ hn, cond_false, show ((0 : Int) == 34) = false from rfl, show ((0 : Int) == 92) = false from rfl]
              refine Ev.step ?_
              simp only [impl_reader_quoted.j0, cond_false, show ((0 : Int) == 110) = false from rfl]
              exact Ev.ret _
          | cons d r' =>
            have hlt' := rest_lt hn
            have hw2 := w1 (i := p + 1) (by omega)
            have hn' := rest_next hn
            have f34 : ((d.toNat : Int) == 34) = decide (d.toNat = 34) := eqn 34
            have f92 : ((d.toNat : Int) == 92) = decide (d.toNat = 92) := eqn 92
            have f110 : ((d.toNat : Int) == 110) = decide (d.toNat = 110) := eqn 110
            by_cases hd : d.toNat = 34 ∨ d.toNat = 92 ∨ d.toNat = 110
            · obtain ⟨x, hx⟩ : ∃ x : UInt8, (x.toNat : Int) = (if d.toNat = 110 then 10 else (d.toNat : Int)) := by
                by_cases h110 : d.toNat = 110
                · exact ⟨10, by rw [if_pos h110]; rfl⟩
                · exact ⟨d, by rw [if_neg h110]⟩
              have hs : ∀ R, Ev (fun k => spec_l01Reader_quoted.l0 k (nums (L ++ [x])) ⟨t, q, b⟩ ((p + 1 + 1 : Nat) : Int)) R → Ev (fun k => spec_l01Reader_quoted.l0 k (nums L) ⟨t, q, b⟩ (p : Int)) R := by
                intro R g
                refine Ev.step ?_
                simp only [spec_l01Reader_quoted.l0, lt_cons h, cond_true, bix_cons h, Option.bind_some, e34, d34, e32, d92, e92, decide_eq_true h92, hw1, le_cons hn, bix_cons hn, cond_false, f34, f92, f110]
                have gg : Ev (fun k => spec_l01Reader_quoted.j0 k (nums L) ⟨t, q, b⟩ (p : Int)) R := by
                  refine Ev.step ?_
                  simp only [spec_l01Reader_quoted.j0, hw1, bix_cons hn, Option.bind_some, f110]
                  have gj : Ev (fun k => spec_l01Reader_quoted.j1 k (nums L) (x.toNat : Int) ⟨t, q, b⟩ (p : Int)) R := by
                    refine Ev.step ?_
                    simp only [spec_l01Reader_quoted.j1, app_num (l := L) x rfl (by omega), Option.bind_some, hw1, hw2]
                    exact g
                  rw [hx] at gj
                  by_cases h110 : d.toNat = 110
                  · simp only [decide_eq_true h110, cond_true]; rw [if_pos h110] at gj; exact gj
                  · simp only [decide_eq_false h110, cond_false]; rw [if_neg h110] at gj; exact gj
                rcases hd with hd | hd | hd <;> simp [hd, gg]
              have hi : ∀ R, Ev (fun k => impl_reader_quoted.l0 k (nums (L ++ [x])) t ((p + 1 + 1 : Nat) : Int)) R → Ev (fun k => impl_reader_quoted.l0 k (nums L) t (p : Int)) R := by
                intro R g
                refine Ev.step ?_
                simp only [impl_reader_quoted.l0, lt_cons h, cond_true, bix_cons h, Option.bind_some, e34, d34, e92, decide_eq_true h92, hw1, peek_cons _ hn, cond_false, f34, f92]
                have gt : d.toNat ≠ 110 → Ev (fun k => impl_reader_quoted.j0 k (nums L) ((d.toNat : Int), ⟨t, ((p + 1 : Nat) : Int)⟩) true) R := by
                  intro h110
                  rw [if_neg h110] at hx
                  refine Ev.step ?_
                  simp only [impl_reader_quoted.j0, cond_true, bix_cons hn, Option.bind_some, app_num (l := L) x hx.symm (by omega), hw2]
                  exact g
                rcases hd with hd | hd | hd
                · simp only [decide_eq_true hd, cond_true]; exact gt (by omega)
                · rw [show decide (d.toNat = 34) = false by simp; omega]
                  simp only [decide_eq_true hd, cond_false]; exact gt (by omega)
                · rw [if_pos hd] at hx
                  rw [show decide (d.toNat = 34) = false by simp; omega, show decide (d.toNat = 92) = false by simp; omega]
                  simp only [cond_false]
                  refine Ev.step ?_
                  simp only [impl_reader_quoted.j0, cond_false, f110, decide_eq_true hd, cond_true, app_num (l := L) x hx.symm (by omega), Option.bind_some, hw2]
                  exact g
              rcases ih r' (L ++ [x]) (p + 1 + 1) (by simp at hl; omega) hn' (by omega) (by simp; omega) with ⟨s, j, h1, h2, h3, h4⟩ | ⟨j, y, s, h1, h2, h3⟩
              · exact .inl ⟨s, j, by omega, h2, hs _ h3, hi _ h4⟩
              · exact .inr ⟨j, y, s, h1, hs _ h2, hi _ h3⟩
            · right
              have d1 : decide (d.toNat = 34) = false := by simp; omega
              have d2 : decide (d.toNat = 92) = false := by simp; omega
              have d3 : decide (d.toNat = 110) = false := by simp; omega
              refine ⟨p + 1, ⟨#[]⟩, ⟨t, ((p + 1 : Nat) : Int)⟩, by omega, Ev.step ?_, Ev.step ?_⟩
              · simp only [spec_l01Reader_quoted.l0, lt_cons h, cond_true, bix_cons h, Option.bind_some, e34, d34, e32, d92, e92, decide_eq_true h92, hw1, le_cons hn, bix_cons hn, cond_false, f34, f92, f110, d1, d2, d3]; exact Ev.ret _
              · simp only [impl_reader_quoted.l0, lt_cons h, cond_true, bix_cons h, Option.bind_some, e34, d34, e92, decide_eq_true h92, hw1, peek_cons _ hn, cond_false, f34, f92, d1, d2]
                refine Ev.step ?_
                simp only [impl_reader_quoted.j0, cond_false, f110, d3]
                exact Ev.ret _
        · by_cases h32 : c.toNat < 32
          · right
            refine ⟨p + 1, ⟨#[]⟩, ⟨t, ((p + 1 : Nat) : Int)⟩, by omega, Ev.step ?_, Ev.step ?_⟩
            · simp only [spec_l01Reader_quoted.l0, lt_cons h, cond_true, bix_cons h, Option.bind_some, e34, decide_eq_false h34, e32, decide_eq_true h32, hw1, cond_false]; exact Ev.ret _
            · simp only [impl_reader_quoted.l0, lt_cons h, cond_true, bix_cons h, Option.bind_some, e34, decide_eq_false h34, e92, decide_eq_false h92, e32, decide_eq_true h32, hw1, cond_false]; exact Ev.ret _
          · have hs : ∀ R, Ev (fun k => spec_l01Reader_quoted.l0 k (nums (L ++ [c])) ⟨t, q, b⟩ ((p + 1 : Nat) : Int)) R → Ev (fun k => spec_l01Reader_quoted.l0 k (nums L) ⟨t, q, b⟩ (p : Int)) R := by
              intro R g
              refine Ev.step ?_
              simp only [spec_l01Reader_quoted.l0, lt_cons h, cond_true, bix_cons h, Option.bind_some, e34, decide_eq_false h34, e32, decide_eq_false h32, e92, decide_eq_false h92, cond_false, hw1, app_num (l := L) c rfl (by omega)]
              exact g
            have hi : ∀ R, Ev (fun k => impl_reader_quoted.l0 k (nums (L ++ [c])) t ((p + 1 : Nat) : Int)) R → Ev (fun k => impl_reader_quoted.l0 k (nums L) t (p : Int)) R := by
              intro R g
              refine Ev.step ?_
              simp only [impl_reader_quoted.l0, lt_cons h, cond_true, bix_cons h, Option.bind_some, e34, decide_eq_false h34, e32, decide_eq_false h32, e92, decide_eq_false h92, cond_false, hw1, app_num (l := L) c rfl (by omega)]
              exact g
            rcases ih r (L ++ [c]) (p + 1) (by simp at hl; omega) hn (by omega) (by simp; omega) with ⟨s, j, h1, h2, h3, h4⟩ | ⟨j, y, s, h1, h2, h3⟩
            · exact .inl ⟨s, j, by omega, h2, hs _ h3, hi _ h4⟩
            · exact .inr ⟨j, y, s, h1, hs _ h2, hi _ h3⟩
theorem quoted_ {b : Bool} (ht : t.size ≤ 2000000) (hi : i ≤ t.size) :
    (∃ (s : List UInt8) (j : Nat), i < j ∧ j ≤ t.size ∧ Ev (fun k => spec_l01Reader_quoted.f k ⟨t, (i : Int), b⟩) (bs s, ⟨t, (j : Int), b⟩) ∧ Ev (fun k => impl_reader_quoted.l0 k [] t (i : Int)) (bs s, true, ⟨t, (j : Int)⟩)) ∨
    (∃ (j : Nat) (x : ByteArray) (s : S52), j ≤ t.size ∧ Ev (fun k => spec_l01Reader_quoted.f k ⟨t, (i : Int), b⟩) (⟨#[]⟩, ⟨t, (j : Int), true⟩) ∧ Ev (fun k => impl_reader_quoted.l0 k [] t (i : Int)) (x, false, s)) := by
  have hs : ∀ R, Ev (fun k => spec_l01Reader_quoted.l0 k (nums []) ⟨t, (i : Int), b⟩ (i : Int)) R → Ev (fun k => spec_l01Reader_quoted.f k ⟨t, (i : Int), b⟩) R := by
    intro R g
    refine Ev.step ?_
    simp only [spec_l01Reader_quoted.f]
    exact g
  rcases quoted_l0 (q := (i : Int)) (b := b) ht _ (rest t i) [] i (Nat.le_refl _) rfl hi (by simp) with ⟨s, j, h1, h2, h3, h4⟩ | ⟨j, y, s, h1, h2, h3⟩
  · exact .inl ⟨s, j, h1, h2, hs _ h3, h4⟩
  · exact .inr ⟨j, y, s, h1, hs _ h2, h3⟩
end
end Go.Ab
