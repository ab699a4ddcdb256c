/- Names, byte by byte: both programs tell the same. No condition. -/
import Derived.Test.YtfeieigajdekhaaAbF
import Derived.Test.YtfeieigajdekhaaAbR
import Derived.Test.YtfeieigajdekhaaAbH0
namespace Go.Ab
open Go.Proofs
set_option linter.unusedVariables false
set_option linter.unusedSimpArgs false
def bs (l : List UInt8) : ByteArray := ⟨l.toArray⟩
def rest (t : ByteArray) (i : Nat) : List UInt8 := t.data.toList.drop i
section
variable {t : ByteArray} {i : Nat} {c : UInt8} {r : List UInt8}
theorem bs_inj {a b : List UInt8} : bs a = bs b ↔ a = b := ⟨fun h => by simpa [bs] using h, fun h => h ▸ rfl⟩
theorem bs_of (a : ByteArray) : a = bs a.data.toList := by simp [bs]
theorem size_list (a : ByteArray) : a.size = a.data.toList.length := by rw [Array.length_toList]; rfl
theorem bs_size (l : List UInt8) : (bs l).size = l.length := by rw [size_list]; simp [bs]
theorem rest_len : (rest t i).length = t.size - i := by rw [size_list]; simp [rest]
theorem rest_lt (h : rest t i = c :: r) : i < t.size := by have := rest_len (t := t) (i := i); rw [h] at this; simp at this; omega
theorem rest_ge (h : rest t i = []) : t.size ≤ i := by have := rest_len (t := t) (i := i); rw [h] at this; simp at this; omega
theorem rest_next (h : rest t i = c :: r) : rest t (i + 1) = r := by
  unfold rest at h ⊢
  rw [← List.drop_drop, h]; rfl
theorem rest_add (n : Nat) : rest t (i + n) = (rest t i).drop n := by unfold rest; rw [List.drop_drop]
theorem bix_cons (h : rest t i = c :: r) : bix t (i : Int) = some (c.toNat : Int) := by
  unfold bix
  have h0 : t.data.toList[i]? = some c := by
    have := congrArg List.head? h
    simpa [rest] using this
  rw [if_pos (by omega)]
  simp only [Int.toNat_natCast]
  rw [← Array.getElem?_toList, h0]; rfl
theorem lt_cons (h : rest t i = c :: r) : decide ((i : Int) < (t.size : Int)) = true := by have := rest_lt h; simpa using this
theorem lt_nil (h : rest t i = []) : decide ((i : Int) < (t.size : Int)) = false := by have := rest_ge h; simpa using this
theorem le_cons (h : rest t i = c :: r) : decide ((t.size : Int) ≤ (i : Int)) = false := by have := rest_lt h; simpa using this
theorem le_nil (h : rest t i = []) : decide ((t.size : Int) ≤ (i : Int)) = true := by have := rest_ge h; simpa using this
theorem sub_ij {j : Nat} (h1 : i ≤ j) (h2 : j ≤ t.size) : sub t (i : Int) (j : Int) = some (bs ((rest t i).take (j - i))) := by
  unfold sub
  rw [if_pos ⟨by omega, by omega, by omega⟩]
  simp only [Int.toNat_natCast, Option.some.injEq]
  rw [bs_of (t.extract i j)]
  congr 1
  simp [rest, ByteArray.data_extract, List.extract_eq_take_drop]
theorem digit_ (k : Nat) : spec_l01Digit.f k (c.toNat : Int) = some (isD c) := by
  unfold spec_l01Digit.f isD
  by_cases h : 48 ≤ c.toNat
  · rw [show decide ((48 : Int) ≤ (c.toNat : Int)) = true by simp; omega]; simp [h]; omega
  · rw [show decide ((48 : Int) ≤ (c.toNat : Int)) = false by simp; omega]; simp [h]
theorem isDigit_ (k : Nat) : impl_isDigit.f k (c.toNat : Int) = some (isD c) := digit_ k
end
def isL (c : UInt8) : Bool := bif decide (97 ≤ c.toNat) then (bif decide (c.toNat ≤ 122) then true else (bif decide (65 ≤ c.toNat) then decide (c.toNat ≤ 90) else false)) else (bif decide (65 ≤ c.toNat) then decide (c.toNat ≤ 90) else false)
def isN (c : UInt8) : Bool := isL c || isD c || c.toNat == 95
section
variable {t : ByteArray} {i : Nat} {c : UInt8} {r : List UInt8}
theorem letter_ (k : Nat) : spec_l01Letter.f k (c.toNat : Int) = some (isL c) := by
  unfold spec_l01Letter.f isL
  have h1 : decide ((97 : Int) ≤ (c.toNat : Int)) = decide (97 ≤ c.toNat) := by congr 1; simp; omega
  have h2 : decide ((c.toNat : Int) ≤ 122) = decide (c.toNat ≤ 122) := by congr 1; simp; omega
  have h3 : decide ((65 : Int) ≤ (c.toNat : Int)) = decide (65 ≤ c.toNat) := by congr 1; simp; omega
  have h4 : decide ((c.toNat : Int) ≤ 90) = decide (c.toNat ≤ 90) := by congr 1; simp; omega
  rw [h1, h2, h3, h4]
  cases decide (97 ≤ c.toNat) <;> cases decide (c.toNat ≤ 122) <;> cases decide (65 ≤ c.toNat) <;> rfl
theorem isLetter_ (k : Nat) : impl_isLetter.f k (c.toNat : Int) = some (isL c) := letter_ k
theorem us_ : ((c.toNat : Int) == 95) = (c.toNat == 95) := by
  rw [Bool.eq_iff_iff]; simp; omega
def nameOk (l : List UInt8) : Bool := decide (1 ≤ l.length) && decide (l.length ≤ 20) && l.head?.any isL && l.all isN
theorem lname_l0 {s : ByteArray} (hs : s.size ≤ 2000000) : ∀ (l : List UInt8) (p : Nat), rest s p = l → Ev (fun k => spec_l01Name.l0 k s (p : Int)) (l.all isN) := by
  intro l
  induction l with
  | nil =>
    intro p h
    refine Ev.step ?_
    simp only [spec_l01Name.l0, lt_nil h, cond_false]
    exact Ev.ret _
  | cons c r ih =>
    intro p h
    have hl := rest_lt h
    refine Ev.step ?_
    simp only [spec_l01Name.l0, lt_cons h, cond_true, bix_cons h, Option.bind_some, letter_, digit_, us_, w1 (i := p) (by omega), List.all_cons]
    have := ih (p + 1) (rest_next h)
    cases h1 : isL c with
    | true => simpa [isN, h1] using this
    | false =>
      cases h2 : isD c with
      | true => simpa [isN, h1, h2] using this
      | false =>
        cases h3 : (c.toNat == 95) with
        | true => simp only [isN, h1, h2, h3, cond_true, cond_false, Bool.or_true, Bool.true_and]; exact this
        | false => simp only [isN, h1, h2, h3, cond_false, Bool.or_false, Bool.false_and]; exact Ev.ret _
theorem iname_l0 {s : ByteArray} (hs : s.size ≤ 2000000) : ∀ (l : List UInt8) (p : Nat), rest s p = l → Ev (fun k => impl_isName.l0 k s (p : Int)) (l.all isN) := by
  intro l
  induction l with
  | nil =>
    intro p h
    refine Ev.step ?_
    simp only [impl_isName.l0, lt_nil h, cond_false]
    exact Ev.ret _
  | cons c r ih =>
    intro p h
    have hl := rest_lt h
    refine Ev.step ?_
    simp only [impl_isName.l0, lt_cons h, cond_true, bix_cons h, Option.bind_some, isLetter_, isDigit_, us_, w1 (i := p) (by omega), List.all_cons]
    have := ih (p + 1) (rest_next h)
    cases h1 : isL c with
    | true => simpa [isN, h1] using this
    | false =>
      cases h2 : isD c with
      | true => simpa [isN, h1, h2] using this
      | false =>
        cases h3 : (c.toNat == 95) with
        | true => simp only [isN, h1, h2, h3, cond_true, cond_false, Bool.or_true, Bool.true_and]; exact this
        | false => simp only [isN, h1, h2, h3, cond_false, Bool.or_false, Bool.false_and]; exact Ev.ret _
theorem rest_bs (l : List UInt8) : rest (bs l) 0 = l := by simp [rest, bs]
theorem rest_bs1 (c : UInt8) (l : List UInt8) : rest (bs (c :: l)) 1 = l := by simp [rest, bs]
theorem lname_ (l : List UInt8) : Ev (fun k => spec_l01Name.f k (bs l)) (nameOk l) := by
  refine Ev.step ?_
  simp only [spec_l01Name.f, bs_size]
  cases l with
  | nil => exact Ev.ret _
  | cons c r =>
    rw [show decide (((c :: r).length : Int) < 1) = false by simp; omega]
    simp only [cond_false]
    by_cases h20 : 20 < (c :: r).length
    · rw [show decide ((20 : Int) < ((c :: r).length : Int)) = true by simp at h20 ⊢; omega, show nameOk (c :: r) = false by unfold nameOk; rw [show decide ((c :: r).length ≤ 20) = false by simp at h20 ⊢; omega]; simp]
      exact Ev.ret _
    · rw [show decide ((20 : Int) < ((c :: r).length : Int)) = false by simp at h20 ⊢; omega]
      simp only [cond_false]
      have hb := bix_cons (rest_bs (c :: r))
      simp only [Int.natCast_zero] at hb
      simp only [show bix (bs (c :: r)) 0 = some (c.toNat : Int) from hb, Option.bind_some, letter_]
      have e : nameOk (c :: r) = (isL c && r.all isN) := by
        unfold nameOk
        rw [show decide ((c :: r).length ≤ 20) = true by simp at h20 ⊢; omega]
        simp [isN]
        cases isL c <;> simp
      rw [e]
      cases hL : isL c with
      | false => exact Ev.ret _
      | true =>
        simp only [cond_true, Bool.true_and]
        exact lname_l0 (s := bs (c :: r)) (by rw [bs_size]; omega) r 1 (rest_bs1 c r)
theorem iname_ (l : List UInt8) : Ev (fun k => impl_isName.f k (bs l)) (nameOk l) := by
  refine Ev.step ?_
  simp only [impl_isName.f, bs_size]
  cases l with
  | nil => exact Ev.ret _
  | cons c r =>
    rw [show decide (((c :: r).length : Int) < 1) = false by simp; omega]
    simp only [cond_false]
    by_cases h20 : 20 < (c :: r).length
    · rw [show decide ((20 : Int) < ((c :: r).length : Int)) = true by simp at h20 ⊢; omega, show nameOk (c :: r) = false by unfold nameOk; rw [show decide ((c :: r).length ≤ 20) = false by simp at h20 ⊢; omega]; simp]
      exact Ev.ret _
    · rw [show decide ((20 : Int) < ((c :: r).length : Int)) = false by simp at h20 ⊢; omega]
      simp only [cond_false]
      have hb := bix_cons (rest_bs (c :: r))
      simp only [Int.natCast_zero] at hb
      simp only [show bix (bs (c :: r)) 0 = some (c.toNat : Int) from hb, Option.bind_some, isLetter_]
      have e : nameOk (c :: r) = (isL c && (c :: r).all isN) := by
        unfold nameOk
        rw [show decide ((c :: r).length ≤ 20) = true by simp at h20 ⊢; omega]
        simp
      rw [e]
      cases hL : isL c with
      | false => exact Ev.ret _
      | true =>
        simp only [cond_true, Bool.true_and]
        exact iname_l0 (s := bs (c :: r)) (by rw [bs_size]; omega) (c :: r) 0 (rest_bs _)
theorem app_one {α : Type} {l : List α} (x : α) (h : l.length ≤ 2000000) : app l [x] = some (l ++ [x]) := by
  unfold app; rw [if_pos (by simp; omega)]
end
def risingB : List ByteArray → Bool
 | a :: b :: r => slt a b && risingB (b :: r)
 | _ => true
theorem ix_drop {α : Type} {l r : List α} {p : Nat} {a : α} (h : l.drop p = a :: r) : ix l (p : Int) = some a := by
  unfold ix
  rw [if_pos (by omega)]
  have := congrArg List.head? h
  simpa using this
def B2 {α : Type} (f g : Nat → Option α) : Prop := ∃ c, Ev f c ∧ Ev g c
section
variable {α β : Type}
theorem B2.step {f g : Nat → Option α} (h : B2 (fun k => f (k + 1)) (fun k => g (k + 1))) : B2 f g := by
  obtain ⟨c, h1, h2⟩ := h; exact ⟨c, h1.step, h2.step⟩
theorem B2.ret (c : α) : B2 (fun _ => some c) (fun _ => some c) := ⟨c, Ev.ret _, Ev.ret _⟩
theorem B2.bind {f g : Nat → Option α} {f' g' : Nat → α → Option β} (h : B2 f g) (h' : ∀ a, B2 (fun k => f' k a) (fun k => g' k a)) : B2 (fun k => (f k).bind (f' k)) (fun k => (g k).bind (g' k)) := by
  obtain ⟨c, h1, h2⟩ := h
  obtain ⟨d, h3, h4⟩ := h' c
  exact ⟨d, Ev.bind h1 h3, Ev.bind h2 h4⟩
theorem B2.pass {f g : Nat → Option α} (h : B2 f g) : B2 (fun k => (f k).bind fun v => some v) (fun k => (g k).bind fun v => some v) := h.bind fun a => B2.ret a
theorem B2.cond {c : Bool} {f g f' g' : Nat → Option α} (h : c = true → B2 f f') (h' : c = false → B2 g g') : B2 (fun k => bif c then f k else g k) (fun k => bif c then f' k else g' k) := by
  cases c with
  | true => exact h rfl
  | false => exact h' rfl
end
/-! Tables -/
section
variable {α β : Type} [DecidableEq α]
theorem tfind_shift (a : α) : ∀ (l : List (α × β)) (i : Nat), tfind a l i = (tfind a l 0).map fun q => (q.1 + i, q.2)
 | [], i => rfl
 | (b, v) :: r, i => by
  unfold tfind
  by_cases h : a = b
  · simp [h]
  · simp only [decide_eq_false h, cond_false]
    rw [tfind_shift a r (i + 1), tfind_shift a r (0 + 1)]
    cases tfind a r 0 <;> simp <;> omega
theorem tget_cons (a b : α) (v z : β) (r : List (α × β)) : tget ((b, v) :: r) a z = if a = b then v else tget r a z := by
  unfold tget
  rw [tfind]
  by_cases h : a = b
  · simp [h]
  · simp only [decide_eq_false h, cond_false, if_neg h]
    rw [tfind_shift a r (0 + 1)]
    cases tfind a r 0 <;> rfl
theorem tput_cons (a b : α) (v w : β) (r : List (α × β)) : tput ((b, v) :: r) a w = if a = b then (b, w) :: r else (b, v) :: tput r a w := by
  unfold tput
  rw [tfind]
  by_cases h : a = b
  · simp [h, tset1]
  · simp only [decide_eq_false h, cond_false, if_neg h]
    rw [tfind_shift a r (0 + 1)]
    cases tfind a r 0 <;> simp [tset1]
theorem tget_tput (a b : α) (v z : β) : ∀ (l : List (α × β)), tget (tput l a v) b z = if b = a then v else tget l b z
 | [] => by show tget [(a, v)] b z = _; rw [tget_cons]
 | (c, w) :: r => by
  rw [tput_cons]
  by_cases h : a = c
  · rw [if_pos h, tget_cons, tget_cons, h]
    by_cases h' : b = c <;> simp [h']
  · rw [if_neg h, tget_cons, tget_cons, tget_tput a b v z r]
    by_cases h' : b = c
    · subst h'; rw [if_pos rfl, if_pos rfl, if_neg (fun e => h e.symm)]
    · rw [if_neg h', if_neg h']
end

def nmB (s : ByteArray) : Bool := nameOk s.data.toList
theorem lnm (s : ByteArray) : Ev (fun k => spec_l01Name.f k s) (nmB s) := by
  have := lname_ s.data.toList
  rwa [← bs_of] at this
theorem inm (s : ByteArray) : Ev (fun k => impl_isName.f k s) (nmB s) := by
  have := iname_ s.data.toList
  rwa [← bs_of] at this
theorem nm2 (s : ByteArray) : B2 (fun k => spec_l01Name.f k s) (fun k => impl_isName.f k s) := ⟨_, lnm s, inm s⟩
theorem rising_short : ∀ (l : List ByteArray), l.length ≤ 1 → risingB l = true
 | [], _ => rfl
 | [_], _ => rfl
 | _ :: _ :: _, h => absurd h (by simp)
def labB (n : Nat) (l : List ByteArray) : Bool := decide (l.length ≤ n) && (l.all nmB && risingB l)
end Go.Ab
namespace Go.Ab
open Go.Proofs
set_option linter.unusedVariables false
set_option linter.unusedSimpArgs false
theorem w1b {i n : Nat} (h : i < n) (hn : n ≤ 60000000000) : IntKind.i64.wrap ((i : Int) + 1) = ((i + 1 : Nat) : Int) := by
  rw [wI (by omega) (by omega)]; omega
theorem m1b {i n : Nat} (h0 : 0 < i) (h : i ≤ n) (hn : n ≤ 60000000000) : IntKind.i64.wrap ((i : Int) - 1) = ((i - 1 : Nat) : Int) := by
  rw [wI (by omega) (by omega)]; omega
/-- A search through rows. -/
theorem search {α R : Type} {l : List α} {p : α → Bool} {hit : Int → R} {miss : R} {F : Nat → Int → Option R} (hl : l.length ≤ 60000000000)
  (h : ∀ k i, F (k + 1) i = bif decide (i < (l.length : Int)) then ((ix l i).bind fun x => bif p x then some (hit i) else F k (IntKind.i64.wrap (i + 1))) else some miss) :
  ∀ n i : Nat, l.length - i ≤ n → Ev (fun k => F k (i : Int)) (match (l.drop i).findIdx? p with | some j => hit ((i + j : Nat) : Int) | none => miss) := by
  intro n
  induction n with
  | zero =>
    intro i hi
    refine Ev.step ?_
    simp only [h, ltn (show ¬ i < l.length by omega), cond_false, List.drop_of_length_le (show l.length ≤ i by omega), List.findIdx?_nil]
    exact Ev.ret _
  | succ n ih =>
    intro i hn
    by_cases hi : i < l.length
    case neg =>
      refine Ev.step ?_
      simp only [h, ltn hi, cond_false, List.drop_of_length_le (show l.length ≤ i by omega), List.findIdx?_nil]
      exact Ev.ret _
    refine Ev.step ?_
    simp only [h, ltd hi, cond_true, ixg hi, Option.bind_some]
    rw [List.drop_eq_getElem_cons hi, List.findIdx?_cons]
    cases hp : p l[i] with
    | true => exact Ev.ret _
    | false =>
      simp only [cond_false, w1b hi hl]
      refine (ih (i + 1) (by omega)).eq ?_
      cases List.findIdx? p (l.drop (i + 1)) with
      | none => rfl
      | some j => simp [Nat.add_assoc, Nat.add_comm, Nat.add_left_comm]
def fnd {α : Type} (p : α → Bool) (l : List α) : Int := match l.findIdx? p with | some j => (j : Int) | none => -1
theorem fnd_cases {α : Type} (p : α → Bool) (l : List α) : (fnd p l = -1 ∧ l.find? p = none ∧ ∀ x ∈ l, p x = false) ∨ ∃ (j : Nat) (hj : j < l.length), fnd p l = (j : Int) ∧ l.find? p = some l[j] ∧ p l[j] = true := by
  unfold fnd
  induction l with
  | nil => left; simp
  | cons a l ih =>
    rw [List.findIdx?_cons, List.find?_cons]
    cases ha : p a with
    | true => right; exact ⟨0, by simp, rfl, rfl, ha⟩
    | false =>
      rcases ih with ⟨h1, h2, h3⟩ | ⟨j, hj, h1, h2, h3⟩
      · left
        refine ⟨?_, h2, ?_⟩
        · cases hf : List.findIdx? p l with
          | none => simp
          | some q => rw [hf] at h1; simp only at h1; omega
        · intro x hx
          rcases List.mem_cons.1 hx with rfl | hx
          · exact ha
          · exact h3 x hx
      · right
        refine ⟨j + 1, by simp; omega, ?_, by simpa using h2, by simpa using h3⟩
        cases hf : List.findIdx? p l with
        | none => rw [hf] at h1; simp only at h1; omega
        | some q => rw [hf] at h1; simp only at h1; simp; omega
def has (l : List ByteArray) (a : ByteArray) : Bool := l.any fun x => decide (x = a)
theorem has_iff {l : List ByteArray} {a : ByteArray} : has l a = true ↔ a ∈ l := by simp [has]
theorem has_no {l : List ByteArray} {a : ByteArray} : has l a = false ↔ a ∉ l := by rw [← has_iff]; simp
theorem mem_idx {l : List ByteArray} {a : ByteArray} {p : ByteArray → Bool} (hp : ∀ x, p x = decide (x = a)) : (match l.findIdx? p with | some j => true | none => false) = has l a := by
  induction l with
  | nil => rfl
  | cons b l ih =>
    rw [List.findIdx?_cons, hp]
    unfold has
    rw [List.any_cons]
    by_cases h : b = a
    · simp [h]
    · rw [decide_eq_false h, Bool.false_or]
      refine Eq.trans ?_ ih
      cases List.findIdx? p l <;> simp
theorem smem {l : List ByteArray} (hs : l.length ≤ 60000000000) (a : ByteArray) : Ev (fun k => spec_l01InTexts.f k l a) (has l a) := by
  refine Ev.step ?_
  simp only [spec_l01InTexts.f]
  have := search (p := fun x => decide (x = a)) (hit := fun _ => true) (miss := false) (F := fun k i => spec_l01InTexts.l0 k l a i) hs (fun k i => by simp only [spec_l01InTexts.l0]) _ 0 (Nat.le_refl _)
  refine this.eq ?_
  rw [List.drop_zero]
  exact mem_idx fun x => rfl
/-! Texts in order, each once -/
theorem app_b {α : Type} {a b : List α} (h : a.length + b.length ≤ 68719476736) : app a b = some (a ++ b) := by unfold app; rw [if_pos h]
theorem mem_ins {α : Type} (l : List α) (n : Nat) (x y : α) : y ∈ l.take n ++ [x] ++ l.drop n ↔ y ∈ l ∨ y = x := by
  have : y ∈ l ↔ y ∈ l.take n ∨ y ∈ l.drop n := by rw [← List.mem_append, List.take_append_drop]
  simp only [List.mem_append, List.mem_singleton, this]
  constructor
  · rintro ((h | h) | h)
    · exact .inl (.inl h)
    · exact .inr h
    · exact .inl (.inr h)
  · rintro ((h | h) | h)
    · exact .inl (.inl h)
    · exact .inr h
    · exact .inl (.inr h)
theorem sort_l1 {l : List ByteArray} {i : Nat} (hi : i < l.length) (hl : l.length ≤ 1000000000) {o : List ByteArray} (ho : o.length ≤ i) :
  ∀ (n : Nat), n ≤ o.length → ∃ o', (∀ x, x ∈ o' ↔ x ∈ o ∨ x = l[i]) ∧ o'.length ≤ i + 1 ∧ ∀ r, Ev (fun k => spec_l03Sort.l0 k l o'.length ((i + 1 : Nat) : Int) o') r → Ev (fun k => spec_l03Sort.l1 k l o.length (i : Int) (n : Int) o) r := by
  have J1 : ∀ n, n ≤ o.length → ∃ o', (∀ x, x ∈ o' ↔ x ∈ o ∨ x = l[i]) ∧ o'.length ≤ i + 1 ∧ ∀ r, Ev (fun k => spec_l03Sort.l0 k l o'.length ((i + 1 : Nat) : Int) o') r → Ev (fun k => spec_l03Sort.j1 k l o.length (i : Int) (n : Int) o) r := fun n hn => by
    refine ⟨o.take n ++ [l[i]] ++ o.drop n, mem_ins o n _, by simp; omega, fun r hr => Ev.step ?_⟩
    have hb1 : bnd (n : Int) (o.length : Int) (o.length : Int) = some () := by unfold bnd; rw [if_pos (by omega)]
    have hb2 : bnd 0 (n : Int) (o.length : Int) = some () := by unfold bnd; rw [if_pos (by omega)]
    have hrest : (o.drop n).take (o.length - n) = o.drop n := List.take_of_length_le (by simp)
    simp only [spec_l03Sort.j1, hb1, hb2, Option.bind_some, spec_l01Texts_b.f, spec_l01Texts_O.f, Int.toNat_natCast, hrest, ixg hi]
    rw [app_b (a := []) (by simp; omega), app_b (a := o.take n) (by simp; omega)]
    simp only [Option.bind_some, List.nil_append]
    rw [app_b (by simp; omega)]
    simp only [Option.bind_some, w1b hi (by omega)]
    exact hr
  have J0 : ∀ n, n ≤ o.length → ∃ o', (∀ x, x ∈ o' ↔ x ∈ o ∨ x = l[i]) ∧ o'.length ≤ i + 1 ∧ ∀ r, Ev (fun k => spec_l03Sort.l0 k l o'.length ((i + 1 : Nat) : Int) o') r → Ev (fun k => spec_l03Sort.j0 k l o.length (i : Int) (n : Int) o) r := fun n hn => by
    obtain ⟨o1, h1, h2, h3⟩ := J1 n hn
    by_cases h0 : 0 < n
    · have hlt : n - 1 < o.length := by omega
      have hin : inr ((n - 1 : Nat) : Int) o.length = some () := by unfold inr; rw [if_pos (by omega)]
      by_cases he : o[n - 1] = l[i]
      · refine ⟨o, fun x => ?_, by omega, fun r hr => Ev.step ?_⟩
        · exact ⟨.inl, fun h => h.elim id fun e => e ▸ he ▸ List.getElem_mem hlt⟩
        · simp only [spec_l03Sort.j0, ltd h0, show decide ((0 : Int) < (n : Int)) = true by simpa using h0, cond_true, m1b h0 hn (by omega), hin, Option.bind_some, Int.toNat_natCast, List.getElem?_eq_getElem hlt, ixg hi, he, decide_true, w1b hi (by omega)]
          exact hr
      · refine ⟨o1, h1, h2, fun r hr => Ev.step ?_⟩
        simp only [spec_l03Sort.j0, show decide ((0 : Int) < (n : Int)) = true by simpa using h0, cond_true, m1b h0 hn (by omega), hin, Option.bind_some, Int.toNat_natCast, List.getElem?_eq_getElem hlt, ixg hi, decide_eq_false he, cond_false]
        exact h3 r hr
    · refine ⟨o1, h1, h2, fun r hr => Ev.step ?_⟩
      simp only [spec_l03Sort.j0, show decide ((0 : Int) < (n : Int)) = false by simp; omega, cond_false]
      exact h3 r hr
  intro n
  induction n with
  | zero =>
    intro hn
    obtain ⟨o1, h1, h2, h3⟩ := J0 0 hn
    refine ⟨o1, h1, h2, fun r hr => Ev.step ?_⟩
    simp only [spec_l03Sort.l1, show decide ((0 : Int) < ((0 : Nat) : Int)) = false from rfl, cond_false]
    exact h3 r hr
  | succ n ih =>
    intro hn
    have hlt : n < o.length := by omega
    have hin : inr (n : Int) o.length = some () := by unfold inr; rw [if_pos (by omega)]
    have hm : IntKind.i64.wrap (((n + 1 : Nat) : Int) - 1) = (n : Int) := by rw [m1b (i := n + 1) (n := o.length) (by omega) hn (by omega)]; simp
    cases hs : slt l[i] o[n] with
    | true =>
      obtain ⟨o1, h1, h2, h3⟩ := ih (by omega)
      refine ⟨o1, h1, h2, fun r hr => Ev.step ?_⟩
      simp only [spec_l03Sort.l1, show decide ((0 : Int) < ((n + 1 : Nat) : Int)) = true by simp, cond_true, hm, hin, Option.bind_some, Int.toNat_natCast, List.getElem?_eq_getElem hlt, ixg hi, hs]
      exact h3 r hr
    | false =>
      obtain ⟨o1, h1, h2, h3⟩ := J0 (n + 1) hn
      refine ⟨o1, h1, h2, fun r hr => Ev.step ?_⟩
      simp only [spec_l03Sort.l1, show decide ((0 : Int) < ((n + 1 : Nat) : Int)) = true by simp, cond_true, hm, hin, Option.bind_some, Int.toNat_natCast, List.getElem?_eq_getElem hlt, ixg hi, hs, cond_false]
      exact h3 r hr
theorem sort_ {l : List ByteArray} (hl : l.length ≤ 1000000000) : ∃ r, Ev (fun k => spec_l03Sort.f k l) r ∧ (∀ x, x ∈ r ↔ x ∈ l) ∧ r.length ≤ l.length := by
  have L : ∀ n i : Nat, l.length - i ≤ n → i ≤ l.length → ∀ o : List ByteArray, o.length ≤ i → (∀ x, x ∈ o ↔ x ∈ l.take i) → ∃ r, Ev (fun k => spec_l03Sort.l0 k l o.length (i : Int) o) r ∧ (∀ x, x ∈ r ↔ x ∈ l) ∧ r.length ≤ l.length := by
    intro n
    have fin : ∀ i : Nat, ¬ i < l.length → ∀ o : List ByteArray, i ≤ l.length → o.length ≤ i → (∀ x, x ∈ o ↔ x ∈ l.take i) → ∃ r, Ev (fun k => spec_l03Sort.l0 k l o.length (i : Int) o) r ∧ (∀ x, x ∈ r ↔ x ∈ l) ∧ r.length ≤ l.length := fun i hi o hle ho hm => by
      refine ⟨o, Ev.step ?_, fun x => ?_, by omega⟩
      · simp only [spec_l03Sort.l0, ltn hi, cond_false, List.take_length]
        exact Ev.ret _
      · rw [hm, List.take_of_length_le (by omega)]
    induction n with
    | zero => intro i h hle o ho hm; exact fin i (by omega) o hle ho hm
    | succ n ih =>
      intro i h hle o ho hm
      by_cases hi : i < l.length
      case neg => exact fin i hi o hle ho hm
      obtain ⟨o', h1, h2, h3⟩ := sort_l1 hi hl ho o.length (Nat.le_refl _)
      obtain ⟨r, g1, g2, g3⟩ := ih (i + 1) (by omega) (by omega) o' h2 (fun x => by
        have e : l.take (i + 1) = l.take i ++ [l[i]] := by rw [List.take_add_one, List.getElem?_eq_getElem hi]; rfl
        rw [h1, hm, e, List.mem_append, List.mem_singleton])
      refine ⟨r, Ev.step ?_, g2, g3⟩
      simp only [spec_l03Sort.l0, ltd hi, cond_true]
      exact h3 r g1
  obtain ⟨r, h1, h2, h3⟩ := L l.length 0 (by omega) (by omega) [] (by simp) (by simp)
  exact ⟨r, Ev.step (by simp only [spec_l03Sort.f]; exact h1), h2, h3⟩
theorem lsub_b {α : Type} {l : List α} {a b : Nat} (h : a ≤ b) (hb : b ≤ l.length) : lsub l (a : Int) (b : Int) = some ((l.drop a).take (b - a)) := by
  unfold lsub; rw [if_pos (by omega)]; simp
theorem insert_ {o : List ByteArray} (a : ByteArray) (ho : o.length ≤ 1000000000) : ∃ r, Ev (fun k => impl_insert.f k o a) r ∧ (∀ x, x ∈ r ↔ x ∈ o ∨ x = a) ∧ r.length ≤ o.length + 1 := by
  have J1 : ∀ i : Nat, i ≤ o.length → ∃ r, Ev (fun k => impl_insert.j1 k o a (i : Int)) r ∧ (∀ x, x ∈ r ↔ x ∈ o ∨ x = a) ∧ r.length ≤ o.length + 1 := fun i hi => by
    refine ⟨o.take i ++ [a] ++ o.drop i, Ev.step ?_, mem_ins o i a, by simp; omega⟩
    have hm : mks (⟨#[]⟩ : ByteArray) 0 (IntKind.i64.wrap ((o.length : Int) + 1)) = some [] := by
      rw [wI (by omega) (by omega)]; unfold mks; rw [if_pos (by omega)]; rfl
    have e1 := lsub_b (l := o) (Nat.zero_le i) hi
    have e2 := lsub_b (l := o) hi (Nat.le_refl _)
    simp only [List.drop_zero, Nat.sub_zero, Int.ofNat_zero] at e1
    simp only [impl_insert.j1, hm, Option.bind_some]
    rw [e1, e2]
    simp only [Option.bind_some]
    rw [app_b (by simp; omega)]
    simp only [Option.bind_some, List.nil_append]
    rw [app_b (by simp; omega)]
    simp only [Option.bind_some]
    rw [app_b (by simp; omega)]
    simp only [Option.bind_some]
    rw [List.take_of_length_le (l := o.drop i) (by simp)]
    exact Ev.ret _
  have J0 : ∀ i : Nat, i ≤ o.length → ∃ r, Ev (fun k => impl_insert.j0 k o a (i : Int)) r ∧ (∀ x, x ∈ r ↔ x ∈ o ∨ x = a) ∧ r.length ≤ o.length + 1 := fun i hi => by
    by_cases h : i < o.length
    · by_cases he : o[i] = a
      · refine ⟨o, Ev.step ?_, fun x => ⟨.inl, fun h' => h'.elim id fun e => e ▸ he ▸ List.getElem_mem h⟩, by omega⟩
        simp only [impl_insert.j0, ltd h, cond_true, ixg h, Option.bind_some, he, decide_true]
        exact Ev.ret _
      · obtain ⟨r, h1, h2, h3⟩ := J1 i hi
        refine ⟨r, Ev.step ?_, h2, h3⟩
        simp only [impl_insert.j0, ltd h, cond_true, ixg h, Option.bind_some, decide_eq_false he, cond_false]
        exact h1
    · obtain ⟨r, h1, h2, h3⟩ := J1 i hi
      refine ⟨r, Ev.step ?_, h2, h3⟩
      simp only [impl_insert.j0, ltn h, cond_false]
      exact h1
  have L : ∀ n i : Nat, o.length - i ≤ n → i ≤ o.length → ∃ r, Ev (fun k => impl_insert.l0 k o a (i : Int)) r ∧ (∀ x, x ∈ r ↔ x ∈ o ∨ x = a) ∧ r.length ≤ o.length + 1 := by
    intro n
    induction n with
    | zero =>
      intro i h hi
      obtain ⟨r, h1, h2, h3⟩ := J0 i hi
      refine ⟨r, Ev.step ?_, h2, h3⟩
      simp only [impl_insert.l0, ltn (show ¬ i < o.length by omega), cond_false]
      exact h1
    | succ n ih =>
      intro i h hi
      by_cases hlt : i < o.length
      · cases hs : slt o[i] a with
        | true =>
          obtain ⟨r, h1, h2, h3⟩ := ih (i + 1) (by omega) (by omega)
          refine ⟨r, Ev.step ?_, h2, h3⟩
          simp only [impl_insert.l0, ltd hlt, cond_true, ixg hlt, Option.bind_some, hs, w1b hlt (by omega)]
          exact h1
        | false =>
          obtain ⟨r, h1, h2, h3⟩ := J0 i hi
          refine ⟨r, Ev.step ?_, h2, h3⟩
          simp only [impl_insert.l0, ltd hlt, cond_true, ixg hlt, Option.bind_some, hs, cond_false]
          exact h1
      · obtain ⟨r, h1, h2, h3⟩ := J0 i hi
        refine ⟨r, Ev.step ?_, h2, h3⟩
        simp only [impl_insert.l0, ltn hlt, cond_false]
        exact h1
  obtain ⟨r, h1, h2, h3⟩ := L o.length 0 (by omega) (by omega)
  exact ⟨r, Ev.step (by simp only [impl_insert.f]; exact h1), h2, h3⟩
/-! Rules -/
end Go.Ab
namespace Go.Ab
open Go.Proofs
set_option linter.unusedVariables false
set_option linter.unusedSimpArgs false
theorem less_trans : ∀ (a b c : List UInt8), Op.bytesLess a b = true → Op.bytesLess b c = true → Op.bytesLess a c = true
 | _, _, [], _, h => by rename_i b _; cases b <;> simp [Op.bytesLess] at h
 | [], _, _ :: _, _, _ => by simp [Op.bytesLess]
 | _ :: _, [], _ :: _, h, _ => by simp [Op.bytesLess] at h
 | x :: a, y :: b, z :: c, h, h' => by
   simp only [Op.bytesLess, Bool.or_eq_true, Bool.and_eq_true, decide_eq_true_eq, beq_iff_eq] at h h' ⊢
   rcases h with h | ⟨rfl, h⟩
   · rcases h' with h' | ⟨rfl, h'⟩
     · left; simp only [UInt8.lt_iff_toNat_lt] at h h' ⊢; omega
     · exact .inl h
   · rcases h' with h' | ⟨rfl, h'⟩
     · exact .inl h'
     · exact .inr ⟨rfl, less_trans a b c h h'⟩
theorem less_irr : ∀ (a : List UInt8), Op.bytesLess a a = false
 | [] => rfl
 | x :: a => by
   simp only [Op.bytesLess, less_irr a, Bool.and_false, Bool.or_false, decide_eq_false_iff_not, UInt8.lt_iff_toNat_lt]; omega
theorem slt_irr (a : ByteArray) : slt a a = false := less_irr _
theorem slt_trans {a b c : ByteArray} (h : slt a b = true) (h' : slt b c = true) : slt a c = true := less_trans _ _ _ h h'
theorem less_tri : ∀ (a b : List UInt8), Op.bytesLess a b = false → Op.bytesLess b a = false → a = b
 | [], [], _, _ => rfl
 | [], _ :: _, h, _ => by simp [Op.bytesLess] at h
 | _ :: _, [], _, h => by simp [Op.bytesLess] at h
 | x :: a, y :: b, h, h' => by
   simp only [Op.bytesLess, Bool.or_eq_false_iff, Bool.and_eq_false_iff, decide_eq_false_iff_not, beq_eq_false_iff_ne, UInt8.lt_iff_toNat_lt] at h h'
   have e : x = y := UInt8.toNat_inj.1 (by omega)
   subst e
   have h1 : Op.bytesLess a b = false := h.2.resolve_left fun e => e rfl
   have h2 : Op.bytesLess b a = false := h'.2.resolve_left fun e => e rfl
   rw [less_tri a b h1 h2]
theorem slt_tri {a b : ByteArray} (h : slt a b = false) (h' : slt b a = false) : a = b := by
  have := less_tri _ _ h h'
  rw [ByteArray.toList_eq, ByteArray.toList_eq] at this
  exact ByteArray.ext (Array.toList_inj.1 this)
theorem slt_asymm {a b : ByteArray} (h : slt a b = true) : slt b a = false := by
  cases e : slt b a with
  | false => rfl
  | true => have := slt_trans h e; rw [slt_irr] at this; cases this
theorem lt_of_lt_le {x c a : ByteArray} (h : slt x a = true) (h' : slt c a = false) : slt x c = true := by
  cases e : slt a c with
  | true => exact slt_trans h e
  | false => rw [← slt_tri e h']; exact h
abbrev RsN (N : List ByteArray) : Prop := N.Pairwise (fun a b => slt a b = true)
theorem insert_r {o : List ByteArray} {a : ByteArray} (ho : o.length ≤ 1000000000) (hr : RsN o) (ha : a ∉ o) : ∃ r, Ev (fun k => impl_insert.f k o a) r ∧ RsN r ∧ r.Perm (a :: o) := by
  have J1 : ∀ i : Nat, i ≤ o.length → Ev (fun k => impl_insert.j1 k o a (i : Int)) (o.take i ++ a :: o.drop i) := fun i hi => by
    refine Ev.step ?_
    have hm : mks (⟨#[]⟩ : ByteArray) 0 (IntKind.i64.wrap ((o.length : Int) + 1)) = some [] := by
      rw [wI (by omega) (by omega)]; unfold mks; rw [if_pos (by omega)]; rfl
    have e1 := lsub_b (l := o) (Nat.zero_le i) hi
    have e2 := lsub_b (l := o) hi (Nat.le_refl _)
    simp only [List.drop_zero, Nat.sub_zero, Int.ofNat_zero] at e1
    simp only [impl_insert.j1, hm, Option.bind_some]
    rw [e1, e2]
    simp only [Option.bind_some]
    rw [app_b (by simp; omega)]
    simp only [Option.bind_some, List.nil_append]
    rw [app_b (by simp; omega)]
    simp only [Option.bind_some]
    rw [app_b (by simp; omega)]
    simp only [Option.bind_some]
    rw [List.take_of_length_le (l := o.drop i) (by simp), List.append_assoc, List.singleton_append]
    exact Ev.ret _
  have J0 : ∀ i : Nat, i ≤ o.length → Ev (fun k => impl_insert.j0 k o a (i : Int)) (o.take i ++ a :: o.drop i) := fun i hi => by
    refine Ev.step ?_
    by_cases h : i < o.length
    · have he : ¬ o[i] = a := fun e => ha (e ▸ List.getElem_mem h)
      simp only [impl_insert.j0, ltd h, cond_true, ixg h, Option.bind_some, decide_eq_false he, cond_false]
      exact J1 i hi
    · simp only [impl_insert.j0, ltn h, cond_false]
      exact J1 i hi
  have G : ∀ i : Nat, i ≤ o.length → (∀ y ∈ o.take i, slt y a = true) → (∀ y ∈ o.drop i, slt a y = true) → RsN (o.take i ++ a :: o.drop i) ∧ (o.take i ++ a :: o.drop i).Perm (a :: o) := fun i hi h1 h2 => by
    constructor
    · unfold RsN at hr ⊢
      rw [← List.take_append_drop i o, List.pairwise_append] at hr
      obtain ⟨p1, p2, p3⟩ := hr
      refine List.pairwise_append.2 ⟨p1, List.pairwise_cons.2 ⟨h2, p2⟩, fun x hx y hy => ?_⟩
      rcases List.mem_cons.1 hy with rfl | hy
      · exact h1 x hx
      · exact p3 x hx y hy
    · have := List.perm_middle (a := a) (l₁ := o.take i) (l₂ := o.drop i)
      rwa [List.take_append_drop] at this
  have hg := List.pairwise_iff_getElem.1 hr
  have L : ∀ n i : Nat, o.length - i ≤ n → i ≤ o.length → (∀ y ∈ o.take i, slt y a = true) → ∃ r, Ev (fun k => impl_insert.l0 k o a (i : Int)) r ∧ RsN r ∧ r.Perm (a :: o) := by
    intro n
    have fin : ∀ i : Nat, ¬ i < o.length → i ≤ o.length → (∀ y ∈ o.take i, slt y a = true) → ∃ r, Ev (fun k => impl_insert.l0 k o a (i : Int)) r ∧ RsN r ∧ r.Perm (a :: o) := fun i h hi hb => by
      refine ⟨_, Ev.step ?_, G i hi hb (fun y hy => by rw [List.drop_of_length_le (by omega)] at hy; cases hy)⟩
      simp only [impl_insert.l0, ltn h, cond_false]
      exact J0 i hi
    induction n with
    | zero => intro i h hi hb; exact fin i (by omega) hi hb
    | succ n ih =>
      intro i h hi hb
      by_cases hlt : i < o.length
      case neg => exact fin i hlt hi hb
      cases hs : slt o[i] a with
      | true =>
        obtain ⟨r, h1, h2⟩ := ih (i + 1) (by omega) (by omega) (fun y hy => by
          rw [List.take_succ_eq_append_getElem hlt] at hy
          rcases List.mem_append.1 hy with hy | hy
          · exact hb y hy
          · rw [List.mem_singleton.1 hy]; exact hs)
        refine ⟨r, Ev.step ?_, h2⟩
        simp only [impl_insert.l0, ltd hlt, cond_true, ixg hlt, Option.bind_some, hs, w1b hlt (show o.length ≤ 60000000000 by omega)]
        exact h1
      | false =>
        have h0 : slt a o[i] = true := by
          cases e : slt a o[i] with
          | true => rfl
          | false => exact absurd (slt_tri e hs ▸ List.getElem_mem hlt) ha
        refine ⟨_, Ev.step ?_, G i hi hb (fun y hy => ?_)⟩
        · simp only [impl_insert.l0, ltd hlt, cond_true, cond_false, ixg hlt, Option.bind_some, hs]
          exact J0 i hi
        · obtain ⟨j, hj, rfl⟩ := List.getElem_of_mem hy
          have hj' : i + j < o.length := by simp at hj; omega
          rw [List.getElem_drop]
          by_cases hj0 : j = 0
          · subst hj0; exact h0
          · exact slt_trans h0 (hg i (i + j) hlt hj' (by omega))
  obtain ⟨r, h1, h2⟩ := L o.length 0 (by omega) (by omega) (fun y hy => by simp at hy)
  exact ⟨r, Ev.step (by simp only [impl_insert.f]; exact h1), h2⟩
theorem strict_ext : ∀ (a b : List ByteArray), RsN a → RsN b → (∀ x, x ∈ a ↔ x ∈ b) → a = b
 | [], [], _, _, _ => rfl
 | [], y :: s, _, _, h => by have := (h y).2 (List.mem_cons_self ..); cases this
 | x :: r, [], _, _, h => by have := (h x).1 (List.mem_cons_self ..); cases this
 | x :: r, y :: s, ha, hb, h => by
   obtain ⟨a1, a2⟩ := List.pairwise_cons.1 ha
   obtain ⟨b1, b2⟩ := List.pairwise_cons.1 hb
   have e : x = y := by
     rcases List.mem_cons.1 ((h x).1 (List.mem_cons_self ..)) with e | e
     · exact e
     · rcases List.mem_cons.1 ((h y).2 (List.mem_cons_self ..)) with e' | e'
       · exact e'.symm
       · have := slt_asymm (a1 y e'); rw [b1 x e] at this; cases this
   subst e
   rw [strict_ext r s a2 b2 (fun z => ⟨fun hz => by
     rcases List.mem_cons.1 ((h z).1 (List.mem_cons_of_mem _ hz)) with e | e
     · subst e; have := a1 z hz; rw [slt_irr] at this; cases this
     · exact e, fun hz => by
     rcases List.mem_cons.1 ((h z).2 (List.mem_cons_of_mem _ hz)) with e | e
     · subst e; have := b1 z hz; rw [slt_irr] at this; cases this
     · exact e⟩)]
theorem insert_2 {o : List ByteArray} (a : ByteArray) (ho : o.length ≤ 1000000000) : ∃ r, Ev (fun k => impl_insert.f k o a) r ∧ (∀ x, x ∈ r ↔ x ∈ o ∨ x = a) ∧ r.length ≤ o.length + 1 ∧ (RsN o → a ∉ o → RsN r) := by
  obtain ⟨r, h1, h2, h3⟩ := insert_ (o := o) a (by omega)
  refine ⟨r, h1, h2, h3, fun hr ha => ?_⟩
  obtain ⟨r', g1, g2, _⟩ := insert_r ho hr ha
  rw [Ev.uniq h1 g1]; exact g2
theorem insert_in {o : List ByteArray} {a : ByteArray} (ho : o.length ≤ 1000000000) (hr : RsN o) (ha : a ∈ o) : Ev (fun k => impl_insert.f k o a) o := by
  have L : ∀ n i : Nat, o.length - i ≤ n → i ≤ o.length → (∀ y ∈ o.take i, slt y a = true) → Ev (fun k => impl_insert.l0 k o a (i : Int)) o := by
    intro n
    have stuck : ∀ i : Nat, ¬ i < o.length → (∀ y ∈ o.take i, slt y a = true) → False := fun i h hb => by
      have := hb a (by rw [List.take_of_length_le (by omega)]; exact ha)
      rw [slt_irr] at this; cases this
    induction n with
    | zero => intro i h hi hb; exact (stuck i (by omega) hb).elim
    | succ n ih =>
      intro i h hi hb
      by_cases hlt : i < o.length
      case neg => exact (stuck i hlt hb).elim
      refine Ev.step ?_
      simp only [impl_insert.l0, ltd hlt, cond_true, ixg hlt, Option.bind_some]
      cases hs : slt o[i] a with
      | true =>
        simp only [cond_true, w1b hlt (show o.length ≤ 60000000000 by omega)]
        refine ih (i + 1) (by omega) (by omega) (fun y hy => ?_)
        rw [List.take_succ_eq_append_getElem hlt] at hy
        rcases List.mem_append.1 hy with hy | hy
        · exact hb y hy
        · rw [List.mem_singleton.1 hy]; exact hs
      | false =>
        have he : o[i] = a := by
          obtain ⟨j, hj, rfl⟩ := List.getElem_of_mem ha
          rcases Nat.lt_trichotomy j i with h1 | h1 | h1
          · have := hb o[j] (List.mem_take_iff_getElem.2 ⟨j, by omega, rfl⟩)
            rw [slt_irr] at this; cases this
          · subst h1; rfl
          · have := List.pairwise_iff_getElem.1 hr i j hlt hj h1
            rw [hs] at this; cases this
        simp only [cond_false]
        refine Ev.step ?_
        simp only [impl_insert.j0, ltd hlt, cond_true, ixg hlt, Option.bind_some, he, decide_true]
        exact Ev.ret _
  exact Ev.step (by simp only [impl_insert.f]; exact L o.length 0 (by omega) (by omega) (fun y hy => by simp at hy))
theorem insert_3 {o : List ByteArray} (a : ByteArray) (ho : o.length ≤ 1000000000) (hr : RsN o) : ∃ r, Ev (fun k => impl_insert.f k o a) r ∧ (∀ x, x ∈ r ↔ x ∈ o ∨ x = a) ∧ r.length ≤ o.length + 1 ∧ RsN r := by
  by_cases ha : a ∈ o
  · exact ⟨o, insert_in ho hr ha, fun x => ⟨.inl, fun h => h.elim id (fun e => e ▸ ha)⟩, by omega, hr⟩
  · obtain ⟨r, h1, h2, h3, h4⟩ := insert_2 a ho
    exact ⟨r, h1, h2, h3, h4 hr ha⟩
theorem rs_ins {o : List ByteArray} {x : ByteArray} {q : Nat} (hS : RsN o) (h1 : ∀ y ∈ o.drop q, slt x y = true) (h2 : ∀ y ∈ o.take q, slt y x = true) : RsN (o.take q ++ [x] ++ o.drop q) := by
  rw [List.append_assoc, List.singleton_append]
  unfold RsN at hS ⊢
  rw [← List.take_append_drop q o, List.pairwise_append] at hS
  obtain ⟨p1, p2, p3⟩ := hS
  refine List.pairwise_append.2 ⟨p1, List.pairwise_cons.2 ⟨h1, p2⟩, fun a ha b hb => ?_⟩
  rcases List.mem_cons.1 hb with rfl | hb
  · exact h2 a ha
  · exact p3 a ha b hb
theorem rs_pre {o : List ByteArray} {x : ByteArray} {q : Nat} (hS : RsN o) (h0 : 0 < q) (hq : q - 1 < o.length) (h : slt o[q - 1] x = true) : ∀ y ∈ o.take q, slt y x = true := fun y hy => by
  obtain ⟨j, hj, rfl⟩ := List.getElem_of_mem hy
  rw [List.getElem_take]
  have hjq : j < q := by simp at hj; omega
  by_cases e : j = q - 1
  · subst e; exact h
  · exact slt_trans (List.pairwise_iff_getElem.1 hS j (q - 1) (by omega) hq (by omega)) h
theorem sortR_l1 {l : List ByteArray} {i : Nat} (hi : i < l.length) (hl : l.length ≤ 1000000000) {o : List ByteArray} (ho : o.length ≤ i) (hS : RsN o) :
  ∀ (n : Nat), n ≤ o.length → (∀ y ∈ o.drop n, slt l[i] y = true) → ∃ o', RsN o' ∧ o'.length ≤ i + 1 ∧ ∀ r, Ev (fun k => spec_l03Sort.l0 k l o'.length ((i + 1 : Nat) : Int) o') r → Ev (fun k => spec_l03Sort.l1 k l o.length (i : Int) (n : Int) o) r := by
  have J1 : ∀ n, n ≤ o.length → (∀ y ∈ o.drop n, slt l[i] y = true) → (∀ y ∈ o.take n, slt y l[i] = true) → ∃ o', RsN o' ∧ o'.length ≤ i + 1 ∧ ∀ r, Ev (fun k => spec_l03Sort.l0 k l o'.length ((i + 1 : Nat) : Int) o') r → Ev (fun k => spec_l03Sort.j1 k l o.length (i : Int) (n : Int) o) r := fun n hn q1 q2 => by
    refine ⟨o.take n ++ [l[i]] ++ o.drop n, rs_ins hS q1 q2, by simp; omega, fun r hr => Ev.step ?_⟩
    have hb1 : bnd (n : Int) (o.length : Int) (o.length : Int) = some () := by unfold bnd; rw [if_pos (by omega)]
    have hb2 : bnd 0 (n : Int) (o.length : Int) = some () := by unfold bnd; rw [if_pos (by omega)]
    have hrest : (o.drop n).take (o.length - n) = o.drop n := List.take_of_length_le (by simp)
    simp only [spec_l03Sort.j1, hb1, hb2, Option.bind_some, spec_l01Texts_b.f, spec_l01Texts_O.f, Int.toNat_natCast, hrest, ixg hi]
    rw [app_b (a := []) (by simp; omega), app_b (a := o.take n) (by simp; omega)]
    simp only [Option.bind_some, List.nil_append]
    rw [app_b (by simp; omega)]
    simp only [Option.bind_some, w1b hi (by omega)]
    exact hr
  have J0 : ∀ n, n ≤ o.length → (∀ y ∈ o.drop n, slt l[i] y = true) → (0 < n → ∀ h : n - 1 < o.length, slt l[i] o[n - 1] = false) → ∃ o', RsN o' ∧ o'.length ≤ i + 1 ∧ ∀ r, Ev (fun k => spec_l03Sort.l0 k l o'.length ((i + 1 : Nat) : Int) o') r → Ev (fun k => spec_l03Sort.j0 k l o.length (i : Int) (n : Int) o) r := fun n hn q1 q2 => by
    by_cases h0 : 0 < n
    · have hlt : n - 1 < o.length := by omega
      have hin : inr ((n - 1 : Nat) : Int) o.length = some () := by unfold inr; rw [if_pos (by omega)]
      by_cases he : o[n - 1] = l[i]
      · refine ⟨o, hS, by omega, fun r hr => Ev.step ?_⟩
        simp only [spec_l03Sort.j0, ltd h0, show decide ((0 : Int) < (n : Int)) = true by simpa using h0, cond_true, m1b h0 hn (by omega), hin, Option.bind_some, Int.toNat_natCast, List.getElem?_eq_getElem hlt, ixg hi, he, decide_true, w1b hi (by omega)]
        exact hr
      · have hlast : slt o[n - 1] l[i] = true := by
          cases e : slt o[n - 1] l[i] with
          | true => rfl
          | false => exact absurd (slt_tri e (q2 h0 hlt)) he
        obtain ⟨o1, h1, h2, h3⟩ := J1 n hn q1 (rs_pre hS h0 hlt hlast)
        refine ⟨o1, h1, h2, fun r hr => Ev.step ?_⟩
        simp only [spec_l03Sort.j0, show decide ((0 : Int) < (n : Int)) = true by simpa using h0, cond_true, m1b h0 hn (by omega), hin, Option.bind_some, Int.toNat_natCast, List.getElem?_eq_getElem hlt, ixg hi, decide_eq_false he, cond_false]
        exact h3 r hr
    · obtain rfl : n = 0 := by omega
      obtain ⟨o1, h1, h2, h3⟩ := J1 0 hn q1 (fun y hy => by simp at hy)
      refine ⟨o1, h1, h2, fun r hr => Ev.step ?_⟩
      simp only [spec_l03Sort.j0, show decide ((0 : Int) < ((0 : Nat) : Int)) = false from rfl, cond_false]
      exact h3 r hr
  intro n
  induction n with
  | zero =>
    intro hn q1
    obtain ⟨o1, h1, h2, h3⟩ := J0 0 hn q1 (fun h => absurd h (by omega))
    refine ⟨o1, h1, h2, fun r hr => Ev.step ?_⟩
    simp only [spec_l03Sort.l1, show decide ((0 : Int) < ((0 : Nat) : Int)) = false from rfl, cond_false]
    exact h3 r hr
  | succ n ih =>
    intro hn q1
    have hlt : n < o.length := by omega
    have hin : inr (n : Int) o.length = some () := by unfold inr; rw [if_pos (by omega)]
    have hm : IntKind.i64.wrap (((n + 1 : Nat) : Int) - 1) = (n : Int) := by rw [m1b (i := n + 1) (n := o.length) (by omega) hn (by omega)]; simp
    cases hs : slt l[i] o[n] with
    | true =>
      obtain ⟨o1, h1, h2, h3⟩ := ih (by omega) (fun y hy => by
        rw [List.drop_eq_getElem_cons hlt] at hy
        rcases List.mem_cons.1 hy with rfl | hy
        · exact hs
        · exact q1 y hy)
      refine ⟨o1, h1, h2, fun r hr => Ev.step ?_⟩
      simp only [spec_l03Sort.l1, show decide ((0 : Int) < ((n + 1 : Nat) : Int)) = true by simp, cond_true, hm, hin, Option.bind_some, Int.toNat_natCast, List.getElem?_eq_getElem hlt, ixg hi, hs]
      exact h3 r hr
    | false =>
      obtain ⟨o1, h1, h2, h3⟩ := J0 (n + 1) hn q1 (fun _ _ => hs)
      refine ⟨o1, h1, h2, fun r hr => Ev.step ?_⟩
      simp only [spec_l03Sort.l1, show decide ((0 : Int) < ((n + 1 : Nat) : Int)) = true by simp, cond_true, hm, hin, Option.bind_some, Int.toNat_natCast, List.getElem?_eq_getElem hlt, ixg hi, hs, cond_false]
      exact h3 r hr
/-- Texts sorted: rising, and the same texts. -/
theorem sortR {l : List ByteArray} (hl : l.length ≤ 1000000000) : ∃ r, Ev (fun k => spec_l03Sort.f k l) r ∧ (∀ x, x ∈ r ↔ x ∈ l) ∧ r.length ≤ l.length ∧ RsN r := by
  have L : ∀ n i : Nat, l.length - i ≤ n → i ≤ l.length → ∀ o : List ByteArray, o.length ≤ i → RsN o → ∃ r, Ev (fun k => spec_l03Sort.l0 k l o.length (i : Int) o) r ∧ RsN r := by
    intro n
    have fin : ∀ i : Nat, ¬ i < l.length → ∀ o : List ByteArray, RsN o → ∃ r, Ev (fun k => spec_l03Sort.l0 k l o.length (i : Int) o) r ∧ RsN r := fun i hi o hS => by
      refine ⟨o, Ev.step ?_, hS⟩
      simp only [spec_l03Sort.l0, ltn hi, cond_false, List.take_length]
      exact Ev.ret _
    induction n with
    | zero => intro i h hle o ho hS; exact fin i (by omega) o hS
    | succ n ih =>
      intro i h hle o ho hS
      by_cases hi : i < l.length
      case neg => exact fin i hi o hS
      obtain ⟨o', h1, h2, h3⟩ := sortR_l1 hi hl ho hS o.length (Nat.le_refl _) (fun y hy => by simp at hy)
      obtain ⟨r, g1, g2⟩ := ih (i + 1) (by omega) (by omega) o' h2 h1
      refine ⟨r, Ev.step ?_, g2⟩
      simp only [spec_l03Sort.l0, ltd hi, cond_true]
      exact h3 r g1
  obtain ⟨r', h1, h2⟩ := L l.length 0 (by omega) (by omega) [] (by simp) List.Pairwise.nil
  obtain ⟨r, g1, g2, g3⟩ := sort_ hl
  refine ⟨r, g1, g2, g3, ?_⟩
  have : Ev (fun k => spec_l03Sort.f k l) r' := Ev.step (by simp only [spec_l03Sort.f]; exact h1)
  rw [Ev.uniq g1 this]; exact h2
end Go.Ab
