/- Names, byte by byte: both programs tell the same. No condition. -/
import Derived.Test.YtoodlgdbpfaolaaAbF
import Derived.Test.YtoodlgdbpfaolaaAbR
import Derived.Test.YtoodlgdbpfaolaaAbH0
namespace Go.Ab
open Go.Proofs
set_option linter.unusedVariables false
set_option linter.unusedSimpArgs false
def bs (l : List UInt8) : ByteArray := ⟨l.toArray⟩
def rest (t : ByteArray) (i : Nat) : List UInt8 := t.data.toList.drop i
section
variable {t : ByteArray} {i : Nat} {c : UInt8} {r : List UInt8}
theorem bs_inj {a b : List UInt8} : bs a = bs b ↔ a = b := ⟨fun h => by simpa [bs] using h, fun h => h ▸ rfl⟩
theorem bs_of (a : ByteArray) : a = bs a.data.toList := by simp [bs]
theorem size_list (a : ByteArray) : a.size = a.data.toList.length := by rw [Array.length_toList]; rfl
theorem bs_size (l : List UInt8) : (bs l).size = l.length := by rw [size_list]; simp [bs]
theorem rest_len : (rest t i).length = t.size - i := by rw [size_list]; simp [rest]
theorem rest_lt (h : rest t i = c :: r) : i < t.size := by have := rest_len (t := t) (i := i); rw [h] at this; simp at this; omega
theorem rest_ge (h : rest t i = []) : t.size ≤ i := by have := rest_len (t := t) (i := i); rw [h] at this; simp at this; omega
theorem rest_next (h : rest t i = c :: r) : rest t (i + 1) = r := by
  unfold rest at h ⊢
  rw [← List.drop_drop, h]; rfl
theorem rest_add (n : Nat) : rest t (i + n) = (rest t i).drop n := by unfold rest; rw [List.drop_drop]
theorem bix_cons (h : rest t i = c :: r) : bix t (i : Int) = some (c.toNat : Int) := by
  unfold bix
  have h0 : t.data.toList[i]? = some c := by
    have := congrArg List.head? h
    simpa [rest] using this
  rw [if_pos (by omega)]
  simp only [Int.toNat_natCast]
  rw [← Array.getElem?_toList, h0]; rfl
theorem lt_cons (h : rest t i = c :: r) : decide ((i : Int) < (t.size : Int)) = true := by have := rest_lt h; simpa using this
theorem lt_nil (h : rest t i = []) : decide ((i : Int) < (t.size : Int)) = false := by have := rest_ge h; simpa using this
theorem le_cons (h : rest t i = c :: r) : decide ((t.size : Int) ≤ (i : Int)) = false := by have := rest_lt h; simpa using this
theorem le_nil (h : rest t i = []) : decide ((t.size : Int) ≤ (i : Int)) = true := by have := rest_ge h; simpa using this
theorem sub_ij {j : Nat} (h1 : i ≤ j) (h2 : j ≤ t.size) : sub t (i : Int) (j : Int) = some (bs ((rest t i).take (j - i))) := by
  unfold sub
  rw [if_pos ⟨by omega, by omega, by omega⟩]
  simp only [Int.toNat_natCast, Option.some.injEq]
  rw [bs_of (t.extract i j)]
  congr 1
  simp [rest, ByteArray.data_extract, List.extract_eq_take_drop]
theorem digit_ (k : Nat) : spec_l01Digit.f k (c.toNat : Int) = some (isD c) := by
  unfold spec_l01Digit.f isD
  by_cases h : 48 ≤ c.toNat
  · rw [show decide ((48 : Int) ≤ (c.toNat : Int)) = true by simp; omega]; simp [h]; omega
  · rw [show decide ((48 : Int) ≤ (c.toNat : Int)) = false by simp; omega]; simp [h]
theorem isDigit_ (k : Nat) : impl_isDigit.f k (c.toNat : Int) = some (isD c) := digit_ k
end
def isL (c : UInt8) : Bool := bif decide (97 ≤ c.toNat) then (bif decide (c.toNat ≤ 122) then true else (bif decide (65 ≤ c.toNat) then decide (c.toNat ≤ 90) else false)) else (bif decide (65 ≤ c.toNat) then decide (c.toNat ≤ 90) else false)
def isN (c : UInt8) : Bool := isL c || isD c || c.toNat == 95
section
variable {t : ByteArray} {i : Nat} {c : UInt8} {r : List UInt8}
theorem letter_ (k : Nat) : spec_l01Letter.f k (c.toNat : Int) = some (isL c) := by
  unfold spec_l01Letter.f isL
  have h1 : decide ((97 : Int) ≤ (c.toNat : Int)) = decide (97 ≤ c.toNat) := by congr 1; simp; omega
  have h2 : decide ((c.toNat : Int) ≤ 122) = decide (c.toNat ≤ 122) := by congr 1; simp; omega
  have h3 : decide ((65 : Int) ≤ (c.toNat : Int)) = decide (65 ≤ c.toNat) := by congr 1; simp; omega
  have h4 : decide ((c.toNat : Int) ≤ 90) = decide (c.toNat ≤ 90) := by congr 1; simp; omega
  rw [h1, h2, h3, h4]
  cases decide (97 ≤ c.toNat) <;> cases decide (c.toNat ≤ 122) <;> cases decide (65 ≤ c.toNat) <;> rfl
theorem isLetter_ (k : Nat) : impl_isLetter.f k (c.toNat : Int) = some (isL c) := letter_ k
theorem us_ : ((c.toNat : Int) == 95) = (c.toNat == 95) := by
  rw [Bool.eq_iff_iff]; simp; omega
def nameOk (l : List UInt8) : Bool := decide (1 ≤ l.length) && decide (l.length ≤ 20) && l.head?.any isL && l.all isN
theorem lname_l0 {s : ByteArray} (hs : s.size ≤ 2000000) : ∀ (l : List UInt8) (p : Nat), rest s p = l → Ev (fun k => spec_l01Name.l0 k s (p : Int)) (l.all isN) := by
  intro l
  induction l with
  | nil =>
    intro p h
    refine Ev.step ?_
    simp only [spec_l01Name.l0, lt_nil h, cond_false]
    exact Ev.ret _
  | cons c r ih =>
    intro p h
    have hl := rest_lt h
    refine Ev.step ?_
    simp only [spec_l01Name.l0, lt_cons h, cond_true, bix_cons h, Option.bind_some, letter_, digit_, us_, w1 (i := p) (by omega), List.all_cons]
    have := ih (p + 1) (rest_next h)
    cases h1 : isL c with
    | true => simpa [isN, h1] using this
    | false =>
      cases h2 : isD c with
      | true => simpa [isN, h1, h2] using this
      | false =>
        cases h3 : (c.toNat == 95) with
        | true => simp only [isN, h1, h2, h3, cond_true, cond_false, Bool.or_true, Bool.true_and]; exact this
        | false => simp only [isN, h1, h2, h3, cond_false, Bool.or_false, Bool.false_and]; exact Ev.ret _
theorem iname_l0 {s : ByteArray} (hs : s.size ≤ 2000000) : ∀ (l : List UInt8) (p : Nat), rest s p = l → Ev (fun k => impl_isName.l0 k s (p : Int)) (l.all isN) := by
  intro l
  induction l with
  | nil =>
    intro p h
    refine Ev.step ?_
    simp only [impl_isName.l0, lt_nil h, cond_false]
    exact Ev.ret _
  | cons c r ih =>
    intro p h
    have hl := rest_lt h
    refine Ev.step ?_
    simp only [impl_isName.l0, lt_cons h, cond_true, bix_cons h, Option.bind_some, isLetter_, isDigit_, us_, w1 (i := p) (by omega), List.all_cons]
    have := ih (p + 1) (rest_next h)
    cases h1 : isL c with
    | true => simpa [isN, h1] using this
    | false =>
      cases h2 : isD c with
      | true => simpa [isN, h1, h2] using this
      | false =>
        cases h3 : (c.toNat == 95) with
        | true => simp only [isN, h1, h2, h3, cond_true, cond_false, Bool.or_true, Bool.true_and]; exact this
        | false => simp only [isN, h1, h2, h3, cond_false, Bool.or_false, Bool.false_and]; exact Ev.ret _
theorem rest_bs (l : List UInt8) : rest (bs l) 0 = l := by simp [rest, bs]
theorem rest_bs1 (c : UInt8) (l : List UInt8) : rest (bs (c :: l)) 1 = l := by simp [rest, bs]
theorem lname_ (l : List UInt8) : Ev (fun k => spec_l01Name.f k (bs l)) (nameOk l) := by
  refine Ev.step ?_
  simp only [spec_l01Name.f, bs_size]
  cases l with
  | nil => exact Ev.ret _
  | cons c r =>
    rw [show decide (((c :: r).length : Int) < 1) = false by simp; omega]
    simp only [cond_false]
    by_cases h20 : 20 < (c :: r).length
    · rw [show decide ((20 : Int) < ((c :: r).length : Int)) = true by simp at h20 ⊢; omega, show nameOk (c :: r) = false by unfold nameOk; rw [show decide ((c :: r).length ≤ 20) = false by simp at h20 ⊢; omega]; simp]
      exact Ev.ret _
    · rw [show decide ((20 : Int) < ((c :: r).length : Int)) = false by simp at h20 ⊢; omega]
      simp only [cond_false]
      have hb := bix_cons (rest_bs (c :: r))
      simp only [Int.natCast_zero] at hb
      simp only [show bix (bs (c :: r)) 0 = some (c.toNat : Int) from hb, Option.bind_some, letter_]
      have e : nameOk (c :: r) = (isL c && r.all isN) := by
        unfold nameOk
        rw [show decide ((c :: r).length ≤ 20) = true by simp at h20 ⊢; omega]
        simp [isN]
        cases isL c <;> simp
      rw [e]
      cases hL : isL c with
      | false => exact Ev.ret _
      | true =>
        simp only [cond_true, Bool.true_and]
        exact lname_l0 (s := bs (c :: r)) (by rw [bs_size]; omega) r 1 (rest_bs1 c r)
theorem iname_ (l : List UInt8) : Ev (fun k => impl_isName.f k (bs l)) (nameOk l) := by
  refine Ev.step ?_
  simp only [impl_isName.f, bs_size]
  cases l with
  | nil => exact Ev.ret _
  | cons c r =>
    rw [show decide (((c :: r).length : Int) < 1) = false by simp; omega]
    simp only [cond_false]
    by_cases h20 : 20 < (c :: r).length
    · rw [show decide ((20 : Int) < ((c :: r).length : Int)) = true by simp at h20 ⊢; omega, show nameOk (c :: r) = false by unfold nameOk; rw [show decide ((c :: r).length ≤ 20) = false by simp at h20 ⊢; omega]; simp]
      exact Ev.ret _
    · rw [show decide ((20 : Int) < ((c :: r).length : Int)) = false by simp at h20 ⊢; omega]
      simp only [cond_false]
      have hb := bix_cons (rest_bs (c :: r))
      simp only [Int.natCast_zero] at hb
      simp only [show bix (bs (c :: r)) 0 = some (c.toNat : Int) from hb, Option.bind_some, isLetter_]
      have e : nameOk (c :: r) = (isL c && (c :: r).all isN) := by
        unfold nameOk
        rw [show decide ((c :: r).length ≤ 20) = true by simp at h20 ⊢; omega]
        simp
      rw [e]
      cases hL : isL c with
      | false => exact Ev.ret _
      | true =>
        simp only [cond_true, Bool.true_and]
        exact iname_l0 (s := bs (c :: r)) (by rw [bs_size]; omega) (c :: r) 0 (rest_bs _)
theorem app_one {α : Type} {l : List α} (x : α) (h : l.length ≤ 2000000) : app l [x] = some (l ++ [x]) := by
  unfold app; rw [if_pos (by simp; omega)]
end
def risingB : List ByteArray → Bool
 | a :: b :: r => slt a b && risingB (b :: r)
 | _ => true
theorem ix_drop {α : Type} {l r : List α} {p : Nat} {a : α} (h : l.drop p = a :: r) : ix l (p : Int) = some a := by
  unfold ix
  rw [if_pos (by omega)]
  have := congrArg List.head? h
  simpa using this
def B2 {α : Type} (f g : Nat → Option α) : Prop := ∃ c, Ev f c ∧ Ev g c
section
variable {α β : Type}
theorem B2.step {f g : Nat → Option α} (h : B2 (fun k => f (k + 1)) (fun k => g (k + 1))) : B2 f g := by
  obtain ⟨c, h1, h2⟩ := h; exact ⟨c, h1.step, h2.step⟩
theorem B2.ret (c : α) : B2 (fun _ => some c) (fun _ => some c) := ⟨c, Ev.ret _, Ev.ret _⟩
theorem B2.bind {f g : Nat → Option α} {f' g' : Nat → α → Option β} (h : B2 f g) (h' : ∀ a, B2 (fun k => f' k a) (fun k => g' k a)) : B2 (fun k => (f k).bind (f' k)) (fun k => (g k).bind (g' k)) := by
  obtain ⟨c, h1, h2⟩ := h
  obtain ⟨d, h3, h4⟩ := h' c
  exact ⟨d, Ev.bind h1 h3, Ev.bind h2 h4⟩
theorem B2.pass {f g : Nat → Option α} (h : B2 f g) : B2 (fun k => (f k).bind fun v => some v) (fun k => (g k).bind fun v => some v) := h.bind fun a => B2.ret a
theorem B2.cond {c : Bool} {f g f' g' : Nat → Option α} (h : c = true → B2 f f') (h' : c = false → B2 g g') : B2 (fun k => bif c then f k else g k) (fun k => bif c then f' k else g' k) := by
  cases c with
  | true => exact h rfl
  | false => exact h' rfl
end
/-! Tables -/
section
variable {α β : Type} [DecidableEq α]
theorem tfind_shift (a : α) : ∀ (l : List (α × β)) (i : Nat), tfind a l i = (tfind a l 0).map fun q => (q.1 + i, q.2)
 | [], i => rfl
 | (b, v) :: r, i => by
  unfold tfind
  by_cases h : a = b
  · simp [h]
  · simp only [decide_eq_false h, cond_false]
    rw [tfind_shift a r (i + 1), tfind_shift a r (0 + 1)]
    cases tfind a r 0 <;> simp <;> omega
theorem tget_cons (a b : α) (v z : β) (r : List (α × β)) : tget ((b, v) :: r) a z = if a = b then v else tget r a z := by
  unfold tget
  rw [tfind]
  by_cases h : a = b
  · simp [h]
  · simp only [decide_eq_false h, cond_false, if_neg h]
    rw [tfind_shift a r (0 + 1)]
    cases tfind a r 0 <;> rfl
theorem tput_cons (a b : α) (v w : β) (r : List (α × β)) : tput ((b, v) :: r) a w = if a = b then (b, w) :: r else (b, v) :: tput r a w := by
  unfold tput
  rw [tfind]
  by_cases h : a = b
  · simp [h, tset1]
  · simp only [decide_eq_false h, cond_false, if_neg h]
    rw [tfind_shift a r (0 + 1)]
    cases tfind a r 0 <;> simp [tset1]
theorem tget_tput (a b : α) (v z : β) : ∀ (l : List (α × β)), tget (tput l a v) b z = if b = a then v else tget l b z
 | [] => by show tget [(a, v)] b z = _; rw [tget_cons]
 | (c, w) :: r => by
  rw [tput_cons]
  by_cases h : a = c
  · rw [if_pos h, tget_cons, tget_cons, h]
    by_cases h' : b = c <;> simp [h']
  · rw [if_neg h, tget_cons, tget_cons, tget_tput a b v z r]
    by_cases h' : b = c
    · subst h'; rw [if_pos rfl, if_pos rfl, if_neg (fun e => h e.symm)]
    · rw [if_neg h', if_neg h']
end

def nmB (s : ByteArray) : Bool := nameOk s.data.toList
theorem lnm (s : ByteArray) : Ev (fun k => spec_l01Name.f k s) (nmB s) := by
  have := lname_ s.data.toList
  rwa [← bs_of] at this
theorem inm (s : ByteArray) : Ev (fun k => impl_isName.f k s) (nmB s) := by
  have := iname_ s.data.toList
  rwa [← bs_of] at this
theorem nm2 (s : ByteArray) : B2 (fun k => spec_l01Name.f k s) (fun k => impl_isName.f k s) := ⟨_, lnm s, inm s⟩
theorem rising_short : ∀ (l : List ByteArray), l.length ≤ 1 → risingB l = true
 | [], _ => rfl
 | [_], _ => rfl
 | _ :: _ :: _, h => absurd h (by simp)
def labB (n : Nat) (l : List ByteArray) : Bool := decide (l.length ≤ n) && (l.all nmB && risingB l)
end Go.Ab
namespace Go.Ab
open Go.Proofs
set_option linter.unusedVariables false
set_option linter.unusedSimpArgs false
def lin (s : ByteArray) (l L : Int) : ByteArray := if l < L then ((⟨#[40]⟩ : ByteArray) ++ s) ++ (⟨#[41]⟩ : ByteArray) else s
theorem sz1 (c : UInt8) : (⟨#[c]⟩ : ByteArray).size = 1 := rfl
theorem cat_ {a b : ByteArray} (h : a.size + b.size ≤ 1000000000) : cat a b = some (a ++ b) := by
  unfold cat; rw [if_pos (by omega)]
theorem lin_size (s : ByteArray) (l L : Int) : s.size ≤ (lin s l L).size ∧ (lin s l L).size ≤ s.size + 2 := by
  unfold lin
  split
  · simp only [ByteArray.size_append, sz1]; omega
  · omega
theorem lin_mono (s : ByteArray) (l L : Int) : (lin s l L).size ≤ (lin s l (L + 1)).size := by
  unfold lin
  by_cases h : l < L
  · rw [if_pos h, if_pos (by omega)]; exact Nat.le_refl _
  · rw [if_neg h]
    split
    · simp only [ByteArray.size_append, sz1]; omega
    · exact Nat.le_refl _
theorem l08In_ (k : Nat) (s : ByteArray) (l : Int) (f : Bool) (L : Int) (h : s.size ≤ 100000000) : spec_l08In.f k ⟨s, l, f⟩ L = some (lin s l L) := by
  unfold spec_l08In.f lin
  by_cases c : l < L
  · simp only [decide_eq_true c, cond_true, if_pos c]
    rw [cat_ (by rw [sz1]; omega), Option.bind_some, cat_ (by rw [ByteArray.size_append, sz1, sz1]; omega), Option.bind_some]
  · simp only [decide_eq_false c, cond_false, if_neg c]
section
variable {t : ByteArray} {i : Nat} {d : Int}
def hd (t : ByteArray) (i : Nat) : Int := match rest t i with | c :: _ => (c.toNat : Int) | [] => 0
theorem takes_t (k : Nat) (c : Int) (hi : i ≤ t.size) (ht : t.size ≤ 1000) (hc : c ≠ 0) : spec_l08Test_takes.f k c ⟨t, (i : Int), d, false⟩ = if hd t i = c then some (true, ⟨t, ((i + 1 : Nat) : Int), d, false⟩) else some (false, ⟨t, (i : Int), d, false⟩) := by
  unfold spec_l08Test_takes.f hd
  cases h : rest t i with
  | nil =>
    simp only [cond_false, lt_nil h]
    rw [if_neg (fun e => hc e.symm)]
  | cons x r =>
    have := rest_lt h
    simp only [cond_false, lt_cons h, cond_true, bix_cons h, Option.bind_some, wup this (show t.size ≤ 2000000 by omega)]
    by_cases e : (x.toNat : Int) = c
    · simp only [show ((x.toNat : Int) == c) = true by simpa using e, cond_true]; rw [if_pos e]
    · simp only [show ((x.toNat : Int) == c) = false by simpa using e, cond_false]; rw [if_neg e]
theorem takes_b (k : Nat) (c x e : Int) : spec_l08Test_takes.f k c ⟨t, x, e, true⟩ = some (false, ⟨t, x, e, true⟩) := by
  unfold spec_l08Test_takes.f
  simp only [cond_true]
theorem peek_t (k : Nat) (b : Bool) (hi : i ≤ t.size) : impl_testReader_peek.f k ⟨t, (i : Int), d, b⟩ = some (hd t i, ⟨t, (i : Int), d, b⟩) := by
  unfold impl_testReader_peek.f hd
  cases h : rest t i with
  | nil => simp only [lt_nil h, cond_false]
  | cons x r => simp only [lt_cons h, cond_true, bix_cons h, Option.bind_some]
theorem hd_lt {c : Int} (h : hd t i = c) (hc : c ≠ 0) : i < t.size := by
  unfold hd at h
  cases e : rest t i with
  | nil => rw [e] at h; exact absurd h.symm hc
  | cons x r => exact rest_lt e
end
/-! Words -/
section
variable {t : ByteArray}
def wl (t : ByteArray) (i : Nat) : Nat := ((rest t i).takeWhile isN).length
theorem wl_le (i : Nat) : i + wl t i ≤ max i t.size := by
  unfold wl
  have h1 := (List.takeWhile_prefix (p := isN) (l := rest t i)).length_le
  rw [rest_len] at h1
  omega
theorem wl_cons {i : Nat} {c : UInt8} {r : List UInt8} (h : rest t i = c :: r) (hc : isN c = true) : wl t i = wl t (i + 1) + 1 := by
  unfold wl
  rw [h, List.takeWhile_cons_of_pos hc, List.length_cons, rest_next h]
theorem wl_stop {i : Nat} {c : UInt8} {r : List UInt8} (h : rest t i = c :: r) (hc : isN c = false) : wl t i = 0 := by
  unfold wl
  rw [h, List.takeWhile_cons_of_neg (by rw [hc]; decide)]; rfl
theorem wl_nil {i : Nat} (h : rest t i = []) : wl t i = 0 := by
  unfold wl
  rw [h]; rfl
def word (t : ByteArray) (i : Nat) : ByteArray := bs ((rest t i).take (wl t i))
theorem word_size (i : Nat) : (word t i).size = wl t i := by
  unfold word
  rw [bs_size, List.length_take]
  unfold wl
  have h1 := (List.takeWhile_prefix (p := isN) (l := rest t i)).length_le
  omega
theorem wordByte_ (k : Nat) (c : UInt8) : impl_wordByte.f k (c.toNat : Int) = some (isN c) := by
  unfold impl_wordByte.f isN
  rw [isLetter_, Option.bind_some, isDigit_, Option.bind_some, us_]
  cases isL c <;> cases isD c <;> rfl
theorem in_some {l : List ByteArray} {a : ByteArray} (hl : l.length ≤ 2000000) : ∃ b, Ev (fun k => spec_l01InTexts.f k l a) b ∧ (b = true ↔ a ∈ l) := by
  have loop : ∀ (n i : Nat), l.length - i ≤ n → ∃ b, Ev (fun k => spec_l01InTexts.l0 k l a (i : Int)) b ∧ (b = true ↔ a ∈ l.drop i) := by
    have fin : ∀ i : Nat, ¬ i < l.length → ∃ b, Ev (fun k => spec_l01InTexts.l0 k l a (i : Int)) b ∧ (b = true ↔ a ∈ l.drop i) := fun i h => by
      refine ⟨false, Ev.step ?_, ?_⟩
      · simp only [spec_l01InTexts.l0, ltn h, cond_false]; exact Ev.ret _
      · rw [List.drop_of_length_le (by omega)]; simp
    intro n
    induction n with
    | zero => intro i h; exact fin i (by omega)
    | succ n ih =>
      intro i h
      by_cases hi : i < l.length
      case neg => exact fin i hi
      rw [List.drop_eq_getElem_cons hi, List.mem_cons]
      by_cases e : l[i] = a
      · refine ⟨true, Ev.step ?_, ?_⟩
        · simp only [spec_l01InTexts.l0, ltd hi, cond_true, ixg hi, Option.bind_some, decide_eq_true e]; exact Ev.ret _
        · simp [e]
      · obtain ⟨b, h1, h2⟩ := ih (i + 1) (by omega)
        refine ⟨b, Ev.step ?_, ?_⟩
        · simp only [spec_l01InTexts.l0, ltd hi, cond_true, ixg hi, Option.bind_some, decide_eq_false e, cond_false, wup hi hl]; exact h1
        · rw [h2]; exact ⟨.inr, fun h => h.elim (fun x => absurd x.symm e) id⟩
  obtain ⟨b, h1, h2⟩ := loop _ 0 (Nat.le_refl _)
  exact ⟨b, Ev.step (by simp only [spec_l01InTexts.f]; exact h1), h2⟩
theorem sword_l0 {i : Nat} {d : Int} {b0 : Bool} (ht : t.size ≤ 1000) (hi : i ≤ t.size) : ∃ f, Ev (fun k => spec_l08Test_read.l0 k [] (b0, ⟨t, (i : Int), d, false⟩) (i : Int)) (if nmB (word t i) then ((⟨word t i, 3, f⟩, ⟨t, ((i + wl t i : Nat) : Int), d, false⟩) : S61 × S72) else (⟨word t i, 3, f⟩, ⟨t, (i : Int), d, true⟩)) := by
  obtain ⟨f, hf, -⟩ := in_some (l := []) (a := word t i) (by simp)
  refine ⟨f, ?_⟩
  have hw := wl_le (t := t) i
  have fin : Ev (fun k => spec_l08Test_read.j2 k [] (b0, ⟨t, (i : Int), d, false⟩) ((i + wl t i : Nat) : Int)) (if nmB (word t i) then ((⟨word t i, 3, f⟩, ⟨t, ((i + wl t i : Nat) : Int), d, false⟩) : S61 × S72) else (⟨word t i, 3, f⟩, ⟨t, (i : Int), d, true⟩)) := by
    refine Ev.step ?_
    simp only [spec_l08Test_read.j2]
    rw [sub_ij (by omega) (by omega), Nat.add_sub_cancel_left]
    simp only [Option.bind_some]
    refine Ev.bind (lnm _) ?_
    show Ev (fun k => bif nmB (word t i) then _ else _) _
    cases nmB (word t i) with
    | true => exact Ev.bind hf (Ev.ret _)
    | false => exact Ev.bind hf (Ev.ret _)
  have loop : ∀ (n p : Nat), t.size - p ≤ n → i ≤ p → p + wl t p = i + wl t i → Ev (fun k => spec_l08Test_read.l0 k [] (b0, ⟨t, (i : Int), d, false⟩) (p : Int)) (if nmB (word t i) then ((⟨word t i, 3, f⟩, ⟨t, ((i + wl t i : Nat) : Int), d, false⟩) : S61 × S72) else (⟨word t i, 3, f⟩, ⟨t, (i : Int), d, true⟩)) := by
    intro n
    induction n with
    | zero =>
      intro p h hp e
      have h0 : rest t p = [] := List.eq_nil_of_length_eq_zero (by rw [rest_len]; omega)
      rw [wl_nil h0] at e
      refine Ev.step ?_
      simp only [spec_l08Test_read.l0, lt_nil h0, cond_false]
      rw [show (p : Int) = ((i + wl t i : Nat) : Int) by omega]; exact fin
    | succ n ih =>
      intro p h hp e
      cases h0 : rest t p with
      | nil =>
        rw [wl_nil h0] at e
        refine Ev.step ?_
        simp only [spec_l08Test_read.l0, lt_nil h0, cond_false]
        rw [show (p : Int) = ((i + wl t i : Nat) : Int) by omega]; exact fin
      | cons c r =>
        have hpl := rest_lt h0
        refine Ev.step ?_
        simp only [spec_l08Test_read.l0, lt_cons h0, cond_true, bix_cons h0, Option.bind_some, letter_, digit_, us_]
        have more : isN c = true → Ev (fun k => spec_l08Test_read.j1 k [] (b0, ⟨t, (i : Int), d, false⟩) (p : Int)) (if nmB (word t i) then ((⟨word t i, 3, f⟩, ⟨t, ((i + wl t i : Nat) : Int), d, false⟩) : S61 × S72) else (⟨word t i, 3, f⟩, ⟨t, (i : Int), d, true⟩)) := fun hc => by
          rw [wl_cons h0 hc] at e
          refine Ev.step ?_
          simp only [spec_l08Test_read.j1, wup hpl (show t.size ≤ 2000000 by omega)]
          exact ih (p + 1) (by omega) (by omega) (by omega)
        have stop : isN c = false → Ev (fun k => spec_l08Test_read.j2 k [] (b0, ⟨t, (i : Int), d, false⟩) (p : Int)) (if nmB (word t i) then ((⟨word t i, 3, f⟩, ⟨t, ((i + wl t i : Nat) : Int), d, false⟩) : S61 × S72) else (⟨word t i, 3, f⟩, ⟨t, (i : Int), d, true⟩)) := fun hc => by
          rw [wl_stop h0 hc] at e
          rw [show (p : Int) = ((i + wl t i : Nat) : Int) by omega]; exact fin
        unfold isN at more stop
        cases hL : isL c with
        | true => exact more (by rw [hL]; rfl)
        | false =>
          cases hD : isD c with
          | true => exact more (by rw [hL, hD]; rfl)
          | false =>
            cases hx : c.toNat == 95 with
            | true => exact more (by rw [hL, hD, hx]; rfl)
            | false => exact stop (by rw [hL, hD, hx]; rfl)
  exact loop _ i (Nat.le_refl _) (Nat.le_refl _) rfl
theorem iword_l0 {i : Nat} {d x : Int} (ht : t.size ≤ 1000) (hi : i ≤ t.size) : Ev (fun k => impl_testReader_not.l0 k (x, ⟨t, (i : Int), d, false⟩) (i : Int)) ((⟨0, word t i, []⟩, ⟨t, ((i + wl t i : Nat) : Int), d, !nmB (word t i)⟩) : S57 × S67) := by
  have hw := wl_le (t := t) i
  have fin : Ev (fun k => impl_testReader_not.j0 k (x, ⟨t, (i : Int), d, false⟩) ((i + wl t i : Nat) : Int)) ((⟨0, word t i, []⟩, ⟨t, ((i + wl t i : Nat) : Int), d, !nmB (word t i)⟩) : S57 × S67) := by
    refine Ev.step ?_
    simp only [impl_testReader_not.j0]
    rw [sub_ij (by omega) (by omega), Nat.add_sub_cancel_left]
    simp only [Option.bind_some]
    refine Ev.bind (inm _) ?_
    show Ev (fun k => bif nmB (word t i) then _ else _) _
    cases nmB (word t i) <;> exact Ev.ret _
  have loop : ∀ (n p : Nat), t.size - p ≤ n → i ≤ p → p + wl t p = i + wl t i → Ev (fun k => impl_testReader_not.l0 k (x, ⟨t, (i : Int), d, false⟩) (p : Int)) ((⟨0, word t i, []⟩, ⟨t, ((i + wl t i : Nat) : Int), d, !nmB (word t i)⟩) : S57 × S67) := by
    intro n
    induction n with
    | zero =>
      intro p h hp e
      have h0 : rest t p = [] := List.eq_nil_of_length_eq_zero (by rw [rest_len]; omega)
      rw [wl_nil h0] at e
      refine Ev.step ?_
      simp only [impl_testReader_not.l0, lt_nil h0, cond_false]
      rw [show (p : Int) = ((i + wl t i : Nat) : Int) by omega]; exact fin
    | succ n ih =>
      intro p h hp e
      cases h0 : rest t p with
      | nil =>
        rw [wl_nil h0] at e
        refine Ev.step ?_
        simp only [impl_testReader_not.l0, lt_nil h0, cond_false]
        rw [show (p : Int) = ((i + wl t i : Nat) : Int) by omega]; exact fin
      | cons c r =>
        have hpl := rest_lt h0
        refine Ev.step ?_
        simp only [impl_testReader_not.l0, lt_cons h0, cond_true, bix_cons h0, Option.bind_some, wordByte_, wup hpl (show t.size ≤ 2000000 by omega)]
        cases hc : isN c with
        | true =>
          rw [wl_cons h0 hc] at e
          exact ih (p + 1) (by omega) (by omega) (by omega)
        | false =>
          rw [wl_stop h0 hc] at e
          simp only [cond_false]
          rw [show (p : Int) = ((i + wl t i : Nat) : Int) by omega]; exact fin
  exact loop _ i (Nat.le_refl _) (Nat.le_refl _) rfl
end
/-! Tests and their texts -/
def joinN (sg : UInt8) (h : Nat → ByteArray) : Nat → ByteArray
  | 0 => ⟨#[]⟩
  | 1 => h 0
  | n + 2 => (joinN sg h (n + 1) ++ ⟨#[sg]⟩) ++ h (n + 1)
theorem joinN_next (sg : UInt8) (h : Nat → ByteArray) {n : Nat} (hn : 1 ≤ n) : joinN sg h (n + 1) = (joinN sg h n ++ ⟨#[sg]⟩) ++ h n := by
  obtain ⟨m, rfl⟩ : ∃ m, n = m + 1 := ⟨n - 1, by omega⟩
  rfl
theorem joinN_congr (sg : UInt8) {h h' : Nat → ByteArray} : ∀ n, (∀ i, i < n → h i = h' i) → joinN sg h n = joinN sg h' n
  | 0, _ => rfl
  | 1, e => e 0 (by omega)
  | n + 2, e => by simp only [joinN]; rw [joinN_congr sg (n + 1) (fun i hi => e i (by omega)), e (n + 1) (by omega)]
/-- A test, its text, its level. -/
inductive Shw : S57 → ByteArray → Int → Prop
  | name (n : ByteArray) : Shw ⟨0, n, []⟩ n 3
  | bang {T : S57} {s : ByteArray} {l : Int} (h : Shw T s l) : Shw ⟨33, ⟨#[]⟩, [T]⟩ ((⟨#[33]⟩ : ByteArray) ++ lin s l 3) 3
  | row {sg : UInt8} {lv : Int} {ks : List S57} (fs : Nat → ByteArray) (gs : Nat → Int) (hsg : (sg = 124 ∧ lv = 1) ∨ (sg = 38 ∧ lv = 2)) (h2 : 2 ≤ ks.length)
      (h : ∀ i (hi : i < ks.length), Shw ks[i] (fs i) (gs i)) : Shw ⟨(sg.toNat : Int), ⟨#[]⟩, ks⟩ (joinN sg (fun i => lin (fs i) (gs i) lv) ks.length) lv
/-- Both have read from i on, at a level; or both tell that it is none. -/
def Out (t : ByteArray) (i : Nat) (d L : Int) (sp : Nat → Option (S61 × S72)) (im : Nat → Option (S57 × S67)) : Prop :=
  (∃ T s l f, ∃ j : Nat, i < j ∧ j ≤ t.size ∧ Shw T s l ∧ (lin s l L).size ≤ 3 * (j - i) + 2 ∧ Ev sp (⟨s, l, f⟩, ⟨t, (j : Int), d, false⟩) ∧ Ev im (T, ⟨t, (j : Int), d, false⟩)) ∨
  (∃ T s l f x e y, ∃ q : Nat, q ≤ t.size ∧ (lin s l L).size ≤ 3 * (t.size - i) + 2 ∧ Ev sp (⟨s, l, f⟩, ⟨t, x, e, true⟩) ∧ Ev im (T, ⟨t, (q : Int), y, true⟩))
section
variable {t : ByteArray} {i : Nat} {d L : Int}
theorem Out.step {sp : Nat → Option (S61 × S72)} {im : Nat → Option (S57 × S67)} (h : Out t i d L (fun k => sp (k + 1)) (fun k => im (k + 1))) : Out t i d L sp im := by
  rcases h with ⟨T, s, l, f, j, h1, h2, h3, h4, h5, h6⟩ | ⟨T, s, l, f, x, e, y, q, h1, h2, h3, h4⟩
  · exact .inl ⟨T, s, l, f, j, h1, h2, h3, h4, h5.step, h6.step⟩
  · exact .inr ⟨T, s, l, f, x, e, y, q, h1, h2, h3.step, h4.step⟩
theorem Out.sstep {sp : Nat → Option (S61 × S72)} {im : Nat → Option (S57 × S67)} (h : Out t i d L (fun k => sp (k + 1)) im) : Out t i d L sp im := by
  rcases h with ⟨T, s, l, f, j, h1, h2, h3, h4, h5, h6⟩ | ⟨T, s, l, f, x, e, y, q, h1, h2, h3, h4⟩
  · exact .inl ⟨T, s, l, f, j, h1, h2, h3, h4, h5.step, h6⟩
  · exact .inr ⟨T, s, l, f, x, e, y, q, h1, h2, h3.step, h4⟩
theorem Out.istep {sp : Nat → Option (S61 × S72)} {im : Nat → Option (S57 × S67)} (h : Out t i d L sp (fun k => im (k + 1))) : Out t i d L sp im := by
  rcases h with ⟨T, s, l, f, j, h1, h2, h3, h4, h5, h6⟩ | ⟨T, s, l, f, x, e, y, q, h1, h2, h3, h4⟩
  · exact .inl ⟨T, s, l, f, j, h1, h2, h3, h4, h5, h6.step⟩
  · exact .inr ⟨T, s, l, f, x, e, y, q, h1, h2, h3, h4.step⟩
theorem Out.pass {sp : Nat → Option (S61 × S72)} {im : Nat → Option (S57 × S67)} (h : Out t i d L sp im) : Out t i d L (fun k => (sp k).bind fun v => some (v.1, v.2)) (fun k => (im k).bind fun v => some (v.1, v.2)) := by
  rcases h with ⟨T, s, l, f, j, h1, h2, h3, h4, h5, h6⟩ | ⟨T, s, l, f, x, e, y, q, h1, h2, h3, h4⟩
  · exact .inl ⟨T, s, l, f, j, h1, h2, h3, h4, Ev.bind h5 (Ev.ret _), Ev.bind h6 (Ev.ret _)⟩
  · exact .inr ⟨T, s, l, f, x, e, y, q, h1, h2, Ev.bind h3 (Ev.ret _), Ev.bind h4 (Ev.ret _)⟩
end
/-- A row: the loop behind the first. -/
theorem row_loop {t : ByteArray} (ht : t.size ≤ 1000) {i : Nat} {d lv : Int} (sg : UInt8) (hsg : (sg = 124 ∧ lv = 1) ∨ (sg = 38 ∧ lv = 2)) {nx : Nat → S67 → Option (S57 × S67)}
    {l0 : Nat → Int → ByteArray → Int → Int → Bool → List S57 → Option (S57 × S67)} {j0 : Nat → ByteArray → Int → Int → Bool → Int → List S57 → Option (S57 × S67)}
    (hl : ∀ k v0 v3 v4 v5 v6 v7, l0 (k + 1) v0 v3 v4 v5 v6 v7 = (bif v6 then (j0 k v3 v4 v5 true v0 v7) else ((impl_testReader_peek.f k (⟨v3, v4, v5, v6⟩ : S67)).bind fun v9 => (bif (v9.1 == v0) then ((nx k (⟨v9.2.f0, (IntKind.i64.wrap (v9.2.f1 + 1)), v9.2.f2, v9.2.f3⟩ : S67)).bind fun v15 => ((app v7 ([v15.1] : List S57)).bind fun v16 => (l0 k v0 v15.2.f0 v15.2.f1 v15.2.f2 v15.2.f3 v16))) else (j0 k v9.2.f0 v9.2.f1 v9.2.f2 v9.2.f3 v0 v7)))))
    (hj : ∀ k v10 v11 v12 v13 v0 v7, j0 (k + 1) v10 v11 v12 v13 v0 v7 = (bif ((v7.length : Int) == 1) then ((ix v7 0).bind fun v14 => (some (v14, (⟨v10, v11, v12, v13⟩ : S67)))) else (some ((⟨v0, (⟨#[]⟩ : ByteArray), v7⟩ : S57), (⟨v10, v11, v12, v13⟩ : S67)))))
    (hyp : ∀ j : Nat, i < j → j ≤ t.size → Out t j d (lv + 1) (fun k => spec_l08Test_read.f k (lv + 1) [] ⟨t, (j : Int), d, false⟩) (fun k => nx k ⟨t, (j : Int), d, false⟩)) :
    ∀ (m p : Nat) (ks : List S57) (fs : Nat → ByteArray) (gs : Nat → Int) (s : ByteArray) (l : Int) (f : Bool), t.size - p < m → i < p → p ≤ t.size → 1 ≤ ks.length → ks.length ≤ p → (∀ j (hj : j < ks.length), Shw ks[j] (fs j) (gs j)) →
      lin s l lv = joinN sg (fun j => lin (fs j) (gs j) lv) ks.length → (ks.length = 1 → s = fs 0 ∧ l = gs 0) → (2 ≤ ks.length → l = lv) → (lin s l lv).size ≤ 3 * (p - i) + 2 →
      Out t i d lv (fun k => spec_l08Test_row.l0 k lv (sg.toNat : Int) [] t (p : Int) d false s l f) (fun k => l0 k (sg.toNat : Int) t (p : Int) d false ks) := by
  have hlv : IntKind.i64.wrap (lv + 1) = lv + 1 := wI (by omega) (by omega)
  have hsg0 : (sg.toNat : Int) ≠ 0 := by rcases hsg with ⟨rfl, _⟩ | ⟨rfl, _⟩ <;> decide
  have hstr : bstr ([(sg.toNat : Int)] : List Int) = (⟨#[sg]⟩ : ByteArray) := by rcases hsg with ⟨rfl, _⟩ | ⟨rfl, _⟩ <;> rfl
  intro m
  induction m with
  | zero => intro p ks fs gs s l f h; omega
  | succ m ih =>
    intro p ks fs gs s l f hm hip hp hk hkp hS hjn h1 h2 hz
    refine Out.step ?_
    simp only [spec_l08Test_row.l0, hl, takes_t _ _ hp ht hsg0, peek_t _ _ hp, Option.bind_some, cond_false]
    by_cases hc : hd t p = (sg.toNat : Int)
    case neg =>
      have hb : (hd t p == (sg.toNat : Int)) = false := by simpa using hc
      simp only [if_neg hc, Option.bind_some, cond_false, hb]
      refine Out.istep ?_
      simp only [hj]
      by_cases h : ks.length = 1
      · obtain ⟨rfl, rfl⟩ := h1 h
        have h0 : 0 < ks.length := by omega
        simp only [h, show (((1 : Nat) : Int) == 1) = true from rfl, cond_true, show ix ks 0 = some ks[0] from ixg (i := 0) h0, Option.bind_some]
        exact .inl ⟨_, _, _, _, p, hip, hp, hS 0 h0, hz, Ev.ret _, Ev.ret _⟩
      · have hl2 := h2 (by omega)
        subst hl2
        have e : s = joinN sg (fun j => lin (fs j) (gs j) l) ks.length := by rw [← hjn, lin, if_neg (by omega)]
        have hsh : Shw ⟨(sg.toNat : Int), ⟨#[]⟩, ks⟩ s l := by rw [e]; exact Shw.row fs gs hsg (by omega) hS
        simp only [show ((ks.length : Int) == 1) = false by simp; omega, cond_false]
        exact .inl ⟨_, _, _, _, p, hip, hp, hsh, hz, Ev.ret _, Ev.ret _⟩
    have hpl := hd_lt hc hsg0
    have hb : (hd t p == (sg.toNat : Int)) = true := by simpa using hc
    simp only [if_pos hc, Option.bind_some, cond_true, hb, hlv, wup hpl (show t.size ≤ 2000000 by omega)]
    -- the next kid
    have hs1 := lin_size s l lv
    have spj : ∀ (s2 : ByteArray) (l2 : Int) (f2 : Bool) (x2 e2 : Int) (b2 : Bool), (lin s2 l2 lv).size ≤ 10000 → ∃ g : Bool, ∀ R, Ev (fun k => spec_l08Test_row.l0 k lv (sg.toNat : Int) [] t x2 e2 b2 ((lin s l lv ++ ⟨#[sg]⟩) ++ lin s2 l2 lv) lv g) R →
        Ev (fun k => bif f then spec_l08Test_row.j0 k lv (sg.toNat : Int) [] true (⟨s2, l2, f2⟩, ⟨t, x2, e2, b2⟩) s l true else spec_l08Test_row.j0 k lv (sg.toNat : Int) [] f2 (⟨s2, l2, f2⟩, ⟨t, x2, e2, b2⟩) s l false) R := fun s2 l2 f2 x2 e2 b2 hz2 => by
      have hs2 := lin_size s2 l2 lv
      have j1 : ∀ (g h : Bool) (R : S61 × S72), Ev (fun k => spec_l08Test_row.l0 k lv (sg.toNat : Int) [] t x2 e2 b2 ((lin s l lv ++ ⟨#[sg]⟩) ++ lin s2 l2 lv) lv g) R → Ev (fun k => spec_l08Test_row.j1 k lv (sg.toNat : Int) [] g (⟨s2, l2, f2⟩, ⟨t, x2, e2, b2⟩) s l h) R := fun g h R hr => by
        refine Ev.step ?_
        simp only [spec_l08Test_row.j1, l08In_ _ s l h lv (by omega), l08In_ _ s2 l2 f2 lv (by omega), hstr, Option.bind_some]
        rw [cat_ (by rw [sz1]; omega)]
        simp only [Option.bind_some]
        rw [cat_ (by rw [ByteArray.size_append, sz1]; omega)]
        exact hr
      have j0' : ∀ (g h : Bool), ∃ g', ∀ R, Ev (fun k => spec_l08Test_row.l0 k lv (sg.toNat : Int) [] t x2 e2 b2 ((lin s l lv ++ ⟨#[sg]⟩) ++ lin s2 l2 lv) lv g') R → Ev (fun k => spec_l08Test_row.j0 k lv (sg.toNat : Int) [] g (⟨s2, l2, f2⟩, ⟨t, x2, e2, b2⟩) s l h) R := fun g h => by
        by_cases h2' : lv = 2
        · cases h with
          | true => exact ⟨f2, fun R hr => Ev.step (by simp only [spec_l08Test_row.j0, show (lv == 2) = true by simpa using h2', cond_true]; exact j1 _ _ R hr)⟩
          | false => exact ⟨false, fun R hr => Ev.step (by simp only [spec_l08Test_row.j0, show (lv == 2) = true by simpa using h2', cond_true, cond_false]; exact j1 _ _ R hr)⟩
        · exact ⟨g, fun R hr => Ev.step (by simp only [spec_l08Test_row.j0, show (lv == 2) = false by simpa using h2', cond_false]; exact j1 _ _ R hr)⟩
      cases f with
      | true => exact j0' true true
      | false => exact j0' f2 false
    rcases hyp (p + 1) (by omega) (by omega) with ⟨T, s2, l2, f2, j, k1, k2, k3, k4, k5, k6⟩ | ⟨T, s2, l2, f2, x2, e2, y2, q, k1, k2, k3, k4⟩
    · have hm2 := lin_mono s2 l2 lv
      obtain ⟨g, hg⟩ := spj s2 l2 f2 (j : Int) d false (by omega)
      have hlen : (ks ++ [T]).length = ks.length + 1 := by simp
      have := ih j (ks ++ [T]) (fun n => if n = ks.length then s2 else fs n) (fun n => if n = ks.length then l2 else gs n) ((lin s l lv ++ ⟨#[sg]⟩) ++ lin s2 l2 lv) lv g (by omega) (by omega) k2 (by omega) (by omega) (fun n hn => by
        by_cases e : n = ks.length
        · subst e; simp only [if_pos]; rw [List.getElem_append_right (Nat.le_refl _)]; simpa using k3
        · simp only [if_neg e]
          rw [List.getElem_append_left (by omega)]
          exact hS n (by omega)) (by
        rw [hlen, joinN_next _ _ hk, lin, if_neg (by omega), hjn]
        simp only [if_pos]
        rw [joinN_congr sg ks.length (h' := fun j => lin (if j = ks.length then s2 else fs j) (if j = ks.length then l2 else gs j) lv) (fun j hj' => by simp only [if_neg (show ¬ j = ks.length by omega)])]) (fun h => by omega) (fun _ => rfl) (by
        rw [lin, if_neg (by omega)]
        simp only [ByteArray.size_append, sz1]
        omega)
      have happ : app ks ([T] : List S57) = some (ks ++ [T]) := app_one T (by omega)
      rcases this with ⟨T', s', l', f', j', a1, a2, a3, a4, a5, a6⟩ | ⟨T', s', l', f', x', e', y', q', a1, a2, a3, a4⟩
      · exact .inl ⟨T', s', l', f', j', a1, a2, a3, a4, Ev.bind k5 (hg _ a5), Ev.bind k6 (by simp only [happ, Option.bind_some]; exact a6)⟩
      · exact .inr ⟨T', s', l', f', x', e', y', q', a1, a2, Ev.bind k5 (hg _ a3), Ev.bind k6 (by simp only [happ, Option.bind_some]; exact a4)⟩
    · have hm2 := lin_mono s2 l2 lv
      obtain ⟨g, hg⟩ := spj s2 l2 f2 x2 e2 true (by omega)
      have happ : app ks ([T] : List S57) = some (ks ++ [T]) := app_one T (by omega)
      refine .inr ⟨if (ks ++ [T]).length = 1 then T else ⟨(sg.toNat : Int), ⟨#[]⟩, ks ++ [T]⟩, ((lin s l lv ++ ⟨#[sg]⟩) ++ lin s2 l2 lv), lv, g, x2, e2, y2, q, k1, ?_, Ev.bind k3 (hg _ (Ev.step ?_)), Ev.bind k4 ?_⟩
      rotate_left
      · simp only [spec_l08Test_row.l0, takes_b, Option.bind_some, cond_false]; exact Ev.ret _
      · simp only [happ, Option.bind_some]
        refine Ev.step ?_
        simp only [hl, cond_true]
        refine Ev.step ?_
        simp only [hj, List.length_append, List.length_cons, List.length_nil, show (((ks.length + (0 + 1) : Nat) : Int) == 1) = false by simp; omega, cond_false, if_neg (show ¬ ks.length + (0 + 1) = 1 by omega)]
        exact Ev.ret _
      · rw [lin, if_neg (by omega)]
        simp only [ByteArray.size_append, sz1]
        omega
end Go.Ab
namespace Go.Ab
open Go.Proofs
set_option linter.unusedVariables false
set_option linter.unusedSimpArgs false
section
variable {t : ByteArray} {i : Nat} {d : Int}
def RdN (t : ByteArray) (i : Nat) (d : Int) : Prop := Out t i d 3 (fun k => spec_l08Test_read.f k 3 [] ⟨t, (i : Int), d, false⟩) (fun k => impl_testReader_not.f k ⟨t, (i : Int), d, false⟩)
def RdA (t : ByteArray) (i : Nat) (d : Int) : Prop := Out t i d 2 (fun k => spec_l08Test_read.f k 2 [] ⟨t, (i : Int), d, false⟩) (fun k => impl_testReader_and.f k ⟨t, (i : Int), d, false⟩)
def RdO (t : ByteArray) (i : Nat) (d : Int) : Prop := Out t i d 1 (fun k => spec_l08Test_read.f k 1 [] ⟨t, (i : Int), d, false⟩) (fun k => impl_testReader_or.f k ⟨t, (i : Int), d, false⟩)
theorem not_step (ht : t.size ≤ 1000) (hi : i ≤ t.size) (hd0 : 0 ≤ d) (hdi : d ≤ i) (ihN : ∀ j e, i < j → j ≤ t.size → 0 ≤ e → e ≤ (j : Int) → RdN t j e) (ihO : ∀ j e, i < j → j ≤ t.size → 0 ≤ e → e ≤ (j : Int) → RdO t j e) : RdN t i d := by
  unfold RdN
  refine Out.step ?_
  simp only [spec_l08Test_read.f, impl_testReader_not.f, cond_false, show ((3 : Int) == 1) = false from rfl, show ((3 : Int) == 2) = false from rfl, takes_t _ _ hi ht (show (33 : Int) ≠ 0 by decide), peek_t _ _ hi, Option.bind_some]
  have h2000 : t.size ≤ 2000000 := by omega
  by_cases c1 : hd t i = 33
  · have hl := hd_lt c1 (by decide)
    simp only [if_pos c1, Option.bind_some, cond_true, show (hd t i == 33) = true by simpa using c1, wup hl h2000]
    rcases ihN (i + 1) d (by omega) (by omega) hd0 (by omega) with ⟨T, s, l, f, j, k1, k2, k3, k4, k5, k6⟩ | ⟨T, s, l, f, x, e, y, q, k1, k2, k3, k4⟩
    · have hs := lin_size s l 3
      refine .inl ⟨_, (⟨#[33]⟩ : ByteArray) ++ lin s l 3, 3, !f, j, by omega, k2, Shw.bang k3, ?_, Ev.bind k5 ?_, Ev.bind k6 (Ev.ret _)⟩
      · rw [lin, if_neg (by omega), ByteArray.size_append, sz1]; omega
      · simp only [l08In_ _ s l f 3 (by omega), Option.bind_some]
        rw [cat_ (by rw [sz1]; omega)]
        exact Ev.ret _
    · have hs := lin_size s l 3
      refine .inr ⟨⟨33, ⟨#[]⟩, [T]⟩, (⟨#[33]⟩ : ByteArray) ++ lin s l 3, 3, !f, x, e, y, q, k1, ?_, Ev.bind k3 ?_, Ev.bind k4 (Ev.ret _)⟩
      · rw [lin, if_neg (by omega), ByteArray.size_append, sz1]; omega
      · simp only [l08In_ _ s l f 3 (by omega), Option.bind_some]
        rw [cat_ (by rw [sz1]; omega)]
        exact Ev.ret _
  simp only [if_neg c1, Option.bind_some, cond_false, show (hd t i == 33) = false by simpa using c1, takes_t _ _ hi ht (show (40 : Int) ≠ 0 by decide)]
  by_cases c2 : hd t i = 40
  case neg =>
    simp only [if_neg c2, Option.bind_some, cond_false, show (hd t i == 40) = false by simpa using c2]
    obtain ⟨f, hf⟩ := sword_l0 (b0 := false) (d := d) ht hi
    have hg := iword_l0 (x := hd t i) (d := d) ht hi
    have hw := wl_le (t := t) i
    cases hn : nmB (word t i) with
    | true =>
      rw [hn] at hf hg
      have hpos : 0 < wl t i := by
        rcases Nat.eq_zero_or_pos (wl t i) with h | h
        · unfold nmB word at hn
          rw [h] at hn
          cases hn
        · exact h
      exact .inl ⟨_, _, _, _, i + wl t i, by omega, by omega, Shw.name _, by rw [lin, if_neg (by omega), word_size]; omega, hf, hg⟩
    | false =>
      rw [hn] at hf hg
      exact .inr ⟨_, _, _, _, _, _, _, i + wl t i, by omega, by rw [lin, if_neg (by omega), word_size]; omega, hf, hg⟩
  have hl := hd_lt c2 (by decide)
  have e1 : IntKind.i64.wrap (d + 1) = d + 1 := wI (by omega) (by omega)
  simp only [if_pos c2, Option.bind_some, cond_true, show (hd t i == 40) = true by simpa using c2, wup hl h2000, e1]
  have e2 : IntKind.i64.wrap (d + 1 - 1) = d := by rw [wI (by omega) (by omega)]; omega
  -- the reference behind its reading
  have sbad : ∀ (s : ByteArray) (l : Int) (f : Bool) (j : Nat), j ≤ t.size → (hd t j = 41 → 10 < d + 1) → ∃ x, Ev (fun k => (spec_l08Test_takes.f k 41 ⟨t, (j : Int), d + 1, false⟩).bind fun v11 => (bif v11.1 then (bif decide (10 < v11.2.f2) then (spec_l08Test_read.j0 k v11 (⟨s, l, f⟩, ⟨t, (j : Int), d + 1, false⟩)) else (some ((⟨s, l, f⟩ : S61), (⟨v11.2.f0, v11.2.f1, (IntKind.i64.wrap (v11.2.f2 - 1)), v11.2.f3⟩ : S72)))) else (spec_l08Test_read.j0 k v11 (⟨s, l, f⟩, ⟨t, (j : Int), d + 1, false⟩)))) ((⟨s, l, f⟩, ⟨t, x, d, true⟩) : S61 × S72) := fun s l f j hj h => by
    by_cases c : hd t j = 41
    · refine ⟨((j + 1 : Nat) : Int), ?_⟩
      simp only [takes_t _ _ hj ht (show (41 : Int) ≠ 0 by decide), if_pos c, Option.bind_some, cond_true, decide_eq_true (h c)]
      refine Ev.step ?_
      simp only [spec_l08Test_read.j0, e2]; exact Ev.ret _
    · refine ⟨(j : Int), ?_⟩
      simp only [takes_t _ _ hj ht (show (41 : Int) ≠ 0 by decide), if_neg c, Option.bind_some, cond_false]
      refine Ev.step ?_
      simp only [spec_l08Test_read.j0, e2]; exact Ev.ret _
  have sbad2 : ∀ (s : ByteArray) (l : Int) (f : Bool) (x e : Int), ∃ e', Ev (fun k => (spec_l08Test_takes.f k 41 ⟨t, x, e, true⟩).bind fun v11 => (bif v11.1 then (bif decide (10 < v11.2.f2) then (spec_l08Test_read.j0 k v11 (⟨s, l, f⟩, ⟨t, x, e, true⟩)) else (some ((⟨s, l, f⟩ : S61), (⟨v11.2.f0, v11.2.f1, (IntKind.i64.wrap (v11.2.f2 - 1)), v11.2.f3⟩ : S72)))) else (spec_l08Test_read.j0 k v11 (⟨s, l, f⟩, ⟨t, x, e, true⟩)))) ((⟨s, l, f⟩, ⟨t, x, e', true⟩) : S61 × S72) := fun s l f x e => by
    refine ⟨IntKind.i64.wrap (e - 1), ?_⟩
    simp only [takes_b, Option.bind_some, cond_false]
    refine Ev.step ?_
    simp only [spec_l08Test_read.j0]; exact Ev.ret _
  have ih := ihO (i + 1) (d + 1) (by omega) (by omega) (by omega) (by omega)
  by_cases c10 : 10 < d + 1
  · simp only [decide_eq_true c10, cond_true]
    rcases ih with ⟨T, s, l, f, j, k1, k2, k3, k4, k5, k6⟩ | ⟨T, s, l, f, x, e, y, q, k1, k2, k3, k4⟩
    · obtain ⟨x, hx⟩ := sbad s l f j k2 (fun _ => c10)
      have hs := lin_size s l 1
      have hs3 := lin_size s l 3
      exact .inr ⟨_, s, l, f, x, d, d + 1, i + 1, by omega, by omega, Ev.bind k5 hx, Ev.ret _⟩
    · obtain ⟨e', hx⟩ := sbad2 s l f x e
      have hs := lin_size s l 1
      have hs3 := lin_size s l 3
      exact .inr ⟨_, s, l, f, x, e', d + 1, i + 1, by omega, by omega, Ev.bind k3 hx, Ev.ret _⟩
  simp only [decide_eq_false c10, cond_false]
  rcases ih with ⟨T, s, l, f, j, k1, k2, k3, k4, k5, k6⟩ | ⟨T, s, l, f, x, e, y, q, k1, k2, k3, k4⟩
  · have hs := lin_size s l 1
    have hs3 := lin_size s l 3
    by_cases c : hd t j = 41
    · have hjl := hd_lt c (by decide)
      refine .inl ⟨T, s, l, f, j + 1, by omega, by omega, k3, by omega, Ev.bind k5 ?_, Ev.bind k6 ?_⟩
      · simp only [takes_t _ _ k2 ht (show (41 : Int) ≠ 0 by decide), if_pos c, Option.bind_some, cond_true, decide_eq_false c10, cond_false, e2]; exact Ev.ret _
      · simp only [e2, peek_t _ _ k2, Option.bind_some, show (hd t j == 41) = true by simpa using c, cond_true, wup hjl h2000]; exact Ev.ret _
    · obtain ⟨x, hx⟩ := sbad s l f j k2 (fun h => absurd h c)
      refine .inr ⟨⟨0, ⟨#[]⟩, []⟩, s, l, f, x, d, d, j, k2, by omega, Ev.bind k5 hx, Ev.bind k6 ?_⟩
      simp only [e2, peek_t _ _ k2, Option.bind_some, show (hd t j == 41) = false by simpa using c, cond_false]; exact Ev.ret _
  · have hs := lin_size s l 1
    have hs3 := lin_size s l 3
    obtain ⟨e', hx⟩ := sbad2 s l f x e
    by_cases c : hd t q = 41
    · have hql := hd_lt c (by decide)
      refine .inr ⟨T, s, l, f, x, e', IntKind.i64.wrap (y - 1), q + 1, by omega, by omega, Ev.bind k3 hx, Ev.bind k4 ?_⟩
      simp only [peek_t _ _ k1, Option.bind_some, show (hd t q == 41) = true by simpa using c, cond_true, wup hql h2000]; exact Ev.ret _
    · refine .inr ⟨⟨0, ⟨#[]⟩, []⟩, s, l, f, x, e', IntKind.i64.wrap (y - 1), q, k1, by omega, Ev.bind k3 hx, Ev.bind k4 ?_⟩
      simp only [peek_t _ _ k1, Option.bind_some, show (hd t q == 41) = false by simpa using c, cond_false]; exact Ev.ret _
theorem row_step (ht : t.size ≤ 1000) (hi : i ≤ t.size) {lv : Int} (sg : UInt8) (hsg : (sg = 124 ∧ lv = 1) ∨ (sg = 38 ∧ lv = 2)) {nx : Nat → S67 → Option (S57 × S67)}
    {l0 : Nat → Int → ByteArray → Int → Int → Bool → List S57 → Option (S57 × S67)} {j0 : Nat → ByteArray → Int → Int → Bool → Int → List S57 → Option (S57 × S67)}
    (hl : ∀ k v0 v3 v4 v5 v6 v7, l0 (k + 1) v0 v3 v4 v5 v6 v7 = (bif v6 then (j0 k v3 v4 v5 true v0 v7) else ((impl_testReader_peek.f k (⟨v3, v4, v5, v6⟩ : S67)).bind fun v9 => (bif (v9.1 == v0) then ((nx k (⟨v9.2.f0, (IntKind.i64.wrap (v9.2.f1 + 1)), v9.2.f2, v9.2.f3⟩ : S67)).bind fun v15 => ((app v7 ([v15.1] : List S57)).bind fun v16 => (l0 k v0 v15.2.f0 v15.2.f1 v15.2.f2 v15.2.f3 v16))) else (j0 k v9.2.f0 v9.2.f1 v9.2.f2 v9.2.f3 v0 v7)))))
    (hj : ∀ k v10 v11 v12 v13 v0 v7, j0 (k + 1) v10 v11 v12 v13 v0 v7 = (bif ((v7.length : Int) == 1) then ((ix v7 0).bind fun v14 => (some (v14, (⟨v10, v11, v12, v13⟩ : S67)))) else (some ((⟨v0, (⟨#[]⟩ : ByteArray), v7⟩ : S57), (⟨v10, v11, v12, v13⟩ : S67)))))
    (hyp : ∀ j : Nat, i < j → j ≤ t.size → Out t j d (lv + 1) (fun k => spec_l08Test_read.f k (lv + 1) [] ⟨t, (j : Int), d, false⟩) (fun k => nx k ⟨t, (j : Int), d, false⟩))
    (h0 : Out t i d (lv + 1) (fun k => spec_l08Test_read.f k (lv + 1) [] ⟨t, (i : Int), d, false⟩) (fun k => nx k ⟨t, (i : Int), d, false⟩)) :
    Out t i d lv (fun k => spec_l08Test_row.f k lv (sg.toNat : Int) [] ⟨t, (i : Int), d, false⟩) (fun k => (nx k ⟨t, (i : Int), d, false⟩).bind fun v2 => l0 k (sg.toNat : Int) v2.2.f0 v2.2.f1 v2.2.f2 v2.2.f3 ([v2.1] : List S57)) := by
  refine Out.sstep ?_
  have hlv : IntKind.i64.wrap (lv + 1) = lv + 1 := wI (by omega) (by omega)
  simp only [spec_l08Test_row.f, hlv]
  rcases h0 with ⟨T, s, l, f, j, k1, k2, k3, k4, k5, k6⟩ | ⟨T, s, l, f, x, e, y, q, k1, k2, k3, k4⟩
  · have hm := lin_mono s l lv
    rcases row_loop ht (i := i) (d := d) sg hsg hl hj hyp _ j [T] (fun _ => s) (fun _ => l) s l f (Nat.lt_succ_self _) k1 k2 (by simp) (by simp; omega) (fun n hn => by
      have : n = 0 := by simpa using hn
      subst this; exact k3) rfl (fun _ => ⟨rfl, rfl⟩) (fun h => by simp at h) (by omega) with ⟨T', s', l', f', j', a1, a2, a3, a4, a5, a6⟩ | ⟨T', s', l', f', x', e', y', q', a1, a2, a3, a4⟩
    · exact .inl ⟨T', s', l', f', j', a1, a2, a3, a4, Ev.bind k5 a5, Ev.bind k6 a6⟩
    · exact .inr ⟨T', s', l', f', x', e', y', q', a1, a2, Ev.bind k5 a3, Ev.bind k6 a4⟩
  · have hm := lin_mono s l lv
    refine .inr ⟨T, s, l, f, x, e, y, q, k1, by omega, Ev.bind k3 (Ev.step ?_), Ev.bind k4 (Ev.step ?_)⟩
    · simp only [spec_l08Test_row.l0, takes_b, Option.bind_some, cond_false]; exact Ev.ret _
    · simp only [hl, cond_true]
      refine Ev.step ?_
      simp only [hj, List.length_cons, List.length_nil, show (((0 + 1 : Nat) : Int) == 1) = true from rfl, cond_true, show ix [T] 0 = some T from rfl, Option.bind_some]
      exact Ev.ret _
end
theorem read_all {t : ByteArray} (ht : t.size ≤ 1000) : ∀ (n i : Nat) (d : Int), t.size - i < n → i ≤ t.size → 0 ≤ d → d ≤ (i : Int) → RdN t i d ∧ RdA t i d ∧ RdO t i d := by
  intro n
  induction n with
  | zero => intro i d h; omega
  | succ n ih =>
    intro i d h hi h0 h1
    have hN : RdN t i d := not_step ht hi h0 h1 (fun j e hj hjt he he' => (ih j e (by omega) hjt he he').1) (fun j e hj hjt he he' => (ih j e (by omega) hjt he he').2.2)
    have hA : RdA t i d := by
      unfold RdA
      refine Out.step ?_
      simp only [spec_l08Test_read.f, impl_testReader_and.f, cond_false, show ((2 : Int) == 1) = false from rfl, show ((2 : Int) == 2) = true from rfl, cond_true]
      refine Out.pass (Out.istep ?_)
      simp only [impl_testReader_row_1.f]
      exact row_step ht hi (lv := 2) 38 (.inr ⟨rfl, rfl⟩) (nx := impl_testReader_not.f) (l0 := impl_testReader_row_1.l0) (j0 := impl_testReader_row_1.j0) (fun _ _ _ _ _ _ _ => by simp only [impl_testReader_row_1.l0]) (fun _ _ _ _ _ _ _ => by simp only [impl_testReader_row_1.j0]) (fun j hj hjt => (ih j d (by omega) hjt h0 (by omega)).1) hN
    have hO : RdO t i d := by
      unfold RdO
      refine Out.step ?_
      simp only [spec_l08Test_read.f, impl_testReader_or.f, cond_false, show ((1 : Int) == 1) = true from rfl, cond_true]
      refine Out.pass (Out.istep ?_)
      simp only [impl_testReader_row.f]
      exact row_step ht hi (lv := 1) 124 (.inl ⟨rfl, rfl⟩) (nx := impl_testReader_and.f) (l0 := impl_testReader_row.l0) (j0 := impl_testReader_row.j0) (fun _ _ _ _ _ _ _ => by simp only [impl_testReader_row.l0]) (fun _ _ _ _ _ _ _ => by simp only [impl_testReader_row.j0]) (fun j hj hjt => (ih j d (by omega) hjt h0 (by omega)).2.1) hA
    exact ⟨hN, hA, hO⟩
/-! Telling a test again -/
theorem join_snoc (sep : List UInt8) (y : List UInt8) : ∀ xs : List (List UInt8), xs ≠ [] → Lib.join (xs ++ [y]) sep = Lib.join xs sep ++ sep ++ y
  | [], h => absurd rfl h
  | x :: r, _ => by
    rw [List.cons_append, Lib.join_cons, Lib.join_cons]
    simp [Lib.joinTail]
theorem joinN_join (sg : UInt8) (h : Nat → ByteArray) : ∀ n, 1 ≤ n → (joinN sg h n).data.toList = Lib.join ((List.range n).map (fun i => (h i).data.toList)) [sg]
  | 0, hn => absurd hn (by omega)
  | 1, _ => by simp [joinN, Lib.join_one]
  | n + 2, _ => by
    have ih := joinN_join sg h (n + 1) (by omega)
    rw [List.range_succ, List.map_append, List.map_cons, List.map_nil, join_snoc _ _ _ (by simp), ← ih]
    simp [joinN]
theorem joinN_size (sg : UInt8) (h : Nat → ByteArray) : ∀ n i, i < n → (h i).size ≤ (joinN sg h n).size
  | 0, _, hi => absurd hi (Nat.not_lt_zero _)
  | 1, i, hi => by obtain rfl : i = 0 := by omega
                   exact Nat.le_refl _
  | n + 2, i, hi => by
    simp only [joinN, ByteArray.size_append, sz1]
    rcases Nat.lt_or_ge i (n + 1) with h1 | h1
    · have := joinN_size sg h (n + 1) i h1
      omega
    · obtain rfl : i = n + 1 := by omega
      omega
theorem joinN_len (sg : UInt8) (h : Nat → ByteArray) : ∀ n, 1 ≤ n → n ≤ (joinN sg h n).size + 1 := fun n => by
  induction n with
  | zero => intro h; omega
  | succ n ihn =>
    intro _
    rcases Nat.eq_zero_or_pos n with rfl | hp
    · omega
    · have := ihn hp
      rw [joinN_next _ _ hp, ByteArray.size_append, ByteArray.size_append, sz1]
      omega
theorem within_ {T : S57} {s : ByteArray} {l : Int} (hr : ∀ k, impl_test_rank.f k T = some l) (hs : s.size ≤ 10000000) (h : Ev (fun k => impl_test_show.f k T) s) (L : Int) : Ev (fun k => impl_test_within.f k T L) (lin s l L) := by
  refine Ev.step ?_
  simp only [impl_test_within.f, hr, Option.bind_some]
  by_cases c : L ≤ l
  · simp only [decide_eq_true c, cond_true]
    rw [lin, if_neg (by omega)]
    exact Ev.bind h (Ev.ret _)
  · simp only [decide_eq_false c, cond_false]
    rw [lin, if_pos (by omega)]
    refine Ev.bind h ?_
    rw [cat_ (by rw [sz1]; omega)]
    simp only [Option.bind_some]
    rw [cat_ (by rw [ByteArray.size_append, sz1, sz1]; omega)]
    exact Ev.ret _
theorem Shw.tells {T : S57} {s : ByteArray} {l : Int} (h : Shw T s l) : s.size ≤ 10000000 → (∀ k, impl_test_rank.f k T = some l) ∧ Ev (fun k => impl_test_show.f k T) s := by
  induction h with
  | name n =>
    intro _
    refine ⟨fun _ => rfl, Ev.step ?_⟩
    simp only [impl_test_show.f, show ((0 : Int) == 0) = true from rfl, cond_true]
    exact Ev.ret _
  | @bang T s l h ih =>
    intro hs
    rw [ByteArray.size_append, sz1] at hs
    have hi := lin_size s l 3
    obtain ⟨hr, he⟩ := ih (by omega)
    refine ⟨fun _ => rfl, Ev.step ?_⟩
    simp only [impl_test_show.f, show ((33 : Int) == 0) = false from rfl, cond_false, show ((33 : Int) == 33) = true from rfl, cond_true, show ix [T] 0 = some T from rfl, Option.bind_some]
    refine Ev.bind (within_ hr (by omega) he 3) ?_
    rw [cat_ (by rw [sz1]; omega)]
    exact Ev.ret _
  | @row sg lv ks fs gs hsg h2 h ih =>
    intro hz
    have hsz : ∀ i, i < ks.length → (lin (fs i) (gs i) lv).size ≤ 10000000 := fun i hi => Nat.le_trans (joinN_size sg (fun i => lin (fs i) (gs i) lv) ks.length i hi) hz
    have hk : ks.length ≤ 10000001 := by have := joinN_len sg (fun i => lin (fs i) (gs i) lv) ks.length (by omega); omega
    have hsg' : ((sg.toNat : Int) == 0) = false ∧ ((sg.toNat : Int) == 33) = false ∧ (∀ k, impl_test_rank.f k ⟨(sg.toNat : Int), ⟨#[]⟩, ks⟩ = some lv) ∧ istr (IntKind.i32.wrap (sg.toNat : Int)) = ⟨#[sg]⟩ := by
      rcases hsg with ⟨rfl, rfl⟩ | ⟨rfl, rfl⟩
      · exact ⟨by decide, by decide, fun _ => rfl, by decide +kernel⟩
      · exact ⟨by decide, by decide, fun _ => rfl, by decide +kernel⟩
    obtain ⟨h0, h33, hrank, henc⟩ := hsg'
    refine ⟨hrank, Ev.step ?_⟩
    simp only [impl_test_show.f, h0, h33, cond_false]
    have loop : ∀ (m j : Nat), ks.length - j < m → j ≤ ks.length → Ev (fun k => impl_test_show.l0 k ((List.range j).map (fun i => lin (fs i) (gs i) lv)) ⟨(sg.toNat : Int), ⟨#[]⟩, ks⟩ (j : Int)) (joinN sg (fun i => lin (fs i) (gs i) lv) ks.length) := by
      intro m
      induction m with
      | zero => intro j h; omega
      | succ m ihm =>
        intro j hm hj
        refine Ev.step ?_
        by_cases hlt : j < ks.length
        · simp only [impl_test_show.l0, ltd hlt, cond_true, ixg hlt, Option.bind_some, hrank, w1 (i := j) (by omega)]
          have hi := lin_size (fs j) (gs j) lv
          have hz' := hsz j hlt
          obtain ⟨hr, he⟩ := ih j hlt (by omega)
          refine Ev.bind (within_ hr (by omega) he lv) ?_
          have happ : app ((List.range j).map (fun i => lin (fs i) (gs i) lv)) ([lin (fs j) (gs j) lv] : List ByteArray) = some ((List.range (j + 1)).map (fun i => lin (fs i) (gs i) lv)) := by
            unfold app
            rw [if_pos (by simp; omega), List.range_succ, List.map_append]; rfl
          rw [happ]
          exact ihm (j + 1) (by omega) (by omega)
        · obtain rfl : j = ks.length := by omega
          simp only [impl_test_show.l0, ltn hlt, cond_false, henc]
          have e1 : ((List.range ks.length).map (fun i => lin (fs i) (gs i) lv)).map (fun x => x.data.toList) = (List.range ks.length).map (fun i => (lin (fs i) (gs i) lv).data.toList) := by simp
          have e2 := joinN_join sg (fun i => lin (fs i) (gs i) lv) ks.length (by omega)
          have e3 : ∀ k, strings_Join.f k ((List.range ks.length).map (fun i => lin (fs i) (gs i) lv)) ⟨#[sg]⟩ = some (joinN sg (fun i => lin (fs i) (gs i) lv) ks.length) := fun k => by
            unfold strings_Join.f
            rw [e1]
            have e4 : (⟨#[sg]⟩ : ByteArray).data.toList = [sg] := rfl
            rw [e4, ← e2]
            have e5 : (joinN sg (fun i => lin (fs i) (gs i) lv) ks.length).data.toList.length = (joinN sg (fun i => lin (fs i) (gs i) lv) ks.length).size := (size_list _).symm
            rw [if_pos ⟨by simp; omega, by omega⟩]
          simp only [e3, Option.bind_some]
          exact Ev.ret _
    exact loop (ks.length + 1) 0 (by omega) (by omega)
/-- Both tell of one text whether it is a test. -/
theorem labels2 (t : ByteArray) : ∃ c : Bool, Ev (fun k => spec_LabelsFault.f k t) (if c then 0 else 1) ∧ Ev (fun k => impl_LabelsFault.f k t) (if c then 0 else 1) := by
  unfold spec_LabelsFault.f impl_LabelsFault.f impl_readTest.f
  by_cases h2 : 200 < t.size
  · refine ⟨false, ?_, ?_⟩
    · simp only [decide_eq_true (show (200 : Int) < (t.size : Int) by omega), cond_true]; exact Ev.ret _
    · simp only [decide_eq_true (show (200 : Int) < (t.size : Int) by omega), cond_true, Option.bind_some, cond_false]; exact Ev.ret _
  simp only [decide_eq_false (show ¬ (200 : Int) < (t.size : Int) by omega), cond_false]
  unfold spec_l08Labels.f
  obtain ⟨-, -, hO⟩ := read_all (t := t) (by omega) (t.size + 1) 0 0 (by omega) (by omega) (by omega) (by omega)
  rcases hO with ⟨T, s, l, f, j, k1, k2, k3, k4, k5, k6⟩ | ⟨T, s, l, f, x, e, y, q, k1, k2, k3, k4⟩
  · have hs := lin_size s l 1
    obtain ⟨-, hshow⟩ := k3.tells (by omega)
    have hsub := sub_ij (t := t) (i := 0) (j := j) (by omega) k2
    rw [Nat.sub_zero] at hsub
    have hall : j = t.size → bs ((rest t 0).take j) = t := fun e => by
      rw [e, rest, List.drop_zero, List.take_of_length_le (by rw [size_list]; exact Nat.le_refl _)]
      exact (bs_of t).symm
    refine ⟨decide (j = t.size ∧ s = t), ?_, ?_⟩
    · refine Ev.bind (Ev.bind (a := (⟨s, l, f⟩, ⟨t, (j : Int), 0, false⟩)) k5 ?_) (a := (⟨s, l, f⟩, (j : Int), decide (s = bs ((rest t 0).take j)) && decide ((s.size : Int) ≤ 200))) ?_
      · simp only [cond_false]
        rw [show sub t 0 (j : Int) = some (bs ((rest t 0).take j)) from hsub]
        simp only [Option.bind_some]
        cases decide (s = bs ((rest t 0).take j)) <;> exact Ev.ret _
      · by_cases e : j = t.size
        · rw [hall e]
          have q0 : ((j : Int) == (t.size : Int)) = true := by rw [e]; exact beq_self_eq_true _
          by_cases e2 : s = t
          · have q1 : decide (s = t) = true := decide_eq_true e2
            have q2 : decide (j = t.size ∧ s = t) = true := decide_eq_true ⟨e, e2⟩
            have q3 : decide ((s.size : Int) ≤ 200) = true := by rw [e2]; exact decide_eq_true (by omega)
            simp only [q1, q2, q3, q0, Bool.and_self, cond_true]; exact Ev.ret _
          · have q1 : decide (s = t) = false := decide_eq_false e2
            have q2 : decide (j = t.size ∧ s = t) = false := decide_eq_false (fun h => e2 h.2)
            simp only [q1, q2, Bool.false_and, cond_false]; exact Ev.ret _
        · have q2 : decide (j = t.size ∧ s = t) = false := decide_eq_false (fun h => e h.1)
          have q0 : ((j : Int) == (t.size : Int)) = false := by simp; omega
          simp only [q0, q2, cond_false]
          cases (decide (s = bs ((rest t 0).take j)) && decide ((s.size : Int) ≤ 200)) <;> exact Ev.ret _
    · refine Ev.bind (a := (T, decide (j = t.size ∧ s = t))) (Ev.bind k6 ?_) ?_
      · simp only [cond_false]
        by_cases e : j = t.size
        · have q0 : ((j : Int) == (t.size : Int)) = true := by rw [e]; exact beq_self_eq_true _
          simp only [q0, cond_true]
          refine Ev.bind hshow ?_
          by_cases e2 : s = t
          · have q1 : decide (s = t) = true := decide_eq_true e2
            have q2 : decide (j = t.size ∧ s = t) = true := decide_eq_true ⟨e, e2⟩
            simp only [q1, q2, cond_true]; exact Ev.ret _
          · have q1 : decide (s = t) = false := decide_eq_false e2
            have q2 : decide (j = t.size ∧ s = t) = false := decide_eq_false (fun h => e2 h.2)
            simp only [q1, q2, cond_false]; exact Ev.ret _
        · have q2 : decide (j = t.size ∧ s = t) = false := decide_eq_false (fun h => e h.1)
          have q0 : ((j : Int) == (t.size : Int)) = false := by simp; omega
          simp only [q0, q2, cond_false]
          exact Ev.ret _
      · cases decide (j = t.size ∧ s = t) <;> exact Ev.ret _
  · refine ⟨false, ?_, ?_⟩
    · exact Ev.bind (Ev.bind k3 (Ev.ret _)) (Ev.ret _)
    · exact Ev.bind (Ev.bind k4 (Ev.ret _)) (Ev.ret _)
end Go.Ab
