/- Names, byte by byte: both programs tell the same. No condition. -/
import Derived.Test.YtphfoghhcemfhaaAbF
import Derived.Test.YtphfoghhcemfhaaAbR
import Derived.Test.YtphfoghhcemfhaaAbH0
namespace Go.Ab
open Go.Proofs
set_option linter.unusedVariables false
set_option linter.unusedSimpArgs false
def bs (l : List UInt8) : ByteArray := ⟨l.toArray⟩
def rest (t : ByteArray) (i : Nat) : List UInt8 := t.data.toList.drop i
section
variable {t : ByteArray} {i : Nat} {c : UInt8} {r : List UInt8}
theorem bs_inj {a b : List UInt8} : bs a = bs b ↔ a = b := ⟨fun h => by simpa [bs] using h, fun h => h ▸ rfl⟩
theorem bs_of (a : ByteArray) : a = bs a.data.toList := by simp [bs]
theorem size_list (a : ByteArray) : a.size = a.data.toList.length := by rw [Array.length_toList]; rfl
theorem bs_size (l : List UInt8) : (bs l).size = l.length := by rw [size_list]; simp [bs]
theorem rest_len : (rest t i).length = t.size - i := by rw [size_list]; simp [rest]
theorem rest_lt (h : rest t i = c :: r) : i < t.size := by have := rest_len (t := t) (i := i); rw [h] at this; simp at this; omega
theorem rest_ge (h : rest t i = []) : t.size ≤ i := by have := rest_len (t := t) (i := i); rw [h] at this; simp at this; omega
theorem rest_next (h : rest t i = c :: r) : rest t (i + 1) = r := by
  unfold rest at h ⊢
  rw [← List.drop_drop, h]; rfl
theorem rest_add (n : Nat) : rest t (i + n) = (rest t i).drop n := by unfold rest; rw [List.drop_drop]
theorem bix_cons (h : rest t i = c :: r) : bix t (i : Int) = some (c.toNat : Int) := by
  unfold bix
  have h0 : t.data.toList[i]? = some c := by
    have := congrArg List.head? h
    simpa [rest] using this
  rw [if_pos (by omega)]
  simp only [Int.toNat_natCast]
  rw [← Array.getElem?_toList, h0]; rfl
theorem lt_cons (h : rest t i = c :: r) : decide ((i : Int) < (t.size : Int)) = true := by have := rest_lt h; simpa using this
theorem lt_nil (h : rest t i = []) : decide ((i : Int) < (t.size : Int)) = false := by have := rest_ge h; simpa using this
theorem le_cons (h : rest t i = c :: r) : decide ((t.size : Int) ≤ (i : Int)) = false := by have := rest_lt h; simpa using this
theorem le_nil (h : rest t i = []) : decide ((t.size : Int) ≤ (i : Int)) = true := by have := rest_ge h; simpa using this
theorem sub_ij {j : Nat} (h1 : i ≤ j) (h2 : j ≤ t.size) : sub t (i : Int) (j : Int) = some (bs ((rest t i).take (j - i))) := by
  unfold sub
  rw [if_pos ⟨by omega, by omega, by omega⟩]
  simp only [Int.toNat_natCast, Option.some.injEq]
  rw [bs_of (t.extract i j)]
  congr 1
  simp [rest, ByteArray.data_extract, List.extract_eq_take_drop]
theorem digit_ (k : Nat) : spec_l01Digit.f k (c.toNat : Int) = some (isD c) := by
  unfold spec_l01Digit.f isD
  by_cases h : 48 ≤ c.toNat
  · rw [show decide ((48 : Int) ≤ (c.toNat : Int)) = true by simp; omega]; simp [h]; omega
  · rw [show decide ((48 : Int) ≤ (c.toNat : Int)) = false by simp; omega]; simp [h]
theorem isDigit_ (k : Nat) : impl_isDigit.f k (c.toNat : Int) = some (isD c) := digit_ k
end
def isL (c : UInt8) : Bool := bif decide (97 ≤ c.toNat) then (bif decide (c.toNat ≤ 122) then true else (bif decide (65 ≤ c.toNat) then decide (c.toNat ≤ 90) else false)) else (bif decide (65 ≤ c.toNat) then decide (c.toNat ≤ 90) else false)
def isN (c : UInt8) : Bool := isL c || isD c || c.toNat == 95
section
variable {t : ByteArray} {i : Nat} {c : UInt8} {r : List UInt8}
theorem letter_ (k : Nat) : spec_l01Letter.f k (c.toNat : Int) = some (isL c) := by
  unfold spec_l01Letter.f isL
  have h1 : decide ((97 : Int) ≤ (c.toNat : Int)) = decide (97 ≤ c.toNat) := by congr 1; simp; omega
  have h2 : decide ((c.toNat : Int) ≤ 122) = decide (c.toNat ≤ 122) := by congr 1; simp; omega
  have h3 : decide ((65 : Int) ≤ (c.toNat : Int)) = decide (65 ≤ c.toNat) := by congr 1; simp; omega
  have h4 : decide ((c.toNat : Int) ≤ 90) = decide (c.toNat ≤ 90) := by congr 1; simp; omega
  rw [h1, h2, h3, h4]
  cases decide (97 ≤ c.toNat) <;> cases decide (c.toNat ≤ 122) <;> cases decide (65 ≤ c.toNat) <;> rfl
theorem isLetter_ (k : Nat) : impl_isLetter.f k (c.toNat : Int) = some (isL c) := letter_ k
theorem us_ : ((c.toNat : Int) == 95) = (c.toNat == 95) := by
  rw [Bool.eq_iff_iff]; simp; omega
def nameOk (l : List UInt8) : Bool := decide (1 ≤ l.length) && decide (l.length ≤ 20) && l.head?.any isL && l.all isN
theorem lname_l0 {s : ByteArray} (hs : s.size ≤ 2000000) : ∀ (l : List UInt8) (p : Nat), rest s p = l → Ev (fun k => spec_l01Name.l0 k s (p : Int)) (l.all isN) := by
  intro l
  induction l with
  | nil =>
    intro p h
    refine Ev.step ?_
    simp only [spec_l01Name.l0, lt_nil h, cond_false]
    exact Ev.ret _
  | cons c r ih =>
    intro p h
    have hl := rest_lt h
    refine Ev.step ?_
    simp only [spec_l01Name.l0, lt_cons h, cond_true, bix_cons h, Option.bind_some, letter_, digit_, us_, w1 (i := p) (by omega), List.all_cons]
    have := ih (p + 1) (rest_next h)
    cases h1 : isL c with
    | true => simpa [isN, h1] using this
    | false =>
      cases h2 : isD c with
      | true => simpa [isN, h1, h2] using this
      | false =>
        cases h3 : (c.toNat == 95) with
        | true => simp only [isN, h1, h2, h3, cond_true, cond_false, Bool.or_true, Bool.true_and]; exact this
        | false => simp only [isN, h1, h2, h3, cond_false, Bool.or_false, Bool.false_and]; exact Ev.ret _
theorem iname_l0 {s : ByteArray} (hs : s.size ≤ 2000000) : ∀ (l : List UInt8) (p : Nat), rest s p = l → Ev (fun k => impl_isName.l0 k s (p : Int)) (l.all isN) := by
  intro l
  induction l with
  | nil =>
    intro p h
    refine Ev.step ?_
    simp only [impl_isName.l0, lt_nil h, cond_false]
    exact Ev.ret _
  | cons c r ih =>
    intro p h
    have hl := rest_lt h
    refine Ev.step ?_
    simp only [impl_isName.l0, lt_cons h, cond_true, bix_cons h, Option.bind_some, isLetter_, isDigit_, us_, w1 (i := p) (by omega), List.all_cons]
    have := ih (p + 1) (rest_next h)
    cases h1 : isL c with
    | true => simpa [isN, h1] using this
    | false =>
      cases h2 : isD c with
      | true => simpa [isN, h1, h2] using this
      | false =>
        cases h3 : (c.toNat == 95) with
        | true => simp only [isN, h1, h2, h3, cond_true, cond_false, Bool.or_true, Bool.true_and]; exact this
        | false => simp only [isN, h1, h2, h3, cond_false, Bool.or_false, Bool.false_and]; exact Ev.ret _
theorem rest_bs (l : List UInt8) : rest (bs l) 0 = l := by simp [rest, bs]
theorem rest_bs1 (c : UInt8) (l : List UInt8) : rest (bs (c :: l)) 1 = l := by simp [rest, bs]
theorem lname_ (l : List UInt8) : Ev (fun k => spec_l01Name.f k (bs l)) (nameOk l) := by
  refine Ev.step ?_
  simp only [spec_l01Name.f, bs_size]
  cases l with
  | nil => exact Ev.ret _
  | cons c r =>
    rw [show decide (((c :: r).length : Int) < 1) = false by simp; omega]
    simp only [cond_false]
    by_cases h20 : 20 < (c :: r).length
    · rw [show decide ((20 : Int) < ((c :: r).length : Int)) = true by simp at h20 ⊢; omega, show nameOk (c :: r) = false by unfold nameOk; rw [show decide ((c :: r).length ≤ 20) = false by simp at h20 ⊢; omega]; simp]
      exact Ev.ret _
    · rw [show decide ((20 : Int) < ((c :: r).length : Int)) = false by simp at h20 ⊢; omega]
      simp only [cond_false]
      have hb := bix_cons (rest_bs (c :: r))
      simp only [Int.natCast_zero] at hb
      simp only [show bix (bs (c :: r)) 0 = some (c.toNat : Int) from hb, Option.bind_some, letter_]
      have e : nameOk (c :: r) = (isL c && r.all isN) := by
        unfold nameOk
        rw [show decide ((c :: r).length ≤ 20) = true by simp at h20 ⊢; omega]
        simp [isN]
        cases isL c <;> simp
      rw [e]
      cases hL : isL c with
      | false => exact Ev.ret _
      | true =>
        simp only [cond_true, Bool.true_and]
        exact lname_l0 (s := bs (c :: r)) (by rw [bs_size]; omega) r 1 (rest_bs1 c r)
theorem iname_ (l : List UInt8) : Ev (fun k => impl_isName.f k (bs l)) (nameOk l) := by
  refine Ev.step ?_
  simp only [impl_isName.f, bs_size]
  cases l with
  | nil => exact Ev.ret _
  | cons c r =>
    rw [show decide (((c :: r).length : Int) < 1) = false by simp; omega]
    simp only [cond_false]
    by_cases h20 : 20 < (c :: r).length
    · rw [show decide ((20 : Int) < ((c :: r).length : Int)) = true by simp at h20 ⊢; omega, show nameOk (c :: r) = false by unfold nameOk; rw [show decide ((c :: r).length ≤ 20) = false by simp at h20 ⊢; omega]; simp]
      exact Ev.ret _
    · rw [show decide ((20 : Int) < ((c :: r).length : Int)) = false by simp at h20 ⊢; omega]
      simp only [cond_false]
      have hb := bix_cons (rest_bs (c :: r))
      simp only [Int.natCast_zero] at hb
      simp only [show bix (bs (c :: r)) 0 = some (c.toNat : Int) from hb, Option.bind_some, isLetter_]
      have e : nameOk (c :: r) = (isL c && (c :: r).all isN) := by
        unfold nameOk
        rw [show decide ((c :: r).length ≤ 20) = true by simp at h20 ⊢; omega]
        simp
      rw [e]
      cases hL : isL c with
      | false => exact Ev.ret _
      | true =>
        simp only [cond_true, Bool.true_and]
        exact iname_l0 (s := bs (c :: r)) (by rw [bs_size]; omega) (c :: r) 0 (rest_bs _)
theorem app_one {α : Type} {l : List α} (x : α) (h : l.length ≤ 2000000) : app l [x] = some (l ++ [x]) := by
  unfold app; rw [if_pos (by simp; omega)]
end
def risingB : List ByteArray → Bool
 | a :: b :: r => slt a b && risingB (b :: r)
 | _ => true
theorem ix_drop {α : Type} {l r : List α} {p : Nat} {a : α} (h : l.drop p = a :: r) : ix l (p : Int) = some a := by
  unfold ix
  rw [if_pos (by omega)]
  have := congrArg List.head? h
  simpa using this
theorem rising_l0 {N : List ByteArray} (hN : N.length ≤ 2000000) : ∀ (r : List ByteArray) (a : ByteArray) (p : Nat), N.drop p = a :: r → Ev (fun k => spec_l01Rising.l0 k N ((p + 1 : Nat) : Int)) (risingB (a :: r)) := by
  intro r
  induction r with
  | nil =>
    intro a p h
    have hl := congrArg List.length h
    simp at hl
    refine Ev.step ?_
    simp only [spec_l01Rising.l0, show decide (((p + 1 : Nat) : Int) < (N.length : Int)) = false by simp; omega, cond_false]
    exact Ev.ret _
  | cons b r ih =>
    intro a p h
    have hl := congrArg List.length h
    simp at hl
    have hn : N.drop (p + 1) = b :: r := by rw [← List.drop_drop, h]; rfl
    refine Ev.step ?_
    have e : IntKind.i64.wrap (((p + 1 : Nat) : Int) - 1) = (p : Int) := by rw [w64 (by omega) (by omega)]; omega
    simp only [spec_l01Rising.l0, show decide (((p + 1 : Nat) : Int) < (N.length : Int)) = true by simp; omega, cond_true, e, ix_drop h, ix_drop hn, Option.bind_some, w1 (i := p + 1) (by omega), risingB]
    cases hs : slt a b with
    | true => simp only [cond_true, Bool.true_and]; exact ih b (p + 1) hn
    | false => simp only [cond_false, Bool.false_and]; exact Ev.ret _
theorem rising_ {N : List ByteArray} (hN : N.length ≤ 2000000) : Ev (fun k => spec_l01Rising.f k N) (risingB N) := by
  refine Ev.step ?_
  simp only [spec_l01Rising.f]
  cases hr : N with
  | nil =>
    refine Ev.step ?_
    simp only [spec_l01Rising.l0, show decide ((1 : Int) < (([] : List ByteArray).length : Int)) = false from rfl, cond_false]
    exact Ev.ret _
  | cons a r => rw [← hr]; have := rising_l0 hN r a 0 (by rw [hr]; rfl); rw [← hr] at this; exact this
def B2 {α : Type} (f g : Nat → Option α) : Prop := ∃ c, Ev f c ∧ Ev g c
section
variable {α β : Type}
theorem B2.step {f g : Nat → Option α} (h : B2 (fun k => f (k + 1)) (fun k => g (k + 1))) : B2 f g := by
  obtain ⟨c, h1, h2⟩ := h; exact ⟨c, h1.step, h2.step⟩
theorem B2.ret (c : α) : B2 (fun _ => some c) (fun _ => some c) := ⟨c, Ev.ret _, Ev.ret _⟩
theorem B2.bind {f g : Nat → Option α} {f' g' : Nat → α → Option β} (h : B2 f g) (h' : ∀ a, B2 (fun k => f' k a) (fun k => g' k a)) : B2 (fun k => (f k).bind (f' k)) (fun k => (g k).bind (g' k)) := by
  obtain ⟨c, h1, h2⟩ := h
  obtain ⟨d, h3, h4⟩ := h' c
  exact ⟨d, Ev.bind h1 h3, Ev.bind h2 h4⟩
theorem B2.pass {f g : Nat → Option α} (h : B2 f g) : B2 (fun k => (f k).bind fun v => some v) (fun k => (g k).bind fun v => some v) := h.bind fun a => B2.ret a
theorem B2.cond {c : Bool} {f g f' g' : Nat → Option α} (h : c = true → B2 f f') (h' : c = false → B2 g g') : B2 (fun k => bif c then f k else g k) (fun k => bif c then f' k else g' k) := by
  cases c with
  | true => exact h rfl
  | false => exact h' rfl
end
/-! Tables -/
section
variable {α β : Type} [DecidableEq α]
theorem tfind_shift (a : α) : ∀ (l : List (α × β)) (i : Nat), tfind a l i = (tfind a l 0).map fun q => (q.1 + i, q.2)
 | [], i => rfl
 | (b, v) :: r, i => by
  unfold tfind
  by_cases h : a = b
  · simp [h]
  · simp only [decide_eq_false h, cond_false]
    rw [tfind_shift a r (i + 1), tfind_shift a r (0 + 1)]
    cases tfind a r 0 <;> simp <;> omega
theorem tget_cons (a b : α) (v z : β) (r : List (α × β)) : tget ((b, v) :: r) a z = if a = b then v else tget r a z := by
  unfold tget
  rw [tfind]
  by_cases h : a = b
  · simp [h]
  · simp only [decide_eq_false h, cond_false, if_neg h]
    rw [tfind_shift a r (0 + 1)]
    cases tfind a r 0 <;> rfl
theorem tput_cons (a b : α) (v w : β) (r : List (α × β)) : tput ((b, v) :: r) a w = if a = b then (b, w) :: r else (b, v) :: tput r a w := by
  unfold tput
  rw [tfind]
  by_cases h : a = b
  · simp [h, tset1]
  · simp only [decide_eq_false h, cond_false, if_neg h]
    rw [tfind_shift a r (0 + 1)]
    cases tfind a r 0 <;> simp [tset1]
theorem tget_tput (a b : α) (v z : β) : ∀ (l : List (α × β)), tget (tput l a v) b z = if b = a then v else tget l b z
 | [] => by show tget [(a, v)] b z = _; rw [tget_cons]
 | (c, w) :: r => by
  rw [tput_cons]
  by_cases h : a = c
  · rw [if_pos h, tget_cons, tget_cons, h]
    by_cases h' : b = c <;> simp [h']
  · rw [if_neg h, tget_cons, tget_cons, tget_tput a b v z r]
    by_cases h' : b = c
    · subst h'; rw [if_pos rfl, if_pos rfl, if_neg (fun e => h e.symm)]
    · rw [if_neg h', if_neg h']
end

def nmB (s : ByteArray) : Bool := nameOk s.data.toList
theorem lnm (s : ByteArray) : Ev (fun k => spec_l01Name.f k s) (nmB s) := by
  have := lname_ s.data.toList
  rwa [← bs_of] at this
theorem inm (s : ByteArray) : Ev (fun k => impl_isName.f k s) (nmB s) := by
  have := iname_ s.data.toList
  rwa [← bs_of] at this
theorem nm2 (s : ByteArray) : B2 (fun k => spec_l01Name.f k s) (fun k => impl_isName.f k s) := ⟨_, lnm s, inm s⟩
theorem rising_short : ∀ (l : List ByteArray), l.length ≤ 1 → risingB l = true
 | [], _ => rfl
 | [_], _ => rfl
 | _ :: _ :: _, h => absurd h (by simp)
theorem ilab_l0 {l : List ByteArray} (hl : l.length ≤ 2000000) : ∀ (n i : Nat), l.length - i ≤ n → Ev (fun k => impl_risingNames.l0 k l (i : Int)) ((l.drop i).all nmB && risingB (l.drop (i - 1))) := by
  have fin : ∀ i : Nat, ¬ i < l.length → Ev (fun k => impl_risingNames.l0 k l (i : Int)) ((l.drop i).all nmB && risingB (l.drop (i - 1))) := fun i h => by
    refine Ev.step ?_
    simp only [impl_risingNames.l0, ltn h, cond_false, List.drop_of_length_le (show l.length ≤ i by omega), rising_short (l.drop (i - 1)) (by rw [List.length_drop]; omega)]
    exact Ev.ret _
  intro n
  induction n with
  | zero => intro i h; exact fin i (by omega)
  | succ n ih =>
    intro i h
    by_cases hi : i < l.length
    case neg => exact fin i hi
    refine Ev.step ?_
    have e1 : (l.drop i).all nmB = (nmB l[i] && (l.drop (i + 1)).all nmB) := by rw [List.drop_eq_getElem_cons hi, List.all_cons]
    simp only [impl_risingNames.l0, ltd hi, cond_true, ixg hi, Option.bind_some, wup hi hl]
    refine Ev.bind (inm _) ?_
    rw [e1]
    cases nmB l[i] with
    | false => exact Ev.ret _
    | true =>
      simp only [cond_true, Bool.true_and]
      have g := ih (i + 1) (by omega)
      by_cases h0 : 0 < i
      · have h1 : i - 1 < l.length := by omega
        have e2 : risingB (l.drop (i - 1)) = (slt l[i - 1] l[i] && risingB (l.drop i)) := by
          rw [List.drop_eq_getElem_cons h1, show i - 1 + 1 = i by omega, List.drop_eq_getElem_cons hi]; rfl
        rw [show i + 1 - 1 = i by omega] at g
        simp only [decide_eq_true (show (0 : Int) < (i : Int) by omega), cond_true, wdn h0 hi hl, ixg h1, Option.bind_some]
        rw [e2]
        cases slt l[i - 1] l[i] with
        | true => simp only [cond_true, Bool.true_and]; exact g
        | false => simp only [cond_false, Bool.false_and, Bool.and_false]; exact Ev.ret _
      · obtain rfl : i = 0 := by omega
        simp only [show decide ((0 : Int) < ((0 : Nat) : Int)) = false from rfl, cond_false]
        exact g
def labB (n : Nat) (l : List ByteArray) : Bool := decide (l.length ≤ n) && (l.all nmB && risingB l)
theorem ilab (l : List ByteArray) {m : Nat} (hm : m ≤ 2000000) : Ev (fun k => impl_risingNames.f k l (m : Int)) (labB m l) := by
  refine Ev.step ?_
  unfold labB
  by_cases h : l.length ≤ m
  · simp only [impl_risingNames.f, ltn (show ¬ m < l.length by omega), cond_false, decide_eq_true h, Bool.true_and]
    exact ilab_l0 (by omega) _ 0 (Nat.le_refl _)
  · simp only [impl_risingNames.f, ltd (show m < l.length by omega), cond_true, decide_eq_false h, Bool.false_and]
    exact Ev.ret _
end Go.Ab
