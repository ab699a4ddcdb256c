/- What both readers of values tell, part 1: the small ones. No condition. -/
import Derived.Test.YtfeieigajdekhaaGreatDoorAbF
import Derived.Test.YtfeieigajdekhaaGreatDoorAbR
namespace Go.Ab
open Go.Proofs
set_option linter.unusedVariables false
set_option linter.unusedSimpArgs false
def bs (l : List UInt8) : ByteArray := ⟨l.toArray⟩
def rest (t : ByteArray) (i : Nat) : List UInt8 := t.data.toList.drop i
section
variable {t : ByteArray} {i : Nat} {c : UInt8} {r : List UInt8}
theorem bs_inj {a b : List UInt8} : bs a = bs b ↔ a = b := ⟨fun h => by simpa [bs] using h, fun h => h ▸ rfl⟩
theorem bs_of (a : ByteArray) : a = bs a.data.toList := by simp [bs]
theorem size_list (a : ByteArray) : a.size = a.data.toList.length := by rw [Array.length_toList]; rfl
theorem bs_size (l : List UInt8) : (bs l).size = l.length := by rw [size_list]; simp [bs]
theorem rest_len : (rest t i).length = t.size - i := by rw [size_list]; simp [rest]
theorem rest_lt (h : rest t i = c :: r) : i < t.size := by have := rest_len (t := t) (i := i); rw [h] at this; simp at this; omega
theorem rest_ge (h : rest t i = []) : t.size ≤ i := by have := rest_len (t := t) (i := i); rw [h] at this; simp at this; omega
theorem rest_next (h : rest t i = c :: r) : rest t (i + 1) = r := by
  unfold rest at h ⊢
  rw [← List.drop_drop, h]; rfl
theorem rest_add (n : Nat) : rest t (i + n) = (rest t i).drop n := by unfold rest; rw [List.drop_drop]
theorem bix_cons (h : rest t i = c :: r) : bix t (i : Int) = some (c.toNat : Int) := by
  unfold bix
  have h0 : t.data.toList[i]? = some c := by
    have := congrArg List.head? h
    simpa [rest] using this
  rw [if_pos (by omega)]
  simp only [Int.toNat_natCast]
  rw [← Array.getElem?_toList, h0]; rfl
theorem lt_cons (h : rest t i = c :: r) : decide ((i : Int) < (t.size : Int)) = true := by have := rest_lt h; simpa using this
theorem lt_nil (h : rest t i = []) : decide ((i : Int) < (t.size : Int)) = false := by have := rest_ge h; simpa using this
theorem le_cons (h : rest t i = c :: r) : decide ((t.size : Int) ≤ (i : Int)) = false := by have := rest_lt h; simpa using this
theorem le_nil (h : rest t i = []) : decide ((t.size : Int) ≤ (i : Int)) = true := by have := rest_ge h; simpa using this
theorem sub_ij {j : Nat} (h1 : i ≤ j) (h2 : j ≤ t.size) : sub t (i : Int) (j : Int) = some (bs ((rest t i).take (j - i))) := by
  unfold sub
  rw [if_pos ⟨by omega, by omega, by omega⟩]
  simp only [Int.toNat_natCast, Option.some.injEq]
  rw [bs_of (t.extract i j)]
  congr 1
  simp [rest, ByteArray.data_extract, List.extract_eq_take_drop]
theorem sub_all (a : ByteArray) {j : Nat} (h2 : j ≤ a.size) : sub a 0 (j : Int) = some (bs (a.data.toList.take j)) := by
  have := sub_ij (t := a) (i := 0) (j := j) (by omega) h2
  simpa [rest] using this
end
/-- Does l begin with a? -/
def pre (a : ByteArray) (l : List UInt8) : Bool := a.data.toList.isPrefixOf l
theorem begins_ (k : Nat) (s a : ByteArray) : spec_l01Begins.f k s a = some (pre a s.data.toList) := by
  unfold spec_l01Begins.f pre
  by_cases h : a.size ≤ s.size
  · rw [show decide ((a.size : Int) ≤ (s.size : Int)) = true by simpa using h, cond_true, sub_all s h, Option.bind_some]
    congr 1
    rw [Bool.eq_iff_iff, decide_eq_true_iff, List.isPrefixOf_iff_prefix, List.prefix_iff_eq_take]
    constructor
    · intro e; have := congrArg (fun x => x.data.toList) e; simp [bs] at this; rw [← size_list]; exact this.symm
    · intro e; rw [bs_of a, bs_inj, bs_size]; exact e.symm
  · rw [show decide ((a.size : Int) ≤ (s.size : Int)) = false by simpa using h, cond_false]
    congr 1
    symm
    rw [Bool.eq_false_iff]
    intro e
    rw [List.isPrefixOf_iff_prefix] at e
    have := e.length_le
    rw [← size_list, ← size_list] at this
    omega
theorem hasPrefix_ (k : Nat) (s a : ByteArray) : strings_HasPrefix.f k s a = some (pre a s.data.toList) := by
  unfold strings_HasPrefix.f internal_stringslite_HasPrefix.f
  have := begins_ k s a
  unfold spec_l01Begins.f at this
  rw [this]; rfl
theorem pre_len {a : ByteArray} {l : List UInt8} (h : pre a l = true) : a.size ≤ l.length := by
  unfold pre at h
  rw [List.isPrefixOf_iff_prefix] at h
  have := h.length_le
  rwa [← size_list] at this
section
variable {t : ByteArray} {i : Nat} {c : UInt8} {r : List UInt8}
theorem takes_ (k : Nat) (a : ByteArray) (hi : i ≤ t.size) (ht : t.size ≤ 2000000) : spec_l01Reader_takes.f k a ⟨t, (i : Int), false⟩ = some (pre a (rest t i), ⟨t, ((if pre a (rest t i) then i + a.data.toList.length else i : Nat) : Int), false⟩) := by
  unfold spec_l01Reader_takes.f
  simp only [cond_false]
  rw [sub_ij hi (Nat.le_refl _), Option.bind_some, begins_, Option.bind_some]
  have e : (bs ((rest t i).take (t.size - i))).data.toList = rest t i := by
    rw [← rest_len, List.take_length]; simp [bs]
  rw [e]
  cases h : pre a (rest t i) with
  | true =>
    have := pre_len h
    rw [rest_len] at this
    rw [cond_true, if_pos rfl, wn a.size (by omega), size_list a]
  | false => rw [cond_false, if_neg (by simp)]
theorem takes_bad (k : Nat) (a : ByteArray) (x : Int) : spec_l01Reader_takes.f k a ⟨t, x, true⟩ = some (false, ⟨t, x, true⟩) := by
  unfold spec_l01Reader_takes.f; rfl
theorem eat_ (k : Nat) (a : ByteArray) (hi : i ≤ t.size) (ht : t.size ≤ 2000000) : impl_reader_eat.f k a ⟨t, (i : Int)⟩ = some (pre a (rest t i), ⟨t, ((if pre a (rest t i) then i + a.data.toList.length else i : Nat) : Int)⟩) := by
  unfold impl_reader_eat.f
  simp only
  rw [sub_ij hi (Nat.le_refl _), Option.bind_some, hasPrefix_, Option.bind_some]
  have e : (bs ((rest t i).take (t.size - i))).data.toList = rest t i := by
    rw [← rest_len, List.take_length]; simp [bs]
  rw [e]
  cases h : pre a (rest t i) with
  | true =>
    have := pre_len h
    rw [rest_len] at this
    rw [cond_true, if_pos rfl, wn a.size (by omega), size_list a]
  | false => rw [cond_false, if_neg (by simp)]
theorem peek_cons (k : Nat) (h : rest t i = c :: r) : impl_reader_peek.f k ⟨t, (i : Int)⟩ = some ((c.toNat : Int), ⟨t, (i : Int)⟩) := by
  unfold impl_reader_peek.f
  simp only [lt_cons h, bix_cons h, cond_true, Option.bind_some]
theorem peek_nil (k : Nat) (h : rest t i = []) : impl_reader_peek.f k ⟨t, (i : Int)⟩ = some (0, ⟨t, (i : Int)⟩) := by
  unfold impl_reader_peek.f
  simp only [lt_nil h, cond_false]
theorem digit_ (k : Nat) : spec_l01Digit.f k (c.toNat : Int) = some (isD c) := by
  unfold spec_l01Digit.f isD
  by_cases h : 48 ≤ c.toNat
  · rw [show decide ((48 : Int) ≤ (c.toNat : Int)) = true by simp; omega]; simp [h]; omega
  · rw [show decide ((48 : Int) ≤ (c.toNat : Int)) = false by simp; omega]; simp [h]
theorem isDigit_ (k : Nat) : impl_isDigit.f k (c.toNat : Int) = some (isD c) := digit_ k
theorem fail_ (k : Nat) (s : S111) : spec_l01Reader_fail.f k s = some (⟨-1, 0, 0, ⟨#[]⟩, [], []⟩, ⟨s.f0, s.f1, true⟩) := rfl
theorem fw_def (acc : Int) : IntKind.i64.wrap ((IntKind.i64.wrap (acc * 10)) + (IntKind.i64.wrap (IntKind.u8.wrap ((c.toNat : Int) - 48)))) = fw acc c := rfl
/-! The reference's numeral -/
theorem dec_s : ∀ (m : Nat) (n : Int), n.natAbs = m → -9223372036854775808 ≤ n → n ≤ 9223372036854775807 → Ev (fun k => spec_l01Dec.f k n) (bs (Lib.itoa n)) := by
  have one : ∀ (x : Int) (d : Nat), d < 10 → x = 48 + (d : Int) → bstr [IntKind.u8.wrap (IntKind.i64.wrap x)] = bs [UInt8.ofNat (48 + d)] := by
    intro x d hd hx
    subst hx
    rw [w64 (by omega) (by omega), wrap8_def, show (48 + (d : Int)) % 256 = ((48 + d : Nat) : Int) by omega]
    rfl
  have catb : ∀ (a b : List UInt8), a.length + b.length ≤ 1000 → cat (bs a) (bs b) = some (bs (a ++ b)) := by
    intro a b h
    unfold cat
    rw [if_pos (by rw [bs_size, bs_size]; omega)]
    rfl
  intro m
  induction m using Nat.strongRecOn with
  | _ m ih =>
    intro n hm h1 h2
    refine Ev.step ?_
    simp only [spec_l01Dec.f]
    by_cases hn : n < 0
    · simp only [show decide (n < 0) = true by simpa using hn, cond_true]
      by_cases h10 : -10 < n
      · simp only [show decide (-10 < n) = true by simpa using h10, cond_true]
        refine Ev.bind (a := bs (Lib.itoa (-n))) ?_ ?_
        · rw [show IntKind.i64.wrap (0 - n) = -n by rw [w64 (by omega) (by omega)]; omega]
          refine Ev.step ?_
          simp only [spec_l01Dec.f, show decide (-n < 0) = false by simp; omega, cond_false, show decide (-n < 10) = true by simp; omega, cond_true]
          rw [itoa_nn (by omega), Lib.decDigits_one (by omega), one _ (-n).toNat (by omega) (by omega)]
          exact Ev.ret _
        · rw [show (⟨#[45]⟩ : ByteArray) = bs [45] from rfl, itoa_nn (v := -n) (by omega), itoa_ng hn, show (-n).toNat = n.natAbs by omega]
          rw [catb _ _ (by rw [Lib.decDigits_one (by omega)]; simp)]
          exact Ev.ret _
      · simp only [show decide (-10 < n) = false by simpa using h10, cond_false]
        have hq : quo .i64 n 10 = some (-((n.natAbs / 10 : Nat) : Int)) := by
          unfold quo
          rw [if_neg (by omega)]
          congr 1
          have : n.tdiv 10 = -((n.natAbs / 10 : Nat) : Int) := by
            rw [show n = -((n.natAbs : Nat) : Int) by omega, Int.neg_tdiv]
            simp
          rw [this, w64 (by omega) (by omega)]
        have hr : rem n 10 = some (-((n.natAbs % 10 : Nat) : Int)) := by
          unfold rem
          rw [if_neg (by omega)]
          congr 1
          rw [show n = -((n.natAbs : Nat) : Int) by omega, Int.neg_tmod, Int.tmod_eq_emod_of_nonneg (by omega)]
          simp
        rw [hq, hr]
        simp only [Option.bind_some]
        refine Ev.bind (ih (n.natAbs / 10) (by omega) (-((n.natAbs / 10 : Nat) : Int)) (by omega) (by omega) (by omega)) ?_
        rw [one _ (n.natAbs % 10) (by omega) (by omega), itoa_ng (v := -((n.natAbs / 10 : Nat) : Int)) (by omega), itoa_ng hn, show (-((n.natAbs / 10 : Nat) : Int)).natAbs = n.natAbs / 10 by omega]
        rw [catb]
        · rw [dec_big (m := n.natAbs) (by omega)]; exact Ev.ret _
        · have := itoa_len (v := -((n.natAbs / 10 : Nat) : Int)) (by omega) (by omega)
          rw [itoa_ng (by omega), show (-((n.natAbs / 10 : Nat) : Int)).natAbs = n.natAbs / 10 by omega] at this
          simp at this ⊢; omega
    · simp only [show decide (n < 0) = false by simpa using hn, cond_false]
      by_cases h10 : n < 10
      · simp only [show decide (n < 10) = true by simpa using h10, cond_true]
        rw [itoa_nn (by omega), Lib.decDigits_one (by omega), one _ n.toNat (by omega) (by omega)]
        exact Ev.ret _
      · simp only [show decide (n < 10) = false by simpa using h10, cond_false]
        have hq : quo .i64 n 10 = some (((n.natAbs / 10 : Nat) : Int)) := by
          unfold quo
          rw [if_neg (by omega)]
          congr 1
          rw [Int.tdiv_eq_ediv_of_nonneg (by omega), w64 (by omega) (by omega)]; omega
        have hr : rem n 10 = some (((n.natAbs % 10 : Nat) : Int)) := by
          unfold rem
          rw [if_neg (by omega)]
          congr 1
          rw [Int.tmod_eq_emod_of_nonneg (by omega)]; omega
        rw [hq, hr]
        simp only [Option.bind_some]
        refine Ev.bind (ih (n.natAbs / 10) (by omega) ((n.natAbs / 10 : Nat) : Int) (by omega) (by omega) (by omega)) ?_
        rw [one _ (n.natAbs % 10) (by omega) (by omega), itoa_nn (v := ((n.natAbs / 10 : Nat) : Int)) (by omega), itoa_nn (v := n) (by omega)]
        rw [catb]
        · rw [dec_big (m := n.toNat) (by omega), show n.toNat / 10 = n.natAbs / 10 by omega, show n.toNat % 10 = n.natAbs % 10 by omega]; exact Ev.ret _
        · have := itoa_len (v := ((n.natAbs / 10 : Nat) : Int)) (by omega) (by omega)
          rw [itoa_nn (by omega)] at this
          simp at this ⊢; omega
theorem dec_ {n : Int} (h1 : -9223372036854775808 ≤ n) (h2 : n ≤ 9223372036854775807) : Ev (fun k => spec_l01Dec.f k n) (bs (Lib.itoa n)) := dec_s _ n rfl h1 h2
/-! A whole number -/
theorem num_l0 {q : Int} {b : Bool} {R : Int × S111} (ht : t.size ≤ 2000000) : ∀ (l : List UInt8) (p : Nat) (acc : Int), rest t p = l → Ev (fun k => spec_l01Reader_number.j2 k ⟨t, q, b⟩ ((l.takeWhile isD).foldl fw acc) ((p + (l.takeWhile isD).length : Nat) : Int)) R → Ev (fun k => spec_l01Reader_number.l0 k ⟨t, q, b⟩ acc (p : Int)) R := by
  intro l
  induction l with
  | nil =>
    intro p acc h g
    refine Ev.step ?_
    simp only [spec_l01Reader_number.l0, lt_nil h, cond_false]
    simpa using g
  | cons c r ih =>
    intro p acc h g
    refine Ev.step ?_
    have hl := rest_lt h
    simp only [spec_l01Reader_number.l0, lt_cons h, cond_true, bix_cons h, Option.bind_some, digit_, fw_def, w1 (i := p) (by omega)]
    cases hd : isD c with
    | true =>
      simp only [cond_true]
      refine ih (p + 1) _ (rest_next h) ?_
      simp only [List.takeWhile_cons, hd, if_true, List.foldl_cons, List.length_cons] at g
      rw [show p + 1 + (r.takeWhile isD).length = p + ((r.takeWhile isD).length + 1) by omega]
      exact g
    | false =>
      simp only [cond_false]
      simpa [List.takeWhile_cons, hd] using g
theorem nlen_le (l : List UInt8) : nlen l ≤ l.length := by
  unfold nlen dgs
  cases hs : sgn l with
  | true =>
    cases l with
    | nil => simp [sgn] at hs
    | cons c r =>
      have := (List.takeWhile_prefix isD (l := r)).length_le
      simp; omega
  | false =>
    have := (List.takeWhile_prefix isD (l := l)).length_le
    simp; omega
theorem num_j4 {b : Bool} (hi : i ≤ t.size) (ht : t.size ≤ 2000000) : Ev (fun k => spec_l01Reader_number.j4 k ⟨t, (i : Int), b⟩ (num (rest t i)) ((i + nlen (rest t i) : Nat) : Int)) (num (rest t i), ⟨t, ((i + nlen (rest t i) : Nat) : Int), b || !nok (rest t i)⟩) := by
  have hle := nlen_le (rest t i)
  rw [rest_len] at hle
  have hrg := num_rng (rest t i)
  refine Ev.step ?_
  simp only [spec_l01Reader_number.j4]
  by_cases h0 : nlen (rest t i) = 0
  · have hn : nok (rest t i) = false := by
      cases h : nok (rest t i) with
      | false => rfl
      | true => have := nok_pos h; omega
    simp only [show ((i : Int) == ((i + nlen (rest t i) : Nat) : Int)) = true by simp [h0], cond_true, hn]
    simp only [Bool.not_false, Bool.or_true]
    exact Ev.ret _
  · simp only [show ((i : Int) == ((i + nlen (rest t i) : Nat) : Int)) = false by simp; omega, cond_false, show IntKind.i64.wrap (((i + nlen (rest t i) : Nat) : Int) - (i : Int)) = (nlen (rest t i) : Int) by rw [w64 (by omega) (by omega)]; omega]
    by_cases h20 : 20 < nlen (rest t i)
    · have hn : nok (rest t i) = false := by
        cases h : nok (rest t i) with
        | false => rfl
        | true => have := nok_pos h; omega
      simp only [show decide ((20 : Int) < (nlen (rest t i) : Int)) = true by simp; omega, cond_true, hn]
      simp only [Bool.not_false, Bool.or_true]
      exact Ev.ret _
    · simp only [show decide ((20 : Int) < (nlen (rest t i) : Int)) = false by simp; omega, cond_false]
      refine Ev.bind (dec_ hrg.1 hrg.2) ?_
      simp only [sub_ij (t := t) (i := i) (j := i + nlen (rest t i)) (by omega) (by omega), Option.bind_some, show i + nlen (rest t i) - i = nlen (rest t i) by omega]
      have e : decide (bs (Lib.itoa (num (rest t i))) = bs ((rest t i).take (nlen (rest t i)))) = nok (rest t i) := by
        unfold nok; congr 1; exact propext bs_inj
      rw [e]
      cases nok (rest t i) <;> simp only [cond_true, cond_false, Bool.not_false, Bool.not_true, Bool.or_true, Bool.or_false] <;> exact Ev.ret _
theorem number_ {b : Bool} (hi : i ≤ t.size) (ht : t.size ≤ 2000000) : Ev (fun k => spec_l01Reader_number.f k ⟨t, (i : Int), b⟩) (num (rest t i), ⟨t, ((i + nlen (rest t i) : Nat) : Int), b || !nok (rest t i)⟩) := by
  have hj4 := num_j4 (b := b) hi ht
  have hle := nlen_le (rest t i)
  rw [rest_len] at hle
  have key : Ev (fun k => spec_l01Reader_number.l0 k ⟨t, (i : Int), b⟩ 0 ((i + (if sgn (rest t i) then 1 else 0) : Nat) : Int)) (num (rest t i), ⟨t, ((i + nlen (rest t i) : Nat) : Int), b || !nok (rest t i)⟩) := by
    refine num_l0 ht _ _ _ rfl ?_
    have e : rest t (i + if sgn (rest t i) then 1 else 0) = if sgn (rest t i) then (rest t i).tail else rest t i := by
      rw [rest_add]; split <;> simp
    rw [e]
    have hd : (List.takeWhile isD (if sgn (rest t i) then (rest t i).tail else rest t i)) = dgs (rest t i) := rfl
    rw [hd]
    have hv : List.foldl fw 0 (dgs (rest t i)) = dval (dgs (rest t i)) := rfl
    rw [hv, show i + (if sgn (rest t i) then 1 else 0) + (dgs (rest t i)).length = i + nlen (rest t i) by unfold nlen; omega]
    refine Ev.step ?_
    simp only [spec_l01Reader_number.j2]
    cases hr : rest t i with
    | nil =>
      have h0 : nlen ([] : List UInt8) = 0 := rfl
      rw [hr] at hj4
      rw [h0] at hj4 ⊢
      simp only [show decide ((i : Int) < ((i + 0 : Nat) : Int)) = false by simp, cond_false]
      refine Ev.step ?_
      simp only [spec_l01Reader_number.j3]
      have : dval (dgs []) = num [] := rfl
      rw [this]
      exact hj4
    | cons c r =>
      rw [hr] at hj4
      by_cases hs : sgn (c :: r) = true
      · have hp : 0 < nlen (c :: r) := by unfold nlen; rw [if_pos hs]; omega
        have hc : c.toNat = 45 := by simpa [sgn] using hs
        simp only [show decide ((i : Int) < ((i + nlen (c :: r) : Nat) : Int)) = true by simp; omega, cond_true, bix_cons hr, Option.bind_some, hc]
        simp only [show (((45 : Nat) : Int) == 45) = true from rfl, cond_true]
        have : IntKind.i64.wrap (0 - dval (dgs (c :: r))) = num (c :: r) := by unfold num; rw [if_pos hs]
        rw [this]
        exact hj4
      · have hc : c.toNat ≠ 45 := by intro h; exact hs (by simp [sgn, h])
        have : dval (dgs (c :: r)) = num (c :: r) := by unfold num; rw [if_neg hs]
        rw [this, bix_cons hr]
        simp only [Option.bind_some, show ((c.toNat : Int) == 45) = false by simp; omega, cond_false]
        cases decide ((i : Int) < ((i + nlen (c :: r) : Nat) : Int)) <;> simp only [cond_true, cond_false] <;> (refine Ev.step ?_; simp only [spec_l01Reader_number.j3]; exact hj4)
  refine Ev.step ?_
  simp only [spec_l01Reader_number.f]
  cases hr : rest t i with
  | nil =>
    rw [hr] at key
    simp only [lt_nil hr, cond_false]
    refine Ev.step ?_
    simp only [spec_l01Reader_number.j0]
    refine Ev.step ?_
    simp only [spec_l01Reader_number.j1]
    simpa [sgn] using key
  | cons c r =>
    rw [hr] at key
    simp only [lt_cons hr, cond_true, bix_cons hr, Option.bind_some]
    have hlt := rest_lt hr
    by_cases hs : c.toNat = 45
    · have hs' : sgn (c :: r) = true := by simp [sgn, hs]
      rw [hs'] at key
      simp only [hs, show (((45 : Nat) : Int) == 45) = true from rfl, cond_true, w1 (i := i) (by omega)]
      refine Ev.step ?_
      simp only [spec_l01Reader_number.j1]
      exact key
    · have hs' : sgn (c :: r) = false := by simp [sgn, hs]
      rw [hs'] at key
      simp only [show ((c.toNat : Int) == 45) = false by simp; omega, cond_false]
      refine Ev.step ?_
      simp only [spec_l01Reader_number.j0]
      refine Ev.step ?_
      simp only [spec_l01Reader_number.j1]
      exact key
theorem whole_l0 {q : Int} {p0 : Int × S115} {R : Int × Bool × S115} (ht : t.size ≤ 2000000) (hp : p0.2 = ⟨t, q⟩) : ∀ (l : List UInt8) (p : Nat), rest t p = l → Ev (fun k => impl_reader_whole.j1 k ⟨t, q⟩ p0 ((p + (l.takeWhile isD).length : Nat) : Int)) R → Ev (fun k => impl_reader_whole.l0 k ⟨t, q⟩ p0 (p : Int)) R := by
  obtain ⟨p1, p2⟩ := p0
  simp only at hp
  subst hp
  intro l
  induction l with
  | nil =>
    intro p h g
    refine Ev.step ?_
    simp only [impl_reader_whole.l0, lt_nil h, cond_false]
    simpa using g
  | cons c r ih =>
    intro p h g
    refine Ev.step ?_
    have hl := rest_lt h
    simp only [impl_reader_whole.l0, lt_cons h, cond_true, bix_cons h, Option.bind_some, isDigit_, w1 (i := p) (by omega)]
    cases hd : isD c with
    | true =>
      simp only [cond_true]
      refine ih (p + 1) (rest_next h) ?_
      simp only [List.takeWhile_cons, hd, if_true, List.length_cons] at g
      rw [show p + 1 + (r.takeWhile isD).length = p + ((r.takeWhile isD).length + 1) by omega]
      exact g
    | false =>
      simp only [cond_false]
      simpa [List.takeWhile_cons, hd] using g
theorem whole_ (hi : i ≤ t.size) (ht : t.size ≤ 2000000) : Ev (fun k => impl_reader_whole.f k ⟨t, (i : Int)⟩) (if nok (rest t i) then num (rest t i) else 0, nok (rest t i), ⟨t, ((i + nlen (rest t i) : Nat) : Int)⟩) := by
  have hle := nlen_le (rest t i)
  rw [rest_len] at hle
  have key : ∀ p0 : Int × S115, p0.2 = ⟨t, (i : Int)⟩ → Ev (fun k => impl_reader_whole.l0 k ⟨t, (i : Int)⟩ p0 ((i + (if sgn (rest t i) then 1 else 0) : Nat) : Int)) (if nok (rest t i) then num (rest t i) else 0, nok (rest t i), ⟨t, ((i + nlen (rest t i) : Nat) : Int)⟩) := by
    intro p0 hp0
    refine whole_l0 ht hp0 _ _ rfl ?_
    obtain ⟨p1, p2⟩ := p0
    simp only at hp0
    subst hp0
    have e : rest t (i + if sgn (rest t i) then 1 else 0) = if sgn (rest t i) then (rest t i).tail else rest t i := by
      rw [rest_add]; split <;> simp
    rw [e]
    have hd : (List.takeWhile isD (if sgn (rest t i) then (rest t i).tail else rest t i)) = dgs (rest t i) := rfl
    rw [hd, show i + (if sgn (rest t i) then 1 else 0) + (dgs (rest t i)).length = i + nlen (rest t i) by unfold nlen; omega]
    refine Ev.step ?_
    simp only [impl_reader_whole.j1]
    simp only [sub_ij (t := t) (i := i) (j := i + nlen (rest t i)) (by omega) (by omega), Option.bind_some, show i + nlen (rest t i) - i = nlen (rest t i) by omega]
    have hsz : (bs ((rest t i).take (nlen (rest t i)))).size ≤ 281474976710656 := by
      rw [bs_size, List.length_take, rest_len]; omega
    have hp : ∀ k, strconv_ParseInt.f k (bs ((rest t i).take (nlen (rest t i)))) 10 64 = some (pint ((rest t i).take (nlen (rest t i)))) := by
      intro k
      unfold strconv_ParseInt.f
      rw [if_pos ⟨rfl, rfl, hsz⟩, show (bs ((rest t i).take (nlen (rest t i)))).data.toList = (rest t i).take (nlen (rest t i)) by simp [bs]]
    simp only [hp, Option.bind_some]
    rcases parse_num (rest t i) with ⟨h1, h2⟩ | ⟨h1, h2⟩
    · rw [pint_ok h1, h2]
      simp only [cond_true, if_true]
      have hrg := num_rng (rest t i)
      have hf : ∀ k, strconv_FormatInt.f k (num (rest t i)) 10 = some (bs (Lib.itoa (num (rest t i)))) := by
        intro k; unfold strconv_FormatInt.f; rw [if_pos ⟨rfl, hrg.1, hrg.2⟩]; rfl
      simp only [hf, Option.bind_some]
      have e : decide (bs (Lib.itoa (num (rest t i))) = bs ((rest t i).take (nlen (rest t i)))) = true := by
        rw [decide_eq_true_iff, bs_inj]; simpa [nok] using h2
      rw [e]
      exact Ev.ret _
    · rw [h1]
      by_cases hv : ∃ v, Lib.parseIntB 64 ((rest t i).take (nlen (rest t i))) = .ok v
      · obtain ⟨v, hv⟩ := hv
        rw [pint_ok hv]
        simp only [cond_true]
        have hb := Lib.parseIntB_bounds hv
        have hb1 : -9223372036854775808 ≤ v := by simpa using hb.1
        have hb2 : v < 9223372036854775808 := by simpa using hb.2
        have hf : ∀ k, strconv_FormatInt.f k v 10 = some (bs (Lib.itoa v)) := by
          intro k; unfold strconv_FormatInt.f; rw [if_pos ⟨rfl, hb1, by omega⟩]; rfl
        simp only [hf, Option.bind_some]
        have e : decide (bs (Lib.itoa v) = bs ((rest t i).take (nlen (rest t i)))) = false := by
          rw [decide_eq_false_iff_not, bs_inj]; exact h2 v hv
        rw [e]
        exact Ev.ret _
      · rw [pint_bad (fun v hv' => hv ⟨v, hv'⟩)]
        exact Ev.ret _
  refine Ev.step ?_
  simp only [impl_reader_whole.f]
  cases hr : rest t i with
  | nil =>
    rw [hr] at key
    simp only [peek_nil _ hr, Option.bind_some, show ((0 : Int) == 45) = false from rfl, cond_false]
    refine Ev.step ?_
    simp only [impl_reader_whole.j0]
    have := key (0, ⟨t, (i : Int)⟩) rfl
    simpa [sgn] using this
  | cons c r =>
    rw [hr] at key
    simp only [peek_cons _ hr, Option.bind_some]
    have hlt := rest_lt hr
    by_cases hs : c.toNat = 45
    · have hs' : sgn (c :: r) = true := by simp [sgn, hs]
      rw [hs'] at key
      simp only [hs, show (((45 : Nat) : Int) == 45) = true from rfl, cond_true, w1 (i := i) (by omega)]
      refine Ev.step ?_
      simp only [impl_reader_whole.j0]
      exact key _ rfl
    · have hs' : sgn (c :: r) = false := by simp [sgn, hs]
      rw [hs'] at key
      simp only [show ((c.toNat : Int) == 45) = false by simp; omega, cond_false]
      refine Ev.step ?_
      simp only [impl_reader_whole.j0]
      exact key _ rfl
end
end Go.Ab
namespace Go.Ab
open Go.Proofs
set_option linter.unusedVariables false
set_option linter.unusedSimpArgs false
/-- The reference's value as the program's. -/
def toI (x : S100) : S105 := ⟨x.f0, x.f1, x.f2, x.f3, x.f5, x.f4.attach.map fun y => toI y.1⟩
termination_by SizeOf.sizeOf x
decreasing_by (have h_ := List.sizeOf_lt_of_mem y.2; cases x; simp_all; omega)
theorem toI_eq (x : S100) : toI x = ⟨x.f0, x.f1, x.f2, x.f3, x.f5, x.f4.map toI⟩ := by rw [toI]; simp
theorem toI_flat (a b c : Int) (s : ByteArray) : toI ⟨a, b, c, s, [], []⟩ = ⟨a, b, c, s, [], []⟩ := by rw [toI_eq]; rfl
/-- What every value that is read has. -/
inductive Wf : S100 → Prop
 | mk (v : S100) (hk : 0 ≤ v.f0 ∧ v.f0 ≤ 10) (hb : v.f0 = 1 → v.f1 = 0 ∨ v.f1 = 1) (hr : (-9223372036854775808 ≤ v.f1 ∧ v.f1 ≤ 9223372036854775807) ∧ (-9223372036854775808 ≤ v.f2 ∧ v.f2 ≤ 9223372036854775807)) (hl : v.f4.length ≤ 2000000) (hm : v.f5.length = if v.f0 = 7 then v.f4.length else 0) (hi : ∀ x ∈ v.f4, Wf x) (ht : v.f0 ≠ 3 → v.f3 = ⟨#[]⟩) (hx : v.f0 = 6 ∨ v.f0 = 7 ∨ v.f0 = 10 → v.f1 = 0 ∧ v.f2 = 0) (hy : ¬ (v.f0 = 6 ∨ v.f0 = 7 ∨ v.f0 = 10) → v.f4 = []) (hp : v.f0 ≠ 5 → v.f2 = 0) : Wf v
/-- Both tell the same value and stand at the same place, or both tell that there is none. -/
def Res (t : ByteArray) (i : Nat) (sp : Nat → Option (S100 × S111)) (im : Nat → Option (S105 × Bool × S115)) : Prop :=
  (∃ sv j, i < j ∧ j ≤ t.size ∧ Wf sv ∧ Ev sp (sv, ⟨t, ((j : Nat) : Int), false⟩) ∧ Ev im (toI sv, true, ⟨t, ((j : Nat) : Int)⟩)) ∨
  (∃ sv j iv s, j ≤ t.size ∧ Ev sp (sv, ⟨t, ((j : Nat) : Int), true⟩) ∧ Ev im (iv, false, s))
/-- The reference alone: none. -/
def SBad (t : ByteArray) (sp : Nat → Option (S100 × S111)) : Prop := ∃ sv j, j ≤ t.size ∧ Ev sp (sv, ⟨t, ((j : Nat) : Int), true⟩)
def IBad (im : Nat → Option (S105 × Bool × S115)) : Prop := ∃ iv s, Ev im (iv, false, s)
section
variable {t : ByteArray} {i : Nat} {c : UInt8} {r : List UInt8}
theorem Res.bad {sp : Nat → Option (S100 × S111)} {im : Nat → Option (S105 × Bool × S115)} (h : SBad t sp) (h' : IBad im) : Res t i sp im := by
  obtain ⟨sv, j, hj, h⟩ := h
  obtain ⟨iv, s, h'⟩ := h'
  exact .inr ⟨sv, j, iv, s, hj, h, h'⟩
theorem SBad.step {sp : Nat → Option (S100 × S111)} (h : SBad t (fun k => sp (k + 1))) : SBad t sp := by
  obtain ⟨sv, j, hj, h⟩ := h
  exact ⟨sv, j, hj, h.step⟩
theorem IBad.step {im : Nat → Option (S105 × Bool × S115)} (h : IBad (fun k => im (k + 1))) : IBad im := by
  obtain ⟨sv, j, h⟩ := h
  exact ⟨sv, j, h.step⟩
theorem SBad.bind {α : Type} {f : Nat → Option α} {g : Nat → α → Option (S100 × S111)} {a : α} (h : Ev f a) (h' : SBad t (fun k => g k a)) : SBad t (fun k => (f k).bind (g k)) := by
  obtain ⟨sv, j, hj, h'⟩ := h'
  exact ⟨sv, j, hj, h.bind h'⟩
theorem IBad.bind {α : Type} {f : Nat → Option α} {g : Nat → α → Option (S105 × Bool × S115)} {a : α} (h : Ev f a) (h' : IBad (fun k => g k a)) : IBad (fun k => (f k).bind (g k)) := by
  obtain ⟨sv, j, h'⟩ := h'
  exact ⟨sv, j, h.bind h'⟩
theorem SBad.ret (sv : S100) {j : Nat} (hj : j ≤ t.size) : SBad t (fun _ => some (sv, ⟨t, (j : Int), true⟩)) := ⟨sv, j, hj, Ev.ret _⟩
theorem IBad.ret (iv : S105) (s : S115) : IBad (fun _ => some (iv, false, s)) := ⟨iv, s, Ev.ret _⟩
/-! Names -/
def isL (c : UInt8) : Bool := bif decide (97 ≤ c.toNat) then (bif decide (c.toNat ≤ 122) then true else (bif decide (65 ≤ c.toNat) then decide (c.toNat ≤ 90) else false)) else (bif decide (65 ≤ c.toNat) then decide (c.toNat ≤ 90) else false)
def isN (c : UInt8) : Bool := isL c || isD c || c.toNat == 95
theorem letter_ (k : Nat) : spec_l01Letter.f k (c.toNat : Int) = some (isL c) := by
  unfold spec_l01Letter.f isL
  have h1 : decide ((97 : Int) ≤ (c.toNat : Int)) = decide (97 ≤ c.toNat) := by congr 1; simp; omega
  have h2 : decide ((c.toNat : Int) ≤ 122) = decide (c.toNat ≤ 122) := by congr 1; simp; omega
  have h3 : decide ((65 : Int) ≤ (c.toNat : Int)) = decide (65 ≤ c.toNat) := by congr 1; simp; omega
  have h4 : decide ((c.toNat : Int) ≤ 90) = decide (c.toNat ≤ 90) := by congr 1; simp; omega
  rw [h1, h2, h3, h4]
  cases decide (97 ≤ c.toNat) <;> cases decide (c.toNat ≤ 122) <;> cases decide (65 ≤ c.toNat) <;> rfl
theorem isLetter_ (k : Nat) : impl_isLetter.f k (c.toNat : Int) = some (isL c) := letter_ k
theorem us_ : ((c.toNat : Int) == 95) = (c.toNat == 95) := by
  rw [Bool.eq_iff_iff]; simp; omega
def nameOk (l : List UInt8) : Bool := decide (1 ≤ l.length) && decide (l.length ≤ 20) && l.head?.any isL && l.all isN
theorem lname_l0 {s : ByteArray} (hs : s.size ≤ 2000000) : ∀ (l : List UInt8) (p : Nat), rest s p = l → Ev (fun k => spec_l01Name.l0 k s (p : Int)) (l.all isN) := by
  intro l
  induction l with
  | nil =>
    intro p h
    refine Ev.step ?_
    simp only [spec_l01Name.l0, lt_nil h, cond_false]
    exact Ev.ret _
  | cons c r ih =>
    intro p h
    have hl := rest_lt h
    refine Ev.step ?_
    simp only [spec_l01Name.l0, lt_cons h, cond_true, bix_cons h, Option.bind_some, letter_, digit_, us_, w1 (i := p) (by omega), List.all_cons]
    have := ih (p + 1) (rest_next h)
    cases h1 : isL c with
    | true => simpa [isN, h1] using this
    | false =>
      cases h2 : isD c with
      | true => simpa [isN, h1, h2] using this
      | false =>
        cases h3 : (c.toNat == 95) with
        | true => simp only [isN, h1, h2, h3, cond_true, cond_false, Bool.or_true, Bool.true_and]; exact this
        | false => simp only [isN, h1, h2, h3, cond_false, Bool.or_false, Bool.false_and]; exact Ev.ret _
theorem iname_l0 {s : ByteArray} (hs : s.size ≤ 2000000) : ∀ (l : List UInt8) (p : Nat), rest s p = l → Ev (fun k => impl_isName.l0 k s (p : Int)) (l.all isN) := by
  intro l
  induction l with
  | nil =>
    intro p h
    refine Ev.step ?_
    simp only [impl_isName.l0, lt_nil h, cond_false]
    exact Ev.ret _
  | cons c r ih =>
    intro p h
    have hl := rest_lt h
    refine Ev.step ?_
    simp only [impl_isName.l0, lt_cons h, cond_true, bix_cons h, Option.bind_some, isLetter_, isDigit_, us_, w1 (i := p) (by omega), List.all_cons]
    have := ih (p + 1) (rest_next h)
    cases h1 : isL c with
    | true => simpa [isN, h1] using this
    | false =>
      cases h2 : isD c with
      | true => simpa [isN, h1, h2] using this
      | false =>
        cases h3 : (c.toNat == 95) with
        | true => simp only [isN, h1, h2, h3, cond_true, cond_false, Bool.or_true, Bool.true_and]; exact this
        | false => simp only [isN, h1, h2, h3, cond_false, Bool.or_false, Bool.false_and]; exact Ev.ret _
theorem rest_bs (l : List UInt8) : rest (bs l) 0 = l := by simp [rest, bs]
theorem rest_bs1 (c : UInt8) (l : List UInt8) : rest (bs (c :: l)) 1 = l := by simp [rest, bs]
theorem lname_ (l : List UInt8) : Ev (fun k => spec_l01Name.f k (bs l)) (nameOk l) := by
  refine Ev.step ?_
  simp only [spec_l01Name.f, bs_size]
  cases l with
  | nil => exact Ev.ret _
  | cons c r =>
    rw [show decide (((c :: r).length : Int) < 1) = false by simp; omega]
    simp only [cond_false]
    by_cases h20 : 20 < (c :: r).length
    · rw [show decide ((20 : Int) < ((c :: r).length : Int)) = true by simp at h20 ⊢; omega, show nameOk (c :: r) = false by unfold nameOk; rw [show decide ((c :: r).length ≤ 20) = false by simp at h20 ⊢; omega]; simp]
      exact Ev.ret _
    · rw [show decide ((20 : Int) < ((c :: r).length : Int)) = false by simp at h20 ⊢; omega]
      simp only [cond_false]
      have hb := bix_cons (rest_bs (c :: r))
      simp only [Int.natCast_zero] at hb
      simp only [show bix (bs (c :: r)) 0 = some (c.toNat : Int) from hb, Option.bind_some, letter_]
      have e : nameOk (c :: r) = (isL c && r.all isN) := by
        unfold nameOk
        rw [show decide ((c :: r).length ≤ 20) = true by simp at h20 ⊢; omega]
        simp [isN]
        cases isL c <;> simp
      rw [e]
      cases hL : isL c with
      | false => exact Ev.ret _
      | true =>
        simp only [cond_true, Bool.true_and]
        exact lname_l0 (s := bs (c :: r)) (by rw [bs_size]; omega) r 1 (rest_bs1 c r)
theorem iname_ (l : List UInt8) : Ev (fun k => impl_isName.f k (bs l)) (nameOk l) := by
  refine Ev.step ?_
  simp only [impl_isName.f, bs_size]
  cases l with
  | nil => exact Ev.ret _
  | cons c r =>
    rw [show decide (((c :: r).length : Int) < 1) = false by simp; omega]
    simp only [cond_false]
    by_cases h20 : 20 < (c :: r).length
    · rw [show decide ((20 : Int) < ((c :: r).length : Int)) = true by simp at h20 ⊢; omega, show nameOk (c :: r) = false by unfold nameOk; rw [show decide ((c :: r).length ≤ 20) = false by simp at h20 ⊢; omega]; simp]
      exact Ev.ret _
    · rw [show decide ((20 : Int) < ((c :: r).length : Int)) = false by simp at h20 ⊢; omega]
      simp only [cond_false]
      have hb := bix_cons (rest_bs (c :: r))
      simp only [Int.natCast_zero] at hb
      simp only [show bix (bs (c :: r)) 0 = some (c.toNat : Int) from hb, Option.bind_some, isLetter_]
      have e : nameOk (c :: r) = (isL c && (c :: r).all isN) := by
        unfold nameOk
        rw [show decide ((c :: r).length ≤ 20) = true by simp at h20 ⊢; omega]
        simp
      rw [e]
      cases hL : isL c with
      | false => exact Ev.ret _
      | true =>
        simp only [cond_true, Bool.true_and]
        exact iname_l0 (s := bs (c :: r)) (by rw [bs_size]; omega) (c :: r) 0 (rest_bs _)
theorem sname_l0 {q : Nat} {b : Bool} (ht : t.size ≤ 2000000) : ∀ (l : List UInt8) (p : Nat), rest t p = l → q ≤ p → p ≤ t.size → Ev (fun k => spec_l01Reader_name.l0 k ⟨t, (q : Int), b⟩ (p : Int)) (bs ((rest t q).take (p + (l.takeWhile isN).length - q)), ⟨t, ((p + (l.takeWhile isN).length : Nat) : Int), b || !nameOk ((rest t q).take (p + (l.takeWhile isN).length - q))⟩) := by
  have fin : ∀ (p : Nat), q ≤ p → p ≤ t.size → Ev (fun k => spec_l01Reader_name.j1 k ⟨t, (q : Int), b⟩ (p : Int)) (bs ((rest t q).take (p - q)), ⟨t, (p : Int), b || !nameOk ((rest t q).take (p - q))⟩) := by
    intro p hq hp
    refine Ev.step ?_
    simp only [spec_l01Reader_name.j1, sub_ij hq hp, Option.bind_some]
    refine Ev.bind (lname_ _) ?_
    cases nameOk ((rest t q).take (p - q)) <;> simp only [cond_true, cond_false, Bool.not_false, Bool.not_true, Bool.or_true, Bool.or_false] <;> exact Ev.ret _
  intro l
  induction l with
  | nil =>
    intro p h hq hp
    refine Ev.step ?_
    simp only [spec_l01Reader_name.l0, lt_nil h, cond_false]
    exact fin p hq hp
  | cons c r ih =>
    intro p h hq hp
    have hl := rest_lt h
    refine Ev.step ?_
    simp only [spec_l01Reader_name.l0, lt_cons h, cond_true, bix_cons h, Option.bind_some, letter_, digit_, us_]
    have go : Ev (fun k => spec_l01Reader_name.j0 k ⟨t, (q : Int), b⟩ (p : Int)) (bs ((rest t q).take (p + ((r.takeWhile isN).length + 1) - q)), ⟨t, ((p + ((r.takeWhile isN).length + 1) : Nat) : Int), b || !nameOk ((rest t q).take (p + ((r.takeWhile isN).length + 1) - q))⟩) := by
      refine Ev.step ?_
      simp only [spec_l01Reader_name.j0, w1 (i := p) (by omega)]
      have := ih (p + 1) (rest_next h) (by omega) (by omega)
      rw [show p + ((r.takeWhile isN).length + 1) = p + 1 + (r.takeWhile isN).length by omega]
      exact this
    cases hN : isN c with
    | true =>
      simp only [List.takeWhile_cons, hN, if_true, List.length_cons]
      cases h1 : isL c with
      | true => exact go
      | false =>
        cases h2 : isD c with
        | true => exact go
        | false =>
          have h3 : (c.toNat == 95) = true := by simpa [isN, h1, h2] using hN
          simp only [h3, cond_true, cond_false]
          exact go
    | false =>
      have h123 : isL c = false ∧ isD c = false ∧ (c.toNat == 95) = false := by
        simp only [isN, Bool.or_eq_false_iff] at hN; exact ⟨hN.1.1, hN.1.2, hN.2⟩
      simp only [h123.1, h123.2.1, h123.2.2, cond_false]
      simpa [List.takeWhile_cons, hN] using fin p hq hp
theorem iname_r0 {q : Nat} (ht : t.size ≤ 2000000) : ∀ (l : List UInt8) (p : Nat), rest t p = l → q ≤ p → p ≤ t.size → Ev (fun k => impl_reader_name.l0 k ⟨t, (q : Int)⟩ (p : Int)) (bs ((rest t q).take (p + (l.takeWhile isN).length - q)), nameOk ((rest t q).take (p + (l.takeWhile isN).length - q)), ⟨t, ((p + (l.takeWhile isN).length : Nat) : Int)⟩) := by
  have fin : ∀ (p : Nat), q ≤ p → p ≤ t.size → Ev (fun k => impl_reader_name.j1 k ⟨t, (q : Int)⟩ (p : Int)) (bs ((rest t q).take (p - q)), nameOk ((rest t q).take (p - q)), ⟨t, (p : Int)⟩) := by
    intro p hq hp
    refine Ev.step ?_
    simp only [impl_reader_name.j1, sub_ij hq hp, Option.bind_some]
    exact Ev.bind (iname_ _) (Ev.ret _)
  intro l
  induction l with
  | nil =>
    intro p h hq hp
    refine Ev.step ?_
    simp only [impl_reader_name.l0, lt_nil h, cond_false]
    exact fin p hq hp
  | cons c r ih =>
    intro p h hq hp
    have hl := rest_lt h
    refine Ev.step ?_
    simp only [impl_reader_name.l0, lt_cons h, cond_true, bix_cons h, Option.bind_some, isLetter_, isDigit_, us_]
    have go : Ev (fun k => impl_reader_name.j0 k ⟨t, (q : Int)⟩ (p : Int)) (bs ((rest t q).take (p + ((r.takeWhile isN).length + 1) - q)), nameOk ((rest t q).take (p + ((r.takeWhile isN).length + 1) - q)), ⟨t, ((p + ((r.takeWhile isN).length + 1) : Nat) : Int)⟩) := by
      refine Ev.step ?_
      simp only [impl_reader_name.j0, w1 (i := p) (by omega)]
      have := ih (p + 1) (rest_next h) (by omega) (by omega)
      rw [show p + ((r.takeWhile isN).length + 1) = p + 1 + (r.takeWhile isN).length by omega]
      exact this
    cases hN : isN c with
    | true =>
      simp only [List.takeWhile_cons, hN, if_true, List.length_cons]
      cases h1 : isL c with
      | true => exact go
      | false =>
        cases h2 : isD c with
        | true => exact go
        | false =>
          have h3 : (c.toNat == 95) = true := by simpa [isN, h1, h2] using hN
          simp only [h3, cond_true, cond_false]
          exact go
    | false =>
      have h123 : isL c = false ∧ isD c = false ∧ (c.toNat == 95) = false := by
        simp only [isN, Bool.or_eq_false_iff] at hN; exact ⟨hN.1.1, hN.1.2, hN.2⟩
      simp only [h123.1, h123.2.1, h123.2.2, cond_false]
      simpa [List.takeWhile_cons, hN] using fin p hq hp
/-- The name at the head of a text. -/
def nm (l : List UInt8) : List UInt8 := l.takeWhile isN
theorem nm_take (l : List UInt8) : l.take (nm l).length = nm l := take_tw isN l
theorem nm_le (l : List UInt8) : (nm l).length ≤ l.length := (List.takeWhile_prefix isN (l := l)).length_le
theorem sname_ {b : Bool} (hi : i ≤ t.size) (ht : t.size ≤ 2000000) : Ev (fun k => spec_l01Reader_name.f k ⟨t, (i : Int), b⟩) (bs (nm (rest t i)), ⟨t, ((i + (nm (rest t i)).length : Nat) : Int), b || !nameOk (nm (rest t i))⟩) := by
  refine Ev.step ?_
  simp only [spec_l01Reader_name.f]
  have := sname_l0 (q := i) (b := b) ht (rest t i) i rfl (Nat.le_refl _) hi
  rw [show i + ((rest t i).takeWhile isN).length - i = (nm (rest t i)).length by unfold nm; omega, nm_take] at this
  exact this
theorem rname_ (hi : i ≤ t.size) (ht : t.size ≤ 2000000) : Ev (fun k => impl_reader_name.f k ⟨t, (i : Int)⟩) (bs (nm (rest t i)), nameOk (nm (rest t i)), ⟨t, ((i + (nm (rest t i)).length : Nat) : Int)⟩) := by
  refine Ev.step ?_
  simp only [impl_reader_name.f]
  have := iname_r0 (q := i) ht (rest t i) i rfl (Nat.le_refl _) hi
  rw [show i + ((rest t i).takeWhile isN).length - i = (nm (rest t i)).length by unfold nm; omega, nm_take] at this
  exact this
/-! Quoted texts -/
def nums (l : List UInt8) : List Int := l.map fun c => (c.toNat : Int)
theorem bstr_nums (l : List UInt8) : bstr (nums l) = bs l := by
  unfold bstr nums bs
  rw [List.map_map]
  congr 2
  conv => rhs; rw [← List.map_id l]
  apply List.map_congr_left
  intro c _
  simp
theorem app_one {α : Type} {l : List α} (x : α) (h : l.length ≤ 2000000) : app l [x] = some (l ++ [x]) := by
  unfold app; rw [if_pos (by simp; omega)]
theorem app_num {l : List UInt8} {x : Int} (c : UInt8) (hx : x = (c.toNat : Int)) (h : l.length ≤ 2000000) : app (nums l) [x] = some (nums (l ++ [c])) := by
  rw [app_one _ (by simpa [nums] using h)]; simp [nums, hx]
theorem eqn {n : Nat} (m : Nat) : ((n : Int) == (m : Int)) = decide (n = m) := by
  rw [Bool.eq_iff_iff]; simp; omega
theorem quoted_l0 {q : Int} {b : Bool} (ht : t.size ≤ 2000000) : ∀ (n : Nat) (l L : List UInt8) (p : Nat), l.length ≤ n → rest t p = l → p ≤ t.size → L.length ≤ p →
    (∃ (s : List UInt8) (j : Nat), p < j ∧ j ≤ t.size ∧ Ev (fun k => spec_l01Reader_quoted.l0 k (nums L) ⟨t, q, b⟩ (p : Int)) (bs s, ⟨t, (j : Int), b⟩) ∧ Ev (fun k => impl_reader_quoted.l0 k (nums L) t (p : Int)) (bs s, true, ⟨t, (j : Int)⟩)) ∨
    (∃ (j : Nat) (x : ByteArray) (s : S115), j ≤ t.size ∧ Ev (fun k => spec_l01Reader_quoted.l0 k (nums L) ⟨t, q, b⟩ (p : Int)) (⟨#[]⟩, ⟨t, (j : Int), true⟩) ∧ Ev (fun k => impl_reader_quoted.l0 k (nums L) t (p : Int)) (x, false, s)) := by
  intro n
  induction n with
  | zero =>
    intro l L p hl h hp hL
    obtain rfl : l = [] := List.eq_nil_of_length_eq_zero (by omega)
    right
    refine ⟨p, ⟨#[]⟩, ⟨t, (p : Int)⟩, hp, Ev.step ?_, Ev.step ?_⟩
    · simp only [spec_l01Reader_quoted.l0, lt_nil h, cond_false]; exact Ev.ret _
    · simp only [impl_reader_quoted.l0, lt_nil h, cond_false]; exact Ev.ret _
  | succ n ih =>
    intro l L p hl h hp hL
    cases l with
    | nil =>
      right
      refine ⟨p, ⟨#[]⟩, ⟨t, (p : Int)⟩, hp, Ev.step ?_, Ev.step ?_⟩
      · simp only [spec_l01Reader_quoted.l0, lt_nil h, cond_false]; exact Ev.ret _
      · simp only [impl_reader_quoted.l0, lt_nil h, cond_false]; exact Ev.ret _
    | cons c r =>
      have hlt := rest_lt h
      have hw1 := w1 (i := p) (by omega)
      have hn := rest_next h
      have e34 : ((c.toNat : Int) == 34) = decide (c.toNat = 34) := eqn 34
      have e92 : ((c.toNat : Int) == 92) = decide (c.toNat = 92) := eqn 92
      have e32 : decide ((c.toNat : Int) < 32) = decide (c.toNat < 32) := by congr 1; simp; omega
      by_cases h34 : c.toNat = 34
      · left
        refine ⟨L, p + 1, by omega, by omega, Ev.step ?_, Ev.step ?_⟩
        · simp only [spec_l01Reader_quoted.l0, lt_cons h, cond_true, bix_cons h, Option.bind_some, e34, h34, decide_true, hw1, bstr_nums]; exact Ev.ret _
        · simp only [impl_reader_quoted.l0, lt_cons h, cond_true, bix_cons h, Option.bind_some, e34, h34, decide_true, hw1, bstr_nums]; exact Ev.ret _
      · by_cases h92 : c.toNat = 92
        · have d92 : decide (c.toNat < 32) = false := by simp; omega
          have d34 : decide (c.toNat = 34) = false := by simp; omega
          cases r with
          | nil =>
            right
            refine ⟨p + 1, ⟨#[]⟩, ⟨t, ((p + 1 : Nat) : Int)⟩, by omega, Ev.step ?_, Ev.step ?_⟩
            · simp only [spec_l01Reader_quoted.l0, lt_cons h, cond_true, bix_cons h, Option.bind_some, e34, d34, e32, d92, e92, decide_eq_true h92, hw1, le_nil hn, cond_false]; exact Ev.ret _
            · simp only [impl_reader_quoted.l0, lt_cons h, cond_true, bix_cons h, Option.bind_some, e34, d34, e32, d92, e92, decide_eq_true h92, hw1, peek_nil _ hn, cond_false, show ((0 : Int) == 34) = false from rfl, show ((0 : Int) == 92) = false from rfl]
              refine Ev.step ?_
              simp only [impl_reader_quoted.j0, cond_false, show ((0 : Int) == 110) = false from rfl]
              exact Ev.ret _
          | cons d r' =>
            have hlt' := rest_lt hn
            have hw2 := w1 (i := p + 1) (by omega)
            have hn' := rest_next hn
            have f34 : ((d.toNat : Int) == 34) = decide (d.toNat = 34) := eqn 34
            have f92 : ((d.toNat : Int) == 92) = decide (d.toNat = 92) := eqn 92
            have f110 : ((d.toNat : Int) == 110) = decide (d.toNat = 110) := eqn 110
            by_cases hd : d.toNat = 34 ∨ d.toNat = 92 ∨ d.toNat = 110
            · obtain ⟨x, hx⟩ : ∃ x : UInt8, (x.toNat : Int) = (if d.toNat = 110 then 10 else (d.toNat : Int)) := by
                by_cases h110 : d.toNat = 110
                · exact ⟨10, by rw [if_pos h110]; rfl⟩
                · exact ⟨d, by rw [if_neg h110]⟩
              have hs : ∀ R, Ev (fun k => spec_l01Reader_quoted.l0 k (nums (L ++ [x])) ⟨t, q, b⟩ ((p + 1 + 1 : Nat) : Int)) R → Ev (fun k => spec_l01Reader_quoted.l0 k (nums L) ⟨t, q, b⟩ (p : Int)) R := by
                intro R g
                refine Ev.step ?_
                simp only [spec_l01Reader_quoted.l0, lt_cons h, cond_true, bix_cons h, Option.bind_some, e34, d34, e32, d92, e92, decide_eq_true h92, hw1, le_cons hn, bix_cons hn, cond_false, f34, f92, f110]
                have gg : Ev (fun k => spec_l01Reader_quoted.j0 k (nums L) ⟨t, q, b⟩ (p : Int)) R := by
                  refine Ev.step ?_
                  simp only [spec_l01Reader_quoted.j0, hw1, bix_cons hn, Option.bind_some, f110]
                  have gj : Ev (fun k => spec_l01Reader_quoted.j1 k (nums L) (x.toNat : Int) ⟨t, q, b⟩ (p : Int)) R := by
                    refine Ev.step ?_
                    simp only [spec_l01Reader_quoted.j1, app_num (l := L) x rfl (by omega), Option.bind_some, hw1, hw2]
                    exact g
                  rw [hx] at gj
                  by_cases h110 : d.toNat = 110
                  · simp only [decide_eq_true h110, cond_true]; rw [if_pos h110] at gj; exact gj
                  · simp only [decide_eq_false h110, cond_false]; rw [if_neg h110] at gj; exact gj
                rcases hd with hd | hd | hd <;> simp [hd, gg]
              have hi : ∀ R, Ev (fun k => impl_reader_quoted.l0 k (nums (L ++ [x])) t ((p + 1 + 1 : Nat) : Int)) R → Ev (fun k => impl_reader_quoted.l0 k (nums L) t (p : Int)) R := by
                intro R g
                refine Ev.step ?_
                simp only [impl_reader_quoted.l0, lt_cons h, cond_true, bix_cons h, Option.bind_some, e34, d34, e92, decide_eq_true h92, hw1, peek_cons _ hn, cond_false, f34, f92]
                have gt : d.toNat ≠ 110 → Ev (fun k => impl_reader_quoted.j0 k (nums L) ((d.toNat : Int), ⟨t, ((p + 1 : Nat) : Int)⟩) true) R := by
                  intro h110
                  rw [if_neg h110] at hx
                  refine Ev.step ?_
                  simp only [impl_reader_quoted.j0, cond_true, bix_cons hn, Option.bind_some, app_num (l := L) x hx.symm (by omega), hw2]
                  exact g
                rcases hd with hd | hd | hd
                · simp only [decide_eq_true hd, cond_true]; exact gt (by omega)
                · rw [show decide (d.toNat = 34) = false by simp; omega]
                  simp only [decide_eq_true hd, cond_false]; exact gt (by omega)
                · rw [if_pos hd] at hx
                  rw [show decide (d.toNat = 34) = false by simp; omega, show decide (d.toNat = 92) = false by simp; omega]
                  simp only [cond_false]
                  refine Ev.step ?_
                  simp only [impl_reader_quoted.j0, cond_false, f110, decide_eq_true hd, cond_true, app_num (l := L) x hx.symm (by omega), Option.bind_some, hw2]
                  exact g
              rcases ih r' (L ++ [x]) (p + 1 + 1) (by simp at hl; omega) hn' (by omega) (by simp; omega) with ⟨s, j, h1, h2, h3, h4⟩ | ⟨j, y, s, h1, h2, h3⟩
              · exact .inl ⟨s, j, by omega, h2, hs _ h3, hi _ h4⟩
              · exact .inr ⟨j, y, s, h1, hs _ h2, hi _ h3⟩
            · right
              have d1 : decide (d.toNat = 34) = false := by simp; omega
              have d2 : decide (d.toNat = 92) = false := by simp; omega
              have d3 : decide (d.toNat = 110) = false := by simp; omega
              refine ⟨p + 1, ⟨#[]⟩, ⟨t, ((p + 1 : Nat) : Int)⟩, by omega, Ev.step ?_, Ev.step ?_⟩
              · simp only [spec_l01Reader_quoted.l0, lt_cons h, cond_true, bix_cons h, Option.bind_some, e34, d34, e32, d92, e92, decide_eq_true h92, hw1, le_cons hn, bix_cons hn, cond_false, f34, f92, f110, d1, d2, d3]; exact Ev.ret _
              · simp only [impl_reader_quoted.l0, lt_cons h, cond_true, bix_cons h, Option.bind_some, e34, d34, e92, decide_eq_true h92, hw1, peek_cons _ hn, cond_false, f34, f92, d1, d2]
                refine Ev.step ?_
                simp only [impl_reader_quoted.j0, cond_false, f110, d3]
                exact Ev.ret _
        · by_cases h32 : c.toNat < 32
          · right
            refine ⟨p + 1, ⟨#[]⟩, ⟨t, ((p + 1 : Nat) : Int)⟩, by omega, Ev.step ?_, Ev.step ?_⟩
            · simp only [spec_l01Reader_quoted.l0, lt_cons h, cond_true, bix_cons h, Option.bind_some, e34, decide_eq_false h34, e32, decide_eq_true h32, hw1, cond_false]; exact Ev.ret _
            · simp only [impl_reader_quoted.l0, lt_cons h, cond_true, bix_cons h, Option.bind_some, e34, decide_eq_false h34, e92, decide_eq_false h92, e32, decide_eq_true h32, hw1, cond_false]; exact Ev.ret _
          · have hs : ∀ R, Ev (fun k => spec_l01Reader_quoted.l0 k (nums (L ++ [c])) ⟨t, q, b⟩ ((p + 1 : Nat) : Int)) R → Ev (fun k => spec_l01Reader_quoted.l0 k (nums L) ⟨t, q, b⟩ (p : Int)) R := by
              intro R g
              refine Ev.step ?_
              simp only [spec_l01Reader_quoted.l0, lt_cons h, cond_true, bix_cons h, Option.bind_some, e34, decide_eq_false h34, e32, decide_eq_false h32, e92, decide_eq_false h92, cond_false, hw1, app_num (l := L) c rfl (by omega)]
              exact g
            have hi : ∀ R, Ev (fun k => impl_reader_quoted.l0 k (nums (L ++ [c])) t ((p + 1 : Nat) : Int)) R → Ev (fun k => impl_reader_quoted.l0 k (nums L) t (p : Int)) R := by
              intro R g
              refine Ev.step ?_
              simp only [impl_reader_quoted.l0, lt_cons h, cond_true, bix_cons h, Option.bind_some, e34, decide_eq_false h34, e32, decide_eq_false h32, e92, decide_eq_false h92, cond_false, hw1, app_num (l := L) c rfl (by omega)]
              exact g
            rcases ih r (L ++ [c]) (p + 1) (by simp at hl; omega) hn (by omega) (by simp; omega) with ⟨s, j, h1, h2, h3, h4⟩ | ⟨j, y, s, h1, h2, h3⟩
            · exact .inl ⟨s, j, by omega, h2, hs _ h3, hi _ h4⟩
            · exact .inr ⟨j, y, s, h1, hs _ h2, hi _ h3⟩
theorem quoted_ {b : Bool} (ht : t.size ≤ 2000000) (hi : i ≤ t.size) :
    (∃ (s : List UInt8) (j : Nat), i < j ∧ j ≤ t.size ∧ Ev (fun k => spec_l01Reader_quoted.f k ⟨t, (i : Int), b⟩) (bs s, ⟨t, (j : Int), b⟩) ∧ Ev (fun k => impl_reader_quoted.l0 k [] t (i : Int)) (bs s, true, ⟨t, (j : Int)⟩)) ∨
    (∃ (j : Nat) (x : ByteArray) (s : S115), j ≤ t.size ∧ Ev (fun k => spec_l01Reader_quoted.f k ⟨t, (i : Int), b⟩) (⟨#[]⟩, ⟨t, (j : Int), true⟩) ∧ Ev (fun k => impl_reader_quoted.l0 k [] t (i : Int)) (x, false, s)) := by
  have hs : ∀ R, Ev (fun k => spec_l01Reader_quoted.l0 k (nums []) ⟨t, (i : Int), b⟩ (i : Int)) R → Ev (fun k => spec_l01Reader_quoted.f k ⟨t, (i : Int), b⟩) R := by
    intro R g
    refine Ev.step ?_
    simp only [spec_l01Reader_quoted.f]
    exact g
  rcases quoted_l0 (q := (i : Int)) (b := b) ht _ (rest t i) [] i (Nat.le_refl _) rfl hi (by simp) with ⟨s, j, h1, h2, h3, h4⟩ | ⟨j, y, s, h1, h2, h3⟩
  · exact .inl ⟨s, j, h1, h2, hs _ h3, h4⟩
  · exact .inr ⟨j, y, s, h1, hs _ h2, h3⟩
end
end Go.Ab
namespace Go.Ab
open Go.Proofs
set_option linter.unusedVariables false
set_option linter.unusedSimpArgs false
/-! Days and months -/
def lp (y : Int) : Bool := bif (y.tmod 4 == 0) then (bif (y.tmod 100 == 0) then (y.tmod 400 == 0) else true) else false
theorem rem_ (a : Int) (b : Int) (h : b ≠ 0) : rem a b = some (a.tmod b) := by unfold rem; rw [if_neg h]
theorem leap_s (k : Nat) (y : Int) : spec_l01Leap.f k y = some (lp y) := by
  unfold spec_l01Leap.f lp
  rw [rem_ y 4 (by decide), rem_ y 100 (by decide), rem_ y 400 (by decide)]
  simp only [Option.bind_some]
  cases (y.tmod 4 == 0) <;> cases (y.tmod 100 == 0) <;> rfl
theorem leap_i (k : Nat) (y : Int) : impl_leap.f k y = some (lp y) := leap_s k y
def mon (y m : Int) : Int := if m = 2 then (if lp y then 29 else 28) else if m = 4 ∨ m = 6 ∨ m = 9 ∨ m = 11 then 30 else 31
theorem mon_bd (y m : Int) : 28 ≤ mon y m ∧ mon y m ≤ 31 := by
  unfold mon; split
  · split <;> omega
  · split <;> omega
theorem months {m : Int} (h1 : 1 ≤ m) (h2 : m ≤ 12) : m = 1 ∨ m = 2 ∨ m = 3 ∨ m = 4 ∨ m = 5 ∨ m = 6 ∨ m = 7 ∨ m = 8 ∨ m = 9 ∨ m = 10 ∨ m = 11 ∨ m = 12 := by omega
theorem month_s (k : Nat) (y : Int) {m : Int} (h1 : 1 ≤ m) (h2 : m ≤ 12) : spec_l01Month.f k y m = some (mon y m) := by
  unfold spec_l01Month.f
  rw [leap_s]
  rcases months h1 h2 with h | h | h | h | h | h | h | h | h | h | h | h <;> subst h <;> first | rfl | (unfold mon; cases lp y <;> rfl)
theorem month_i (k : Nat) (y : Int) {m : Int} (h1 : 1 ≤ m) (h2 : m ≤ 12) : impl_monthDays.f k y m = some (mon y m) := by
  unfold impl_monthDays.f
  rw [leap_i]
  rcases months h1 h2 with h | h | h | h | h | h | h | h | h | h | h | h <;> subst h <;> first | rfl | (unfold mon; cases lp y <;> rfl)
def dys (y : Int) : Int := (y - 1) * 365 + (y - 1) / 4 - (y - 1) / 100 + (y - 1) / 400
theorem quo_ {a b : Int} (h : 0 ≤ a) (hb : 0 < b) (hm : a ≤ 1000000000) : quo .i64 a b = some (a / b) := by
  unfold quo
  rw [if_neg (by omega), Int.tdiv_eq_ediv_of_nonneg h]
  have h1 : 0 ≤ a / b := Int.ediv_nonneg h (by omega)
  have h2 : a / b ≤ a := Int.ediv_le_self _ h
  rw [w64 (by omega) (by omega)]
theorem days_w {y : Int} (h1 : 1 ≤ y) (h2 : y ≤ 10001) : IntKind.i64.wrap ((IntKind.i64.wrap ((IntKind.i64.wrap ((IntKind.i64.wrap ((y - 1) * 365)) + ((y - 1) / 4))) - ((y - 1) / 100))) + ((y - 1) / 400)) = dys y := by
  rw [w64 (n := (y - 1) * 365) (by omega) (by omega), w64 (n := (y - 1) * 365 + (y - 1) / 4) (by omega) (by omega), w64 (n := (y - 1) * 365 + (y - 1) / 4 - (y - 1) / 100) (by omega) (by omega), w64 (by omega) (by omega)]
  rfl
theorem days_s (k : Nat) {y : Int} (h1 : 1 ≤ y) (h2 : y ≤ 10001) : spec_l01Days.f k y = some (dys y) := by
  unfold spec_l01Days.f
  rw [w64 (n := y - 1) (by omega) (by omega), quo_ (by omega) (by omega) (by omega), quo_ (by omega) (by omega) (by omega), quo_ (by omega) (by omega) (by omega)]
  simp only [Option.bind_some]
  rw [days_w h1 h2]
theorem dys_bd {y : Int} (h1 : 1 ≤ y) (h2 : y ≤ 10001) : 0 ≤ dys y ∧ dys y ≤ 3700000 := by unfold dys; omega
theorem dayloop (y : Int) {m : Nat} (hm : m ≤ 12) (v1 v6 v11 : Int × S111) (h1 : v1.1 = y) (h6 : v6.1 = (m : Int)) (d : Int) (hd : 0 ≤ d ∧ d ≤ 1000) : ∀ (n q : Nat), q + n = m ∨ (n = 0 ∧ m ≤ q) → 1 ≤ q → q ≤ 13 →
    ∃ S : Int, 0 ≤ S ∧ S ≤ 31 * n ∧ (∀ a : Int, 0 ≤ a → a ≤ 100000000 - 31 * n → Ev (fun k => spec_l01Reader_date.l0 k v1 v6 a (q : Int) v11) (⟨4, a + S, 0, ⟨#[]⟩, [], []⟩, ⟨v11.2.f0, v11.2.f1, false⟩)) ∧
      (∀ a : Int, 0 ≤ a → a ≤ 100000000 - 31 * n → Ev (fun k => impl_dayNumber.l0 k y (m : Int) d a (q : Int)) (a + S + d - 1)) := by
  intro n
  induction n with
  | zero =>
    intro q h hq hq2
    refine ⟨0, by omega, by omega, fun a h1 h2 => Ev.step ?_, fun a h1 h2 => Ev.step ?_⟩
    · simp only [spec_l01Reader_date.l0, h6, show decide ((q : Int) < (m : Int)) = false by simp; omega, cond_false, Int.add_zero]; exact Ev.ret _
    · simp only [impl_dayNumber.l0, show decide ((q : Int) < (m : Int)) = false by simp; omega, cond_false, Int.add_zero]
      rw [w64 (n := a + d) (by omega) (by omega), w64 (by omega) (by omega)]
      exact Ev.ret _
  | succ n ih =>
    intro q h hq hq2
    obtain ⟨S, hS0, hS1, hs, hi⟩ := ih (q + 1) (by omega) (by omega) (by omega)
    have hb := mon_bd y (q : Int)
    have hlt : decide ((q : Int) < (m : Int)) = true := by simp; omega
    refine ⟨mon y q + S, by omega, by omega, fun a ha1 ha2 => Ev.step ?_, fun a ha1 ha2 => Ev.step ?_⟩
    · simp only [spec_l01Reader_date.l0, h6, hlt, cond_true, h1, month_s _ y (m := (q : Int)) (by omega) (by omega), Option.bind_some, w1 (i := q) (by omega)]
      rw [w64 (n := a + mon y q) (by omega) (by omega), ← Int.add_assoc]
      exact hs (a + mon y q) (by omega) (by omega)
    · simp only [impl_dayNumber.l0, hlt, cond_true, month_i _ y (m := (q : Int)) (by omega) (by omega), Option.bind_some, w1 (i := q) (by omega)]
      rw [w64 (n := a + mon y q) (by omega) (by omega), ← Int.add_assoc]
      exact hi (a + mon y q) (by omega) (by omega)
theorem dayNumber_f {y m d : Int} (h1 : 1 ≤ y) (h2 : y ≤ 10001) {r : Int} (h : Ev (fun k => impl_dayNumber.l0 k y m d (dys y) 1) r) : Ev (fun k => impl_dayNumber.f k y m d) r := by
  refine Ev.step ?_
  simp only [impl_dayNumber.f]
  rw [w64 (n := y - 1) (by omega) (by omega), quo_ (a := y - 1) (b := 4) (by omega) (by omega) (by omega), quo_ (a := y - 1) (b := 100) (by omega) (by omega) (by omega), quo_ (a := y - 1) (b := 400) (by omega) (by omega) (by omega)]
  simp only [Option.bind_some]
  rw [days_w h1 h2]
  exact h
section
variable {t : ByteArray} {i : Nat} {c : UInt8} {r : List UInt8}
theorem pre1 (x c : UInt8) (r : List UInt8) : pre ⟨#[x]⟩ (c :: r) = (x == c) := by simp [pre, List.isPrefixOf]
theorem pre0 (x : UInt8) : pre ⟨#[x]⟩ [] = false := rfl
theorem bif_same {α : Type} (b : Bool) (x : α) : (bif b then x else x) = x := by cases b <;> rfl
/-! Digits of a date -/
def okd (n : Nat) (l : List UInt8) : Bool := decide (n ≤ l.length) && (l.take n).all isD
theorem digits_l0 {q : Int} {b : Bool} (ht : t.size ≤ 2000000) (m : Nat) (hm : m ≤ 100) : ∀ (n : Nat) (l : List UInt8) (p jj : Nat) (acc : Int), jj + n = m → rest t p = l → p ≤ t.size →
    (okd n l = true → Ev (fun k => spec_l01Reader_digits.l0 k (m : Int) acc (jj : Int) ⟨t, q, b⟩ (p : Int)) ((l.take n).foldl fw acc, ⟨t, ((p + n : Nat) : Int), b⟩)) ∧
    (okd n l = false → ∃ j : Nat, j ≤ t.size ∧ Ev (fun k => spec_l01Reader_digits.l0 k (m : Int) acc (jj : Int) ⟨t, q, b⟩ (p : Int)) (0, ⟨t, (j : Int), true⟩)) := by
  intro n
  induction n with
  | zero =>
    intro l p jj acc hj h hp
    refine ⟨fun _ => Ev.step ?_, fun h => by simp [okd] at h⟩
    simp only [spec_l01Reader_digits.l0, show decide ((jj : Int) < (m : Int)) = false by simp; omega, cond_false]
    exact Ev.ret _
  | succ n ih =>
    intro l p jj acc hj h hp
    have hlt : decide ((jj : Int) < (m : Int)) = true := by simp; omega
    cases l with
    | nil =>
      refine ⟨fun h => by simp [okd] at h, fun _ => ⟨p, hp, Ev.step ?_⟩⟩
      simp only [spec_l01Reader_digits.l0, hlt, cond_true, le_nil h]
      exact Ev.ret _
    | cons c r =>
      have hl := rest_lt h
      obtain ⟨ih1, ih2⟩ := ih r (p + 1) (jj + 1) (fw acc c) (by omega) (rest_next h) (by omega)
      have e : okd (n + 1) (c :: r) = (isD c && okd n r) := by
        unfold okd
        rw [List.take_succ_cons, List.all_cons, List.length_cons]
        have : decide (n + 1 ≤ r.length + 1) = decide (n ≤ r.length) := by congr 1; simp
        rw [this]
        cases decide (n ≤ r.length) <;> cases isD c <;> simp
      have hstep : isD c = true → ∀ R, Ev (fun k => spec_l01Reader_digits.l0 k (m : Int) (fw acc c) ((jj + 1 : Nat) : Int) ⟨t, q, b⟩ ((p + 1 : Nat) : Int)) R → Ev (fun k => spec_l01Reader_digits.l0 k (m : Int) acc (jj : Int) ⟨t, q, b⟩ (p : Int)) R := by
        intro hd R g
        refine Ev.step ?_
        simp only [spec_l01Reader_digits.l0, hlt, cond_true, le_cons h, cond_false, bix_cons h, Option.bind_some, digit_, hd, fw_def, w1 (i := p) (by omega), w1 (i := jj) (by omega)]
        exact g
      rw [e]
      cases hd : isD c with
      | true =>
        rw [Bool.true_and]
        refine ⟨fun h => hstep hd _ ?_, fun h => ?_⟩
        · rw [List.take_succ_cons, List.foldl_cons, show p + (n + 1) = p + 1 + n by omega]; exact ih1 h
        · obtain ⟨j, h1, h2⟩ := ih2 h
          exact ⟨j, h1, hstep hd _ h2⟩
      | false =>
        rw [Bool.false_and]
        refine ⟨fun h => by simp at h, fun _ => ⟨p, hp, Ev.step ?_⟩⟩
        simp only [spec_l01Reader_digits.l0, hlt, cond_true, le_cons h, cond_false, bix_cons h, Option.bind_some, digit_, hd]
        exact Ev.ret _
theorem digits_ok {b : Bool} (ht : t.size ≤ 2000000) (n : Nat) (hn : n ≤ 100) (hi : i ≤ t.size) (h : okd n (rest t i) = true) : Ev (fun k => spec_l01Reader_digits.f k (n : Int) ⟨t, (i : Int), b⟩) (((rest t i).take n).foldl fw 0, ⟨t, ((i + n : Nat) : Int), b⟩) := by
  refine Ev.step ?_
  simp only [spec_l01Reader_digits.f]
  exact (digits_l0 (q := (i : Int)) (b := b) ht n hn n (rest t i) i 0 0 (by omega) rfl hi).1 h
theorem digits_no {b : Bool} (ht : t.size ≤ 2000000) (n : Nat) (hn : n ≤ 100) (hi : i ≤ t.size) (h : okd n (rest t i) = false) : ∃ j : Nat, j ≤ t.size ∧ Ev (fun k => spec_l01Reader_digits.f k (n : Int) ⟨t, (i : Int), b⟩) (0, ⟨t, (j : Int), true⟩) := by
  obtain ⟨j, h1, h2⟩ := (digits_l0 (q := (i : Int)) (b := b) ht n hn n (rest t i) i 0 0 (by omega) rfl hi).2 h
  refine ⟨j, h1, Ev.step ?_⟩
  simp only [spec_l01Reader_digits.f]
  exact h2
theorem okd_le {n : Nat} {l : List UInt8} (h : okd n l = true) : n ≤ l.length := by
  unfold okd at h; simp at h; exact h.1
theorem date_j1_bad (ht : t.size ≤ 2000000) (hi : i ≤ t.size) (v1 v6 : Int × S111) : SBad t (fun k => spec_l01Reader_date.j1 k v1 v6 t (i : Int) true) := by
  refine SBad.step ?_
  simp only [spec_l01Reader_date.j1]
  cases h : okd 2 (rest t i) with
  | true =>
    have := okd_le h
    rw [rest_len] at this
    refine SBad.bind (digits_ok ht 2 (by omega) hi h) ?_
    simp only [cond_true, fail_, Option.bind_some]
    exact SBad.ret _ (by omega)
  | false =>
    obtain ⟨j, hj, h⟩ := digits_no (b := true) ht 2 (by omega) hi h
    refine SBad.bind h ?_
    simp only [cond_true, fail_, Option.bind_some]
    exact SBad.ret _ hj
theorem date_j0_bad (ht : t.size ≤ 2000000) (hi : i ≤ t.size) (v1 : Int × S111) : SBad t (fun k => spec_l01Reader_date.j0 k v1 t (i : Int) true) := by
  refine SBad.step ?_
  simp only [spec_l01Reader_date.j0]
  cases h : okd 2 (rest t i) with
  | true =>
    have := okd_le h
    rw [rest_len] at this
    refine SBad.bind (digits_ok ht 2 (by omega) hi h) ?_
    simp only [cond_true]
    exact date_j1_bad ht (by omega) _ _
  | false =>
    obtain ⟨j, hj, h⟩ := digits_no (b := true) ht 2 (by omega) hi h
    refine SBad.bind h ?_
    simp only [cond_true]
    exact date_j1_bad ht hj _ _
/-- Does a date of this form stand at the head? -/
def dform (l : List UInt8) : Bool := okd 4 l && pre ⟨#[45]⟩ (l.drop 4) && okd 2 (l.drop 5) && pre ⟨#[45]⟩ (l.drop 7) && okd 2 (l.drop 8)
def dnum (n : Nat) (l : List UInt8) : Int := (l.take n).foldl fw 0
/-- Of a month and day that are there. -/
def dgood (y m d : Int) : Bool := decide (1 ≤ y) && decide (1 ≤ m) && decide (m ≤ 12) && decide (1 ≤ d) && decide (d ≤ mon y m)
theorem date_no (ht : t.size ≤ 2000000) (hi : i ≤ t.size) (h : dform (rest t i) = false) : SBad t (fun k => spec_l01Reader_date.f k ⟨t, (i : Int), false⟩) := by
  refine SBad.step ?_
  simp only [spec_l01Reader_date.f]
  cases h4 : okd 4 (rest t i) with
  | false =>
    obtain ⟨j, hj, h⟩ := digits_no (b := false) ht 4 (by omega) hi h4
    refine SBad.bind h ?_
    simp only [cond_true]
    exact date_j0_bad ht hj _
  | true =>
    have l4 := okd_le h4
    rw [rest_len] at l4
    refine SBad.bind (digits_ok ht 4 (by omega) hi h4) ?_
    simp only [cond_false, takes_ (t := t) (i := i + 4) _ _ (by omega) ht, Option.bind_some, rest_add]
    cases p1 : pre ⟨#[45]⟩ ((rest t i).drop 4) with
    | false =>
      simp only [Bool.false_eq_true, if_false, Bool.not_false]
      exact date_j0_bad ht (by omega) _
    | true =>
      have q1 := pre_len p1
      rw [List.length_drop, rest_len, show (⟨#[45]⟩ : ByteArray).size = 1 from rfl] at q1
      simp only [if_true, Bool.not_true, show (⟨#[45]⟩ : ByteArray).data.toList.length = 1 from rfl]
      refine SBad.step ?_
      simp only [spec_l01Reader_date.j0]
      cases h2 : okd 2 (rest t (i + 4 + 1)) with
      | false =>
        obtain ⟨j, hj, h⟩ := digits_no (b := false) ht 2 (by omega) (by omega) h2
        refine SBad.bind h ?_
        simp only [cond_true]
        exact date_j1_bad ht hj _ _
      | true =>
        have l2 := okd_le h2
        rw [rest_len] at l2
        refine SBad.bind (digits_ok ht 2 (by omega) (by omega) h2) ?_
        simp only [cond_false, takes_ (t := t) (i := i + 4 + 1 + 2) _ _ (by omega) ht, Option.bind_some]
        cases p2 : pre ⟨#[45]⟩ (rest t (i + 4 + 1 + 2)) with
        | false =>
          simp only [Bool.false_eq_true, if_false, Bool.not_false]
          exact date_j1_bad ht (by omega) _ _
        | true =>
          have q2 := pre_len p2
          rw [rest_len, show (⟨#[45]⟩ : ByteArray).size = 1 from rfl] at q2
          simp only [if_true, Bool.not_true, show (⟨#[45]⟩ : ByteArray).data.toList.length = 1 from rfl]
          refine SBad.step ?_
          simp only [spec_l01Reader_date.j1]
          cases h3 : okd 2 (rest t (i + 4 + 1 + 2 + 1)) with
          | false =>
            obtain ⟨j, hj, h⟩ := digits_no (b := false) ht 2 (by omega) (by omega) h3
            refine SBad.bind h ?_
            simp only [cond_true, fail_, Option.bind_some]
            exact SBad.ret _ hj
          | true =>
            exfalso
            unfold dform at h
            rw [show i + 4 + 1 = i + 5 by omega] at h2
            rw [show i + 4 + 1 + 2 = i + 7 by omega] at p2
            rw [show i + 4 + 1 + 2 + 1 = i + 8 by omega] at h3
            rw [rest_add] at h2 p2 h3
            rw [h4, p1, h2, p2, h3] at h
            simp at h
theorem fw_bd {acc B : Int} (h : isD c = true) (h0 : 0 ≤ acc) (h1 : acc ≤ B) (hB : B ≤ 1000000000) : 0 ≤ fw acc c ∧ fw acc c ≤ B * 10 + 9 := by
  rw [fw_eq h]
  unfold isD at h; simp at h
  rw [w64 (by omega) (by omega)]; omega
theorem foldl_bd : ∀ (l : List UInt8), (∀ c ∈ l, isD c = true) → l.length ≤ 4 → 0 ≤ l.foldl fw 0 ∧ l.foldl fw 0 ≤ 9999 := by
  intro l hl hn
  match l, hl, hn with
  | [], _, _ => simp
  | [a], h, _ =>
    have h1 := fw_bd (acc := 0) (B := 0) (h a (by simp)) (by omega) (by omega) (by omega)
    exact ⟨h1.1, by show fw 0 a ≤ 9999; omega⟩
  | [a, b], h, _ =>
    have h1 := fw_bd (acc := 0) (B := 0) (h a (by simp)) (by omega) (by omega) (by omega)
    have h2 := fw_bd (acc := fw 0 a) (B := 9) (h b (by simp)) h1.1 (by omega) (by omega)
    exact ⟨h2.1, by show fw (fw 0 a) b ≤ 9999; omega⟩
  | [a, b, x], h, _ =>
    have h1 := fw_bd (acc := 0) (B := 0) (h a (by simp)) (by omega) (by omega) (by omega)
    have h2 := fw_bd (acc := fw 0 a) (B := 9) (h b (by simp)) h1.1 (by omega) (by omega)
    have h3 := fw_bd (acc := fw (fw 0 a) b) (B := 99) (h x (by simp)) h2.1 (by omega) (by omega)
    exact ⟨h3.1, by show fw (fw (fw 0 a) b) x ≤ 9999; omega⟩
  | [a, b, x, y], h, _ =>
    have h1 := fw_bd (acc := 0) (B := 0) (h a (by simp)) (by omega) (by omega) (by omega)
    have h2 := fw_bd (acc := fw 0 a) (B := 9) (h b (by simp)) h1.1 (by omega) (by omega)
    have h3 := fw_bd (acc := fw (fw 0 a) b) (B := 99) (h x (by simp)) h2.1 (by omega) (by omega)
    have h4 := fw_bd (acc := fw (fw (fw 0 a) b) x) (B := 999) (h y (by simp)) h3.1 (by omega) (by omega)
    exact ⟨h4.1, by show fw (fw (fw (fw 0 a) b) x) y ≤ 9999; omega⟩
  | _ :: _ :: _ :: _ :: _ :: _, _, hn => simp at hn
theorem dnum_bd {n : Nat} {l : List UInt8} (hn : n ≤ 4) (h : okd n l = true) : 0 ≤ dnum n l ∧ dnum n l ≤ 9999 := by
  unfold okd at h
  rw [Bool.and_eq_true] at h
  exact foldl_bd _ (fun c hc => List.all_eq_true.1 h.2 c hc) (by rw [List.length_take]; omega)
/-- A date's place in a text of its form. -/
theorem date_ok (ht : t.size ≤ 2000000) (hi : i ≤ t.size) (h : dform (rest t i) = true) : i + 10 ≤ t.size ∧
    (dgood (dnum 4 (rest t i)) (dnum 2 ((rest t i).drop 5)) (dnum 2 ((rest t i).drop 8)) = true → ∃ n : Int, (-9223372036854775808 ≤ n ∧ n ≤ 9223372036854775807) ∧ Ev (fun k => spec_l01Reader_date.f k ⟨t, (i : Int), false⟩) (⟨4, n, 0, ⟨#[]⟩, [], []⟩, ⟨t, ((i + 10 : Nat) : Int), false⟩) ∧ Ev (fun k => impl_dayNumber.f k (dnum 4 (rest t i)) (dnum 2 ((rest t i).drop 5)) (dnum 2 ((rest t i).drop 8))) n) ∧
    (dgood (dnum 4 (rest t i)) (dnum 2 ((rest t i).drop 5)) (dnum 2 ((rest t i).drop 8)) = false → SBad t (fun k => spec_l01Reader_date.f k ⟨t, (i : Int), false⟩)) := by
  unfold dform at h
  simp only [Bool.and_eq_true] at h
  obtain ⟨⟨⟨⟨h4, p1⟩, h2⟩, p2⟩, h3⟩ := h
  have l3 := okd_le h3
  rw [List.length_drop, rest_len] at l3
  have b4 := dnum_bd (by omega) h4
  have b2 := dnum_bd (by omega) h2
  have b3 := dnum_bd (by omega) h3
  have reach : ∀ R, Ev (fun k => spec_l01Reader_date.j1 k (dnum 4 (rest t i), ⟨t, ((i + 4 : Nat) : Int), false⟩) (dnum 2 ((rest t i).drop 5), ⟨t, ((i + 7 : Nat) : Int), false⟩) t ((i + 8 : Nat) : Int) false) R → Ev (fun k => spec_l01Reader_date.f k ⟨t, (i : Int), false⟩) R := by
    intro R g
    refine Ev.step ?_
    simp only [spec_l01Reader_date.f]
    refine Ev.bind (digits_ok ht 4 (by omega) hi h4) ?_
    simp only [cond_false, takes_ (t := t) (i := i + 4) _ _ (by omega) ht, Option.bind_some, rest_add, p1, if_true, Bool.not_true, show (⟨#[45]⟩ : ByteArray).data.toList.length = 1 from rfl]
    refine Ev.step ?_
    simp only [spec_l01Reader_date.j0]
    have h2' : okd 2 (rest t (i + 5)) = true := by rw [rest_add]; exact h2
    refine Ev.bind (digits_ok ht 2 (by omega) (i := i + 5) (by omega) h2') ?_
    have p2' : pre ⟨#[45]⟩ (rest t (i + 5 + 2)) = true := by rw [show i + 5 + 2 = i + 7 by omega, rest_add]; exact p2
    simp only [cond_false, takes_ (t := t) (i := i + 5 + 2) _ _ (by omega) ht, Option.bind_some, p2', if_true, Bool.not_true, show (⟨#[45]⟩ : ByteArray).data.toList.length = 1 from rfl]
    rw [rest_add 5]
    exact g
  have h3' : okd 2 (rest t (i + 8)) = true := by rw [rest_add]; exact h3
  generalize hY : dnum 4 (rest t i) = y at *
  generalize hM : dnum 2 ((rest t i).drop 5) = m at *
  have hD : ((rest t (i + 8)).take 2).foldl fw 0 = dnum 2 ((rest t i).drop 8) := by rw [rest_add]; rfl
  generalize dnum 2 ((rest t i).drop 8) = d at *
  refine ⟨by omega, fun hg => ?_, fun hg => ?_⟩
  · unfold dgood at hg
    simp only [Bool.and_eq_true, decide_eq_true_eq] at hg
    obtain ⟨⟨⟨⟨g1, g2⟩, g3⟩, g4⟩, g5⟩ := hg
    have mb := mon_bd y m
    obtain ⟨mn, rfl⟩ : ∃ mn : Nat, m = (mn : Int) := ⟨m.toNat, by omega⟩
    have db := dys_bd (y := y) (by omega) (by omega)
    obtain ⟨S, hS0, hS1, hs, hi2⟩ := dayloop y (m := mn) (by omega) (y, ⟨t, ((i + 4 : Nat) : Int), false⟩) ((mn : Int), ⟨t, ((i + 7 : Nat) : Int), false⟩) (d, ⟨t, ((i + 8 + 2 : Nat) : Int), false⟩) rfl rfl d ⟨by omega, by omega⟩ (mn - 1) 1 (by omega) (by omega) (by omega)
    refine ⟨dys y + d - 1 + S, by omega, reach _ (Ev.step ?_), dayNumber_f (by omega) (by omega) ?_⟩
    · simp only [spec_l01Reader_date.j1]
      refine Ev.bind (digits_ok ht 2 (by omega) (i := i + 8) (by omega) h3') ?_
      rw [hD]
      simp only [cond_false, show decide (y < 1) = false by simp; omega, show decide ((mn : Int) < 1) = false by simp; omega, show decide ((12 : Int) < (mn : Int)) = false by simp; omega, show decide (d < 1) = false by simp; omega, month_s _ y g2 g3, Option.bind_some, show decide (mon y (mn : Int) < d) = false by simp; omega, days_s _ (y := y) (by omega) (by omega)]
      rw [w64 (n := dys y + d) (by omega) (by omega), w64 (n := dys y + d - 1) (by omega) (by omega)]
      exact hs (dys y + d - 1) (by omega) (by omega)
    · have := hi2 (dys y) (by omega) (by omega)
      rw [show dys y + S + d - 1 = dys y + d - 1 + S by omega] at this
      exact this
  · obtain ⟨sv, j, hj, hb⟩ : SBad t (fun k => spec_l01Reader_date.j1 k (y, ⟨t, ((i + 4 : Nat) : Int), false⟩) (m, ⟨t, ((i + 7 : Nat) : Int), false⟩) t ((i + 8 : Nat) : Int) false) := by
      refine SBad.step ?_
      simp only [spec_l01Reader_date.j1]
      refine SBad.bind (digits_ok ht 2 (by omega) (i := i + 8) (by omega) h3') ?_
      rw [hD]
      simp only [cond_false, fail_, Option.bind_some]
      by_cases g1 : y < 1
      · simp only [decide_eq_true g1, cond_true]; exact SBad.ret _ (by omega)
      simp only [decide_eq_false g1, cond_false]
      by_cases g2 : m < 1
      · simp only [decide_eq_true g2, cond_true]; exact SBad.ret _ (by omega)
      simp only [decide_eq_false g2, cond_false]
      by_cases g3 : 12 < m
      · simp only [decide_eq_true g3, cond_true]; exact SBad.ret _ (by omega)
      simp only [decide_eq_false g3, cond_false]
      by_cases g4 : d < 1
      · simp only [decide_eq_true g4, cond_true]; exact SBad.ret _ (by omega)
      simp only [decide_eq_false g4, cond_false, month_s _ y (m := m) (by omega) (by omega), Option.bind_some]
      by_cases g5 : mon y m < d
      · simp only [decide_eq_true g5, cond_true]; exact SBad.ret _ (by omega)
      exfalso
      unfold dgood at hg
      rw [show decide (1 ≤ y) = true by simp; omega, show decide (1 ≤ m) = true by simp; omega, show decide (m ≤ 12) = true by simp; omega, show decide (1 ≤ d) = true by simp; omega, show decide (d ≤ mon y m) = true by simp; omega] at hg
      simp at hg
    exact ⟨sv, j, hj, reach _ hb⟩
/-! The program's reading of a date -/
theorem dnum_l0 {s : ByteArray} (hs : s.size ≤ 2000000) : ∀ (l : List UInt8) (p : Nat) (acc : Int), rest s p = l → Ev (fun k => impl_reader_date_1.l0 k s acc (p : Int)) (if l.all isD then l.foldl fw acc else -1) := by
  intro l
  induction l with
  | nil =>
    intro p acc h
    refine Ev.step ?_
    simp only [impl_reader_date_1.l0, lt_nil h, cond_false]
    exact Ev.ret _
  | cons c r ih =>
    intro p acc h
    have hl := rest_lt h
    refine Ev.step ?_
    simp only [impl_reader_date_1.l0, lt_cons h, cond_true, bix_cons h, Option.bind_some, isDigit_, fw_def, w1 (i := p) (by omega)]
    cases hd : isD c with
    | true =>
      simp only [cond_true, List.all_cons, hd, Bool.true_and, List.foldl_cons]
      exact ih (p + 1) _ (rest_next h)
    | false =>
      simp only [cond_false, List.all_cons, hd, Bool.false_and, Bool.false_eq_true, if_false]
      exact Ev.ret _
theorem dnum_ (l : List UInt8) (hl : l.length ≤ 2000000) : Ev (fun k => impl_reader_date_1.f k (bs l)) (if l.all isD then l.foldl fw 0 else -1) := by
  refine Ev.step ?_
  simp only [impl_reader_date_1.f]
  exact dnum_l0 (s := bs l) (by rw [bs_size]; exact hl) l 0 0 (rest_bs l)
theorem sub_bs {l : List UInt8} {a b : Nat} (h1 : a ≤ b) (h2 : b ≤ l.length) : sub (bs l) (a : Int) (b : Int) = some (bs ((l.drop a).take (b - a))) := by
  rw [sub_ij h1 (by rw [bs_size]; exact h2)]
  simp [rest, bs]
/-- Both read a date behind '@'. -/
theorem date_ (ht : t.size ≤ 2000000) (h : rest t i = 64 :: r) :
    (∃ n : Int, i + 11 ≤ t.size ∧ (-9223372036854775808 ≤ n ∧ n ≤ 9223372036854775807) ∧ Ev (fun k => spec_l01Reader_date.f k ⟨t, ((i + 1 : Nat) : Int), false⟩) (⟨4, n, 0, ⟨#[]⟩, [], []⟩, ⟨t, ((i + 11 : Nat) : Int), false⟩) ∧ Ev (fun k => impl_reader_date.f k ⟨t, (i : Int)⟩) (n, true, ⟨t, ((i + 11 : Nat) : Int)⟩)) ∨
    (SBad t (fun k => spec_l01Reader_date.f k ⟨t, ((i + 1 : Nat) : Int), false⟩) ∧ ∃ x s, Ev (fun k => impl_reader_date.f k ⟨t, (i : Int)⟩) (x, false, s)) := by
  have hl := rest_lt h
  have hn := rest_next h
  have hlen : r.length = t.size - (i + 1) := by rw [← hn, rest_len]
  have hw : IntKind.i64.wrap ((t.size : Int) - (i : Int)) = ((r.length + 1 : Nat) : Int) := by rw [w64 (by omega) (by omega)]; omega
  by_cases h11 : r.length < 10
  · right
    refine ⟨date_no ht (by omega) ?_, 0, ⟨t, (i : Int)⟩, ?_⟩
    · cases hd : dform (rest t (i + 1)) with
      | false => rfl
      | true => have := (date_ok ht (by omega) hd).1; omega
    · refine Ev.now fun k => ?_
      simp only [impl_reader_date.f, hw, show decide (((r.length + 1 : Nat) : Int) < 11) = true by simp; omega, cond_true]
  · have r10 : 10 ≤ r.length := by omega
    obtain ⟨c0, r0, rfl⟩ := List.exists_cons_of_length_pos (show 0 < r.length by (try simp only [List.length_cons] at r10); omega)
    obtain ⟨c1, r1, rfl⟩ := List.exists_cons_of_length_pos (show 0 < r0.length by (try simp only [List.length_cons] at r10); omega)
    obtain ⟨c2, r2, rfl⟩ := List.exists_cons_of_length_pos (show 0 < r1.length by (try simp only [List.length_cons] at r10); omega)
    obtain ⟨c3, r3, rfl⟩ := List.exists_cons_of_length_pos (show 0 < r2.length by (try simp only [List.length_cons] at r10); omega)
    obtain ⟨c4, r4, rfl⟩ := List.exists_cons_of_length_pos (show 0 < r3.length by (try simp only [List.length_cons] at r10); omega)
    obtain ⟨c5, r5, rfl⟩ := List.exists_cons_of_length_pos (show 0 < r4.length by (try simp only [List.length_cons] at r10); omega)
    obtain ⟨c6, r6, rfl⟩ := List.exists_cons_of_length_pos (show 0 < r5.length by (try simp only [List.length_cons] at r10); omega)
    obtain ⟨c7, r7, rfl⟩ := List.exists_cons_of_length_pos (show 0 < r6.length by (try simp only [List.length_cons] at r10); omega)
    obtain ⟨c8, r8, rfl⟩ := List.exists_cons_of_length_pos (show 0 < r7.length by (try simp only [List.length_cons] at r10); omega)
    obtain ⟨c9, r9, rfl⟩ := List.exists_cons_of_length_pos (show 0 < r8.length by (try simp only [List.length_cons] at r10); omega)
    clear r10
    have n1 := rest_next hn
    have n2 := rest_next n1
    have n3 := rest_next n2
    have n4 := rest_next n3
    have n5 := rest_next n4
    have n6 := rest_next n5
    have n7 := rest_next n6
    simp only [List.length_cons] at hlen h11 hw
    have hi11 : i + 11 ≤ t.size := by omega
    have b0 : bix t (i : Int) = some 64 := bix_cons h
    have b5 := bix_cons n4
    have b8 := bix_cons n7
    have e5 : IntKind.i64.wrap ((i : Int) + 5) = ((i + 1 + 1 + 1 + 1 + 1 : Nat) : Int) := wn 5 (by omega)
    have e8 : IntKind.i64.wrap ((i : Int) + 8) = ((i + 1 + 1 + 1 + 1 + 1 + 1 + 1 + 1 : Nat) : Int) := wn 8 (by omega)
    have e1 : IntKind.i64.wrap ((i : Int) + 1) = ((i + 1 : Nat) : Int) := wn 1 (by omega)
    have e11 : IntKind.i64.wrap ((i : Int) + 11) = ((i + 11 : Nat) : Int) := wn 11 (by omega)
    have hform : dform (rest t (i + 1)) = ((isD c0 && isD c1 && isD c2 && isD c3) && (45 == c4) && (isD c5 && isD c6) && (45 == c7) && (isD c8 && isD c9)) := by
      rw [hn]
      unfold dform okd
      simp [Bool.and_assoc, pre1]
    have hne : ((c4.toNat : Int) == 45) = (45 == c4) := by
      rw [Bool.eq_iff_iff]; simp
      constructor
      · intro h; exact UInt8.toNat_inj.1 (by show 45 = c4.toNat; omega)
      · intro h; rw [← h]; rfl
    have hne7 : ((c7.toNat : Int) == 45) = (45 == c7) := by
      rw [Bool.eq_iff_iff]; simp
      constructor
      · intro h; exact UInt8.toNat_inj.1 (by show 45 = c7.toNat; omega)
      · intro h; rw [← h]; rfl
    have impl0 : ∀ R, (45 == c4) = true → (45 == c7) = true → Ev (fun k => (impl_reader_date_1.f k (bs [c0, c1, c2, c3])).bind fun v6 => ((impl_reader_date_1.f k (bs [c5, c6])).bind fun v8 => ((impl_reader_date_1.f k (bs [c8, c9])).bind fun v10 => (bif decide (v6 < 1) then (some (0, false, (⟨t, ((i + 11 : Nat) : Int)⟩ : S115))) else (bif decide (v8 < 1) then (some (0, false, (⟨t, ((i + 11 : Nat) : Int)⟩ : S115))) else (bif decide (12 < v8) then (some (0, false, (⟨t, ((i + 11 : Nat) : Int)⟩ : S115))) else (bif decide (v10 < 1) then (some (0, false, (⟨t, ((i + 11 : Nat) : Int)⟩ : S115))) else ((impl_monthDays.f k v6 v8).bind fun v11 => (bif decide (v11 < v10) then (some (0, false, (⟨t, ((i + 11 : Nat) : Int)⟩ : S115))) else ((impl_dayNumber.f k v6 v8 v10).bind fun v12 => (some (v12, true, (⟨t, ((i + 11 : Nat) : Int)⟩ : S115))))))))))))) R → Ev (fun k => impl_reader_date.f k ⟨t, (i : Int)⟩) R := by
      intro R q1 q2 g
      have s0 : sub t ((i + 1 : Nat) : Int) ((i + 11 : Nat) : Int) = some (bs [c0, c1, c2, c3, c4, c5, c6, c7, c8, c9]) := by
        rw [sub_ij (by omega) (by omega), hn, show i + 11 - (i + 1) = 10 by omega]; rfl
      have s1 : sub (bs [c0, c1, c2, c3, c4, c5, c6, c7, c8, c9]) 0 4 = some (bs [c0, c1, c2, c3]) := sub_bs (a := 0) (b := 4) (by omega) (by simp)
      have s2 : sub (bs [c0, c1, c2, c3, c4, c5, c6, c7, c8, c9]) 5 7 = some (bs [c5, c6]) := sub_bs (a := 5) (b := 7) (by omega) (by simp)
      have s3 : sub (bs [c0, c1, c2, c3, c4, c5, c6, c7, c8, c9]) 8 ((bs [c0, c1, c2, c3, c4, c5, c6, c7, c8, c9]).size : Int) = some (bs [c8, c9]) := by
        rw [bs_size]; exact sub_bs (a := 8) (b := 10) (by omega) (by simp)
      simp only [impl_reader_date.f, hw, show decide (((r9.length + 1 + 1 + 1 + 1 + 1 + 1 + 1 + 1 + 1 + 1 + 1 : Nat) : Int) < 11) = false by simp; omega, cond_false, b0, Option.bind_some, show ((64 : Int) == 64) = true from rfl, cond_true, e5, b5, hne, q1, e8, b8, hne7, q2, e1, e11, s0, s1, s2, s3]
      exact g
    have tl : ∀ (x y : UInt8), [x, y].all isD = (isD x && isD y) := fun x y => by simp
    have tl4 : [c0, c1, c2, c3].all isD = (isD c0 && isD c1 && isD c2 && isD c3) := by simp [Bool.and_assoc]
    have hY : dnum 4 (rest t (i + 1)) = [c0, c1, c2, c3].foldl fw 0 := by rw [hn]; rfl
    have hM : dnum 2 ((rest t (i + 1)).drop 5) = [c5, c6].foldl fw 0 := by rw [hn]; rfl
    have hD : dnum 2 ((rest t (i + 1)).drop 8) = [c8, c9].foldl fw 0 := by rw [hn]; rfl
    cases hf : dform (rest t (i + 1)) with
    | false =>
      right
      refine ⟨date_no ht (by omega) hf, 0, ?_⟩
      rw [hform] at hf
      cases q1 : (45 == c4) with
      | false =>
        refine ⟨⟨t, (i : Int)⟩, Ev.now fun k => ?_⟩
        simp only [impl_reader_date.f, hw, show decide (((r9.length + 1 + 1 + 1 + 1 + 1 + 1 + 1 + 1 + 1 + 1 + 1 : Nat) : Int) < 11) = false by simp; omega, cond_false, b0, Option.bind_some, show ((64 : Int) == 64) = true from rfl, cond_true, e5, b5, hne, q1]
      | true =>
        cases q2 : (45 == c7) with
        | false =>
          refine ⟨⟨t, (i : Int)⟩, Ev.now fun k => ?_⟩
          simp only [impl_reader_date.f, hw, show decide (((r9.length + 1 + 1 + 1 + 1 + 1 + 1 + 1 + 1 + 1 + 1 + 1 : Nat) : Int) < 11) = false by simp; omega, cond_false, b0, Option.bind_some, show ((64 : Int) == 64) = true from rfl, cond_true, e5, b5, hne, q1, e8, b8, hne7, q2]
        | true =>
          refine ⟨⟨t, ((i + 11 : Nat) : Int)⟩, impl0 _ q1 q2 ?_⟩
          rw [q1, q2] at hf
          refine Ev.bind (dnum_ _ (by simp)) (Ev.bind (dnum_ _ (by simp)) (Ev.bind (dnum_ _ (by simp)) ?_))
          rw [tl4, tl, tl]
          cases w1 : (isD c0 && isD c1 && isD c2 && isD c3) with
          | false => simp only [Bool.false_eq_true, if_false, show decide ((-1 : Int) < 1) = true from rfl, cond_true]; exact Ev.ret _
          | true =>
            cases w2 : (isD c5 && isD c6) with
            | false =>
              simp only [Bool.false_eq_true, if_false, show decide ((-1 : Int) < 1) = true from rfl, cond_true, bif_same]
              exact Ev.ret _
            | true =>
              cases w3 : (isD c8 && isD c9) with
              | true => rw [w1, w2, w3] at hf; simp at hf
              | false =>
                simp only [Bool.false_eq_true, if_false, show decide ((-1 : Int) < 1) = true from rfl, cond_true, bif_same]
                exact Ev.ret _
    | true =>
      obtain ⟨_, g1, g2⟩ := date_ok ht (by omega) hf
      have hf' := hf
      rw [hform] at hf
      simp only [Bool.and_eq_true] at hf
      obtain ⟨⟨⟨⟨w1, q1⟩, w2⟩, q2⟩, w3⟩ := hf
      have w1' : [c0, c1, c2, c3].all isD = true := by rw [tl4]; simpa using w1
      have w2' : [c5, c6].all isD = true := by rw [tl]; simpa using w2
      have w3' : [c8, c9].all isD = true := by rw [tl]; simpa using w3
      rw [hY, hM, hD] at g1 g2
      cases hg : dgood ([c0, c1, c2, c3].foldl fw 0) ([c5, c6].foldl fw 0) ([c8, c9].foldl fw 0) with
      | true =>
        left
        obtain ⟨n, hnr, hs, hd⟩ := g1 hg
        refine ⟨n, hi11, hnr, hs, impl0 _ q1 q2 ?_⟩
        refine Ev.bind (dnum_ _ (by simp)) (Ev.bind (dnum_ _ (by simp)) (Ev.bind (dnum_ _ (by simp)) ?_))
        rw [w1', w2', w3']
        simp only [if_true]
        unfold dgood at hg
        simp only [Bool.and_eq_true, decide_eq_true_eq] at hg
        obtain ⟨⟨⟨⟨g1, g2⟩, g3⟩, g4⟩, g5⟩ := hg
        rw [decide_eq_false (by omega : ¬ [c0, c1, c2, c3].foldl fw 0 < 1), decide_eq_false (by omega : ¬ [c5, c6].foldl fw 0 < 1), decide_eq_false (by omega : ¬ 12 < [c5, c6].foldl fw 0), decide_eq_false (by omega : ¬ [c8, c9].foldl fw 0 < 1)]
        simp only [cond_false, month_i _ _ g2 g3, Option.bind_some, decide_eq_false (by omega : ¬ mon ([c0, c1, c2, c3].foldl fw 0) ([c5, c6].foldl fw 0) < [c8, c9].foldl fw 0)]
        exact Ev.bind hd (Ev.ret _)
      | false =>
        right
        refine ⟨g2 hg, 0, ⟨t, ((i + 11 : Nat) : Int)⟩, impl0 _ q1 q2 ?_⟩
        refine Ev.bind (dnum_ _ (by simp)) (Ev.bind (dnum_ _ (by simp)) (Ev.bind (dnum_ _ (by simp)) ?_))
        rw [w1', w2', w3']
        simp only [if_true]
        by_cases g1 : [c0, c1, c2, c3].foldl fw 0 < 1
        · simp only [decide_eq_true g1, cond_true]; exact Ev.ret _
        by_cases g2 : [c5, c6].foldl fw 0 < 1
        · simp only [decide_eq_false g1, decide_eq_true g2, cond_true, cond_false]; exact Ev.ret _
        by_cases g3 : 12 < [c5, c6].foldl fw 0
        · simp only [decide_eq_false g1, decide_eq_false g2, decide_eq_true g3, cond_true, cond_false]; exact Ev.ret _
        by_cases g4 : [c8, c9].foldl fw 0 < 1
        · simp only [decide_eq_false g1, decide_eq_false g2, decide_eq_false g3, decide_eq_true g4, cond_true, cond_false]; exact Ev.ret _
        simp only [decide_eq_false g1, decide_eq_false g2, decide_eq_false g3, decide_eq_false g4, cond_false, month_i _ _ (by omega : 1 ≤ [c5, c6].foldl fw 0) (by omega), Option.bind_some]
        by_cases g5 : mon ([c0, c1, c2, c3].foldl fw 0) ([c5, c6].foldl fw 0) < [c8, c9].foldl fw 0
        · simp only [decide_eq_true g5, cond_true]; exact Ev.ret _
        exfalso
        unfold dgood at hg
        rw [decide_eq_true (by omega : 1 ≤ [c0, c1, c2, c3].foldl fw 0), decide_eq_true (by omega : 1 ≤ [c5, c6].foldl fw 0), decide_eq_true (by omega : [c5, c6].foldl fw 0 ≤ 12), decide_eq_true (by omega : 1 ≤ [c8, c9].foldl fw 0), decide_eq_true (by omega : [c8, c9].foldl fw 0 ≤ mon ([c0, c1, c2, c3].foldl fw 0) ([c5, c6].foldl fw 0))] at hg
        simp at hg
end
end Go.Ab
