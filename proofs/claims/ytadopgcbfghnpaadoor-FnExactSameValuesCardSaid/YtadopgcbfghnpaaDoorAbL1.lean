/- What both readers of values tell, part 1: the small ones. No condition. -/
import Derived.Test.YtadopgcbfghnpaaDoorAbF
import Derived.Test.YtadopgcbfghnpaaDoorAbN
namespace Go.Ab
open Go.Proofs
set_option linter.unusedVariables false
set_option linter.unusedSimpArgs false
def bs (l : List UInt8) : ByteArray := ⟨l.toArray⟩
def rest (t : ByteArray) (i : Nat) : List UInt8 := t.data.toList.drop i
section
variable {t : ByteArray} {i : Nat} {c : UInt8} {r : List UInt8}
theorem bs_inj {a b : List UInt8} : bs a = bs b ↔ a = b := ⟨fun h => by simpa [bs] using h, fun h => h ▸ rfl⟩
theorem bs_of (a : ByteArray) : a = bs a.data.toList := by simp [bs]
theorem size_list (a : ByteArray) : a.size = a.data.toList.length := by rw [Array.length_toList]; rfl
theorem bs_size (l : List UInt8) : (bs l).size = l.length := by rw [size_list]; simp [bs]
theorem rest_len : (rest t i).length = t.size - i := by rw [size_list]; simp [rest]
theorem rest_lt (h : rest t i = c :: r) : i < t.size := by have := rest_len (t := t) (i := i); rw [h] at this; simp at this; omega
theorem rest_ge (h : rest t i = []) : t.size ≤ i := by have := rest_len (t := t) (i := i); rw [h] at this; simp at this; omega
theorem rest_next (h : rest t i = c :: r) : rest t (i + 1) = r := by
  unfold rest at h ⊢
  rw [← List.drop_drop, h]; rfl
theorem rest_add (n : Nat) : rest t (i + n) = (rest t i).drop n := by unfold rest; rw [List.drop_drop]
theorem bix_cons (h : rest t i = c :: r) : bix t (i : Int) = some (c.toNat : Int) := by
  unfold bix
  have h0 : t.data.toList[i]? = some c := by
    have := congrArg List.head? h
    simpa [rest] using this
  rw [if_pos (by omega)]
  simp only [Int.toNat_natCast]
  rw [← Array.getElem?_toList, h0]; rfl
theorem lt_cons (h : rest t i = c :: r) : decide ((i : Int) < (t.size : Int)) = true := by have := rest_lt h; simpa using this
theorem lt_nil (h : rest t i = []) : decide ((i : Int) < (t.size : Int)) = false := by have := rest_ge h; simpa using this
theorem le_cons (h : rest t i = c :: r) : decide ((t.size : Int) ≤ (i : Int)) = false := by have := rest_lt h; simpa using this
theorem le_nil (h : rest t i = []) : decide ((t.size : Int) ≤ (i : Int)) = true := by have := rest_ge h; simpa using this
theorem sub_ij {j : Nat} (h1 : i ≤ j) (h2 : j ≤ t.size) : sub t (i : Int) (j : Int) = some (bs ((rest t i).take (j - i))) := by
  unfold sub
  rw [if_pos ⟨by omega, by omega, by omega⟩]
  simp only [Int.toNat_natCast, Option.some.injEq]
  rw [bs_of (t.extract i j)]
  congr 1
  simp [rest, ByteArray.data_extract, List.extract_eq_take_drop]
theorem sub_all (a : ByteArray) {j : Nat} (h2 : j ≤ a.size) : sub a 0 (j : Int) = some (bs (a.data.toList.take j)) := by
  have := sub_ij (t := a) (i := 0) (j := j) (by omega) h2
  simpa [rest] using this
end
/-- Does l begin with a? -/
def pre (a : ByteArray) (l : List UInt8) : Bool := a.data.toList.isPrefixOf l
theorem begins_ (k : Nat) (s a : ByteArray) : spec_l01Begins.f k s a = some (pre a s.data.toList) := by
  unfold spec_l01Begins.f pre
  by_cases h : a.size ≤ s.size
  · rw [show decide ((a.size : Int) ≤ (s.size : Int)) = true by simpa using h, cond_true, sub_all s h, Option.bind_some]
    congr 1
    rw [Bool.eq_iff_iff, decide_eq_true_iff, List.isPrefixOf_iff_prefix, List.prefix_iff_eq_take]
    constructor
    · intro e; have := congrArg (fun x => x.data.toList) e; simp [bs] at this; rw [← size_list]; exact this.symm
    · intro e; rw [bs_of a, bs_inj, bs_size]; exact e.symm
  · rw [show decide ((a.size : Int) ≤ (s.size : Int)) = false by simpa using h, cond_false]
    congr 1
    symm
    rw [Bool.eq_false_iff]
    intro e
    rw [List.isPrefixOf_iff_prefix] at e
    have := e.length_le
    rw [← size_list, ← size_list] at this
    omega
theorem hasPrefix_ (k : Nat) (s a : ByteArray) : strings_HasPrefix.f k s a = some (pre a s.data.toList) := by
  unfold strings_HasPrefix.f internal_stringslite_HasPrefix.f
  have := begins_ k s a
  unfold spec_l01Begins.f at this
  rw [this]; rfl
theorem pre_len {a : ByteArray} {l : List UInt8} (h : pre a l = true) : a.size ≤ l.length := by
  unfold pre at h
  rw [List.isPrefixOf_iff_prefix] at h
  have := h.length_le
  rwa [← size_list] at this
section
variable {t : ByteArray} {i : Nat} {c : UInt8} {r : List UInt8}
theorem takes_ (k : Nat) (a : ByteArray) (hi : i ≤ t.size) (ht : t.size ≤ 2000000) : spec_l01Reader_takes.f k a ⟨t, (i : Int), false⟩ = some (pre a (rest t i), ⟨t, ((if pre a (rest t i) then i + a.data.toList.length else i : Nat) : Int), false⟩) := by
  unfold spec_l01Reader_takes.f
  simp only [cond_false]
  rw [sub_ij hi (Nat.le_refl _), Option.bind_some, begins_, Option.bind_some]
  have e : (bs ((rest t i).take (t.size - i))).data.toList = rest t i := by
    rw [← rest_len, List.take_length]; simp [bs]
  rw [e]
  cases h : pre a (rest t i) with
  | true =>
    have := pre_len h
    rw [rest_len] at this
    rw [cond_true, if_pos rfl, wn a.size (by omega), size_list a]
  | false => rw [cond_false, if_neg (by simp)]
theorem takes_bad (k : Nat) (a : ByteArray) (x : Int) : spec_l01Reader_takes.f k a ⟨t, x, true⟩ = some (false, ⟨t, x, true⟩) := by
  unfold spec_l01Reader_takes.f; rfl
theorem eat_ (k : Nat) (a : ByteArray) (hi : i ≤ t.size) (ht : t.size ≤ 2000000) : impl_reader_eat.f k a ⟨t, (i : Int)⟩ = some (pre a (rest t i), ⟨t, ((if pre a (rest t i) then i + a.data.toList.length else i : Nat) : Int)⟩) := by
  unfold impl_reader_eat.f
  simp only
  rw [sub_ij hi (Nat.le_refl _), Option.bind_some, hasPrefix_, Option.bind_some]
  have e : (bs ((rest t i).take (t.size - i))).data.toList = rest t i := by
    rw [← rest_len, List.take_length]; simp [bs]
  rw [e]
  cases h : pre a (rest t i) with
  | true =>
    have := pre_len h
    rw [rest_len] at this
    rw [cond_true, if_pos rfl, wn a.size (by omega), size_list a]
  | false => rw [cond_false, if_neg (by simp)]
theorem peek_cons (k : Nat) (h : rest t i = c :: r) : impl_reader_peek.f k ⟨t, (i : Int)⟩ = some ((c.toNat : Int), ⟨t, (i : Int)⟩) := by
  unfold impl_reader_peek.f
  simp only [lt_cons h, bix_cons h, cond_true, Option.bind_some]
theorem peek_nil (k : Nat) (h : rest t i = []) : impl_reader_peek.f k ⟨t, (i : Int)⟩ = some (0, ⟨t, (i : Int)⟩) := by
  unfold impl_reader_peek.f
  simp only [lt_nil h, cond_false]
theorem digit_ (k : Nat) : spec_l01Digit.f k (c.toNat : Int) = some (isD c) := by
  unfold spec_l01Digit.f isD
  by_cases h : 48 ≤ c.toNat
  · rw [show decide ((48 : Int) ≤ (c.toNat : Int)) = true by simp; omega]; simp [h]; omega
  · rw [show decide ((48 : Int) ≤ (c.toNat : Int)) = false by simp; omega]; simp [h]
theorem isDigit_ (k : Nat) : impl_isDigit.f k (c.toNat : Int) = some (isD c) := digit_ k
theorem fail_ (k : Nat) (s : S37) : spec_l01Reader_fail.f k s = some (⟨-1, 0, 0, ⟨#[]⟩, [], []⟩, ⟨s.f0, s.f1, true⟩) := rfl
theorem fw_def (acc : Int) : IntKind.i64.wrap ((IntKind.i64.wrap (acc * 10)) + (IntKind.i64.wrap (IntKind.u8.wrap ((c.toNat : Int) - 48)))) = fw acc c := rfl
/-! The reference's numeral -/
theorem dec_s : ∀ (m : Nat) (n : Int), n.natAbs = m → -9223372036854775808 ≤ n → n ≤ 9223372036854775807 → Ev (fun k => spec_l01Dec.f k n) (bs (Lib.itoa n)) := by
  have one : ∀ (x : Int) (d : Nat), d < 10 → x = 48 + (d : Int) → bstr [IntKind.u8.wrap (IntKind.i64.wrap x)] = bs [UInt8.ofNat (48 + d)] := by
    intro x d hd hx
    subst hx
    rw [w64 (by omega) (by omega), wrap8_def, show (48 + (d : Int)) % 256 = ((48 + d : Nat) : Int) by omega]
    rfl
  have catb : ∀ (a b : List UInt8), a.length + b.length ≤ 1000 → cat (bs a) (bs b) = some (bs (a ++ b)) := by
    intro a b h
    unfold cat
    rw [if_pos (by rw [bs_size, bs_size]; omega)]
    rfl
  intro m
  induction m using Nat.strongRecOn with
  | _ m ih =>
    intro n hm h1 h2
    refine Ev.step ?_
    simp only [spec_l01Dec.f]
    by_cases hn : n < 0
    · simp only [show decide (n < 0) = true by simpa using hn, cond_true]
      by_cases h10 : -10 < n
      · simp only [show decide (-10 < n) = true by simpa using h10, cond_true]
        refine Ev.bind (a := bs (Lib.itoa (-n))) ?_ ?_
        · rw [show IntKind.i64.wrap (0 - n) = -n by rw [w64 (by omega) (by omega)]; omega]
          refine Ev.step ?_
          simp only [spec_l01Dec.f, show decide (-n < 0) = false by simp; omega, cond_false, show decide (-n < 10) = true by simp; omega, cond_true]
          rw [itoa_nn (by omega), Lib.decDigits_one (by omega), one _ (-n).toNat (by omega) (by omega)]
          exact Ev.ret _
        · rw [show (⟨#[45]⟩ : ByteArray) = bs [45] from rfl, itoa_nn (v := -n) (by omega), itoa_ng hn, show (-n).toNat = n.natAbs by omega]
          rw [catb _ _ (by rw [Lib.decDigits_one (by omega)]; simp)]
          exact Ev.ret _
      · simp only [show decide (-10 < n) = false by simpa using h10, cond_false]
        have hq : quo .i64 n 10 = some (-((n.natAbs / 10 : Nat) : Int)) := by
          unfold quo
          rw [if_neg (by omega)]
          congr 1
          have : n.tdiv 10 = -((n.natAbs / 10 : Nat) : Int) := by
            rw [show n = -((n.natAbs : Nat) : Int) by omega, Int.neg_tdiv]
            simp
          rw [this, w64 (by omega) (by omega)]
        have hr : rem n 10 = some (-((n.natAbs % 10 : Nat) : Int)) := by
          unfold rem
          rw [if_neg (by omega)]
          congr 1
          rw [show n = -((n.natAbs : Nat) : Int) by omega, Int.neg_tmod, Int.tmod_eq_emod_of_nonneg (by omega)]
          simp
        rw [hq, hr]
        simp only [Option.bind_some]
        refine Ev.bind (ih (n.natAbs / 10) (by omega) (-((n.natAbs / 10 : Nat) : Int)) (by omega) (by omega) (by omega)) ?_
        rw [one _ (n.natAbs % 10) (by omega) (by omega), itoa_ng (v := -((n.natAbs / 10 : Nat) : Int)) (by omega), itoa_ng hn, show (-((n.natAbs / 10 : Nat) : Int)).natAbs = n.natAbs / 10 by omega]
        rw [catb]
        · rw [dec_big (m := n.natAbs) (by omega)]; exact Ev.ret _
        · have := itoa_len (v := -((n.natAbs / 10 : Nat) : Int)) (by omega) (by omega)
          rw [itoa_ng (by omega), show (-((n.natAbs / 10 : Nat) : Int)).natAbs = n.natAbs / 10 by omega] at this
          simp at this ⊢; omega
    · simp only [show decide (n < 0) = false by simpa using hn, cond_false]
      by_cases h10 : n < 10
      · simp only [show decide (n < 10) = true by simpa using h10, cond_true]
        rw [itoa_nn (by omega), Lib.decDigits_one (by omega), one _ n.toNat (by omega) (by omega)]
        exact Ev.ret _
      · simp only [show decide (n < 10) = false by simpa using h10, cond_false]
        have hq : quo .i64 n 10 = some (((n.natAbs / 10 : Nat) : Int)) := by
          unfold quo
          rw [if_neg (by omega)]
          congr 1
          rw [Int.tdiv_eq_ediv_of_nonneg (by omega), w64 (by omega) (by omega)]; omega
        have hr : rem n 10 = some (((n.natAbs % 10 : Nat) : Int)) := by
          unfold rem
          rw [if_neg (by omega)]
          congr 1
          rw [Int.tmod_eq_emod_of_nonneg (by omega)]; omega
        rw [hq, hr]
        simp only [Option.bind_some]
        refine Ev.bind (ih (n.natAbs / 10) (by omega) ((n.natAbs / 10 : Nat) : Int) (by omega) (by omega) (by omega)) ?_
        rw [one _ (n.natAbs % 10) (by omega) (by omega), itoa_nn (v := ((n.natAbs / 10 : Nat) : Int)) (by omega), itoa_nn (v := n) (by omega)]
        rw [catb]
        · rw [dec_big (m := n.toNat) (by omega), show n.toNat / 10 = n.natAbs / 10 by omega, show n.toNat % 10 = n.natAbs % 10 by omega]; exact Ev.ret _
        · have := itoa_len (v := ((n.natAbs / 10 : Nat) : Int)) (by omega) (by omega)
          rw [itoa_nn (by omega)] at this
          simp at this ⊢; omega
theorem dec_ {n : Int} (h1 : -9223372036854775808 ≤ n) (h2 : n ≤ 9223372036854775807) : Ev (fun k => spec_l01Dec.f k n) (bs (Lib.itoa n)) := dec_s _ n rfl h1 h2
/-! A whole number -/
theorem num_l0 {q : Int} {b : Bool} {R : Int × S37} (ht : t.size ≤ 2000000) : ∀ (l : List UInt8) (p : Nat) (acc : Int), rest t p = l → Ev (fun k => spec_l01Reader_number.j2 k ⟨t, q, b⟩ ((l.takeWhile isD).foldl fw acc) ((p + (l.takeWhile isD).length : Nat) : Int)) R → Ev (fun k => spec_l01Reader_number.l0 k ⟨t, q, b⟩ acc (p : Int)) R := by
  intro l
  induction l with
  | nil =>
    intro p acc h g
    refine Ev.step ?_
    simp only [spec_l01Reader_number.l0, lt_nil h, cond_false]
    simpa using g
  | cons c r ih =>
    intro p acc h g
    refine Ev.step ?_
    have hl := rest_lt h
    simp only [spec_l01Reader_number.l0, lt_cons h, cond_true, bix_cons h, Option.bind_some, digit_, fw_def, w1 (i := p) (by omega)]
    cases hd : isD c with
    | true =>
      simp only [cond_true]
      refine ih (p + 1) _ (rest_next h) ?_
      simp only [List.takeWhile_cons, hd, if_true, List.foldl_cons, List.length_cons] at g
      rw [show p + 1 + (r.takeWhile isD).length = p + ((r.takeWhile isD).length + 1) by omega]
      exact g
    | false =>
      simp only [cond_false]
      simpa [List.takeWhile_cons, hd] using g
theorem nlen_le (l : List UInt8) : nlen l ≤ l.length := by
  unfold nlen dgs
  cases hs : sgn l with
  | true =>
    cases l with
    | nil => simp [sgn] at hs
    | cons c r =>
      have := (List.takeWhile_prefix isD (l := r)).length_le
      simp; omega
  | false =>
    have := (List.takeWhile_prefix isD (l := l)).length_le
    simp; omega
theorem num_j4 {b : Bool} (hi : i ≤ t.size) (ht : t.size ≤ 2000000) : Ev (fun k => spec_l01Reader_number.j4 k ⟨t, (i : Int), b⟩ (num (rest t i)) ((i + nlen (rest t i) : Nat) : Int)) (num (rest t i), ⟨t, ((i + nlen (rest t i) : Nat) : Int), b || !nok (rest t i)⟩) := by
  have hle := nlen_le (rest t i)
  rw [rest_len] at hle
  have hrg := num_rng (rest t i)
  refine Ev.step ?_
  simp only [spec_l01Reader_number.j4]
  by_cases h0 : nlen (rest t i) = 0
  · have hn : nok (rest t i) = false := by
      cases h : nok (rest t i) with
      | false => rfl
      | true => have := nok_pos h; omega
    simp only [show ((i : Int) == ((i + nlen (rest t i) : Nat) : Int)) = true by simp [h0], cond_true, hn]
    simp only [Bool.not_false, Bool.or_true]
    exact Ev.ret _
  · simp only [show ((i : Int) == ((i + nlen (rest t i) : Nat) : Int)) = false by simp; omega, cond_false, show IntKind.i64.wrap (((i + nlen (rest t i) : Nat) : Int) - (i : Int)) = (nlen (rest t i) : Int) by rw [w64 (by omega) (by omega)]; omega]
    by_cases h20 : 20 < nlen (rest t i)
    · have hn : nok (rest t i) = false := by
        cases h : nok (rest t i) with
        | false => rfl
        | true => have := nok_pos h; omega
      simp only [show decide ((20 : Int) < (nlen (rest t i) : Int)) = true by simp; omega, cond_true, hn]
      simp only [Bool.not_false, Bool.or_true]
      exact Ev.ret _
    · simp only [show decide ((20 : Int) < (nlen (rest t i) : Int)) = false by simp; omega, cond_false]
      refine Ev.bind (dec_ hrg.1 hrg.2) ?_
      simp only [sub_ij (t := t) (i := i) (j := i + nlen (rest t i)) (by omega) (by omega), Option.bind_some, show i + nlen (rest t i) - i = nlen (rest t i) by omega]
      have e : decide (bs (Lib.itoa (num (rest t i))) = bs ((rest t i).take (nlen (rest t i)))) = nok (rest t i) := by
        unfold nok; congr 1; exact propext bs_inj
      rw [e]
      cases nok (rest t i) <;> simp only [cond_true, cond_false, Bool.not_false, Bool.not_true, Bool.or_true, Bool.or_false] <;> exact Ev.ret _
theorem number_ {b : Bool} (hi : i ≤ t.size) (ht : t.size ≤ 2000000) : Ev (fun k => spec_l01Reader_number.f k ⟨t, (i : Int), b⟩) (num (rest t i), ⟨t, ((i + nlen (rest t i) : Nat) : Int), b || !nok (rest t i)⟩) := by
  have hj4 := num_j4 (b := b) hi ht
  have hle := nlen_le (rest t i)
  rw [rest_len] at hle
  have key : Ev (fun k => spec_l01Reader_number.l0 k ⟨t, (i : Int), b⟩ 0 ((i + (if sgn (rest t i) then 1 else 0) : Nat) : Int)) (num (rest t i), ⟨t, ((i + nlen (rest t i) : Nat) : Int), b || !nok (rest t i)⟩) := by
    refine num_l0 ht _ _ _ rfl ?_
    have e : rest t (i + if sgn (rest t i) then 1 else 0) = if sgn (rest t i) then (rest t i).tail else rest t i := by
      rw [rest_add]; split <;> simp
    rw [e]
    have hd : (List.takeWhile isD (if sgn (rest t i) then (rest t i).tail else rest t i)) = dgs (rest t i) := rfl
    rw [hd]
    have hv : List.foldl fw 0 (dgs (rest t i)) = dval (dgs (rest t i)) := rfl
    rw [hv, show i + (if sgn (rest t i) then 1 else 0) + (dgs (rest t i)).length = i + nlen (rest t i) by unfold nlen; omega]
    refine Ev.step ?_
    simp only [spec_l01Reader_number.j2]
    cases hr : rest t i with
    | nil =>
      have h0 : nlen ([] : List UInt8) = 0 := rfl
      rw [hr] at hj4
      rw [h0] at hj4 ⊢
      simp only [show decide ((i : Int) < ((i + 0 : Nat) : Int)) = false by simp, cond_false]
      refine Ev.step ?_
      simp only [spec_l01Reader_number.j3]
      have : dval (dgs []) = num [] := rfl
      rw [this]
      exact hj4
    | cons c r =>
      rw [hr] at hj4
      by_cases hs : sgn (c :: r) = true
      · have hp : 0 < nlen (c :: r) := by unfold nlen; rw [if_pos hs]; omega
        have hc : c.toNat = 45 := by simpa [sgn] using hs
        simp only [show decide ((i : Int) < ((i + nlen (c :: r) : Nat) : Int)) = true by simp; omega, cond_true, bix_cons hr, Option.bind_some, hc]
        simp only [show (((45 : Nat) : Int) == 45) = true from rfl, cond_true]
        have : IntKind.i64.wrap (0 - dval (dgs (c :: r))) = num (c :: r) := by unfold num; rw [if_pos hs]
        rw [this]
        exact hj4
      · have hc : c.toNat ≠ 45 := by intro h; exact hs (by simp [sgn, h])
        have : dval (dgs (c :: r)) = num (c :: r) := by unfold num; rw [if_neg hs]
        rw [this, bix_cons hr]
        simp only [Option.bind_some, show ((c.toNat : Int) == 45) = false by simp; omega, cond_false]
        cases decide ((i : Int) < ((i + nlen (c :: r) : Nat) : Int)) <;> simp only [cond_true, cond_false] <;> (refine Ev.step ?_; simp only [spec_l01Reader_number.j3]; exact hj4)
  refine Ev.step ?_
  simp only [spec_l01Reader_number.f]
  cases hr : rest t i with
  | nil =>
    rw [hr] at key
    simp only [lt_nil hr, cond_false]
    refine Ev.step ?_
    simp only [spec_l01Reader_number.j0]
    refine Ev.step ?_
    simp only [spec_l01Reader_number.j1]
    simpa [sgn] using key
  | cons c r =>
    rw [hr] at key
    simp only [lt_cons hr, cond_true, bix_cons hr, Option.bind_some]
    have hlt := rest_lt hr
    by_cases hs : c.toNat = 45
    · have hs' : sgn (c :: r) = true := by simp [sgn, hs]
      rw [hs'] at key
      simp only [hs, show (((45 : Nat) : Int) == 45) = true from rfl, cond_true, w1 (i := i) (by omega)]
      refine Ev.step ?_
      simp only [spec_l01Reader_number.j1]
      exact key
    · have hs' : sgn (c :: r) = false := by simp [sgn, hs]
      rw [hs'] at key
      simp only [show ((c.toNat : Int) == 45) = false by simp; omega, cond_false]
      refine Ev.step ?_
      simp only [spec_l01Reader_number.j0]
      refine Ev.step ?_
      simp only [spec_l01Reader_number.j1]
      exact key
theorem whole_l0 {q : Int} {p0 : Int × S52} {R : Int × Bool × S52} (ht : t.size ≤ 2000000) (hp : p0.2 = ⟨t, q⟩) : ∀ (l : List UInt8) (p : Nat), rest t p = l → Ev (fun k => impl_reader_whole.j1 k ⟨t, q⟩ p0 ((p + (l.takeWhile isD).length : Nat) : Int)) R → Ev (fun k => impl_reader_whole.l0 k ⟨t, q⟩ p0 (p : Int)) R := by
  obtain ⟨p1, p2⟩ := p0
  simp only at hp
  subst hp
  intro l
  induction l with
  | nil =>
    intro p h g
    refine Ev.step ?_
    simp only [impl_reader_whole.l0, lt_nil h, cond_false]
    simpa using g
  | cons c r ih =>
    intro p h g
    refine Ev.step ?_
    have hl := rest_lt h
    simp only [impl_reader_whole.l0, lt_cons h, cond_true, bix_cons h, Option.bind_some, isDigit_, w1 (i := p) (by omega)]
    cases hd : isD c with
    | true =>
      simp only [cond_true]
      refine ih (p + 1) (rest_next h) ?_
      simp only [List.takeWhile_cons, hd, if_true, List.length_cons] at g
      rw [show p + 1 + (r.takeWhile isD).length = p + ((r.takeWhile isD).length + 1) by omega]
      exact g
    | false =>
      simp only [cond_false]
      simpa [List.takeWhile_cons, hd] using g
theorem whole_ (hi : i ≤ t.size) (ht : t.size ≤ 2000000) : Ev (fun k => impl_reader_whole.f k ⟨t, (i : Int)⟩) (if nok (rest t i) then num (rest t i) else 0, nok (rest t i), ⟨t, ((i + nlen (rest t i) : Nat) : Int)⟩) := by
  have hle := nlen_le (rest t i)
  rw [rest_len] at hle
  have key : ∀ p0 : Int × S52, p0.2 = ⟨t, (i : Int)⟩ → Ev (fun k => impl_reader_whole.l0 k ⟨t, (i : Int)⟩ p0 ((i + (if sgn (rest t i) then 1 else 0) : Nat) : Int)) (if nok (rest t i) then num (rest t i) else 0, nok (rest t i), ⟨t, ((i + nlen (rest t i) : Nat) : Int)⟩) := by
    intro p0 hp0
    refine whole_l0 ht hp0 _ _ rfl ?_
    obtain ⟨p1, p2⟩ := p0
    simp only at hp0
    subst hp0
    have e : rest t (i + if sgn (rest t i) then 1 else 0) = if sgn (rest t i) then (rest t i).tail else rest t i := by
      rw [rest_add]; split <;> simp
    rw [e]
    have hd : (List.takeWhile isD (if sgn (rest t i) then (rest t i).tail else rest t i)) = dgs (rest t i) := rfl
    rw [hd, show i + (if sgn (rest t i) then 1 else 0) + (dgs (rest t i)).length = i + nlen (rest t i) by unfold nlen; omega]
    refine Ev.step ?_
    simp only [impl_reader_whole.j1]
    simp only [sub_ij (t := t) (i := i) (j := i + nlen (rest t i)) (by omega) (by omega), Option.bind_some, show i + nlen (rest t i) - i = nlen (rest t i) by omega]
    have hsz : (bs ((rest t i).take (nlen (rest t i)))).size ≤ 281474976710656 := by
      rw [bs_size, List.length_take, rest_len]; omega
    have hp : ∀ k, strconv_ParseInt.f k (bs ((rest t i).take (nlen (rest t i)))) 10 64 = some (pint ((rest t i).take (nlen (rest t i)))) := by
      intro k
      unfold strconv_ParseInt.f
      rw [if_pos ⟨rfl, rfl, hsz⟩, show (bs ((rest t i).take (nlen (rest t i)))).data.toList = (rest t i).take (nlen (rest t i)) by simp [bs]]
    simp only [hp, Option.bind_some]
    rcases parse_num (rest t i) with ⟨h1, h2⟩ | ⟨h1, h2⟩
    · rw [pint_ok h1, h2]
      simp only [cond_true, if_true]
      have hrg := num_rng (rest t i)
      have hf : ∀ k, strconv_FormatInt.f k (num (rest t i)) 10 = some (bs (Lib.itoa (num (rest t i)))) := by
        intro k; unfold strconv_FormatInt.f; rw [if_pos ⟨rfl, hrg.1, hrg.2⟩]; rfl
      simp only [hf, Option.bind_some]
      have e : decide (bs (Lib.itoa (num (rest t i))) = bs ((rest t i).take (nlen (rest t i)))) = true := by
        rw [decide_eq_true_iff, bs_inj]; simpa [nok] using h2
      rw [e]
      exact Ev.ret _
    · rw [h1]
      by_cases hv : ∃ v, Lib.parseIntB 64 ((rest t i).take (nlen (rest t i))) = .ok v
      · obtain ⟨v, hv⟩ := hv
        rw [pint_ok hv]
        simp only [cond_true]
        have hb := Lib.parseIntB_bounds hv
        have hb1 : -9223372036854775808 ≤ v := by simpa using hb.1
        have hb2 : v < 9223372036854775808 := by simpa using hb.2
        have hf : ∀ k, strconv_FormatInt.f k v 10 = some (bs (Lib.itoa v)) := by
          intro k; unfold strconv_FormatInt.f; rw [if_pos ⟨rfl, hb1, by omega⟩]; rfl
        simp only [hf, Option.bind_some]
        have e : decide (bs (Lib.itoa v) = bs ((rest t i).take (nlen (rest t i)))) = false := by
          rw [decide_eq_false_iff_not, bs_inj]; exact h2 v hv
        rw [e]
        exact Ev.ret _
      · rw [pint_bad (fun v hv' => hv ⟨v, hv'⟩)]
        exact Ev.ret _
  refine Ev.step ?_
  simp only [impl_reader_whole.f]
  cases hr : rest t i with
  | nil =>
    rw [hr] at key
    simp only [peek_nil _ hr, Option.bind_some, show ((0 : Int) == 45) = false from rfl, cond_false]
    refine Ev.step ?_
    simp only [impl_reader_whole.j0]
    have := key (0, ⟨t, (i : Int)⟩) rfl
    simpa [sgn] using this
  | cons c r =>
    rw [hr] at key
    simp only [peek_cons _ hr, Option.bind_some]
    have hlt := rest_lt hr
    by_cases hs : c.toNat = 45
    · have hs' : sgn (c :: r) = true := by simp [sgn, hs]
      rw [hs'] at key
      simp only [hs, show (((45 : Nat) : Int) == 45) = true from rfl, cond_true, w1 (i := i) (by omega)]
      refine Ev.step ?_
      simp only [impl_reader_whole.j0]
      exact key _ rfl
    · have hs' : sgn (c :: r) = false := by simp [sgn, hs]
      rw [hs'] at key
      simp only [show ((c.toNat : Int) == 45) = false by simp; omega, cond_false]
      refine Ev.step ?_
      simp only [impl_reader_whole.j0]
      exact key _ rfl
end
end Go.Ab
