/- Plain facts: wrapping, decimal numerals, functions that tell with enough rounds. No program; no condition. -/
import Derived.Test.YtphfoghhcemfhaaAbO
import Derived.Lib.ItoaNum
import Derived.Lib.ItoaMem
import Derived.Lib.ParseIntB
import Derived.Lib.ParseIntBTie
import Derived.Lib.ParseIntBCases
namespace Go.Ab
set_option linter.unusedVariables false
set_option linter.unusedSimpArgs false
/-- With enough rounds f tells r. -/
def Ev {α : Type} (f : Nat → Option α) (r : α) : Prop := ∃ K, ∀ k, K ≤ k → f k = some r
section
variable {α β : Type}
theorem Ev.now {f : Nat → Option α} {r : α} (h : ∀ k, f k = some r) : Ev f r := ⟨0, fun k _ => h k⟩
theorem Ev.ret (r : α) : Ev (fun _ => some r) r := ⟨0, fun _ _ => rfl⟩
theorem Ev.eq {f : Nat → Option α} {r r' : α} (h : Ev f r) (e : r = r') : Ev f r' := e ▸ h
theorem Ev.step {f : Nat → Option α} {r : α} (h : Ev (fun k => f (k + 1)) r) : Ev f r := by
  obtain ⟨K, h⟩ := h
  refine ⟨K + 1, fun k hk => ?_⟩
  obtain ⟨m, rfl⟩ : ∃ m, k = m + 1 := ⟨k - 1, by omega⟩
  exact h m (by omega)
theorem Ev.bind {f : Nat → Option α} {g : Nat → α → Option β} {a : α} {r : β} (h : Ev f a) (h' : Ev (fun k => g k a) r) : Ev (fun k => (f k).bind (g k)) r := by
  obtain ⟨K, h⟩ := h
  obtain ⟨K', h'⟩ := h'
  refine ⟨max K K', fun k hk => ?_⟩
  show (f k).bind (g k) = some r
  rw [h k (by omega)]
  exact h' k (by omega)
theorem Ev.at_ {f : Nat → Option α} {r : α} (h : Ev f r) : ∃ k, f k = some r := by
  obtain ⟨K, h⟩ := h
  exact ⟨K, h K (Nat.le_refl _)⟩
theorem Ev.uniq {f : Nat → Option α} {r r' : α} (h : Ev f r) (h' : Ev f r') : r = r' := by
  obtain ⟨K, h⟩ := h
  obtain ⟨K', h'⟩ := h'
  exact Option.some.inj ((h (max K K') (by omega)).symm.trans (h' (max K K') (by omega)))
end
theorem wrap_def (n : Int) : IntKind.i64.wrap n = if n % 18446744073709551616 ≥ 9223372036854775808 then n % 18446744073709551616 - 18446744073709551616 else n % 18446744073709551616 := by
  have : IntKind.i64.wrap n = if (true && decide (n % 18446744073709551616 ≥ 9223372036854775808)) = true then n % 18446744073709551616 - 18446744073709551616 else n % 18446744073709551616 := rfl
  rw [this]; simp
theorem wrap8_def (n : Int) : IntKind.u8.wrap n = n % 256 := by
  have : IntKind.u8.wrap n = if (false && decide (n % 256 ≥ 128)) = true then n % 256 - 256 else n % 256 := rfl
  rw [this]; simp
theorem w64 {n : Int} (h0 : -9223372036854775808 ≤ n) (h1 : n ≤ 9223372036854775807) : IntKind.i64.wrap n = n := by
  rw [wrap_def]; split <;> omega
theorem wrap_mod (n : Int) : (IntKind.i64.wrap n - n) % 18446744073709551616 = 0 := by
  rw [wrap_def]; split <;> omega
theorem wrap_rng (n : Int) : -9223372036854775808 ≤ IntKind.i64.wrap n ∧ IntKind.i64.wrap n ≤ 9223372036854775807 := by
  rw [wrap_def]; split <;> omega
theorem wrap_of {a b : Int} (h : (a - b) % 18446744073709551616 = 0) : IntKind.i64.wrap a = IntKind.i64.wrap b := by
  rw [wrap_def, wrap_def]; split <;> split <;> omega
theorem wn {i : Nat} (n : Nat) (h : i + n ≤ 9223372036854775807) : IntKind.i64.wrap ((i : Int) + (n : Int)) = ((i + n : Nat) : Int) := by
  rw [w64 (by omega) (by omega)]; omega
theorem w1 {i : Nat} (h : i < 9223372036854775807) : IntKind.i64.wrap ((i : Int) + 1) = ((i + 1 : Nat) : Int) := wn 1 (by omega)
/-! Digits -/
def isD (c : UInt8) : Bool := decide (48 ≤ c.toNat) && decide (c.toNat ≤ 57)
/-- One digit more, as both programs reckon. -/
def fw (acc : Int) (c : UInt8) : Int := IntKind.i64.wrap (IntKind.i64.wrap (acc * 10) + IntKind.i64.wrap (IntKind.u8.wrap ((c.toNat : Int) - 48)))
theorem fw_eq {c : UInt8} (h : isD c = true) (acc : Int) : fw acc c = IntKind.i64.wrap (acc * 10 + ((c.toNat : Int) - 48)) := by
  unfold isD at h
  simp at h
  unfold fw
  have h8 : IntKind.u8.wrap ((c.toNat : Int) - 48) = (c.toNat : Int) - 48 := by rw [wrap8_def]; omega
  rw [h8, w64 (n := (c.toNat : Int) - 48) (by omega) (by omega)]
  have := wrap_mod (acc * 10)
  exact wrap_of (by omega)
def dval (l : List UInt8) : Int := l.foldl fw 0
theorem toNat_dig {n : Nat} (h : n < 10) : (UInt8.ofNat (48 + n)).toNat = 48 + n := by
  rw [UInt8.toNat_ofNat']; omega
theorem isD_dig {n : Nat} (h : n < 10) : isD (UInt8.ofNat (48 + n)) = true := by
  unfold isD; rw [toNat_dig h]; simp; omega
theorem dec_big {m : Nat} (h : ¬ m < 10) : Lib.decDigits m = Lib.decDigits (m / 10) ++ [UInt8.ofNat (48 + m % 10)] := by rw [Lib.decDigits, dif_neg h]
theorem dec_isD : ∀ (m : Nat), ∀ c ∈ Lib.decDigits m, isD c = true := by
  intro m
  induction m using Nat.strongRecOn with
  | _ m ih =>
    intro c hc
    by_cases h : m < 10
    · rw [Lib.decDigits_one h] at hc
      rw [List.mem_singleton.1 hc]; exact isD_dig h
    · rw [dec_big h] at hc
      rcases List.mem_append.1 hc with hc | hc
      · exact ih (m / 10) (by omega) c hc
      · rw [List.mem_singleton.1 hc]; exact isD_dig (by omega)
theorem dec_ne (m : Nat) : Lib.decDigits m ≠ [] := by
  by_cases h : m < 10
  · rw [Lib.decDigits_one h]; simp
  · rw [dec_big h]; simp
theorem dval_dec : ∀ (m : Nat), dval (Lib.decDigits m) = IntKind.i64.wrap (m : Int) := by
  intro m
  induction m using Nat.strongRecOn with
  | _ m ih =>
    by_cases h : m < 10
    · rw [Lib.decDigits_one h]
      show fw 0 _ = _
      rw [fw_eq (isD_dig h), toNat_dig h]
      congr 1; omega
    · rw [dec_big h]
      have : dval (Lib.decDigits (m / 10) ++ [UInt8.ofNat (48 + m % 10)]) = fw (dval (Lib.decDigits (m / 10))) (UInt8.ofNat (48 + m % 10)) := by unfold dval; rw [List.foldl_append]; rfl
      rw [this, ih (m / 10) (by omega), fw_eq (isD_dig (by omega)), toNat_dig (by omega)]
      have := wrap_mod ((m / 10 : Nat) : Int)
      exact wrap_of (by omega)
theorem pum_app (M : Nat) (c : UInt8) : ∀ (l : List UInt8) (acc u : Nat), Lib.parseUintM M acc l = .ok u → Lib.parseUintM M acc (l ++ [c]) = Lib.parseUintM M u [c] := by
  intro l
  induction l with
  | nil => intro acc u h; simp [Lib.parseUintM] at h; subst h; rfl
  | cons x r ih =>
    intro acc u h
    simp only [List.cons_append, Lib.parseUintM] at h ⊢
    split at h
    · rename_i h1
      rw [if_pos h1]
      split at h
      · cases h
      · rename_i h2
        rw [if_neg h2]
        split at h
        · cases h
        · rename_i h3
          rw [if_neg h3]
          have := ih _ _ h
          simpa [Lib.parseUintM] using this
    · cases h
theorem pum_dec : ∀ (m : Nat), m ≤ 18446744073709551615 → Lib.parseUintM (2 ^ 64 - 1) 0 (Lib.decDigits m) = .ok m := by
  intro m
  induction m using Nat.strongRecOn with
  | _ m ih =>
    intro hm
    by_cases h : m < 10
    · rw [Lib.decDigits_one h]
      simp only [Lib.parseUintM, toNat_dig h]
      rw [if_pos (by omega), if_neg (by omega), if_neg (by omega)]
      congr 1; omega
    · rw [dec_big h, pum_app _ _ _ _ _ (ih (m / 10) (by omega) (by omega))]
      simp only [Lib.parseUintM, toNat_dig (n := m % 10) (by omega)]
      rw [if_pos (by omega), if_neg (by omega), if_neg (by omega)]
      congr 1; omega
theorem itoa_nn {v : Int} (h : 0 ≤ v) : Lib.itoa v = Lib.decDigits v.toNat := by unfold Lib.itoa; rw [if_neg (by omega)]
theorem itoa_ng {v : Int} (h : v < 0) : Lib.itoa v = 45 :: Lib.decDigits v.natAbs := by unfold Lib.itoa; rw [if_pos h]
theorem dec_head {m : Nat} {c : UInt8} {r : List UInt8} (h : Lib.decDigits m = c :: r) : isD c = true := dec_isD m c (by rw [h]; simp)
/-- What is written reads back. -/
theorem parse_itoa {v : Int} (h1 : -9223372036854775808 ≤ v) (h2 : v ≤ 9223372036854775807) : Lib.parseIntB 64 (Lib.itoa v) = .ok v := by
  by_cases h : 0 ≤ v
  · rw [itoa_nn h]
    have hp := pum_dec v.toNat (by omega)
    have hne := dec_ne v.toNat
    cases hd : Lib.decDigits v.toNat with
    | nil => exact absurd hd hne
    | cons c r =>
      have hc := dec_head hd
      unfold isD at hc; simp at hc
      rw [hd] at hp
      have hb : Lib.parseUintB 64 (c :: r) = .ok v.toNat := by
        unfold Lib.parseUintB; rw [if_neg (by simp)]; exact hp
      unfold Lib.parseIntB
      simp only
      rw [if_neg (by omega), hb]
      simp only
      rw [if_neg (by omega), if_neg (by omega), if_neg (by omega)]
      congr 1; omega
  · rw [itoa_ng (by omega)]
    have hp := pum_dec v.natAbs (by omega)
    have hb : Lib.parseUintB 64 (Lib.decDigits v.natAbs) = .ok v.natAbs := by
      unfold Lib.parseUintB; rw [if_neg (dec_ne _)]; exact hp
    rw [Lib.parseIntB_minus, hb]
    simp only [Lib.signedC]
    rw [if_neg (by simp; omega)]
    congr 1; omega
/-! A number at the head of a text -/
def sgn (l : List UInt8) : Bool := l.head?.any fun c => c.toNat == 45
def dgs (l : List UInt8) : List UInt8 := (if sgn l then l.tail else l).takeWhile isD
def nlen (l : List UInt8) : Nat := (if sgn l then 1 else 0) + (dgs l).length
def num (l : List UInt8) : Int := if sgn l then IntKind.i64.wrap (0 - dval (dgs l)) else dval (dgs l)
def nok (l : List UInt8) : Bool := decide (Lib.itoa (num l) = l.take (nlen l))
theorem dval_rng (l : List UInt8) : -9223372036854775808 ≤ dval l ∧ dval l ≤ 9223372036854775807 := by
  unfold dval
  rcases List.eq_nil_or_concat l with rfl | ⟨l, c, rfl⟩
  · simp
  · rw [List.concat_eq_append, List.foldl_append]; exact wrap_rng _
theorem num_rng (l : List UInt8) : -9223372036854775808 ≤ num l ∧ num l ≤ 9223372036854775807 := by
  unfold num; split
  · exact wrap_rng _
  · exact dval_rng _
theorem take_tw (p : UInt8 → Bool) (l : List UInt8) : l.take (l.takeWhile p).length = l.takeWhile p := by
  induction l with
  | nil => rfl
  | cons a r ih => by_cases h : p a <;> simp [List.takeWhile_cons, h, ih]
theorem take_num (l : List UInt8) : l.take (nlen l) = if sgn l then 45 :: dgs l else dgs l := by
  unfold nlen dgs
  cases hs : sgn l with
  | false => simp [take_tw]
  | true =>
    cases l with
    | nil => simp [sgn] at hs
    | cons c r =>
      have hc : c = 45 := by
        simp [sgn] at hs
        exact UInt8.toNat_inj.1 (by simpa using hs)
      subst hc
      simp only [if_true, List.tail_cons]
      rw [Nat.add_comm 1, List.take_succ_cons, take_tw]
theorem num_of {l : List UInt8} {v : Int} (h1 : -9223372036854775808 ≤ v) (h2 : v ≤ 9223372036854775807) (h : Lib.itoa v = l.take (nlen l)) : num l = v := by
  rw [take_num] at h
  by_cases hv : 0 ≤ v
  · rw [itoa_nn hv] at h
    cases hs : sgn l with
    | true =>
      rw [hs] at h
      have := dec_head h
      simp [isD] at this
    | false =>
      rw [hs] at h
      unfold num; rw [hs]
      simp only [Bool.false_eq_true, if_false] at h ⊢
      rw [← h, dval_dec, w64 (by omega) (by omega)]; omega
  · rw [itoa_ng (by omega)] at h
    cases hs : sgn l with
    | false =>
      rw [hs] at h
      simp only [Bool.false_eq_true, if_false] at h
      have hm : (45 : UInt8) ∈ dgs l := by rw [← h]; simp
      unfold dgs at hm
      have := List.all_eq_true.1 (List.all_takeWhile (p := isD)) _ hm
      simp [isD] at this
    | true =>
      rw [hs] at h
      simp only [if_true, List.cons.injEq, true_and] at h
      unfold num; rw [hs]
      simp only [if_true]
      rw [← h, dval_dec]
      have := wrap_mod (v.natAbs : Int)
      rw [show IntKind.i64.wrap (0 - IntKind.i64.wrap (v.natAbs : Int)) = IntKind.i64.wrap v from wrap_of (by omega), w64 h1 h2]
/-- The library's reading, written again: the same as what both programs ask. -/
theorem parse_num (l : List UInt8) : (Lib.parseIntB 64 (l.take (nlen l)) = .ok (num l) ∧ nok l = true) ∨ (nok l = false ∧ ∀ v, Lib.parseIntB 64 (l.take (nlen l)) = .ok v → (Lib.itoa v ≠ l.take (nlen l))) := by
  cases h : nok l with
  | true =>
    have h' : Lib.itoa (num l) = l.take (nlen l) := by simpa [nok] using h
    left
    rw [← h']
    exact ⟨parse_itoa (num_rng l).1 (num_rng l).2, rfl⟩
  | false =>
    right
    refine ⟨rfl, fun v hv he => ?_⟩
    have hb := Lib.parseIntB_bounds hv
    have hb1 : -9223372036854775808 ≤ v := by simpa using hb.1
    have hb2 : v < 9223372036854775808 := by simpa using hb.2
    have := num_of hb1 (by omega) he
    rw [← this] at he
    simp [nok] at h
    exact h he
theorem itoa_ne (v : Int) : Lib.itoa v ≠ [] := by
  by_cases h : 0 ≤ v
  · rw [itoa_nn h]; exact dec_ne _
  · rw [itoa_ng (by omega)]; simp
theorem nDigits_le : ∀ (k n : Nat), n < 10 ^ (k + 1) → Lib.nDigits n ≤ k + 1
  | 0, n, h => by rw [Lib.nDigits_small (by simpa using h)]; exact Nat.le_refl _
  | k + 1, n, h => by
    by_cases hn : n < 10
    · rw [Lib.nDigits_small hn]; omega
    · rw [Lib.nDigits_big hn]
      have := nDigits_le k (n / 10) (by rw [Nat.pow_succ] at h; omega)
      omega
theorem itoa_len {v : Int} (h1 : -9223372036854775808 ≤ v) (h2 : v ≤ 9223372036854775807) : (Lib.itoa v).length ≤ 20 := by
  by_cases h : 0 ≤ v
  · rw [itoa_nn h, Lib.decDigits_length]
    exact nDigits_le 19 _ (by omega)
  · rw [itoa_ng (by omega), List.length_cons, Lib.decDigits_length]
    have := nDigits_le 18 v.natAbs (by omega)
    omega
theorem nok_pos {l : List UInt8} (h : nok l = true) : 0 < nlen l ∧ nlen l ≤ 20 := by
  have h' : Lib.itoa (num l) = l.take (nlen l) := by simpa [nok] using h
  have h1 := itoa_ne (num l)
  have h2 := itoa_len (num_rng l).1 (num_rng l).2
  rw [h'] at h1 h2
  have hl : nlen l ≤ l.length := by
    unfold nlen dgs
    cases hs : sgn l with
    | true =>
      cases l with
      | nil => simp [sgn] at hs
      | cons c r =>
        have := (List.takeWhile_prefix isD (l := r)).length_le
        simp; omega
    | false =>
      have := (List.takeWhile_prefix isD (l := l)).length_le
      simp; omega
  rw [List.length_take] at h2
  refine ⟨?_, by omega⟩
  rcases Nat.eq_zero_or_pos (nlen l) with h0 | h0
  · rw [h0] at h1; simp at h1
  · exact h0
end Go.Ab
