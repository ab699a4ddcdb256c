/- Sizes, copies and comparisons of the laws' arguments, for all types alike. No condition. -/
import Derived.Test.YtklhcjepgbakmaaGreatDoorAbF
import Derived.Test.YtklhcjepgbakmaaGreatDoorAbR
import Derived.Test.YtklhcjepgbakmaaGreatDoorAbL4
namespace Go.Ab
open Go.Proofs
set_option linter.unusedVariables false
set_option linter.unusedSimpArgs false
/-- A size is counted: what is left is told, and where something is left the thing is small. -/
def Sz (f : Nat → Option Int) (b : Int) (P : Prop) : Prop := ∃ r, Ev f r ∧ r ≤ b ∧ (0 ≤ r → P)
def Lft (b : Int) : Prop := 0 ≤ b ∧ b ≤ 1048576
theorem wI {n : Int} (h1 : -9223372036854775808 ≤ n) (h2 : n ≤ 9223372036854775807) : IntKind.i64.wrap n = n := by
  show (if (true && decide (n % 18446744073709551616 ≥ 9223372036854775808)) = true then n % 18446744073709551616 - 18446744073709551616 else n % 18446744073709551616) = n
  rw [Bool.true_and]
  split <;> rename_i h <;> simp only [decide_eq_true_eq, Bool.not_eq_true, decide_eq_false_iff_not] at h <;> omega
theorem wup {i n : Nat} (h : i < n) (hn : n ≤ 2000000) : IntKind.i64.wrap ((i : Int) + 1) = ((i + 1 : Nat) : Int) := by
  rw [wI (by omega) (by omega)]; omega
theorem ixg {α : Type} {l : List α} {i : Nat} (h : i < l.length) : ix l (i : Int) = some l[i] := by
  unfold ix
  rw [if_pos (by omega), Int.toNat_natCast, List.getElem?_eq_getElem h]
theorem ltd {i n : Nat} (h : i < n) : decide ((i : Int) < (n : Int)) = true := by simpa using h
theorem ltn {i n : Nat} (h : ¬ i < n) : decide ((i : Int) < (n : Int)) = false := by simpa using h
theorem Sz.ret {b : Int} : Sz (fun _ => some b) b True := ⟨b, Ev.ret _, Int.le_refl _, fun _ => trivial⟩
theorem Sz.now {f : Nat → Option Int} {b : Int} (h : ∀ k, f k = some b) : Sz f b True := ⟨b, Ev.now h, Int.le_refl _, fun _ => trivial⟩
theorem Sz.mono {f : Nat → Option Int} {b : Int} {P Q : Prop} (h : Sz f b P) (g : P → Q) : Sz f b Q := by
  obtain ⟨r, h1, h2, h3⟩ := h
  exact ⟨r, h1, h2, fun x => g (h3 x)⟩
theorem Sz.step {f : Nat → Option Int} {b : Int} {P : Prop} (h : Sz (fun k => f (k + 1)) b P) : Sz f b P := by
  obtain ⟨r, h1, h2, h3⟩ := h
  exact ⟨r, h1.step, h2, h3⟩
theorem Sz.call {F : Nat → Option Int} {g : Nat → Int → Option Int} {b : Int} {P Q : Prop} (hb : Lft b) (h : Sz F b P) (h' : ∀ v, Lft v → Sz (fun k => g k v) v Q) :
    Sz (fun k => (F k).bind fun v => bif decide (v < 0) then some (-1) else g k v) b (P ∧ Q) := by
  obtain ⟨r, h1, h2, h3⟩ := h
  unfold Lft at hb
  by_cases hr : r < 0
  · exact ⟨-1, Ev.bind h1 (by simp only [decide_eq_true hr, cond_true]; exact Ev.ret _), by omega, fun x => absurd x (by omega)⟩
  · obtain ⟨q, h4, h5, h6⟩ := h' r (by unfold Lft; omega)
    refine ⟨q, Ev.bind h1 ?_, by omega, fun x => ⟨h3 (by omega), h6 x⟩⟩
    simp only [decide_eq_false hr, cond_false]; exact h4
theorem Sz.loop {α : Type} {l : Nat → List α → Int → Int → Option Int} {e : Nat → α → Int → Option Int} {B W : α → Prop}
    (hl : ∀ k v a i, l (k + 1) v a i = bif decide (i < (v.length : Int)) then ((ix v i).bind fun x => ((e k x a).bind fun r => (bif decide (r < 0) then (some (-1)) else (l k v r (IntKind.i64.wrap (i + 1)))))) else some a)
    (he : ∀ x a, W x → Lft a → Sz (fun k => e k x a) a (B x)) (v : List α) (hw : ∀ x ∈ v, W x) (hv : v.length ≤ 1048576) :
    ∀ (n i : Nat) (a : Int), v.length - i ≤ n → Lft a → Sz (fun k => l k v a (i : Int)) a (∀ x ∈ v.drop i, B x) := by
  intro n
  induction n with
  | zero =>
    intro i a h ha
    refine Sz.step ?_
    simp only [hl, ltn (show ¬ i < v.length by omega), cond_false]
    rw [List.drop_of_length_le (by omega)]
    exact Sz.ret.mono fun _ => by simp
  | succ n ih =>
    intro i a h ha
    by_cases hi : i < v.length
    · refine Sz.step ?_
      simp only [hl, ltd hi, cond_true, ixg hi, Option.bind_some, wup hi (by omega)]
      rw [List.drop_eq_getElem_cons hi]
      exact (Sz.call ha (he _ a (hw _ (List.getElem_mem hi)) ha) fun r hr => ih (i + 1) r (by omega) hr).mono fun h x hx => by
        rcases List.mem_cons.1 hx with rfl | hx
        · exact h.1
        · exact h.2 x hx
    · refine Sz.step ?_
      simp only [hl, ltn hi, cond_false]
      rw [List.drop_of_length_le (by omega)]
      exact Sz.ret.mono fun _ => by simp
theorem inr_ {i n : Nat} (h : i < n) : inr (i : Int) n = some () := by
  unfold inr
  rw [if_pos (by omega)]
end Go.Ab
namespace Go.Ab
open Go.Proofs
set_option linter.unusedVariables false
set_option linter.unusedSimpArgs false
theorem natc {n : Nat} {m : Nat} (h : (n : Int) = (m : Int)) : n = m := by omega
def q1 (c : UInt8) : List Int := if c.toNat = 10 then [92, 110] else if c.toNat = 34 ∨ c.toNat = 92 then [92, (c.toNat : Int)] else [(c.toNat : Int)]
def qL (l : List UInt8) : List Int := l.flatMap q1
theorem q1_len (c : UInt8) : (q1 c).length ≤ 2 := by 
  unfold q1
  split
  · simp
  · split <;> simp
theorem app_q {a b : List Int} (h : a.length + b.length ≤ 60000000000) : app a b = some (a ++ b) := by unfold app; rw [if_pos (by omega)]
theorem squote_l0 {s : ByteArray} (hs : s.size ≤ 2000) : ∀ (l : List UInt8) (i : Nat) (o : List Int), rest s i = l → i ≤ s.size → o.length ≤ 1 + 2 * i → Ev (fun k => spec_l01Quote.l0 k s o (i : Int)) (bstr (o ++ qL l ++ [34])) := by
  intro l
  induction l with
  | nil =>
    intro i o hr hi ho
    refine Ev.step ?_
    simp only [spec_l01Quote.l0, lt_nil hr, cond_false]
    rw [app_q (by simp; omega)]
    simp only [Option.bind_some, qL, List.flatMap_nil, List.append_nil]
    exact Ev.ret _
  | cons c l ih =>
    intro i o hr hi ho
    have hlt := rest_lt hr
    have hn := rest_next hr
    have w : IntKind.i64.wrap ((i : Int) + 1) = ((i + 1 : Nat) : Int) := wup hlt (show s.size ≤ 2000000 by omega)
    have hq : qL (c :: l) = q1 c ++ qL l := by simp [qL]
    have hql := q1_len c
    have g := ih (i + 1) (o ++ q1 c) hn (by omega) (by rw [List.length_append]; omega)
    rw [hq, ← List.append_assoc]
    refine Ev.step ?_
    simp only [spec_l01Quote.l0, lt_cons hr, cond_true, bix_cons hr, Option.bind_some]
    by_cases h10 : c.toNat = 10
    · have e : q1 c = [92, 110] := by unfold q1; rw [if_pos h10]
      rw [e] at g ⊢
      simp only [show ((c.toNat : Int) == 10) = true by simp [h10], cond_true]
      rw [app_q (by simp; omega)]
      simp only [Option.bind_some, w]
      exact g
    · simp only [show ((c.toNat : Int) == 10) = false by simp; omega, cond_false]
      have j : ∀ b : Bool, (b = true ↔ c.toNat = 34 ∨ c.toNat = 92) → Ev (fun k => spec_l01Quote.j0 k s o (i : Int) b) (bstr (o ++ q1 c ++ qL l ++ [34])) := fun b hb => by
        refine Ev.step ?_
        simp only [spec_l01Quote.j0, bix_cons hr, Option.bind_some]
        cases b with
        | true =>
          have e : q1 c = [92, (c.toNat : Int)] := by unfold q1; rw [if_neg h10, if_pos (hb.1 rfl)]
          rw [e] at g ⊢
          simp only [cond_true]
          rw [app_q (by simp; omega)]
          simp only [Option.bind_some, w]
          exact g
        | false =>
          have e : q1 c = [(c.toNat : Int)] := by unfold q1; rw [if_neg h10, if_neg (fun h => by have := hb.2 h; cases this)]
          rw [e] at g ⊢
          simp only [cond_false]
          rw [app_q (by simp; omega)]
          simp only [Option.bind_some, w]
          exact g
      by_cases h34 : c.toNat = 34
      · simp only [show ((c.toNat : Int) == 34) = true by simp [h34], cond_true]
        exact j true ⟨fun _ => .inl h34, fun _ => rfl⟩
      · simp only [show ((c.toNat : Int) == 34) = false by simp; omega, cond_false]
        exact j _ ⟨fun h => .inr (natc (by simpa using h)), fun h => by have := h.resolve_left h34; simp [this]⟩
theorem iquote_l0 {s : ByteArray} (hs : s.size ≤ 2000) : ∀ (l : List UInt8) (i : Nat) (o : List Int), rest s i = l → i ≤ s.size → o.length ≤ 1 + 2 * i → Ev (fun k => impl_quote.l0 k s o (i : Int)) (bstr (o ++ qL l ++ [34])) := by
  intro l
  induction l with
  | nil =>
    intro i o hr hi ho
    refine Ev.step ?_
    simp only [impl_quote.l0, lt_nil hr, cond_false]
    rw [app_q (by simp; omega)]
    simp only [Option.bind_some, qL, List.flatMap_nil, List.append_nil]
    exact Ev.ret _
  | cons c l ih =>
    intro i o hr hi ho
    have hlt := rest_lt hr
    have hn := rest_next hr
    have w : IntKind.i64.wrap ((i : Int) + 1) = ((i + 1 : Nat) : Int) := wup hlt (show s.size ≤ 2000000 by omega)
    have hq : qL (c :: l) = q1 c ++ qL l := by simp [qL]
    have hql := q1_len c
    have g := ih (i + 1) (o ++ q1 c) hn (by omega) (by rw [List.length_append]; omega)
    rw [hq, ← List.append_assoc]
    have j : ∀ b : Bool, (b = true ↔ c.toNat = 34 ∨ c.toNat = 92) → Ev (fun k => impl_quote.j0 k s o (i : Int) (c.toNat : Int) b) (bstr (o ++ q1 c ++ qL l ++ [34])) := fun b hb => by
      refine Ev.step ?_
      simp only [impl_quote.j0, bix_cons hr, Option.bind_some]
      cases b with
      | true =>
        have h := hb.1 rfl
        have e : q1 c = [92, (c.toNat : Int)] := by unfold q1; rw [if_neg (by omega), if_pos h]
        rw [e] at g ⊢
        simp only [cond_true]
        rw [app_q (by simp; omega)]
        simp only [Option.bind_some, w]
        exact g
      | false =>
        have hno : ¬ (c.toNat = 34 ∨ c.toNat = 92) := fun h => by have := hb.2 h; cases this
        simp only [cond_false]
        by_cases h10 : c.toNat = 10
        · have e : q1 c = [92, 110] := by unfold q1; rw [if_pos h10]
          rw [e] at g ⊢
          simp only [show ((c.toNat : Int) == 10) = true by simp [h10], cond_true]
          rw [app_q (by simp; omega)]
          simp only [Option.bind_some, w]
          exact g
        · have e : q1 c = [(c.toNat : Int)] := by unfold q1; rw [if_neg h10, if_neg hno]
          rw [e] at g ⊢
          simp only [show ((c.toNat : Int) == 10) = false by simp; omega, cond_false]
          rw [app_q (by simp; omega)]
          simp only [Option.bind_some, w]
          exact g
    refine Ev.step ?_
    simp only [impl_quote.l0, lt_cons hr, cond_true, bix_cons hr, Option.bind_some]
    by_cases h34 : c.toNat = 34
    · simp only [show ((c.toNat : Int) == 34) = true by simp [h34], cond_true]
      exact j true ⟨fun _ => .inl h34, fun _ => rfl⟩
    · simp only [show ((c.toNat : Int) == 34) = false by simp; omega, cond_false]
      exact j _ ⟨fun h => .inr (natc (by simpa using h)), fun h => by have := h.resolve_left h34; simp [this]⟩
def quoted (s : ByteArray) : ByteArray := bstr ([34] ++ qL s.data.toList ++ [34])
theorem squote {s : ByteArray} (hs : s.size ≤ 2000) : Ev (fun k => spec_l01Quote.f k s) (quoted s) :=
  Ev.step (by simp only [spec_l01Quote.f]; exact squote_l0 hs _ 0 [34] (by simp [rest]) (Nat.zero_le _) (by simp))
theorem iquote {s : ByteArray} (hs : s.size ≤ 2000) : Ev (fun k => impl_quote.f k s) (quoted s) :=
  Ev.step (by simp only [impl_quote.f]; exact iquote_l0 hs _ 0 [34] (by simp [rest]) (Nat.zero_le _) (by simp))
end Go.Ab
namespace Go.Ab
open Go.Proofs
set_option linter.unusedVariables false
set_option linter.unusedSimpArgs false
theorem catl {a b : List UInt8} (h : a.length + b.length ≤ 1000000000000) : cat (bs a) (bs b) = some (bs (a ++ b)) := by
  unfold cat
  rw [if_pos (by rw [bs_size, bs_size]; omega)]
  rfl
theorem bwsl (k : Nat) {s t : List UInt8} (h : s.length + t.length ≤ 100000000000) : strings_Builder_WriteString.f k (bs t) (bs s) = some ((t.length : Int), true, bs (s ++ t)) := by
  unfold strings_Builder_WriteString.f
  rw [if_pos (by rw [bs_size, bs_size]; omega), bs_size]
  rfl
theorem bwbl (k : Nat) (c : UInt8) {x : Int} (hx : x = (c.toNat : Int)) {s : List UInt8} (h : s.length ≤ 100000000000) : strings_Builder_WriteByte.f k x (bs s) = some (true, bs (s ++ [c])) := by
  subst hx
  unfold strings_Builder_WriteByte.f
  have := c.toNat_lt
  rw [if_pos (by rw [bs_size]; omega)]
  simp only [Int.toNat_natCast, UInt8.ofNat_toNat]
  rfl
theorem inuml {n : Int} (h : -9223372036854775808 ≤ n ∧ n ≤ 9223372036854775807) : Ev (fun k => impl_num.f k n) (bs (Lib.itoa n)) := by
  refine Ev.now fun k => ?_
  simp only [impl_num.f, strconv_FormatInt.f]
  rw [if_pos ⟨trivial, h⟩]
  rfl
/-! Quotes -/
theorem q1_esc (c : UInt8) : q1 c = nums (esc1 c) := by
  unfold q1 esc1
  have e : ∀ x : UInt8, c.toNat = x.toNat ↔ c = x := fun x => ⟨UInt8.toNat_inj.1, fun h => by rw [h]⟩
  have e10 := e 10
  have e34 := e 34
  have e92 := e 92
  simp only [show (10 : UInt8).toNat = 10 from rfl, show (34 : UInt8).toNat = 34 from rfl, show (92 : UInt8).toNat = 92 from rfl] at e10 e34 e92
  by_cases h1 : c = 10
  · subst h1; rfl
  · rw [if_neg (fun h => h1 (e10.1 h))]
    by_cases h2 : c = 34 ∨ c = 92
    · rw [if_pos (h2.imp e34.2 e92.2), if_pos h2]; rfl
    · rw [if_neg (fun h => h2 (h.imp e34.1 e92.1)), if_neg h2, if_neg h1]; rfl
theorem qL_esc (s : List UInt8) : qL s = nums (esc s) := by
  induction s with
  | nil => rfl
  | cons c s ih =>
    rw [esc_cons]
    have : qL (c :: s) = q1 c ++ qL s := by simp [qL]
    rw [this, ih, q1_esc]
    simp [nums]
theorem quoted_esc (s : List UInt8) : quoted (bs s) = bs (34 :: (esc s ++ [34])) := by
  unfold quoted
  rw [show (bs s).data.toList = s by simp [bs], qL_esc, show ([34] : List Int) ++ nums (esc s) ++ [34] = nums (34 :: (esc s ++ [34])) by simp [nums]]
  exact bstr_nums _
theorem esc_len (s : List UInt8) : s.length ≤ (esc s).length := by
  induction s with
  | nil => simp
  | cons c s ih =>
    rw [esc_cons, List.length_append, List.length_cons]
    have : 1 ≤ (esc1 c).length := by
      unfold esc1
      split
      · simp
      · split <;> simp
    omega
/-! Dates -/
theorem pad_zero : ∀ k : Nat, pad k 0 = List.replicate k 48
 | 0 => rfl
 | k + 1 => by
   unfold pad
   rw [pad_zero k, List.replicate_succ']
   rfl
theorem pad_dec : ∀ (k x : Nat), 1 ≤ k → x < 10 ^ k → pad k x = List.replicate (k - (Lib.decDigits x).length) 48 ++ Lib.decDigits x := by
  intro k
  induction k with
  | zero => intro x h; omega
  | succ k ih =>
    intro x _ hx
    unfold pad
    by_cases h : x < 10
    · rw [Lib.decDigits_one h, show x / 10 = 0 by omega, pad_zero, Nat.mod_eq_of_lt h]
      simp
    · have hk : 1 ≤ k := by
        rcases Nat.eq_zero_or_pos k with e | e
        · subst e; simp at hx; omega
        · exact e
      rw [dec_big h, ih (x / 10) hk (by rw [Nat.pow_succ] at hx; omega), List.append_assoc]
      congr 2
      rw [List.length_append]
      simp
theorem dec_len {x : Nat} {k : Nat} (hk : 1 ≤ k) (hx : x < 10 ^ k) : (Lib.decDigits x).length ≤ k := by
  have h := congrArg List.length (pad_dec k x hk hx)
  have hp : ∀ k x, (pad k x).length = k := fun k => by
    induction k with
    | zero => intro x; rfl
    | succ k ih => intro x; unfold pad; rw [List.length_append, ih]; rfl
  rw [hp, List.length_append, List.length_replicate] at h
  omega
theorem dys_mono {a b : Int} (h1 : 1 ≤ a) (h : a ≤ b) : dys a ≤ dys b := by unfold dys; omega
theorem lp_nat (y : Nat) : lp (y : Int) = (decide (y % 4 = 0) && (!decide (y % 100 = 0) || decide (y % 400 = 0))) := by
  unfold lp
  have e : ∀ q : Nat, (((y : Int)).tmod (q : Int) == 0) = decide (y % q = 0) := fun q => by
    rw [Int.tmod_eq_emod_of_nonneg (by omega), Bool.eq_iff_iff]
    simp only [beq_iff_eq, decide_eq_true_eq]
    omega
  have e4 := e 4
  have e100 := e 100
  have e400 := e 400
  simp only [Int.cast_ofNat_Int] at e4 e100 e400
  rw [e4, e100, e400]
  cases decide (y % 4 = 0) <;> cases decide (y % 100 = 0) <;> cases decide (y % 400 = 0) <;> rfl
theorem dys_next (y : Nat) (h : 1 ≤ y) : dys ((y : Int) + 1) = dys y + (if lp y then 366 else 365) := by
  rw [lp_nat]
  unfold dys
  by_cases h4 : y % 4 = 0 <;> by_cases h100 : y % 100 = 0 <;> by_cases h400 : y % 400 = 0 <;> simp [h4, h100, h400] <;> omega
theorem msum_year (y : Int) : msum y 1 12 = if lp y then 366 else 365 := by
  simp only [msum]
  unfold mon
  cases lp y <;> rfl
theorem msum_add (y : Int) : ∀ (a b q : Nat), msum y q (a + b) = msum y q a + msum y (q + a) b
 | 0, b, q => by simp [msum]
 | a + 1, b, q => by
   rw [show a + 1 + b = (a + b) + 1 by omega]
   simp only [msum]
   rw [msum_add y a b (q + 1), show q + 1 + a = q + (a + 1) by omega]
   omega
theorem msum_nn (y : Int) : ∀ (n q : Nat), 0 ≤ msum y q n ∧ msum y q n ≤ 31 * n
 | 0, q => by simp [msum]
 | n + 1, q => by
   have h1 := msum_nn y n (q + 1)
   have h2 := mon_bd y (q : Int)
   simp only [msum]
   omega
theorem msum_lt {y m d : Nat} (hm : 1 ≤ m) (hm2 : m ≤ 12) (hd : (d : Int) ≤ mon y m) : msum y 1 (m - 1) + d ≤ msum y 1 12 := by
  have e := msum_add (y : Int) (m - 1) (12 - (m - 1)) 1
  rw [show m - 1 + (12 - (m - 1)) = 12 by omega, show 1 + (m - 1) = m by omega] at e
  obtain ⟨r, hr⟩ : ∃ r, 12 - (m - 1) = r + 1 := ⟨12 - m, by omega⟩
  rw [hr] at e
  have e2 : msum (y : Int) m (r + 1) = mon y m + msum y (m + 1) r := rfl
  have := msum_nn (y : Int) r (m + 1)
  rw [e, e2]
  omega
section
variable {y m d : Nat}
theorem sdec {x : Nat} (hx : x ≤ 100000) : Ev (fun k => spec_l01Dec.f k (x : Int)) (bs (Lib.decDigits x)) := by
  have := dec_ (n := (x : Int)) (by omega) (by omega)
  rwa [itoa_nn (by omega), Int.toNat_natCast] at this
theorem idec {x : Nat} (hx : x ≤ 100000) : Ev (fun k => impl_num.f k (x : Int)) (bs (Lib.decDigits x)) := by
  have := inuml (n := (x : Int)) (by omega)
  rwa [itoa_nn (by omega), Int.toNat_natCast] at this
theorem stwo {x : Nat} (hx : x ≤ 99) : Ev (fun k => spec_l01Two.f k (x : Int)) (bs (pad 2 x)) := by
  unfold spec_l01Two.f
  rw [pad_dec 2 x (by omega) (by omega)]
  by_cases h : x < 10
  · simp only [decide_eq_true (show (x : Int) < 10 by omega), cond_true]
    refine Ev.bind (sdec (by omega)) ?_
    rw [show (⟨#[48]⟩ : ByteArray) = bs [48] from rfl, Lib.decDigits_one h, catl (by simp)]
    exact Ev.ret _
  · simp only [decide_eq_false (show ¬ (x : Int) < 10 by omega), cond_false]
    refine Ev.bind (sdec (by omega)) ?_
    have hl : (Lib.decDigits x).length = 2 := by rw [dec_big h, Lib.decDigits_one (show x / 10 < 10 by omega)]; rfl
    rw [hl]
    exact Ev.ret _
theorem rep48 (n : Nat) : Lib.repeatL [48] n = List.replicate n (48 : UInt8) := by
  induction n with
  | zero => rfl
  | succ n ih => rw [List.replicate_succ, ← ih]; rfl
theorem ipad {x w : Nat} (hw : 1 ≤ w) (hw2 : w ≤ 4) (hx : x < 10 ^ w) : Ev (fun k => impl_dateText_1.f k (x : Int) (w : Int)) (bs (pad w x)) := by
  unfold impl_dateText_1.f
  have hl := dec_len hw hx
  have hx5 : x ≤ 100000 := by
    have : 10 ^ w ≤ 10 ^ 4 := Nat.pow_le_pow_right (by omega) hw2
    omega
  refine Ev.bind (idec hx5) ?_
  rw [bs_size, wI (by omega) (by omega)]
  have e : strings_Repeat.f = fun (k : Nat) (s : ByteArray) (c : Int) => if 0 ≤ c ∧ c ≤ 9223372036854775807 ∧ s.size * c.toNat ≤ 140737488355328 then some ⟨(Lib.repeatL s.data.toList c.toNat).toArray⟩ else none := rfl
  rw [e]
  simp only
  rw [if_pos ⟨by omega, by omega, by rw [show (⟨#[48]⟩ : ByteArray).size = 1 from rfl]; omega⟩]
  simp only [Option.bind_some]
  rw [rep48, show ((w : Int) - ((Lib.decDigits x).length : Int)).toNat = w - (Lib.decDigits x).length by omega]
  rw [show (⟨(List.replicate (w - (Lib.decDigits x).length) (48 : UInt8)).toArray⟩ : ByteArray) = bs (List.replicate (w - (Lib.decDigits x).length) 48) from rfl, catl (by simp; omega), ← pad_dec w x hw hx]
  exact Ev.ret _
/-- A date, as the numbers tell it. -/
structure DOk (n : Int) (y m d : Nat) : Prop where
  y1 : 1 ≤ y
  y2 : y ≤ 9999
  m1 : 1 ≤ m
  m2 : m ≤ 12
  d1 : 1 ≤ d
  d2 : (d : Int) ≤ mon y m
  hn : n = dys y + msum y 1 (m - 1) + d - 1
theorem DOk.lt {n : Int} (h : DOk n y m d) : n < dys ((y : Int) + 1) ∧ dys y ≤ n ∧ 0 ≤ n ∧ n ≤ 3700000 := by
  have h1 := msum_lt h.m1 h.m2 h.d2
  rw [msum_year] at h1
  rw [dys_next y h.y1]
  have h2 := msum_nn (y : Int) (m - 1) 1
  have h3 := dys_bd (y := (y : Int)) (by have := h.y1; omega) (by have := h.y2; omega)
  have h4 := h.hn
  have h5 := h.d1
  have h6 := dys_bd (y := (y : Int) + 1) (by have := h.y1; omega) (by have := h.y2; omega)
  rw [dys_next y h.y1] at h6
  refine ⟨by omega, by omega, by omega, by omega⟩
def dtx (y m d : Nat) : List UInt8 := 64 :: (pad 4 y ++ 45 :: (pad 2 m ++ 45 :: pad 2 d))
theorem pad_len : ∀ k x, (pad k x).length = k := fun k => by
  induction k with
  | zero => intro x; rfl
  | succ k ih => intro x; unfold pad; rw [List.length_append, ih]; rfl
theorem s_l2 {n : Int} (h : DOk n y m d) : ∀ (q j : Nat), 4 - (j + (Lib.decDigits y).length) ≤ q → j + (Lib.decDigits y).length ≤ 4 → Ev (fun k => spec_l01Date.l2 k ((d : Int) - 1) (m : Int) (bs (List.replicate j 48 ++ Lib.decDigits y))) (bs (dtx y m d)) := by
  have hm2 := h.m2
  have hd2 := h.d2
  have hmb := mon_bd (y : Int) (m : Int)
  intro q
  induction q with
  | zero =>
    intro j h1 h2
    refine Ev.step ?_
    simp only [spec_l01Date.l2, bs_size, List.length_append, List.length_replicate, decide_eq_false (show ¬ (((j + (Lib.decDigits y).length : Nat) : Int) < 4) by omega), cond_false]
    have e : List.replicate j 48 ++ Lib.decDigits y = pad 4 y := by rw [pad_dec 4 y (by omega) (by have := h.y2; omega)]; congr 2; omega
    rw [e, show (⟨#[64]⟩ : ByteArray) = bs [64] from rfl, show (⟨#[45]⟩ : ByteArray) = bs [45] from rfl, catl (by simp [pad_len])]
    simp only [Option.bind_some]
    rw [catl (by simp [pad_len])]
    simp only [Option.bind_some]
    refine Ev.bind (stwo (by omega)) ?_
    rw [catl (by simp [pad_len])]
    simp only [Option.bind_some]
    rw [catl (by simp [pad_len])]
    simp only [Option.bind_some]
    rw [show IntKind.i64.wrap ((d : Int) - 1 + 1) = (d : Int) by rw [wI (by omega) (by omega)]; omega]
    refine Ev.bind (stwo (by omega)) ?_
    rw [catl (by simp [pad_len])]
    refine (Ev.ret _).eq ?_
    unfold dtx; simp
  | succ q ih =>
    intro j h1 h2
    by_cases h4 : j + (Lib.decDigits y).length < 4
    case neg => exact ih j (by omega) h2
    refine Ev.step ?_
    simp only [spec_l01Date.l2, bs_size, List.length_append, List.length_replicate, decide_eq_true (show (((j + (Lib.decDigits y).length : Nat) : Int) < 4) by omega), cond_true]
    rw [show (⟨#[48]⟩ : ByteArray) = bs [48] from rfl, catl (by simp; omega)]
    simp only [Option.bind_some]
    have := ih (j + 1) (by omega) (by omega)
    rw [List.replicate_succ] at this
    exact this
theorem s_l1 {n : Int} (h : DOk n y m d) : ∀ (q mm : Nat), m - mm ≤ q → 1 ≤ mm → mm ≤ m → Ev (fun k => spec_l01Date.l1 k (msum y mm (m - mm) + d - 1) (y : Int) (mm : Int)) (bs (dtx y m d)) := by
  have hm2 := h.m2
  intro q
  induction q with
  | zero =>
    intro mm h1 h2 h3
    obtain rfl : mm = m := by omega
    refine Ev.step ?_
    simp only [spec_l01Date.l1, month_s _ (y : Int) (m := (mm : Int)) (by omega) (by omega), Option.bind_some, Nat.sub_self, msum, Int.zero_add, decide_eq_false (show ¬ mon y mm ≤ (d : Int) - 1 by have := h.d2; omega), cond_false]
    refine Ev.bind (sdec (by have := h.y2; omega)) ?_
    exact s_l2 h _ 0 (Nat.le_refl _) (by have := dec_len (x := y) (k := 4) (by omega) (by have := h.y2; omega); omega)
  | succ q ih =>
    intro mm h1 h2 h3
    by_cases e : mm = m
    · exact ih mm (by omega) h2 h3
    have es : msum y mm (m - mm) = mon y mm + msum y (mm + 1) (m - (mm + 1)) := by
      rw [show m - mm = (m - (mm + 1)) + 1 by omega]; rfl
    have hn := msum_nn (y : Int) (m - (mm + 1)) (mm + 1)
    have hb := mon_bd (y : Int) (mm : Int)
    have hd := h.d1
    have hd2 := h.d2
    have hmb := mon_bd (y : Int) (m : Int)
    refine Ev.step ?_
    rw [es]
    simp only [spec_l01Date.l1, month_s _ (y : Int) (m := (mm : Int)) (by omega) (by omega), Option.bind_some, decide_eq_true (show mon y mm ≤ mon y mm + msum y (mm + 1) (m - (mm + 1)) + d - 1 by omega), cond_true, w1 (i := mm) (by omega)]
    rw [wI (by omega) (by omega), show mon y mm + msum y (mm + 1) (m - (mm + 1)) + (d : Int) - 1 - mon y mm = msum y (mm + 1) (m - (mm + 1)) + d - 1 by omega]
    exact ih (mm + 1) (by omega) (by omega) (by omega)
theorem s_l0 {n : Int} (h : DOk n y m d) : ∀ (q yy : Nat), y - yy ≤ q → 1 ≤ yy → yy ≤ y → Ev (fun k => spec_l01Date.l0 k n (yy : Int)) (bs (dtx y m d)) := by
  obtain ⟨b1, b2, b3, b4⟩ := h.lt
  have hy2 := h.y2
  intro q
  induction q with
  | zero =>
    intro yy h1 h2 h3
    obtain rfl : yy = y := by omega
    refine Ev.step ?_
    have ey : ((yy + 1 : Nat) : Int) = (yy : Int) + 1 := by omega
    simp only [spec_l01Date.l0, w1 (i := yy) (by omega), ey]
    simp only [days_s _ (y := (yy : Int) + 1) (by omega) (by omega), Option.bind_some, decide_eq_false (show ¬ dys ((yy : Int) + 1) ≤ n by omega), cond_false, days_s _ (y := (yy : Int)) (by omega) (by omega)]
    have db := dys_bd (y := (yy : Int)) (by omega) (by omega)
    rw [wI (by omega) (by omega)]
    have := s_l1 h _ 1 (Nat.le_refl _) (by omega) h.m1
    have hn := h.hn
    rw [show n - dys yy = msum yy 1 (m - 1) + d - 1 by omega]
    exact this
  | succ q ih =>
    intro yy h1 h2 h3
    by_cases e : yy = y
    · exact ih yy (by omega) h2 h3
    have hmono := dys_mono (a := (yy : Int) + 1) (b := (y : Int)) (by omega) (by omega)
    refine Ev.step ?_
    have ey : ((yy + 1 : Nat) : Int) = (yy : Int) + 1 := by omega
    have := ih (yy + 1) (by omega) (by omega) (by omega)
    rw [ey] at this
    simp only [spec_l01Date.l0, w1 (i := yy) (by omega), ey]
    simp only [days_s _ (y := (yy : Int) + 1) (by omega) (by omega), Option.bind_some, decide_eq_true (show dys ((yy : Int) + 1) ≤ n by omega), cond_true]
    exact this
theorem yq {n : Int} (h : DOk n y m d) : (n / 366).toNat + 1 ≤ y ∧ n / 366 = ((n / 366).toNat : Int) := by
  obtain ⟨b1, b2, b3, b4⟩ := h.lt
  have hd : dys ((y : Int) + 1) ≤ 366 * (y : Int) := by unfold dys; omega
  omega
theorem sdate {n : Int} (h : DOk n y m d) : Ev (fun k => spec_l01Date.f k n) (bs (dtx y m d)) := by
  obtain ⟨b1, b2, b3, b4⟩ := h.lt
  obtain ⟨q1, q2⟩ := yq h
  refine Ev.step ?_
  simp only [spec_l01Date.f, quo_ b3 (show (0 : Int) < 366 by omega) (by omega), Option.bind_some]
  have := s_l0 h _ ((n / 366).toNat + 1) (Nat.le_refl _) (by omega) q1
  rw [q2, wI (by omega) (by omega)]
  exact this
theorem inum1 (k : Nat) (yy : Int) (h1 : 1 ≤ yy) (h2 : yy ≤ 10001) : Ev (fun k => impl_dayNumber.f k yy 1 1) (dys yy) := by
  have db := dys_bd (y := yy) h1 h2
  refine dayNumber_f h1 h2 (Ev.step ?_)
  simp only [impl_dayNumber.l0, show decide ((1 : Int) < 1) = false from rfl, cond_false]
  rw [wI (n := dys yy + 1) (by omega) (by omega), wI (by omega) (by omega)]
  refine (Ev.ret _).eq ?_
  omega
theorem i_l1 {n : Int} (h : DOk n y m d) : ∀ (q mm : Nat), m - mm ≤ q → 1 ≤ mm → mm ≤ m → Ev (fun k => impl_dateText.l1 k (msum y mm (m - mm) + d - 1) (y : Int) (mm : Int)) (bs (dtx y m d)) := by
  have hm2 := h.m2
  have hmb := mon_bd (y : Int) (m : Int)
  have hd2 := h.d2
  intro q
  induction q with
  | zero =>
    intro mm h1 h2 h3
    obtain rfl : mm = m := by omega
    refine Ev.step ?_
    simp only [impl_dateText.l1, month_i _ (y : Int) (m := (mm : Int)) (by omega) (by omega), Option.bind_some, Nat.sub_self, msum, Int.zero_add, decide_eq_false (show ¬ mon y mm ≤ (d : Int) - 1 by omega), cond_false]
    refine Ev.bind (ipad (x := y) (w := 4) (by omega) (by omega) (by have := h.y2; omega)) ?_
    rw [show (⟨#[64]⟩ : ByteArray) = bs [64] from rfl, show (⟨#[45]⟩ : ByteArray) = bs [45] from rfl, catl (by simp [pad_len])]
    simp only [Option.bind_some]
    rw [catl (by simp [pad_len])]
    simp only [Option.bind_some]
    refine Ev.bind (ipad (x := mm) (w := 2) (by omega) (by omega) (by omega)) ?_
    rw [catl (by simp [pad_len])]
    simp only [Option.bind_some]
    rw [catl (by simp [pad_len])]
    simp only [Option.bind_some]
    rw [show IntKind.i64.wrap ((d : Int) - 1 + 1) = (d : Int) by rw [wI (by omega) (by omega)]; omega]
    refine Ev.bind (ipad (x := d) (w := 2) (by omega) (by omega) (by omega)) ?_
    rw [catl (by simp [pad_len])]
    refine (Ev.ret _).eq ?_
    unfold dtx; simp
  | succ q ih =>
    intro mm h1 h2 h3
    by_cases e : mm = m
    · exact ih mm (by omega) h2 h3
    have es : msum y mm (m - mm) = mon y mm + msum y (mm + 1) (m - (mm + 1)) := by
      rw [show m - mm = (m - (mm + 1)) + 1 by omega]; rfl
    have hn := msum_nn (y : Int) (m - (mm + 1)) (mm + 1)
    have hb := mon_bd (y : Int) (mm : Int)
    have hd := h.d1
    refine Ev.step ?_
    rw [es]
    simp only [impl_dateText.l1, month_i _ (y : Int) (m := (mm : Int)) (by omega) (by omega), Option.bind_some, decide_eq_true (show mon y mm ≤ mon y mm + msum y (mm + 1) (m - (mm + 1)) + d - 1 by omega), cond_true, w1 (i := mm) (by omega)]
    rw [wI (by omega) (by omega), show mon y mm + msum y (mm + 1) (m - (mm + 1)) + (d : Int) - 1 - mon y mm = msum y (mm + 1) (m - (mm + 1)) + d - 1 by omega]
    exact ih (mm + 1) (by omega) (by omega) (by omega)
theorem i_l0 {n : Int} (h : DOk n y m d) : ∀ (q yy : Nat), y - yy ≤ q → 1 ≤ yy → yy ≤ y → Ev (fun k => impl_dateText.l0 k n (yy : Int)) (bs (dtx y m d)) := by
  obtain ⟨b1, b2, b3, b4⟩ := h.lt
  have hy2 := h.y2
  intro q
  induction q with
  | zero =>
    intro yy h1 h2 h3
    obtain rfl : yy = y := by omega
    refine Ev.step ?_
    simp only [impl_dateText.l0, w1 (i := yy) (by omega)]
    rw [show ((yy + 1 : Nat) : Int) = (yy : Int) + 1 by omega]
    refine Ev.bind (inum1 0 _ (by omega) (by omega)) ?_
    simp only [decide_eq_false (show ¬ dys ((yy : Int) + 1) ≤ n by omega), cond_false]
    refine Ev.bind (inum1 0 _ (by omega) (by omega)) ?_
    have db := dys_bd (y := (yy : Int)) (by omega) (by omega)
    rw [wI (by omega) (by omega)]
    have := i_l1 h _ 1 (Nat.le_refl _) (by omega) h.m1
    have hn := h.hn
    rw [show n - dys yy = msum yy 1 (m - 1) + d - 1 by omega]
    exact this
  | succ q ih =>
    intro yy h1 h2 h3
    by_cases e : yy = y
    · exact ih yy (by omega) h2 h3
    have hmono := dys_mono (a := (yy : Int) + 1) (b := (y : Int)) (by omega) (by omega)
    refine Ev.step ?_
    have := ih (yy + 1) (by omega) (by omega) (by omega)
    simp only [impl_dateText.l0, w1 (i := yy) (by omega)]
    rw [show ((yy + 1 : Nat) : Int) = (yy : Int) + 1 by omega] at this ⊢
    refine Ev.bind (inum1 0 _ (by omega) (by omega)) ?_
    simp only [decide_eq_true (show dys ((yy : Int) + 1) ≤ n by omega), cond_true]
    exact this
theorem idate {n : Int} (h : DOk n y m d) : Ev (fun k => impl_dateText.f k n) (bs (dtx y m d)) := by
  obtain ⟨b1, b2, b3, b4⟩ := h.lt
  obtain ⟨q1, q2⟩ := yq h
  refine Ev.step ?_
  simp only [impl_dateText.f, quo_ b3 (show (0 : Int) < 366 by omega) (by omega), Option.bind_some]
  have := i_l0 h _ ((n / 366).toNat + 1) (Nat.le_refl _) (by omega) q1
  rw [q2, wI (by omega) (by omega)]
  exact this
theorem date_oks {n : Int} {l : List UInt8} (h : DateT n l) : Ev (fun k => spec_l01Date.f k n) (bs (64 :: l)) := by
  obtain ⟨y, m, d, h1, h2, h3, h4, h5, h6, h7, rfl⟩ := h
  exact sdate ⟨h1, h2, h3, h4, h5, h6, h7⟩
theorem date_oki {n : Int} {l : List UInt8} (h : DateT n l) : Ev (fun k => impl_dateText.f k n) (bs (64 :: l)) := by
  obtain ⟨y, m, d, h1, h2, h3, h4, h5, h6, h7, rfl⟩ := h
  exact idate ⟨h1, h2, h3, h4, h5, h6, h7⟩
end
end Go.Ab
namespace Go.Ab
open Go.Proofs
set_option linter.unusedVariables false
set_option linter.unusedSimpArgs false
theorem joinS_mem {sep a : List UInt8} : ∀ {L : List (List UInt8)}, a ∈ L → a.length ≤ (joinS sep L).length
  | [b], h => by simp at h; subst h; simp [joinS]
  | b :: c :: r, h => by
    simp only [joinS, List.length_append]
    rcases List.mem_cons.1 h with rfl | h
    · omega
    · have := joinS_mem (sep := sep) h; omega
theorem joinS_take {sep : List UInt8} : ∀ (L : List (List UInt8)) (i : Nat), (joinS sep (L.take i)).length ≤ (joinS sep L).length
  | [], i => by simp [joinS]
  | [b], 0 => by simp [joinS]
  | [b], i + 1 => by simp [joinS]
  | b :: c :: r, 0 => by simp [joinS]
  | b :: c :: r, 1 => by simp only [List.take_succ_cons, List.take_zero, joinS, List.length_append]; omega
  | b :: c :: r, i + 2 => by
    have := joinS_take (sep := sep) (c :: r) (i + 1)
    simp only [List.take_succ_cons, joinS, List.length_append] at this ⊢
    omega
theorem joinS_flat (sep : List UInt8) : ∀ L : List (List UInt8), L ≠ [] → joinS sep L ++ sep = L.flatMap (· ++ sep)
  | [], h => absurd rfl h
  | [a], _ => by simp [joinS]
  | a :: b :: r, _ => by
    have := joinS_flat sep (b :: r) (by simp)
    simp only [joinS, List.append_assoc] at this ⊢
    rw [this]; simp
/-- One more text behind the others. -/
theorem joinS_step {sep : List UInt8} {L : List (List UInt8)} {i : Nat} (h : i < L.length) : joinS sep (L.take (i + 1)) = (if i = 0 then L[i] else joinS sep (L.take i) ++ sep ++ L[i]) := by
  rw [List.take_succ_eq_append_getElem h, joinS_snoc]
  by_cases h0 : i = 0
  · subst h0; simp
  · rw [if_neg h0, joinS_flat sep (L.take i) (by intro e; have := congrArg List.length e; simp at this; rcases this with h | h; exact h0 h; subst h; simp at *)]
def sepK (k : Int) : UInt8 := if k = 10 then 32 else 44
def opnK (k : Int) : UInt8 := if k = 10 then 60 else if k = 7 then 123 else 91
def clsK (k : Int) : UInt8 := if k = 10 then 62 else if k = 7 then 125 else 93
/-- The reference's loop through the parts. -/
theorem sloop {x : S42} {P : List (List UInt8)} (hk : x.f0 = 6 ∨ x.f0 = 7 ∨ x.f0 = 10) (hP : P.length = x.f4.length) (hb : (joinS [sepK x.f0] P).length ≤ 2000)
  (hj : ∀ (i : Nat) (h : i < P.length) (o : List UInt8) (R : ByteArray), o.length ≤ 5000 → Ev (fun k => spec_l01Show.l0 k (bs (o ++ P[i])) ((i + 1 : Nat) : Int) x) R → Ev (fun k => spec_l01Show.j0 k (bs o) (i : Int) x) R) :
  ∀ (n i : Nat), P.length - i ≤ n → Ev (fun k => spec_l01Show.l0 k (bs (joinS [sepK x.f0] (P.take i))) (i : Int) x) (bs (opnK x.f0 :: (joinS [sepK x.f0] P ++ [clsK x.f0]))) := by
  have fin : ∀ i : Nat, ¬ i < P.length → Ev (fun k => spec_l01Show.l0 k (bs (joinS [sepK x.f0] (P.take i))) (i : Int) x) (bs (opnK x.f0 :: (joinS [sepK x.f0] P ++ [clsK x.f0]))) := fun i h => by
    refine Ev.step ?_
    rw [List.take_of_length_le (by omega)]
    simp only [spec_l01Show.l0, decide_eq_false (show ¬ ((i : Int) < (x.f4.length : Int)) by omega), cond_false]
    rcases hk with e | e | e
    · simp only [e, show ((6 : Int) == 10) = false from rfl, show ((6 : Int) == 7) = false from rfl, cond_false, show (⟨#[91]⟩ : ByteArray) = bs [91] from rfl, show (⟨#[93]⟩ : ByteArray) = bs [93] from rfl]
      rw [e] at hb
      rw [catl (by simp; omega)]
      simp only [Option.bind_some]
      rw [catl (by simp; omega)]
      exact (Ev.ret _).eq rfl
    · simp only [e, show ((7 : Int) == 10) = false from rfl, show ((7 : Int) == 7) = true from rfl, cond_false, cond_true, show (⟨#[123]⟩ : ByteArray) = bs [123] from rfl, show (⟨#[125]⟩ : ByteArray) = bs [125] from rfl]
      rw [e] at hb
      rw [catl (by simp; omega)]
      simp only [Option.bind_some]
      rw [catl (by simp; omega)]
      exact (Ev.ret _).eq rfl
    · simp only [e, show ((10 : Int) == 10) = true from rfl, cond_true, show (⟨#[60]⟩ : ByteArray) = bs [60] from rfl, show (⟨#[62]⟩ : ByteArray) = bs [62] from rfl]
      rw [e] at hb
      rw [catl (by simp; omega)]
      simp only [Option.bind_some]
      rw [catl (by simp; omega)]
      exact (Ev.ret _).eq rfl
  intro n
  induction n with
  | zero => intro i h; exact fin i (by omega)
  | succ n ih =>
    intro i h
    by_cases hi : i < P.length
    case neg => exact fin i hi
    have next := ih (i + 1) (by omega)
    rw [joinS_step hi] at next
    have hl : (joinS [sepK x.f0] (P.take i)).length ≤ 2000 := Nat.le_trans (joinS_take (sep := [sepK x.f0]) P i) hb
    refine Ev.step ?_
    simp only [spec_l01Show.l0, decide_eq_true (show ((i : Int) < (x.f4.length : Int)) by omega), cond_true]
    by_cases h0 : i = 0
    · rw [if_pos h0] at next
      simp only [decide_eq_false (show ¬ (0 : Int) < (i : Int) by omega), cond_false]
      refine hj i hi _ _ (by omega) ?_
      subst h0
      simpa [joinS] using next
    · rw [if_neg h0] at next
      simp only [decide_eq_true (show (0 : Int) < (i : Int) by omega), cond_true]
      have cs : ∀ (c : UInt8), cat (bs (joinS [sepK x.f0] (P.take i))) (bs [c]) = some (bs (joinS [sepK x.f0] (P.take i) ++ [c])) := fun c => catl (by simp; omega)
      rcases hk with e | e | e
      · simp only [e, show ((6 : Int) == 10) = false from rfl, cond_false, show (⟨#[44]⟩ : ByteArray) = bs [44] from rfl] at cs next hl ⊢
        rw [cs]
        exact hj i hi _ _ (by simp; omega) next
      · simp only [e, show ((7 : Int) == 10) = false from rfl, cond_false, show (⟨#[44]⟩ : ByteArray) = bs [44] from rfl] at cs next hl ⊢
        rw [cs]
        exact hj i hi _ _ (by simp; omega) next
      · simp only [e, show ((10 : Int) == 10) = true from rfl, cond_true, show (⟨#[32]⟩ : ByteArray) = bs [32] from rfl] at cs next hl ⊢
        rw [cs]
        exact hj i hi _ _ (by simp; omega) next
/-- The reference shows it. -/
def SShw (x : S42) (l : List UInt8) : Prop := Ev (fun k => spec_l01Show.f k x) (bs l)
/-- The program shows it, behind what is there. -/
def IShw (x : S42) (l : List UInt8) : Prop := ∀ b : List UInt8, b.length + l.length ≤ 80000000 → Ev (fun k => impl_val_write.f k (toI x) (bs b)) (bs (b ++ l))
section
variable {items : List S42} {ls : List (List UInt8)}
theorem part_le {sep l : List UInt8} {L : List (List UInt8)} (h : l ∈ L) (hb : (joinS sep L).length ≤ 2000) : l.length ≤ 2000 := by
  have := joinS_mem (sep := sep) h; omega
theorem shw_plain {k : Int} (hk : k = 6 ∨ k = 10) (hl : ls.length = items.length) (h : ∀ (i : Nat) (x : S42) (l : List UInt8), items[i]? = some x → ls[i]? = some l → l.length ≤ 2000 → SShw x l) (hb : (joinS [sepK k] ls).length ≤ 2000) : Ev (fun q => spec_l01Show.l0 q (⟨#[]⟩ : ByteArray) 0 ⟨k, 0, 0, ⟨#[]⟩, items, []⟩) (bs (opnK k :: (joinS [sepK k] ls ++ [clsK k]))) := by
  refine sloop (x := ⟨k, 0, 0, ⟨#[]⟩, items, []⟩) (P := ls) (by rcases hk with e | e <;> simp [e]) hl hb (fun i hi o R ho g => ?_) _ 0 (Nat.le_refl _)
  have hi' : i < items.length := by omega
  have hll := part_le (List.getElem_mem hi) hb
  have g1 : SShw _ _ := h i _ _ (List.getElem?_eq_getElem hi') (List.getElem?_eq_getElem hi) hll
  have hi2 : items.length ≤ 100000000 ∨ 100000000 < items.length := by omega
  refine Ev.step ?_
  simp only [spec_l01Show.j0, show (k == 7) = false by rcases hk with e | e <;> subst e <;> rfl, cond_false]
  refine Ev.step ?_
  simp only [spec_l01Show.j1, ixg hi', Option.bind_some]
  unfold SShw at g1
  refine Ev.bind g1 ?_
  rw [catl (by omega)]
  simp only [Option.bind_some]
  have hlen : items.length ≤ 2000 + 1 := by
    have hj : ∀ L : List (List UInt8), L.length ≤ (joinS [sepK k] L).length + 1 := fun L => by
      induction L with
      | nil => simp
      | cons a r ih =>
        cases r with
        | nil => simp
        | cons b r => simp only [joinS, List.length_append, List.length_cons, List.length_nil] at ih ⊢; omega
    have := hj ls
    omega
  rw [show IntKind.i64.wrap ((i : Int) + 1) = ((i + 1 : Nat) : Int) by exact wup hi' (by omega)]
  exact g
theorem joinS_count {sep : UInt8} : ∀ L : List (List UInt8), L.length ≤ (joinS [sep] L).length + 1 := fun L => by
  induction L with
  | nil => simp
  | cons a r ih =>
    cases r with
    | nil => simp
    | cons b r => simp only [joinS, List.length_append, List.length_cons, List.length_nil] at ih ⊢; omega
theorem shw_map {names : List ByteArray} (hl : ls.length = items.length) (hn : names.length = items.length) (h : ∀ (i : Nat) (x : S42) (l : List UInt8), items[i]? = some x → ls[i]? = some l → l.length ≤ 2000 → SShw x l) (hb : (joinS [44] (List.zipWith (fun (n : ByteArray) l => n.data.toList ++ 58 :: l) names ls)).length ≤ 2000) : Ev (fun q => spec_l01Show.l0 q (⟨#[]⟩ : ByteArray) 0 ⟨7, 0, 0, ⟨#[]⟩, items, names⟩) (bs (123 :: (joinS [44] (List.zipWith (fun (n : ByteArray) l => n.data.toList ++ 58 :: l) names ls) ++ [125]))) := by
  have hzl : (List.zipWith (fun (n : ByteArray) l => n.data.toList ++ 58 :: l) names ls).length = items.length := by rw [List.length_zipWith]; omega
  have hcnt := joinS_count (sep := 44) (List.zipWith (fun (n : ByteArray) l => n.data.toList ++ 58 :: l) names ls)
  refine sloop (x := ⟨7, 0, 0, ⟨#[]⟩, items, names⟩) (P := List.zipWith (fun (n : ByteArray) l => n.data.toList ++ 58 :: l) names ls) (by simp) hzl hb (fun i hi o R ho g => ?_) _ 0 (Nat.le_refl _)
  have hi' : i < items.length := by omega
  have hin : i < names.length := by omega
  have hil : i < ls.length := by omega
  have hll := part_le (List.getElem_mem hi) hb
  rw [List.getElem_zipWith] at hll g
  simp only [List.length_append, List.length_cons] at hll
  have g1 : SShw _ _ := h i _ _ (List.getElem?_eq_getElem hi') (List.getElem?_eq_getElem hil) (by omega)
  have hnm : names[i] = bs names[i].data.toList := bs_of _
  have hsz := size_list names[i]
  refine Ev.step ?_
  simp only [spec_l01Show.j0, show ((7 : Int) == 7) = true from rfl, cond_true, ixg hin, Option.bind_some]
  rw [hnm, catl (by omega)]
  simp only [Option.bind_some, show (⟨#[58]⟩ : ByteArray) = bs [58] from rfl]
  rw [catl (by simp; omega)]
  simp only [Option.bind_some]
  refine Ev.step ?_
  simp only [spec_l01Show.j1, ixg hi', Option.bind_some]
  unfold SShw at g1
  refine Ev.bind g1 ?_
  rw [catl (by simp; omega)]
  simp only [Option.bind_some]
  rw [show IntKind.i64.wrap ((i : Int) + 1) = ((i + 1 : Nat) : Int) by exact wup hi' (by omega)]
  refine cast (congrArg (fun z => Ev (fun k => spec_l01Show.l0 k (bs z) ((i + 1 : Nat) : Int) ⟨7, 0, 0, ⟨#[]⟩, items, names⟩) R) ?_) g
  simp
/-! The program's loops -/
theorem w_l0 {X : S46} (hX : X.f5 = items.map toI) (hl : ls.length = items.length) (h : ∀ (i : Nat) (x : S42) (l : List UInt8), items[i]? = some x → ls[i]? = some l → l.length ≤ 2000 → IShw x l) (hb : (joinS [44] ls).length ≤ 3000000) (hp : ∀ l ∈ ls, l.length ≤ 2000) (hi0 : items.length ≤ 2000000)   :
   ∀ (n i : Nat), ls.length - i ≤ n → i ≤ ls.length → ∀ B : List UInt8, B.length + (joinS [44] ls).length + 1 ≤ 80000000 → Ev (fun k => impl_val_write.l0 k X (i : Int) (bs (B ++ joinS [44] (ls.take i)))) (bs (B ++ (joinS [44] ls ++ [93]))) := by
  have fin : ∀ i : Nat, ¬ i < ls.length → ∀ B : List UInt8, B.length + (joinS [44] ls).length + 1 ≤ 80000000 → Ev (fun k => impl_val_write.l0 k X (i : Int) (bs (B ++ joinS [44] (ls.take i)))) (bs (B ++ (joinS [44] ls ++ [93]))) := fun i h B hB => by
    refine Ev.step ?_
    rw [List.take_of_length_le (by omega)]
    simp only [impl_val_write.l0, hX, List.length_map, decide_eq_false (show ¬ ((i : Int) < (items.length : Int)) by omega), cond_false]
    have eb : ∀ k, strings_Builder_WriteByte.f k 93 (bs (B ++ joinS [44] ls)) = some (true, bs (B ++ joinS [44] ls ++ [93])) := fun k => bwbl k 93 rfl (by simp; omega)
    simp only [eb, Option.bind_some, List.append_assoc]
    exact Ev.ret _
  intro n
  induction n with
  | zero => intro i h hle B hB; exact fin i (by omega) B hB
  | succ n ih =>
    intro i h' hle B hB
    by_cases hi : i < ls.length
    case neg => exact fin i hi B hB
    have hi' : i < items.length := by omega
    have hmap : i < (items.map toI).length := by simpa using hi'
    have hll := hp _ (List.getElem_mem hi)
    have g2 : IShw _ _ := h i _ _ (List.getElem?_eq_getElem hi') (List.getElem?_eq_getElem hi) hll
    have next := ih (i + 1) (by omega) (by omega) B hB
    rw [joinS_step hi] at next
    have hlt := joinS_take (sep := [44]) ls i
    have hlt1 := joinS_take (sep := [44]) ls (i + 1)
    rw [joinS_step hi] at hlt1
    refine Ev.step ?_
    simp only [impl_val_write.l0, hX, List.length_map, decide_eq_true (show ((i : Int) < (items.length : Int)) by omega), cond_true, ixg hmap, List.getElem_map, Option.bind_some, wup hi' hi0]
    by_cases h0 : i = 0
    · rw [if_pos h0] at next hlt1
      simp only [decide_eq_false (show ¬ (0 : Int) < (i : Int) by omega), cond_false]
      subst h0
      simp only [List.take_zero, joinS, List.append_nil]
      exact Ev.bind (g2 B (by omega)) next
    · rw [if_neg h0] at next hlt1
      simp only [List.length_append, List.length_cons, List.length_nil] at hlt1
      simp only [decide_eq_true (show (0 : Int) < (i : Int) by omega), cond_true]
      have eb : ∀ k, strings_Builder_WriteByte.f k 44 (bs (B ++ joinS [44] (ls.take i))) = some (true, bs (B ++ joinS [44] (ls.take i) ++ [44])) := fun k => bwbl k 44 rfl (by simp; omega)
      simp only [eb, Option.bind_some]
      refine Ev.bind (g2 _ (by simp; omega)) ?_
      simpa [List.append_assoc] using next
theorem w_l2 {X : S46} (hX : X.f5 = items.map toI) (hl : ls.length = items.length) (h : ∀ (i : Nat) (x : S42) (l : List UInt8), items[i]? = some x → ls[i]? = some l → l.length ≤ 2000 → IShw x l) (hb : (joinS [32] ls).length ≤ 3000000) (hp : ∀ l ∈ ls, l.length ≤ 2000) (hi0 : items.length ≤ 2000000)   :
   ∀ (n i : Nat), ls.length - i ≤ n → i ≤ ls.length → ∀ B : List UInt8, B.length + (joinS [32] ls).length + 1 ≤ 80000000 → Ev (fun k => impl_val_write.l2 k X (i : Int) (bs (B ++ joinS [32] (ls.take i)))) (bs (B ++ (joinS [32] ls ++ [62]))) := by
  have fin : ∀ i : Nat, ¬ i < ls.length → ∀ B : List UInt8, B.length + (joinS [32] ls).length + 1 ≤ 80000000 → Ev (fun k => impl_val_write.l2 k X (i : Int) (bs (B ++ joinS [32] (ls.take i)))) (bs (B ++ (joinS [32] ls ++ [62]))) := fun i h B hB => by
    refine Ev.step ?_
    rw [List.take_of_length_le (by omega)]
    simp only [impl_val_write.l2, hX, List.length_map, decide_eq_false (show ¬ ((i : Int) < (items.length : Int)) by omega), cond_false]
    have eb : ∀ k, strings_Builder_WriteByte.f k 62 (bs (B ++ joinS [32] ls)) = some (true, bs (B ++ joinS [32] ls ++ [62])) := fun k => bwbl k 62 rfl (by simp; omega)
    simp only [eb, Option.bind_some, List.append_assoc]
    exact Ev.ret _
  intro n
  induction n with
  | zero => intro i h hle B hB; exact fin i (by omega) B hB
  | succ n ih =>
    intro i h' hle B hB
    by_cases hi : i < ls.length
    case neg => exact fin i hi B hB
    have hi' : i < items.length := by omega
    have hmap : i < (items.map toI).length := by simpa using hi'
    have hll := hp _ (List.getElem_mem hi)
    have g2 : IShw _ _ := h i _ _ (List.getElem?_eq_getElem hi') (List.getElem?_eq_getElem hi) hll
    have next := ih (i + 1) (by omega) (by omega) B hB
    rw [joinS_step hi] at next
    have hlt := joinS_take (sep := [32]) ls i
    have hlt1 := joinS_take (sep := [32]) ls (i + 1)
    rw [joinS_step hi] at hlt1
    refine Ev.step ?_
    simp only [impl_val_write.l2, hX, List.length_map, decide_eq_true (show ((i : Int) < (items.length : Int)) by omega), cond_true, ixg hmap, List.getElem_map, Option.bind_some, wup hi' hi0]
    by_cases h0 : i = 0
    · rw [if_pos h0] at next hlt1
      simp only [decide_eq_false (show ¬ (0 : Int) < (i : Int) by omega), cond_false]
      subst h0
      simp only [List.take_zero, joinS, List.append_nil]
      exact Ev.bind (g2 B (by omega)) next
    · rw [if_neg h0] at next hlt1
      simp only [List.length_append, List.length_cons, List.length_nil] at hlt1
      simp only [decide_eq_true (show (0 : Int) < (i : Int) by omega), cond_true]
      have eb : ∀ k, strings_Builder_WriteByte.f k 32 (bs (B ++ joinS [32] (ls.take i))) = some (true, bs (B ++ joinS [32] (ls.take i) ++ [32])) := fun k => bwbl k 32 rfl (by simp; omega)
      simp only [eb, Option.bind_some]
      refine Ev.bind (g2 _ (by simp; omega)) ?_
      simpa [List.append_assoc] using next
theorem w_l1 {X : S46} {names : List ByteArray} (hX : X.f5 = items.map toI) (hXn : X.f4 = names) (hl : ls.length = items.length) (hn : names.length = items.length) (h : ∀ (i : Nat) (x : S42) (l : List UInt8), items[i]? = some x → ls[i]? = some l → l.length ≤ 2000 → IShw x l) (hb : (joinS [44] (List.zipWith (fun (n : ByteArray) l => n.data.toList ++ 58 :: l) names ls)).length ≤ 3000000) (hp : ∀ l ∈ ls, l.length ≤ 2000) (hi0 : items.length ≤ 2000000)   :
   ∀ (n i : Nat), ls.length - i ≤ n → i ≤ ls.length → ∀ B : List UInt8, B.length + (joinS [44] (List.zipWith (fun (n : ByteArray) l => n.data.toList ++ 58 :: l) names ls)).length + 1 ≤ 80000000 → Ev (fun k => impl_val_write.l1 k X (i : Int) (bs (B ++ joinS [44] ((List.zipWith (fun (n : ByteArray) l => n.data.toList ++ 58 :: l) names ls).take i)))) (bs (B ++ (joinS [44] (List.zipWith (fun (n : ByteArray) l => n.data.toList ++ 58 :: l) names ls) ++ [125]))) := by
  have hzl : (List.zipWith (fun (n : ByteArray) l => n.data.toList ++ 58 :: l) names ls).length = items.length := by rw [List.length_zipWith]; omega
  have fin : ∀ i : Nat, ¬ i < ls.length → ∀ B : List UInt8, B.length + (joinS [44] (List.zipWith (fun (n : ByteArray) l => n.data.toList ++ 58 :: l) names ls)).length + 1 ≤ 80000000 → Ev (fun k => impl_val_write.l1 k X (i : Int) (bs (B ++ joinS [44] ((List.zipWith (fun (n : ByteArray) l => n.data.toList ++ 58 :: l) names ls).take i)))) (bs (B ++ (joinS [44] (List.zipWith (fun (n : ByteArray) l => n.data.toList ++ 58 :: l) names ls) ++ [125]))) := fun i h B hB => by
    refine Ev.step ?_
    rw [List.take_of_length_le (by omega)]
    simp only [impl_val_write.l1, hX, List.length_map, decide_eq_false (show ¬ ((i : Int) < (items.length : Int)) by omega), cond_false]
    have eb : ∀ k, strings_Builder_WriteByte.f k 125 (bs (B ++ joinS [44] (List.zipWith (fun (n : ByteArray) l => n.data.toList ++ 58 :: l) names ls))) = some (true, bs (B ++ joinS [44] (List.zipWith (fun (n : ByteArray) l => n.data.toList ++ 58 :: l) names ls) ++ [125])) := fun k => bwbl k 125 rfl (by simp; omega)
    simp only [eb, Option.bind_some, List.append_assoc]
    exact Ev.ret _
  intro n
  induction n with
  | zero => intro i h hle B hB; exact fin i (by omega) B hB
  | succ n ih =>
    intro i h' hle B hB
    by_cases hi : i < ls.length
    case neg => exact fin i hi B hB
    have hi' : i < items.length := by omega
    have hin : i < X.f4.length := by rw [hXn]; omega
    have hin2 : i < names.length := by omega
    have hiz : i < (List.zipWith (fun (n : ByteArray) l => n.data.toList ++ 58 :: l) names ls).length := by omega
    have hmap : i < (items.map toI).length := by simpa using hi'
    have hll := hp _ (List.getElem_mem hi)
    have next := ih (i + 1) (by omega) (by omega) B hB
    rw [joinS_step hiz] at next
    rw [List.getElem_zipWith] at next
    have g2 : IShw _ _ := h i _ _ (List.getElem?_eq_getElem hi') (List.getElem?_eq_getElem hi) hll
    have hlt := joinS_take (sep := [44]) (List.zipWith (fun (n : ByteArray) l => n.data.toList ++ 58 :: l) names ls) i
    have hlt1 := joinS_take (sep := [44]) (List.zipWith (fun (n : ByteArray) l => n.data.toList ++ 58 :: l) names ls) (i + 1)
    rw [joinS_step hiz] at hlt1
    have hsz := size_list names[i]
    have hj0 : ∀ (o : List UInt8), o.length + names[i].data.toList.length + 1 + ls[i].length ≤ 80000000 → Ev (fun k => impl_val_write.l1 k X ((i + 1 : Nat) : Int) (bs (o ++ (names[i].data.toList ++ 58 :: ls[i])))) (bs (B ++ (joinS [44] (List.zipWith (fun (n : ByteArray) l => n.data.toList ++ 58 :: l) names ls) ++ [125]))) → Ev (fun k => impl_val_write.j0 k (i : Int) X (bs o) (toI items[i])) (bs (B ++ (joinS [44] (List.zipWith (fun (n : ByteArray) l => n.data.toList ++ 58 :: l) names ls) ++ [125]))) := fun o hoo g => by
      refine Ev.step ?_
      have e1 : ix X.f4 (i : Int) = some names[i] := by subst hXn; exact ixg hin
      have hnm : names[i] = bs names[i].data.toList := bs_of _
      simp only [impl_val_write.j0, e1, Option.bind_some, wup hi' hi0, show (⟨#[58]⟩ : ByteArray) = bs [58] from rfl]
      rw [hnm, catl (by simp; omega)]
      simp only [Option.bind_some]
      have ew : ∀ k, strings_Builder_WriteString.f k (bs (names[i].data.toList ++ [58])) (bs o) = some (((names[i].data.toList ++ [58]).length : Int), true, bs (o ++ (names[i].data.toList ++ [58]))) := fun k => bwsl k (by simp; omega)
      simp only [ew, Option.bind_some]
      refine Ev.bind (g2 _ (by simp; omega)) ?_
      refine cast (congrArg (fun z => Ev (fun k => impl_val_write.l1 k X ((i + 1 : Nat) : Int) (bs z)) (bs (B ++ (joinS [44] (List.zipWith (fun (n : ByteArray) l => n.data.toList ++ 58 :: l) names ls) ++ [125])))) ?_) g
      simp
    refine Ev.step ?_
    simp only [impl_val_write.l1, hX, List.length_map, decide_eq_true (show ((i : Int) < (items.length : Int)) by omega), cond_true, ixg hmap, List.getElem_map, Option.bind_some]
    by_cases h0 : i = 0
    · rw [if_pos h0] at next hlt1
      rw [List.getElem_zipWith] at hlt1
      simp only [List.length_append, List.length_cons] at hlt1
      simp only [decide_eq_false (show ¬ (0 : Int) < (i : Int) by omega), cond_false]
      refine hj0 _ (by subst h0; simp [joinS]; omega) ?_
      subst h0
      simpa [joinS] using next
    · rw [if_neg h0] at next hlt1
      rw [List.getElem_zipWith] at hlt1
      simp only [List.length_append, List.length_cons, List.length_nil] at hlt1
      simp only [decide_eq_true (show (0 : Int) < (i : Int) by omega), cond_true]
      have eb : ∀ k, strings_Builder_WriteByte.f k 44 (bs (B ++ joinS [44] ((List.zipWith (fun (n : ByteArray) l => n.data.toList ++ 58 :: l) names ls).take i))) = some (true, bs (B ++ joinS [44] ((List.zipWith (fun (n : ByteArray) l => n.data.toList ++ 58 :: l) names ls).take i) ++ [44])) := fun k => bwbl k 44 rfl (by simp; omega)
      simp only [eb, Option.bind_some]
      refine hj0 _ (by simp; omega) ?_
      simpa [List.append_assoc] using next
end
end Go.Ab
namespace Go.Ab
open Go.Proofs
set_option linter.unusedVariables false
set_option linter.unusedSimpArgs false
theorem ishw_flat {k a b : Int} {s : ByteArray} {l : List UInt8} {w : Nat → Option ByteArray} (hw : Ev w (bs l)) (hl : l.length ≤ 2000)
  (he : ∀ q c, impl_val_write.f (q + 1) ⟨k, a, b, s, [], []⟩ c = ((w q).bind fun v => (strings_Builder_WriteString.f q v c).bind fun u => some u.2.2)) : IShw ⟨k, a, b, s, [], []⟩ l := by
  intro b hb
  refine Ev.step ?_
  rw [toI_flat]
  simp only [he]
  refine Ev.bind hw ?_
  simp only [fun k => bwsl k (s := b) (t := l) (by omega), Option.bind_some]
  exact Ev.ret _
theorem txt_sshw {x : S42} {l : List UInt8} (h : Txt x l) : l.length ≤ 2000 → SShw x l := by
  induction h with
  | null =>
    intro hl
    refine Ev.step ?_
    simp only [spec_l01Show.f, show ((0 : Int) == 0) = true from rfl, cond_true]; exact Ev.ret _
  | tru =>
    intro hl
    refine Ev.step ?_
    simp only [spec_l01Show.f, show ((1 : Int) == 0) = false from rfl, show ((1 : Int) == 1) = true from rfl, cond_true, cond_false]; exact Ev.ret _
  | fls =>
    intro hl
    refine Ev.step ?_
    simp only [spec_l01Show.f, show ((1 : Int) == 0) = false from rfl, show ((1 : Int) == 1) = true from rfl, show ((0 : Int) == 1) = false from rfl, cond_true, cond_false]; exact Ev.ret _
  | num n hn =>
    intro hl
    refine Ev.step ?_
    simp only [spec_l01Show.f, show ((2 : Int) == 0) = false from rfl, show ((2 : Int) == 1) = false from rfl, show ((2 : Int) == 2) = true from rfl, cond_true, cond_false]
    exact Ev.bind (dec_ hn.1 hn.2) (Ev.ret _)
  | text s hs =>
    intro hl
    have hs := esc_len s
    simp only [List.length_cons, List.length_append, List.length_nil] at hl
    have hsz : (bs s).size ≤ 2000 := by rw [bs_size]; omega
    have q1 := squote hsz
    rw [quoted_esc] at q1
    refine Ev.step ?_
    simp only [spec_l01Show.f, show ((3 : Int) == 0) = false from rfl, show ((3 : Int) == 1) = false from rfl, show ((3 : Int) == 2) = false from rfl, show ((3 : Int) == 3) = true from rfl, cond_true, cond_false]
    exact Ev.bind q1 (Ev.ret _)
  | date n l hd =>
    intro hl
    have d1 := date_oks hd
    refine Ev.step ?_
    simp only [spec_l01Show.f, show ((4 : Int) == 0) = false from rfl, show ((4 : Int) == 1) = false from rfl, show ((4 : Int) == 2) = false from rfl, show ((4 : Int) == 3) = false from rfl, show ((4 : Int) == 4) = true from rfl, cond_true, cond_false]
    exact Ev.bind d1 (Ev.ret _)
  | point a b ha hb =>
    intro hl
    simp only [List.length_cons, List.length_append, List.length_nil] at hl
    have da := dec_ (n := a) (by omega) (by omega)
    have db := dec_ (n := b) (by omega) (by omega)
    have e : 40 :: (Lib.itoa a ++ 32 :: (Lib.itoa b ++ [41])) = ((([40] ++ Lib.itoa a) ++ [32]) ++ Lib.itoa b) ++ [41] := by simp
    rw [e]
    refine Ev.step ?_
    simp only [spec_l01Show.f, show ((5 : Int) == 0) = false from rfl, show ((5 : Int) == 1) = false from rfl, show ((5 : Int) == 2) = false from rfl, show ((5 : Int) == 3) = false from rfl, show ((5 : Int) == 4) = false from rfl, show ((5 : Int) == 5) = true from rfl, cond_true, cond_false]
    refine Ev.bind da ?_
    rw [show (⟨#[40]⟩ : ByteArray) = bs [40] from rfl, show (⟨#[32]⟩ : ByteArray) = bs [32] from rfl, show (⟨#[41]⟩ : ByteArray) = bs [41] from rfl, catl (by simp; omega)]
    simp only [Option.bind_some]
    rw [catl (by simp; omega)]
    simp only [Option.bind_some]
    refine Ev.bind db ?_
    rw [catl (by simp; omega)]
    simp only [Option.bind_some]
    rw [catl (by simp; omega)]
    exact Ev.ret _
  | thing kind w n hw hn =>
    intro hl
    simp only [List.length_cons] at hl
    have dn := dec_ (n := n) (by omega) (by omega)
    rcases hw with ⟨rfl, rfl⟩ | ⟨rfl, rfl⟩
    · refine Ev.step ?_
      simp only [spec_l01Show.f, show ((8 : Int) == 0) = false from rfl, show ((8 : Int) == 1) = false from rfl, show ((8 : Int) == 2) = false from rfl, show ((8 : Int) == 3) = false from rfl, show ((8 : Int) == 4) = false from rfl, show ((8 : Int) == 5) = false from rfl, show ((8 : Int) == 8) = true from rfl, cond_true, cond_false]
      refine Ev.bind dn ?_
      rw [show (⟨#[110]⟩ : ByteArray) = bs [110] from rfl, catl (by simp; omega)]
      exact Ev.ret _
    · refine Ev.step ?_
      simp only [spec_l01Show.f, show ((9 : Int) == 0) = false from rfl, show ((9 : Int) == 1) = false from rfl, show ((9 : Int) == 2) = false from rfl, show ((9 : Int) == 3) = false from rfl, show ((9 : Int) == 4) = false from rfl, show ((9 : Int) == 5) = false from rfl, show ((9 : Int) == 8) = false from rfl, show ((9 : Int) == 9) = true from rfl, cond_true, cond_false]
      refine Ev.bind dn ?_
      rw [show (⟨#[101]⟩ : ByteArray) = bs [101] from rfl, catl (by simp; omega)]
      exact Ev.ret _
  | list items ls hln h ih =>
    intro hl
    simp only [List.length_cons, List.length_append, List.length_nil] at hl
    have hpl : ∀ l ∈ ls, l.length ≤ 2000 := fun l hm => part_le (sep := [44]) hm (by omega)
    have hcnt := joinS_count (sep := 44) ls
    refine Ev.step ?_
    simp only [spec_l01Show.f, show ((6 : Int) == 0) = false from rfl, show ((6 : Int) == 1) = false from rfl, show ((6 : Int) == 2) = false from rfl, show ((6 : Int) == 3) = false from rfl, show ((6 : Int) == 4) = false from rfl, show ((6 : Int) == 5) = false from rfl, show ((6 : Int) == 8) = false from rfl, show ((6 : Int) == 9) = false from rfl, cond_false]
    exact shw_plain (k := 6) (.inl rfl) hln ih (by show (joinS [44] ls).length ≤ 2000; omega)
  | map items names ls hln hnn hr hk h ih =>
    intro hl
    simp only [List.length_cons, List.length_append, List.length_nil] at hl
    have hz : (List.zipWith (fun (n : ByteArray) l => n.data.toList ++ 58 :: l) names ls).length = ls.length := by rw [List.length_zipWith]; omega
    have hcnt := joinS_count (sep := 44) (List.zipWith (fun (n : ByteArray) l => n.data.toList ++ 58 :: l) names ls)
    have hpl : ∀ l ∈ ls, l.length ≤ 2000 := fun l hm => by
      obtain ⟨i, hi, rfl⟩ := List.getElem_of_mem hm
      have := part_le (sep := [44]) (List.getElem_mem (show i < (List.zipWith (fun (n : ByteArray) l => n.data.toList ++ 58 :: l) names ls).length by omega)) (by omega)
      rw [List.getElem_zipWith] at this
      simp only [List.length_append, List.length_cons] at this
      omega
    refine Ev.step ?_
    simp only [spec_l01Show.f, show ((7 : Int) == 0) = false from rfl, show ((7 : Int) == 1) = false from rfl, show ((7 : Int) == 2) = false from rfl, show ((7 : Int) == 3) = false from rfl, show ((7 : Int) == 4) = false from rfl, show ((7 : Int) == 5) = false from rfl, show ((7 : Int) == 8) = false from rfl, show ((7 : Int) == 9) = false from rfl, cond_false]
    exact shw_map hln hnn ih (by omega)
  | path items ls hln h hk ih =>
    intro hl
    simp only [List.length_cons, List.length_append, List.length_nil] at hl
    have hpl : ∀ l ∈ ls, l.length ≤ 2000 := fun l hm => part_le (sep := [32]) hm (by omega)
    have hcnt := joinS_count (sep := 32) ls
    refine Ev.step ?_
    simp only [spec_l01Show.f, show ((10 : Int) == 0) = false from rfl, show ((10 : Int) == 1) = false from rfl, show ((10 : Int) == 2) = false from rfl, show ((10 : Int) == 3) = false from rfl, show ((10 : Int) == 4) = false from rfl, show ((10 : Int) == 5) = false from rfl, show ((10 : Int) == 8) = false from rfl, show ((10 : Int) == 9) = false from rfl, cond_false]
    exact shw_plain (k := 10) (.inr rfl) hln ih (by show (joinS [32] ls).length ≤ 2000; omega)
theorem txt_ishw {x : S42} {l : List UInt8} (h : Txt x l) : l.length ≤ 2000 → IShw x l := by
  induction h with
  | null =>
    intro hl
    refine ishw_flat (w := fun _ => some ⟨#[110, 117, 108, 108]⟩) (Ev.ret _) hl (fun q c => ?_)
    · simp only [impl_val_write.f, show ((0 : Int) == 0) = true from rfl, cond_true, Option.bind_some]
  | tru =>
    intro hl
    refine ishw_flat (w := fun _ => some ⟨#[116, 114, 117, 101]⟩) (Ev.ret _) hl (fun q c => ?_)
    · simp only [impl_val_write.f, show ((1 : Int) == 0) = false from rfl, show ((1 : Int) == 1) = true from rfl, cond_true, cond_false, Option.bind_some]; rfl
  | fls =>
    intro hl
    refine ishw_flat (w := fun _ => some ⟨#[102, 97, 108, 115, 101]⟩) (Ev.ret _) hl (fun q c => ?_)
    · simp only [impl_val_write.f, show ((1 : Int) == 0) = false from rfl, show ((1 : Int) == 1) = true from rfl, cond_true, cond_false, Option.bind_some]; rfl
  | num n hn =>
    intro hl
    refine ishw_flat (w := fun k => impl_num.f k n) (inuml hn) hl (fun q c => ?_)
    · simp only [impl_val_write.f, show ((2 : Int) == 0) = false from rfl, show ((2 : Int) == 1) = false from rfl, show ((2 : Int) == 2) = true from rfl, cond_true, cond_false]
  | text s hs =>
    intro hl
    have hs := esc_len s
    simp only [List.length_cons, List.length_append, List.length_nil] at hl
    have hsz : (bs s).size ≤ 2000 := by rw [bs_size]; omega
    have q2 := iquote hsz
    rw [quoted_esc] at q2
    refine ishw_flat (w := fun k => impl_quote.f k (bs s)) q2 (by simp; omega) (fun q c => ?_)
    · simp only [impl_val_write.f, show ((3 : Int) == 0) = false from rfl, show ((3 : Int) == 1) = false from rfl, show ((3 : Int) == 2) = false from rfl, show ((3 : Int) == 3) = true from rfl, cond_true, cond_false]
  | date n l hd =>
    intro hl
    have d2 := date_oki hd
    refine ishw_flat (w := fun k => impl_dateText.f k n) d2 hl (fun q c => ?_)
    · simp only [impl_val_write.f, show ((4 : Int) == 0) = false from rfl, show ((4 : Int) == 1) = false from rfl, show ((4 : Int) == 2) = false from rfl, show ((4 : Int) == 3) = false from rfl, show ((4 : Int) == 4) = true from rfl, cond_true, cond_false]
  | point a b ha hb =>
    intro hl
    simp only [List.length_cons, List.length_append, List.length_nil] at hl
    have ia := inuml (n := a) (by omega)
    have ib := inuml (n := b) (by omega)
    have e : 40 :: (Lib.itoa a ++ 32 :: (Lib.itoa b ++ [41])) = ((([40] ++ Lib.itoa a) ++ [32]) ++ Lib.itoa b) ++ [41] := by simp
    rw [e]
    refine ishw_flat (w := fun k => (impl_num.f k a).bind fun v11 => (cat (⟨#[40]⟩ : ByteArray) v11).bind fun v12 => (cat v12 (⟨#[32]⟩ : ByteArray)).bind fun v13 => (impl_num.f k b).bind fun v14 => (cat v13 v14).bind fun v15 => cat v15 (⟨#[41]⟩ : ByteArray)) (Ev.bind ia ?_) (by simp; omega) (fun q c => ?_)
    · rw [show (⟨#[40]⟩ : ByteArray) = bs [40] from rfl, show (⟨#[32]⟩ : ByteArray) = bs [32] from rfl, show (⟨#[41]⟩ : ByteArray) = bs [41] from rfl, catl (by simp; omega)]
      simp only [Option.bind_some]
      rw [catl (by simp; omega)]
      simp only [Option.bind_some]
      refine Ev.bind ib ?_
      rw [catl (by simp; omega)]
      simp only [Option.bind_some]
      rw [catl (by simp; omega)]
      exact Ev.ret _
    · simp only [impl_val_write.f, show ((5 : Int) == 0) = false from rfl, show ((5 : Int) == 1) = false from rfl, show ((5 : Int) == 2) = false from rfl, show ((5 : Int) == 3) = false from rfl, show ((5 : Int) == 4) = false from rfl, show ((5 : Int) == 5) = true from rfl, cond_true, cond_false, Option.bind_assoc]
  | thing kind w n hw hn =>
    intro hl
    simp only [List.length_cons] at hl
    have i_n := inuml (n := n) (by omega)
    rcases hw with ⟨rfl, rfl⟩ | ⟨rfl, rfl⟩
    · refine ishw_flat (w := fun k => (impl_num.f k n).bind fun v => cat (⟨#[110]⟩ : ByteArray) v) (Ev.bind i_n ?_) (by simp; omega) (fun q c => ?_)
      · rw [show (⟨#[110]⟩ : ByteArray) = bs [110] from rfl, catl (by simp; omega)]
        exact Ev.ret _
      · simp only [impl_val_write.f, show ((8 : Int) == 0) = false from rfl, show ((8 : Int) == 1) = false from rfl, show ((8 : Int) == 2) = false from rfl, show ((8 : Int) == 3) = false from rfl, show ((8 : Int) == 4) = false from rfl, show ((8 : Int) == 5) = false from rfl, show ((8 : Int) == 6) = false from rfl, show ((8 : Int) == 7) = false from rfl, show ((8 : Int) == 8) = true from rfl, cond_true, cond_false, Option.bind_assoc]
    · refine ishw_flat (w := fun k => (impl_num.f k n).bind fun v => cat (⟨#[101]⟩ : ByteArray) v) (Ev.bind i_n ?_) (by simp; omega) (fun q c => ?_)
      · rw [show (⟨#[101]⟩ : ByteArray) = bs [101] from rfl, catl (by simp; omega)]
        exact Ev.ret _
      · simp only [impl_val_write.f, show ((9 : Int) == 0) = false from rfl, show ((9 : Int) == 1) = false from rfl, show ((9 : Int) == 2) = false from rfl, show ((9 : Int) == 3) = false from rfl, show ((9 : Int) == 4) = false from rfl, show ((9 : Int) == 5) = false from rfl, show ((9 : Int) == 6) = false from rfl, show ((9 : Int) == 7) = false from rfl, show ((9 : Int) == 8) = false from rfl, show ((9 : Int) == 9) = true from rfl, cond_true, cond_false, Option.bind_assoc]
  | list items ls hln h ih =>
    intro hl
    simp only [List.length_cons, List.length_append, List.length_nil] at hl
    have hpl : ∀ l ∈ ls, l.length ≤ 2000 := fun l hm => part_le (sep := [44]) hm (by omega)
    have hcnt := joinS_count (sep := 44) ls
    intro b hb
    refine Ev.step ?_
    have et : toI ⟨6, 0, 0, ⟨#[]⟩, items, []⟩ = ⟨6, 0, 0, ⟨#[]⟩, [], items.map toI⟩ := toI_items _ _ _
    rw [et]
    simp only [impl_val_write.f, show ((6 : Int) == 0) = false from rfl, show ((6 : Int) == 1) = false from rfl, show ((6 : Int) == 2) = false from rfl, show ((6 : Int) == 3) = false from rfl, show ((6 : Int) == 4) = false from rfl, show ((6 : Int) == 5) = false from rfl, show ((6 : Int) == 6) = true from rfl, cond_true, cond_false]
    simp only [fun k => bwbl k 91 (x := 91) rfl (s := b) (by omega), Option.bind_some]
    have := w_l0 (X := ⟨6, 0, 0, ⟨#[]⟩, [], items.map toI⟩) rfl hln ih (by omega) hpl (by omega) _ 0 (Nat.le_refl _) (Nat.zero_le _) (b ++ [91]) (by simp at hb ⊢; omega)
    simpa [joinS, List.append_assoc] using this
  | map items names ls hln hnn hr hk h ih =>
    intro hl
    simp only [List.length_cons, List.length_append, List.length_nil] at hl
    have hz : (List.zipWith (fun (n : ByteArray) l => n.data.toList ++ 58 :: l) names ls).length = ls.length := by rw [List.length_zipWith]; omega
    have hcnt := joinS_count (sep := 44) (List.zipWith (fun (n : ByteArray) l => n.data.toList ++ 58 :: l) names ls)
    have hpl : ∀ l ∈ ls, l.length ≤ 2000 := fun l hm => by
      obtain ⟨i, hi, rfl⟩ := List.getElem_of_mem hm
      have := part_le (sep := [44]) (List.getElem_mem (show i < (List.zipWith (fun (n : ByteArray) l => n.data.toList ++ 58 :: l) names ls).length by omega)) (by omega)
      rw [List.getElem_zipWith] at this
      simp only [List.length_append, List.length_cons] at this
      omega
    intro b hb
    refine Ev.step ?_
    have et : toI ⟨7, 0, 0, ⟨#[]⟩, items, names⟩ = ⟨7, 0, 0, ⟨#[]⟩, names, items.map toI⟩ := toI_items _ _ _
    rw [et]
    simp only [impl_val_write.f, show ((7 : Int) == 0) = false from rfl, show ((7 : Int) == 1) = false from rfl, show ((7 : Int) == 2) = false from rfl, show ((7 : Int) == 3) = false from rfl, show ((7 : Int) == 4) = false from rfl, show ((7 : Int) == 5) = false from rfl, show ((7 : Int) == 6) = false from rfl, show ((7 : Int) == 7) = true from rfl, cond_true, cond_false]
    simp only [fun k => bwbl k 123 (x := 123) rfl (s := b) (by omega), Option.bind_some]
    have := w_l1 (X := ⟨7, 0, 0, ⟨#[]⟩, names, items.map toI⟩) (names := names) rfl rfl hln hnn ih (by omega) hpl (by omega) _ 0 (Nat.le_refl _) (Nat.zero_le _) (b ++ [123]) (by simp only [List.length_cons, List.length_append, List.length_nil] at hb ⊢; omega)
    simpa [joinS, List.append_assoc] using this
  | path items ls hln h hk ih =>
    intro hl
    simp only [List.length_cons, List.length_append, List.length_nil] at hl
    have hpl : ∀ l ∈ ls, l.length ≤ 2000 := fun l hm => part_le (sep := [32]) hm (by omega)
    have hcnt := joinS_count (sep := 32) ls
    intro b hb
    refine Ev.step ?_
    have et : toI ⟨10, 0, 0, ⟨#[]⟩, items, []⟩ = ⟨10, 0, 0, ⟨#[]⟩, [], items.map toI⟩ := toI_items _ _ _
    rw [et]
    simp only [impl_val_write.f, show ((10 : Int) == 0) = false from rfl, show ((10 : Int) == 1) = false from rfl, show ((10 : Int) == 2) = false from rfl, show ((10 : Int) == 3) = false from rfl, show ((10 : Int) == 4) = false from rfl, show ((10 : Int) == 5) = false from rfl, show ((10 : Int) == 6) = false from rfl, show ((10 : Int) == 7) = false from rfl, show ((10 : Int) == 8) = false from rfl, show ((10 : Int) == 9) = false from rfl, show ((10 : Int) == 10) = true from rfl, cond_true, cond_false]
    simp only [fun k => bwbl k 60 (x := 60) rfl (s := b) (by omega), Option.bind_some]
    have := w_l2 (X := ⟨10, 0, 0, ⟨#[]⟩, [], items.map toI⟩) rfl hln ih (by omega) hpl (by omega) _ 0 (Nat.le_refl _) (Nat.zero_le _) (b ++ [60]) (by simp at hb ⊢; omega)
    simpa [joinS, List.append_assoc] using this
/-- Each shows it, as a text. -/
theorem show_s {x : S42} {l : List UInt8} (h : Txt x l) (hl : l.length ≤ 2000) : Ev (fun k => spec_l01Show.f k x) (bs l) := txt_sshw h hl
theorem show_i {x : S42} {l : List UInt8} (h : Txt x l) (hl : l.length ≤ 2000) : Ev (fun k => impl_val_show.f k (toI x)) (bs l) := by
  have h2 := txt_ishw h hl
  unfold impl_val_show.f
  refine Ev.bind (h2 [] (by simp; omega)) ?_
  simp only [strings_Builder_String.f, Option.bind_some]
  exact Ev.ret _
theorem shows {x : S42} {l : List UInt8} (h : Txt x l) (hl : l.length ≤ 2000) : Ev (fun k => spec_l01Show.f k x) (bs l) ∧ Ev (fun k => impl_val_show.f k (toI x)) (bs l) := ⟨show_s h hl, show_i h hl⟩
end Go.Ab
