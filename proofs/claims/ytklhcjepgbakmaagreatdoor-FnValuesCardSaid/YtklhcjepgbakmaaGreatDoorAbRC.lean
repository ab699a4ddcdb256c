/- What is shown is read again: the reference's reader on a value's text. No condition. -/
import Derived.Test.YtklhcjepgbakmaaGreatDoorAbH0
import Derived.Test.YtklhcjepgbakmaaGreatDoorAbMS
namespace Go.Ab
open Go.Proofs
set_option linter.unusedVariables false
set_option linter.unusedSimpArgs false
theorem Ev.pair {α β : Type} {f : Nat → Option (α × β)} {r : α × β} (h : Ev f r) : Ev (fun k => (f k).bind fun v => some (v.1, v.2)) r := h.bind (Ev.ret _)
/-- What may stand behind a value. -/
def Dlm (r : List UInt8) : Prop := ∀ c r', r = c :: r' → isD c = false
theorem dlm_c {c : UInt8} (r : List UInt8) (h : isD c = false) : Dlm (c :: r) := fun c' r' e => by cases e; exact h
theorem dlm_nil : Dlm [] := fun c' r' e => by cases e
theorem tw_app {p : UInt8 → Bool} : ∀ {l r : List UInt8}, (∀ c ∈ l, p c = true) → (∀ c r', r = c :: r' → p c = false) → (l ++ r).takeWhile p = l
 | [], [], _, _ => rfl
 | [], c :: r, _, hr => by simp [hr c r rfl]
 | a :: l, r, hl, hr => by
   rw [List.cons_append, List.takeWhile_cons_of_pos (hl a (by simp)), tw_app (fun c hc => hl c (by simp [hc])) hr]
theorem num_txt {n : Int} (h : -9223372036854775808 ≤ n ∧ n ≤ 9223372036854775807) {r : List UInt8} (hr : Dlm r) : nlen (Lib.itoa n ++ r) = (Lib.itoa n).length ∧ num (Lib.itoa n ++ r) = n ∧ nok (Lib.itoa n ++ r) = true := by
  have e : nlen (Lib.itoa n ++ r) = (Lib.itoa n).length := by
    by_cases hn : n < 0
    · rw [itoa_ng hn]
      have hs : sgn (45 :: Lib.decDigits n.natAbs ++ r) = true := rfl
      unfold nlen dgs
      rw [hs]
      simp only [if_true, List.cons_append, List.tail_cons, tw_app (dec_isD _) hr, List.length_cons]
      omega
    · rw [itoa_nn (by omega)]
      have hs : sgn (Lib.decDigits n.toNat ++ r) = false := by
        cases hd : Lib.decDigits n.toNat with
        | nil => exact absurd hd (dec_ne _)
        | cons c q =>
          have := dec_head hd
          unfold isD at this
          simp at this
          simp [sgn]; omega
      unfold nlen dgs
      rw [hs]
      simp only [Bool.false_eq_true, if_false, tw_app (dec_isD _) hr]
      omega
  have e2 : Lib.itoa n = (Lib.itoa n ++ r).take (nlen (Lib.itoa n ++ r)) := by rw [e]; simp
  have e3 := num_of h.1 h.2 e2
  exact ⟨e, e3, by unfold nok; rw [e3, ← e2]; simp⟩
section
variable {t : ByteArray} {i : Nat} {r : List UInt8}
theorem rest_split {a b : List UInt8} (h : rest t i = a ++ b) : rest t (i + a.length) = b := by rw [rest_add, h]; simp
theorem numC {n : Int} {b : Bool} (ht : t.size ≤ 2000000) (hi : i ≤ t.size) (hn : -9223372036854775808 ≤ n ∧ n ≤ 9223372036854775807) (h : rest t i = Lib.itoa n ++ r) (hr : Dlm r) : Ev (fun k => spec_l01Reader_number.f k ⟨t, (i : Int), b⟩) (n, ⟨t, ((i + (Lib.itoa n).length : Nat) : Int), b⟩) := by
  have := number_ (t := t) (i := i) (b := b) hi ht
  obtain ⟨e1, e2, e3⟩ := num_txt hn hr
  rw [h, e1, e2, e3] at this
  simpa using this
theorem thingC {kind n : Int} (ht : t.size ≤ 2000000) (hi : i ≤ t.size) (hn : 1 ≤ n ∧ n ≤ 1000000000000) (h : rest t i = Lib.itoa n ++ r) (hr : Dlm r) : Ev (fun k => spec_l01Reader_thing.f k kind ⟨t, (i : Int), false⟩) (⟨kind, n, 0, ⟨#[]⟩, [], []⟩, ⟨t, ((i + (Lib.itoa n).length : Nat) : Int), false⟩) := by
  have := thing_s (t := t) (i := i) kind hi ht
  obtain ⟨e1, e2, e3⟩ := num_txt (n := n) (by omega) hr
  unfold tok at this
  rw [h, e1, e2, e3, decide_eq_true hn.1, decide_eq_true hn.2] at this
  exact this
/-! Quoted texts -/
theorem quotedC {q : Int} {b : Bool} (ht : t.size ≤ 2000000) : ∀ (s L : List UInt8) (p : Nat), rest t p = esc s ++ 34 :: r → (∀ c ∈ s, c = 10 ∨ 32 ≤ c.toNat) → p ≤ t.size → L.length ≤ p → Ev (fun k => spec_l01Reader_quoted.l0 k (nums L) ⟨t, q, b⟩ (p : Int)) (bs (L ++ s), ⟨t, ((p + (esc s).length + 1 : Nat) : Int), b⟩) := by
  intro s
  induction s with
  | nil =>
    intro L p h _ hp hL
    rw [esc_nil, List.nil_append] at h
    have hl := rest_lt h
    refine Ev.step ?_
    simp only [spec_l01Reader_quoted.l0, lt_cons h, cond_true, bix_cons h, Option.bind_some, show (((34 : UInt8).toNat : Int) == 34) = true from rfl, w1 (i := p) (by omega), bstr_nums, List.append_nil, esc_nil, List.length_nil, Nat.add_zero]
    exact Ev.ret _
  | cons c s ih =>
    intro L p h hs hp hL
    rw [esc_cons, List.append_assoc] at h
    have hc := hs c (by simp)
    have next : ∀ p', rest t p' = esc s ++ 34 :: r → p' ≤ t.size → p < p' → p' = p + (esc1 c).length → Ev (fun k => spec_l01Reader_quoted.l0 k (nums (L ++ [c])) ⟨t, q, b⟩ (p' : Int)) (bs (L ++ c :: s), ⟨t, ((p + (esc (c :: s)).length + 1 : Nat) : Int), b⟩) := fun p' h' hp' hlt e => by
      have := ih (L ++ [c]) p' h' (fun x hx => hs x (by simp [hx])) hp' (by simp; omega)
      rw [List.append_assoc] at this
      rw [esc_cons, List.length_append, show p + ((esc1 c).length + (esc s).length) + 1 = p' + (esc s).length + 1 by omega]
      exact this
    have esc2 : ∀ d : UInt8, esc1 c = [92, d] → (d.toNat = 34 ∨ d.toNat = 92 ∨ d.toNat = 110) → (c.toNat : Int) = (if d.toNat = 110 then 10 else (d.toNat : Int)) → Ev (fun k => spec_l01Reader_quoted.l0 k (nums L) ⟨t, q, b⟩ (p : Int)) (bs (L ++ c :: s), ⟨t, ((p + (esc (c :: s)).length + 1 : Nat) : Int), b⟩) := fun d e hd hx => by
      rw [e] at h
      have h0 : rest t p = 92 :: (d :: (esc s ++ 34 :: r)) := h
      have hn := rest_next h0
      have hl := rest_lt hn
      have g := next (p + 1 + 1) (rest_next hn) (by omega) (by omega) (by rw [e]; rfl)
      have f34 : ((d.toNat : Int) == 34) = decide (d.toNat = 34) := eqn 34
      have f92 : ((d.toNat : Int) == 92) = decide (d.toNat = 92) := eqn 92
      have f110 : ((d.toNat : Int) == 110) = decide (d.toNat = 110) := eqn 110
      refine Ev.step ?_
      simp only [spec_l01Reader_quoted.l0, lt_cons h0, cond_true, bix_cons h0, Option.bind_some, show (((92 : UInt8).toNat : Int) == 34) = false from rfl, show decide (((92 : UInt8).toNat : Int) < 32) = false from rfl, show (((92 : UInt8).toNat : Int) == 92) = true from rfl, w1 (i := p) (by omega), le_cons hn, bix_cons hn, cond_false, f34, f92, f110]
      have gg : Ev (fun k => spec_l01Reader_quoted.j0 k (nums L) ⟨t, q, b⟩ (p : Int)) (bs (L ++ c :: s), ⟨t, ((p + (esc (c :: s)).length + 1 : Nat) : Int), b⟩) := by
        refine Ev.step ?_
        simp only [spec_l01Reader_quoted.j0, w1 (i := p) (by omega), bix_cons hn, Option.bind_some, f110]
        have gj : Ev (fun k => spec_l01Reader_quoted.j1 k (nums L) (c.toNat : Int) ⟨t, q, b⟩ (p : Int)) (bs (L ++ c :: s), ⟨t, ((p + (esc (c :: s)).length + 1 : Nat) : Int), b⟩) := by
          refine Ev.step ?_
          simp only [spec_l01Reader_quoted.j1, app_num (l := L) c rfl (by omega), Option.bind_some, w1 (i := p) (by omega), w1 (i := p + 1) (by omega)]
          exact g
        rw [hx] at gj
        by_cases h110 : d.toNat = 110
        · simp only [decide_eq_true h110, cond_true]; rw [if_pos h110] at gj; exact gj
        · simp only [decide_eq_false h110, cond_false]; rw [if_neg h110] at gj; exact gj
      by_cases q1 : d.toNat = 34
      · simp only [decide_eq_true q1, cond_true]; exact gg
      · by_cases q2 : d.toNat = 92
        · simp only [decide_eq_false q1, decide_eq_true q2, cond_true, cond_false]; exact gg
        · simp only [decide_eq_false q1, decide_eq_false q2, decide_eq_true (show d.toNat = 110 by omega), cond_true, cond_false]; exact gg
    by_cases h1 : c = 34 ∨ c = 92
    · have e : esc1 c = [92, c] := by unfold esc1; rw [if_pos h1]
      refine esc2 c e (by rcases h1 with rfl | rfl <;> simp) ?_
      rw [if_neg (by rcases h1 with rfl | rfl <;> decide)]
    · by_cases h2 : c = 10
      · subst h2
        exact esc2 110 rfl (by simp) rfl
      · have e : esc1 c = [c] := by unfold esc1; rw [if_neg h1, if_neg h2]
        rw [e] at h
        have h0 : rest t p = c :: (esc s ++ 34 :: r) := h
        have hl := rest_lt h0
        have g := next (p + 1) (rest_next h0) (by omega) (by omega) (by rw [e]; rfl)
        have n34 : c.toNat ≠ 34 := fun e => h1 (.inl (UInt8.toNat_inj.1 e))
        have n92 : c.toNat ≠ 92 := fun e => h1 (.inr (UInt8.toNat_inj.1 e))
        have hge : 32 ≤ c.toNat := hc.resolve_left h2
        refine Ev.step ?_
        simp only [spec_l01Reader_quoted.l0, lt_cons h0, cond_true, bix_cons h0, Option.bind_some, show ((c.toNat : Int) == 34) = false by simp; omega, show decide ((c.toNat : Int) < 32) = false by simp; omega, show ((c.toNat : Int) == 92) = false by simp; omega, cond_false, w1 (i := p) (by omega), app_num (l := L) c rfl (by omega)]
        exact g
/-! Dates -/
theorem pad_isD : ∀ (n x : Nat), ∀ c ∈ pad n x, isD c = true
 | 0, _, c, h => by simp [pad] at h
 | n + 1, x, c, h => by
   simp only [pad, List.mem_append, List.mem_singleton] at h
   rcases h with h | rfl
   · exact pad_isD n _ c h
   · exact isD_dig (by omega)
theorem fold_pad : ∀ (n x : Nat), n ≤ 4 → x < 10 ^ n → (pad n x).foldl fw 0 = (x : Int)
 | 0, x, _, h => by simp at h; subst h; rfl
 | n + 1, x, hn, h => by
   have h' : x / 10 < 10 ^ n := by rw [Nat.pow_succ] at h; omega
   have hb : 10 ^ n ≤ 10 ^ 3 := Nat.pow_le_pow_right (by omega) (by omega)
   simp only [pad, List.foldl_append, fold_pad n (x / 10) (by omega) h', List.foldl_cons, List.foldl_nil]
   rw [fw_eq (isD_dig (by omega)), toNat_dig (by omega), w64 (by omega) (by omega)]
   omega
theorem dateC {n : Int} {l : List UInt8} (ht : t.size ≤ 2000000) (hi : i ≤ t.size) (hd : DateT n l) (h : rest t i = l ++ r) : l.length = 10 ∧ Ev (fun k => spec_l01Reader_date.f k ⟨t, (i : Int), false⟩) (⟨4, n, 0, ⟨#[]⟩, [], []⟩, ⟨t, ((i + l.length : Nat) : Int), false⟩) := by
  obtain ⟨y, m, d, hy1, hy2, hm1, hm2, hd1, hd2, en, el⟩ := hd
  have hmon := mon_bd (y : Int) (m : Int)
  have l4 := pad_len 4 y
  have l2 := pad_len 2 m
  have l2' := pad_len 2 d
  have ll : l.length = 10 := by rw [el]; simp [l4, l2, l2']
  have okd_pad : ∀ (k x : Nat) (q : List UInt8), okd k (pad k x ++ q) = true ∧ (pad k x ++ q).take k = pad k x := fun k x q => by
    have e : (pad k x ++ q).take k = pad k x := by rw [List.take_append_of_le_length (by rw [pad_len]; omega), List.take_of_length_le (by rw [pad_len]; omega)]
    refine ⟨?_, e⟩
    unfold okd
    rw [e, List.length_append, pad_len]
    simp only [Bool.and_eq_true, decide_eq_true_eq, List.all_eq_true]
    exact ⟨by omega, pad_isD _ _⟩
  have er : rest t i = pad 4 y ++ (45 :: (pad 2 m ++ 45 :: (pad 2 d ++ r))) := by rw [h, el]; simp
  have d4 : (rest t i).drop 4 = 45 :: (pad 2 m ++ 45 :: (pad 2 d ++ r)) := by rw [er]; exact List.drop_left' l4
  have d5 : (rest t i).drop 5 = pad 2 m ++ (45 :: (pad 2 d ++ r)) := by
    have := congrArg (List.drop 1) d4
    rwa [List.drop_drop] at this
  have d7 : (rest t i).drop 7 = 45 :: (pad 2 d ++ r) := by
    have := congrArg (List.drop 2) d5
    rw [List.drop_drop, List.drop_left' l2] at this
    exact this
  have d8 : (rest t i).drop 8 = pad 2 d ++ r := by
    have := congrArg (List.drop 1) d7
    rwa [List.drop_drop] at this
  have hf : dform (rest t i) = true := by
    unfold dform
    rw [d4, d5, d7, d8, (okd_pad 2 m _).1, (okd_pad 2 d _).1, er, (okd_pad 4 y _).1]
    rfl
  have n4 : dnum 4 (rest t i) = (y : Int) := by unfold dnum; rw [er, (okd_pad 4 y _).2, fold_pad 4 y (by omega) (by omega)]
  have n2 : dnum 2 ((rest t i).drop 5) = (m : Int) := by unfold dnum; rw [d5, (okd_pad 2 m _).2, fold_pad 2 m (by omega) (by omega)]
  have n2' : dnum 2 ((rest t i).drop 8) = (d : Int) := by unfold dnum; rw [d8, (okd_pad 2 d _).2, fold_pad 2 d (by omega) (by omega)]
  obtain ⟨hc, hg, _⟩ := date_ok ht hi hf
  obtain ⟨n', ⟨_, l', ⟨y', m', d', _, hy2', _, hm2', _, hd2', en', el'⟩, hr'⟩, hev, _⟩ := hg (by
    unfold dgood
    rw [n4, n2, n2']
    simp only [Bool.and_eq_true, decide_eq_true_eq]
    omega)
  have hmon' := mon_bd (y' : Int) (m' : Int)
  have ll' : l'.length = 10 := by rw [el']; simp [pad_len]
  have e : l' = l := by
    have := hr'.symm.trans h
    have := congrArg (List.take 10) this
    rwa [List.take_append_of_le_length (by omega), List.take_append_of_le_length (by omega), List.take_of_length_le (by omega), List.take_of_length_le (by omega)] at this
  have el2 : pad 4 y' ++ 45 :: (pad 2 m' ++ 45 :: pad 2 d') = pad 4 y ++ 45 :: (pad 2 m ++ 45 :: pad 2 d) := by rw [← el', ← el, e]
  obtain ⟨q1, q2⟩ := List.append_inj el2 (by rw [pad_len, pad_len])
  obtain ⟨q3, q4⟩ := List.append_inj (List.cons.inj q2).2 (by rw [pad_len, pad_len])
  have q5 := (List.cons.inj q4).2
  have ey : y' = y := by
    have := congrArg (List.foldl fw 0) q1
    rw [fold_pad 4 y' (by omega) (by omega), fold_pad 4 y (by omega) (by omega)] at this; omega
  have em : m' = m := by
    have := congrArg (List.foldl fw 0) q3
    rw [fold_pad 2 m' (by omega) (by omega), fold_pad 2 m (by omega) (by omega)] at this; omega
  have ed : d' = d := by
    have := congrArg (List.foldl fw 0) q5
    rw [fold_pad 2 d' (by omega) (by omega), fold_pad 2 d (by omega) (by omega)] at this; omega
  subst ey; subst em; subst ed
  rw [ll, en, ← en']
  exact ⟨rfl, hev⟩
end
/-- No deeper than so many lists and maps in one another. -/
def DepLe : Nat → S42 → Prop
 | 0, x => x.f0 ≠ 6 ∧ x.f0 ≠ 7
 | n + 1, x => x.f0 = 6 ∨ x.f0 = 7 → ∀ y ∈ x.f4, DepLe n y
theorem dep_flat {n : Nat} {x : S42} (h : x.f0 ≠ 6 ∧ x.f0 ≠ 7) : DepLe n x := by
  cases n with
  | zero => exact h
  | succ n => intro h'; exact absurd h' (by omega)
theorem dep_up : ∀ {n : Nat} {x : S42}, DepLe n x → DepLe (n + 1) x
 | 0, x, h => fun h' => absurd h' (by have := h.1; have := h.2; omega)
 | n + 1, x, h => fun h' y hy => dep_up (h h' y hy)
def RdC (x : S42) (l : List UInt8) : Prop := ∀ (t : ByteArray) (i d : Nat) (r : List UInt8), t.size ≤ 2000000 → i ≤ t.size → rest t i = l ++ r → Dlm r → d ≤ 5 → DepLe (5 - d) x → Ev (fun k => spec_l01Reader_value.f k (d : Int) ⟨t, (i : Int), false⟩) (x, ⟨t, ((i + l.length : Nat) : Int), false⟩)
theorem w1d {d : Nat} (h : d ≤ 5) : IntKind.i64.wrap ((d : Int) + 1) = ((d + 1 : Nat) : Int) := w1 (i := d) (by omega)
theorem txt_ne {x : S42} {l : List UInt8} (h : Txt x l) : ∃ c q, l = c :: q ∧ c ≠ 93 ∧ c ≠ 125 := by
  have hi : ∀ n : Int, ∃ c q, Lib.itoa n = c :: q ∧ c ≠ 93 ∧ c ≠ 125 := fun n => by
    by_cases hn : n < 0
    · exact ⟨45, _, itoa_ng hn, by decide, by decide⟩
    · rw [itoa_nn (by omega)]
      cases hd : Lib.decDigits n.toNat with
      | nil => exact absurd hd (dec_ne _)
      | cons c q =>
        have := dec_head hd
        exact ⟨c, q, rfl, by rintro rfl; simp [isD] at this, by rintro rfl; simp [isD] at this⟩
  cases h with
  | num n h => exact hi n
  | thing kind w n h hn => rcases h with ⟨rfl, _⟩ | ⟨rfl, _⟩ <;> exact ⟨_, _, rfl, by decide, by decide⟩
  | null => exact ⟨_, _, rfl, by decide, by decide⟩
  | tru => exact ⟨_, _, rfl, by decide, by decide⟩
  | fls => exact ⟨_, _, rfl, by decide, by decide⟩
  | text s hs => exact ⟨_, _, rfl, by decide, by decide⟩
  | date n l h => exact ⟨_, _, rfl, by decide, by decide⟩
  | point a b ha hb => exact ⟨_, _, rfl, by decide, by decide⟩
  | list items ls hl h => exact ⟨_, _, rfl, by decide, by decide⟩
  | map items names ls hl hn hr hk h => exact ⟨_, _, rfl, by decide, by decide⟩
  | path items ls hl h hk => exact ⟨_, _, rfl, by decide, by decide⟩
section
variable {t : ByteArray} {r : List UInt8}
theorem take1 (k : Nat) {i : Nat} {x c : UInt8} {q : List UInt8} (ht : t.size ≤ 2000000) (h : rest t i = c :: q) : spec_l01Reader_takes.f k ⟨#[x]⟩ ⟨t, (i : Int), false⟩ = some (x == c, ⟨t, ((if x == c then i + 1 else i : Nat) : Int), false⟩) := by
  rw [takes_ (t := t) (i := i) _ _ (Nat.le_of_lt (rest_lt h)) ht, h, pre_cons]; rfl
/-- A list's items. -/
theorem listC (ht : t.size ≤ 2000000) {d : Nat} (hd : d < 5) : ∀ (its : List S42) (ls : List (List UInt8)) (acc : List S42) (i : Nat), its ≠ [] → ls.length = its.length → (∀ (j : Nat) (x : S42) (l : List UInt8), its[j]? = some x → ls[j]? = some l → RdC x l ∧ DepLe (5 - (d + 1)) x) → rest t i = joinS [44] ls ++ 93 :: r → acc.length ≤ i → i ≤ t.size → (∀ l ∈ ls, l ≠ []) →
    Ev (fun k => spec_l01Reader_list.l0 k (d : Int) t (i : Int) false acc) (⟨6, 0, 0, ⟨#[]⟩, acc ++ its, []⟩, ⟨t, ((i + (joinS [44] ls).length + 1 : Nat) : Int), false⟩) := by
  intro its
  induction its with
  | nil => intro ls acc i h; exact absurd rfl h
  | cons x its ih =>
    intro ls acc i _ hl hx h ha hi hne
    match ls, hl with
    | l :: ls, hl =>
      obtain ⟨hR, hD⟩ := hx 0 x l rfl rfl
      have hl1 : 0 < l.length := by have := hne l (by simp); cases l with | nil => exact absurd rfl this | cons _ _ => simp
      refine Ev.step ?_
      simp only [spec_l01Reader_list.l0, cond_false, w1d (d := d) (by omega)]
      cases its with
      | nil =>
        obtain rfl : ls = [] := List.eq_nil_of_length_eq_zero (by simpa using hl)
        have h0 : rest t i = l ++ 93 :: r := h
        refine Ev.bind (hR t i (d + 1) _ ht hi h0 (dlm_c _ rfl) (by omega) hD) ?_
        have h1 := rest_split h0
        simp only [app_one (l := acc) x (by omega), take1 _ ht h1, Option.bind_some, beq_self_eq_true, if_true, cond_true]
        exact Ev.ret _
      | cons y its =>
        match ls, hl with
        | m :: ls, hl =>
          have h0 : rest t i = l ++ 44 :: (joinS [44] (m :: ls) ++ 93 :: r) := by rw [h]; simp [joinS]
          refine Ev.bind (hR t i (d + 1) _ ht hi h0 (dlm_c _ rfl) (by omega) hD) ?_
          have h1 := rest_split h0
          have hlt := rest_lt h1
          simp only [app_one (l := acc) x (by omega), take1 _ ht h1, Option.bind_some, show ((93 : UInt8) == 44) = false from rfl, show ((44 : UInt8) == 44) = true from rfl, Bool.false_eq_true, if_true, if_false, cond_true, cond_false]
          have := ih (m :: ls) (acc ++ [x]) (i + l.length + 1) (by simp) (by simpa using hl) (fun j z w h1 h2 => hx (j + 1) z w h1 h2) (rest_next h1) (by simp; omega) (by omega) (fun l hl => hne l (by simp [hl]))
          rw [List.append_assoc] at this
          rw [show (i + (joinS [44] (l :: m :: ls)).length + 1 : Nat) = i + l.length + 1 + (joinS [44] (m :: ls)).length + 1 by simp [joinS]; omega]
          exact this
/-- A map's fields. -/
theorem fieldsC (ht : t.size ≤ 2000000) {d : Nat} (hd : d < 5) : ∀ (its : List S42) (names : List ByteArray) (ls : List (List UInt8)) (acc : List S42) (accN : List ByteArray) (i : Nat), its ≠ [] → ls.length = its.length → names.length = its.length → (∀ s ∈ names, nameOk s.data.toList = true) → risingB (accN ++ names) = true → (∀ (j : Nat) (x : S42) (l : List UInt8), its[j]? = some x → ls[j]? = some l → RdC x l ∧ DepLe (5 - (d + 1)) x) → rest t i = joinS [44] (List.zipWith (fun (n : ByteArray) l => n.data.toList ++ 58 :: l) names ls) ++ 125 :: r → acc.length ≤ i → accN.length ≤ i → i ≤ t.size →
    Ev (fun k => spec_l01Reader_fields.l0 k (d : Int) t (i : Int) false acc accN) (⟨7, 0, 0, ⟨#[]⟩, acc ++ its, accN ++ names⟩, ⟨t, ((i + (joinS [44] (List.zipWith (fun (n : ByteArray) l => n.data.toList ++ 58 :: l) names ls)).length + 1 : Nat) : Int), false⟩) := by
  intro its
  induction its with
  | nil => intro names ls acc accN i h; exact absurd rfl h
  | cons x its ih =>
    intro names ls acc accN i _ hl hn hk hr hx h ha haN hi
    match ls, hl, names, hn with
    | l :: ls, hl, n :: names, hn =>
      obtain ⟨hR, hD⟩ := hx 0 x l rfl rfl
      have hno := hk n (by simp)
      have hnN : ∀ c ∈ n.data.toList, isN c = true := by
        unfold nameOk at hno; simp only [Bool.and_eq_true, List.all_eq_true] at hno; exact hno.2
      have hstep : ∀ (q : List UInt8) (R : S42 × S70), rest t i = n.data.toList ++ 58 :: (l ++ q) → Dlm q → Ev (fun k => ((spec_l01Reader_takes.f k (⟨#[125]⟩ : ByteArray) (⟨t, ((i + n.data.toList.length + 1 + l.length : Nat) : Int), false⟩)).bind fun v16 => (bif v16.1 then ((spec_l01Rising.f k (accN ++ [n])).bind fun v17 => (bif v17 then (some ((⟨7, 0, 0, (⟨#[]⟩ : ByteArray), acc ++ [x], accN ++ [n]⟩ : S42), v16.2)) else ((spec_l01Reader_fail.f k v16.2).bind fun v18 => (some (v18.1, v18.2))))) else ((spec_l01Reader_takes.f k (⟨#[44]⟩ : ByteArray) v16.2).bind fun v19 => (bif v19.1 then (spec_l01Reader_fields.l0 k (d : Int) v19.2.f0 v19.2.f1 v19.2.f2 (acc ++ [x]) (accN ++ [n])) else ((spec_l01Reader_fail.f k v19.2).bind fun v20 => (some (v20.1, v20.2)))))))) R → Ev (fun k => spec_l01Reader_fields.l0 k (d : Int) t (i : Int) false acc accN) R := by
        intro q R h0 hq g
        have h1 := rest_split h0
        have enm : nm (rest t i) = n.data.toList := by unfold nm; rw [h0]; exact tw_app hnN (fun c r' e => by cases e; rfl)
        have hs := sname_ (t := t) (i := i) (b := false) hi ht
        rw [enm, hno, ← bs_of] at hs
        have hl1 := rest_lt h1
        refine Ev.step ?_
        simp only [spec_l01Reader_fields.l0, cond_false, w1d (d := d) (by omega)]
        refine Ev.bind hs ?_
        simp only [app_one (l := accN) n (by omega), take1 _ ht h1, Option.bind_some, beq_self_eq_true, if_true, cond_true, Bool.not_true, Bool.or_false, Bool.false_or]
        refine Ev.bind (hR t (i + n.data.toList.length + 1) (d + 1) _ ht (by omega) (rest_next h1) hq (by omega) hD) ?_
        simp only [app_one (l := acc) x (by omega), Option.bind_some]
        exact g
      cases its with
      | nil =>
        obtain rfl : ls = [] := List.eq_nil_of_length_eq_zero (by simpa using hl)
        obtain rfl : names = [] := List.eq_nil_of_length_eq_zero (by simpa using hn)
        have h0 : rest t i = n.data.toList ++ 58 :: (l ++ 125 :: r) := by rw [h]; simp [joinS]
        refine hstep (125 :: r) _ h0 (dlm_c _ rfl) ?_
        have h2 : rest t (i + n.data.toList.length + 1 + l.length) = 125 :: r := rest_split (rest_next (rest_split h0))
        simp only [take1 _ ht h2, Option.bind_some, beq_self_eq_true, if_true, cond_true]
        have hrs := rising_ (N := accN ++ [n]) (by have := rest_lt h2; simp; omega)
        rw [hr] at hrs
        refine Ev.bind hrs ?_
        simp only [cond_true]
        rw [show (i + (joinS [44] (List.zipWith (fun (n : ByteArray) l => n.data.toList ++ 58 :: l) [n] [l])).length + 1 : Nat) = i + n.data.toList.length + 1 + l.length + 1 by simp [joinS]; omega]
        exact Ev.ret _
      | cons y its =>
        match ls, hl, names, hn with
        | m :: ls, hl, n2 :: names, hn =>
          have h0 : rest t i = n.data.toList ++ 58 :: (l ++ 44 :: (joinS [44] (List.zipWith (fun (n : ByteArray) l => n.data.toList ++ 58 :: l) (n2 :: names) (m :: ls)) ++ 125 :: r)) := by rw [h]; simp [joinS]
          refine hstep _ _ h0 (dlm_c _ rfl) ?_
          have h2 := rest_split (rest_next (rest_split h0))
          have hlt := rest_lt h2
          simp only [take1 _ ht h2, Option.bind_some, show ((125 : UInt8) == 44) = false from rfl, show ((44 : UInt8) == 44) = true from rfl, Bool.false_eq_true, if_true, if_false, cond_true, cond_false]
          have := ih (n2 :: names) (m :: ls) (acc ++ [x]) (accN ++ [n]) (i + n.data.toList.length + 1 + l.length + 1) (by simp) (by simpa using hl) (by simpa using hn) (fun s hs => hk s (by simp [hs])) (by rw [List.append_assoc]; exact hr) (fun j z w h1 h2 => hx (j + 1) z w h1 h2) (rest_next h2) (by simp; omega) (by simp; omega) (by omega)
          rw [List.append_assoc, List.append_assoc] at this
          rw [show (i + (joinS [44] (List.zipWith (fun (n : ByteArray) l => n.data.toList ++ 58 :: l) (n :: n2 :: names) (l :: m :: ls))).length + 1 : Nat) = i + n.data.toList.length + 1 + l.length + 1 + (joinS [44] (List.zipWith (fun (n : ByteArray) l => n.data.toList ++ 58 :: l) (n2 :: names) (m :: ls))).length + 1 by simp [joinS]; omega]
          exact this
theorem txt_thing {x : S42} {l : List UInt8} {kind : Int} (h : Txt x l) (hk : x.f0 = kind) (hk2 : kind = 8 ∨ kind = 9) : ∃ n : Int, (1 ≤ n ∧ n ≤ 1000000000000) ∧ x = ⟨kind, n, 0, ⟨#[]⟩, [], []⟩ ∧ l = (if kind = 9 then 101 else 110) :: Lib.itoa n := by
  subst hk
  cases h with
  | thing kind w n h hn => exact ⟨n, hn, rfl, by rcases h with ⟨rfl, h⟩ | ⟨rfl, h⟩ <;> subst h <;> rfl⟩
  | num n h => simp at hk2
  | null => simp at hk2
  | tru => simp at hk2
  | fls => simp at hk2
  | text s hs => simp at hk2
  | date n l h => simp at hk2
  | point a b ha hb => simp at hk2
  | list items ls hl h => simp at hk2
  | map items names ls hl hn hr hk h => simp at hk2
  | path items ls hl h hk => simp at hk2
/-- A path's nodes and edges. -/
theorem pathC (ht : t.size ≤ 2000000) : ∀ (its : List S42) (ls : List (List UInt8)) (acc : List S42) (i : Nat), its ≠ [] → ls.length = its.length → (∀ (j : Nat) (x : S42) (l : List UInt8), its[j]? = some x → ls[j]? = some l → Txt x l) → (∀ (j : Nat) (x : S42), its[j]? = some x → x.f0 = want (acc.length + j)) → (acc.length + its.length) % 2 = 1 → rest t i = joinS [32] ls ++ 62 :: r → acc.length ≤ i → i ≤ t.size →
    Ev (fun k => spec_l01Reader_path.l0 k t (i : Int) false acc) (⟨10, 0, 0, ⟨#[]⟩, acc ++ its, []⟩, ⟨t, ((i + (joinS [32] ls).length + 1 : Nat) : Int), false⟩) := by
  intro its
  induction its with
  | nil => intro ls acc i h; exact absurd rfl h
  | cons x its ih =>
    intro ls acc i _ hl hx hw hodd h ha hi
    match ls, hl with
    | l :: ls, hl =>
      have ew : x.f0 = want acc.length := by simpa using hw 0 x rfl
      have hwk : want acc.length = 8 ∨ want acc.length = 9 := by unfold want; split <;> simp
      obtain ⟨n, hn, ex, el⟩ := txt_thing (hx 0 x l rfl rfl) ew hwk
      have hodd' : (((acc.length : Nat) : Int).tmod 2 == 1) = decide (acc.length % 2 = 1) := by
        rw [Int.tmod_eq_emod_of_nonneg (by omega), Bool.eq_iff_iff]; simp; omega
      -- both kinds alike
      have main : ∀ (w : UInt8), (if want acc.length = 9 then (101 : UInt8) else 110) = w → Ev (fun k => spec_l01Reader_path.j0 k ⟨#[w]⟩ (want acc.length) t (i : Int) acc) (⟨10, 0, 0, ⟨#[]⟩, acc ++ x :: its, []⟩, ⟨t, ((i + (joinS [32] (l :: ls)).length + 1 : Nat) : Int), false⟩) := by
        intro w ew2
        rw [ew2] at el
        have first : ∀ (q : List UInt8) (R : S42 × S70), rest t i = l ++ q → Dlm q → Ev (fun k => (bif (want acc.length == 8) then ((spec_l01Reader_takes.f k (⟨#[62]⟩ : ByteArray) (⟨t, ((i + l.length : Nat) : Int), false⟩)).bind fun v13 => (bif v13.1 then (some ((⟨10, 0, 0, (⟨#[]⟩ : ByteArray), acc ++ [x], ([] : (List ByteArray))⟩ : S42), v13.2)) else ((spec_l01Reader_takes.f k (⟨#[32]⟩ : ByteArray) v13.2).bind fun v14 => (bif v14.1 then (spec_l01Reader_path.l0 k v14.2.f0 v14.2.f1 v14.2.f2 (acc ++ [x])) else ((spec_l01Reader_fail.f k v14.2).bind fun v15 => (some (v15.1, v15.2))))))) else ((spec_l01Reader_takes.f k (⟨#[32]⟩ : ByteArray) (⟨t, ((i + l.length : Nat) : Int), false⟩)).bind fun v16 => (bif v16.1 then (spec_l01Reader_path.l0 k v16.2.f0 v16.2.f1 v16.2.f2 (acc ++ [x])) else ((spec_l01Reader_fail.f k v16.2).bind fun v17 => (some (v17.1, v17.2))))))) R → Ev (fun k => spec_l01Reader_path.j0 k ⟨#[w]⟩ (want acc.length) t (i : Int) acc) R := by
          intro q R h0 hq g
          rw [el] at h0
          have h1 : rest t i = w :: (Lib.itoa n ++ q) := h0
          have hlt := rest_lt h1
          refine Ev.step ?_
          simp only [spec_l01Reader_path.j0, take1 _ ht h1, Option.bind_some, beq_self_eq_true, if_true, cond_true]
          refine Ev.bind (thingC ht (by omega) hn (rest_next h1) hq) ?_
          rw [← ex]
          simp only [app_one (l := acc) x (by omega), Option.bind_some]
          rw [el, List.length_cons] at g
          rw [show i + 1 + (Lib.itoa n).length = i + ((Lib.itoa n).length + 1) by omega]
          exact g
        cases its with
        | nil =>
          obtain rfl : ls = [] := List.eq_nil_of_length_eq_zero (by simpa using hl)
          have h0 : rest t i = l ++ 62 :: r := h
          refine first _ _ h0 (dlm_c _ rfl) ?_
          have e8 : want acc.length = 8 := by unfold want; rw [if_neg (by simp at hodd; omega)]
          simp only [e8, show ((8 : Int) == 8) = true from rfl, cond_true, take1 _ ht (rest_split h0), Option.bind_some, beq_self_eq_true, if_true]
          exact Ev.ret _
        | cons y its =>
          match ls, hl with
          | m :: ls, hl =>
            have h0 : rest t i = l ++ 32 :: (joinS [32] (m :: ls) ++ 62 :: r) := by rw [h]; simp [joinS]
            refine first _ _ h0 (dlm_c _ rfl) ?_
            have h1 := rest_split h0
            have hlt := rest_lt h1
            have l1 : 0 < l.length := by rw [el]; simp
            have := ih (m :: ls) (acc ++ [x]) (i + l.length + 1) (by simp) (by simpa using hl) (fun j z w h1 h2 => hx (j + 1) z w h1 h2) (fun j z h1 => by rw [hw (j + 1) z h1, List.length_append, List.length_singleton]; congr 1; omega) (by simp at hodd ⊢; omega) (rest_next h1) (by simp; omega) (by omega)
            rw [List.append_assoc] at this
            have gg : Ev (fun k => spec_l01Reader_path.l0 k t ((i + l.length + 1 : Nat) : Int) false (acc ++ [x])) (⟨10, 0, 0, ⟨#[]⟩, acc ++ x :: y :: its, []⟩, ⟨t, ((i + (joinS [32] (l :: m :: ls)).length + 1 : Nat) : Int), false⟩) := by
              rw [show (i + (joinS [32] (l :: m :: ls)).length + 1 : Nat) = i + l.length + 1 + (joinS [32] (m :: ls)).length + 1 by simp [joinS]; omega]
              exact this
            simp only [take1 _ ht h1, Option.bind_some, show ((62 : UInt8) == 32) = false from rfl, show ((32 : UInt8) == 32) = true from rfl, Bool.false_eq_true, if_true, if_false, cond_true, cond_false, bif_same]
            exact gg
      refine Ev.step ?_
      simp only [spec_l01Reader_path.l0, cond_false, rem_ _ 2 (by decide), Option.bind_some, hodd']
      by_cases ho : acc.length % 2 = 1
      · have e9 : want acc.length = 9 := by unfold want; rw [if_pos ho]
        simp only [decide_eq_true ho, cond_true]
        have := main 101 (by rw [if_pos e9])
        rw [e9] at this
        exact this
      · have e8 : want acc.length = 8 := by unfold want; rw [if_neg ho]
        simp only [decide_eq_false ho, cond_false]
        have := main 110 (by rw [if_neg (by omega)])
        rw [e8] at this
        exact this
end
/-- A value's text is read as the value. -/
theorem readC {x : S42} {l : List UInt8} (h : Txt x l) : RdC x l := by
  induction h with
  | null =>
    intro t i d r ht hi h0 hr hd hdep
    have h : rest t i = 110 :: 117 :: 108 :: 108 :: r := h0
    have hl := rest_lt h
    have hn := rest_next h
    refine Ev.step ?_
    simp only [spec_l01Reader_value.f, le_cons h, takes_ (t := t) (i := i) _ _ (Nat.le_of_lt hl) ht, h, Option.bind_some, cond_true, cond_false, Bool.false_eq_true, if_true, if_false, len1, List.length_cons, List.length_nil, Nat.zero_add, Nat.reduceAdd, show pre (⟨#[110, 117, 108, 108]⟩ : ByteArray) (110 :: 117 :: 108 :: 108 :: r) = true from rfl, show pre (⟨#[116, 114, 117, 101]⟩ : ByteArray) (110 :: 117 :: 108 :: 108 :: r) = false from rfl, show pre (⟨#[102, 97, 108, 115, 101]⟩ : ByteArray) (110 :: 117 :: 108 :: 108 :: r) = false from rfl, show pre (⟨#[34]⟩ : ByteArray) (110 :: 117 :: 108 :: 108 :: r) = false from rfl, show pre (⟨#[64]⟩ : ByteArray) (110 :: 117 :: 108 :: 108 :: r) = false from rfl, show pre (⟨#[40]⟩ : ByteArray) (110 :: 117 :: 108 :: 108 :: r) = false from rfl, show pre (⟨#[110]⟩ : ByteArray) (110 :: 117 :: 108 :: 108 :: r) = true from rfl, show pre (⟨#[101]⟩ : ByteArray) (110 :: 117 :: 108 :: 108 :: r) = false from rfl, show pre (⟨#[60]⟩ : ByteArray) (110 :: 117 :: 108 :: 108 :: r) = false from rfl, show pre (⟨#[91]⟩ : ByteArray) (110 :: 117 :: 108 :: 108 :: r) = false from rfl, show pre (⟨#[123]⟩ : ByteArray) (110 :: 117 :: 108 :: 108 :: r) = false from rfl]
    exact Ev.ret _
  | tru =>
    intro t i d r ht hi h0 hr hd hdep
    have h : rest t i = 116 :: 114 :: 117 :: 101 :: r := h0
    have hl := rest_lt h
    have hn := rest_next h
    refine Ev.step ?_
    simp only [spec_l01Reader_value.f, le_cons h, takes_ (t := t) (i := i) _ _ (Nat.le_of_lt hl) ht, h, Option.bind_some, cond_true, cond_false, Bool.false_eq_true, if_true, if_false, len1, List.length_cons, List.length_nil, Nat.zero_add, Nat.reduceAdd, show pre (⟨#[110, 117, 108, 108]⟩ : ByteArray) (116 :: 114 :: 117 :: 101 :: r) = false from rfl, show pre (⟨#[116, 114, 117, 101]⟩ : ByteArray) (116 :: 114 :: 117 :: 101 :: r) = true from rfl, show pre (⟨#[102, 97, 108, 115, 101]⟩ : ByteArray) (116 :: 114 :: 117 :: 101 :: r) = false from rfl, show pre (⟨#[34]⟩ : ByteArray) (116 :: 114 :: 117 :: 101 :: r) = false from rfl, show pre (⟨#[64]⟩ : ByteArray) (116 :: 114 :: 117 :: 101 :: r) = false from rfl, show pre (⟨#[40]⟩ : ByteArray) (116 :: 114 :: 117 :: 101 :: r) = false from rfl, show pre (⟨#[110]⟩ : ByteArray) (116 :: 114 :: 117 :: 101 :: r) = false from rfl, show pre (⟨#[101]⟩ : ByteArray) (116 :: 114 :: 117 :: 101 :: r) = false from rfl, show pre (⟨#[60]⟩ : ByteArray) (116 :: 114 :: 117 :: 101 :: r) = false from rfl, show pre (⟨#[91]⟩ : ByteArray) (116 :: 114 :: 117 :: 101 :: r) = false from rfl, show pre (⟨#[123]⟩ : ByteArray) (116 :: 114 :: 117 :: 101 :: r) = false from rfl]
    exact Ev.ret _
  | fls =>
    intro t i d r ht hi h0 hr hd hdep
    have h : rest t i = 102 :: 97 :: 108 :: 115 :: 101 :: r := h0
    have hl := rest_lt h
    have hn := rest_next h
    refine Ev.step ?_
    simp only [spec_l01Reader_value.f, le_cons h, takes_ (t := t) (i := i) _ _ (Nat.le_of_lt hl) ht, h, Option.bind_some, cond_true, cond_false, Bool.false_eq_true, if_true, if_false, len1, List.length_cons, List.length_nil, Nat.zero_add, Nat.reduceAdd, show pre (⟨#[110, 117, 108, 108]⟩ : ByteArray) (102 :: 97 :: 108 :: 115 :: 101 :: r) = false from rfl, show pre (⟨#[116, 114, 117, 101]⟩ : ByteArray) (102 :: 97 :: 108 :: 115 :: 101 :: r) = false from rfl, show pre (⟨#[102, 97, 108, 115, 101]⟩ : ByteArray) (102 :: 97 :: 108 :: 115 :: 101 :: r) = true from rfl, show pre (⟨#[34]⟩ : ByteArray) (102 :: 97 :: 108 :: 115 :: 101 :: r) = false from rfl, show pre (⟨#[64]⟩ : ByteArray) (102 :: 97 :: 108 :: 115 :: 101 :: r) = false from rfl, show pre (⟨#[40]⟩ : ByteArray) (102 :: 97 :: 108 :: 115 :: 101 :: r) = false from rfl, show pre (⟨#[110]⟩ : ByteArray) (102 :: 97 :: 108 :: 115 :: 101 :: r) = false from rfl, show pre (⟨#[101]⟩ : ByteArray) (102 :: 97 :: 108 :: 115 :: 101 :: r) = false from rfl, show pre (⟨#[60]⟩ : ByteArray) (102 :: 97 :: 108 :: 115 :: 101 :: r) = false from rfl, show pre (⟨#[91]⟩ : ByteArray) (102 :: 97 :: 108 :: 115 :: 101 :: r) = false from rfl, show pre (⟨#[123]⟩ : ByteArray) (102 :: 97 :: 108 :: 115 :: 101 :: r) = false from rfl]
    exact Ev.ret _
  | text s hs =>
    intro t i d r ht hi h0 hr hd hdep
    have h : rest t i = 34 :: (esc s ++ 34 :: r) := by rw [h0]; simp
    have hl := rest_lt h
    have hn := rest_next h
    rw [show (i + (34 :: (esc s ++ [34])).length : Nat) = i + 1 + (esc s).length + 1 by simp; omega]
    refine Ev.step ?_
    simp only [spec_l01Reader_value.f, le_cons h, takes_ (t := t) (i := i) _ _ (Nat.le_of_lt hl) ht, h, Option.bind_some, cond_true, cond_false, Bool.false_eq_true, if_true, if_false, len1, List.length_cons, List.length_nil, Nat.zero_add, Nat.reduceAdd, show pre (⟨#[110, 117, 108, 108]⟩ : ByteArray) (34 :: (esc s ++ 34 :: r)) = false from rfl, show pre (⟨#[116, 114, 117, 101]⟩ : ByteArray) (34 :: (esc s ++ 34 :: r)) = false from rfl, show pre (⟨#[102, 97, 108, 115, 101]⟩ : ByteArray) (34 :: (esc s ++ 34 :: r)) = false from rfl, show pre (⟨#[34]⟩ : ByteArray) (34 :: (esc s ++ 34 :: r)) = true from rfl, show pre (⟨#[64]⟩ : ByteArray) (34 :: (esc s ++ 34 :: r)) = false from rfl, show pre (⟨#[40]⟩ : ByteArray) (34 :: (esc s ++ 34 :: r)) = false from rfl, show pre (⟨#[110]⟩ : ByteArray) (34 :: (esc s ++ 34 :: r)) = false from rfl, show pre (⟨#[101]⟩ : ByteArray) (34 :: (esc s ++ 34 :: r)) = false from rfl, show pre (⟨#[60]⟩ : ByteArray) (34 :: (esc s ++ 34 :: r)) = false from rfl, show pre (⟨#[91]⟩ : ByteArray) (34 :: (esc s ++ 34 :: r)) = false from rfl, show pre (⟨#[123]⟩ : ByteArray) (34 :: (esc s ++ 34 :: r)) = false from rfl]
    refine Ev.bind (a := (bs s, ⟨t, ((i + 1 + (esc s).length + 1 : Nat) : Int), false⟩)) (Ev.step ?_) ?_
    · simp only [spec_l01Reader_quoted.f]
      exact quotedC (q := ((i + 1 : Nat) : Int)) (b := false) ht s [] (i + 1) hn hs (by omega) (by simp)
    · exact Ev.ret _
  | date n l hD =>
    intro t i d r ht hi h0 hr hd hdep
    have h : rest t i = 64 :: (l ++ r) := h0
    have hl := rest_lt h
    have hn := rest_next h
    rw [show (i + (64 :: l).length : Nat) = i + 1 + l.length by simp; omega]
    refine Ev.step ?_
    simp only [spec_l01Reader_value.f, le_cons h, takes_ (t := t) (i := i) _ _ (Nat.le_of_lt hl) ht, h, Option.bind_some, cond_true, cond_false, Bool.false_eq_true, if_true, if_false, len1, List.length_cons, List.length_nil, Nat.zero_add, Nat.reduceAdd, show pre (⟨#[110, 117, 108, 108]⟩ : ByteArray) (64 :: (l ++ r)) = false from rfl, show pre (⟨#[116, 114, 117, 101]⟩ : ByteArray) (64 :: (l ++ r)) = false from rfl, show pre (⟨#[102, 97, 108, 115, 101]⟩ : ByteArray) (64 :: (l ++ r)) = false from rfl, show pre (⟨#[34]⟩ : ByteArray) (64 :: (l ++ r)) = false from rfl, show pre (⟨#[64]⟩ : ByteArray) (64 :: (l ++ r)) = true from rfl, show pre (⟨#[40]⟩ : ByteArray) (64 :: (l ++ r)) = false from rfl, show pre (⟨#[110]⟩ : ByteArray) (64 :: (l ++ r)) = false from rfl, show pre (⟨#[101]⟩ : ByteArray) (64 :: (l ++ r)) = false from rfl, show pre (⟨#[60]⟩ : ByteArray) (64 :: (l ++ r)) = false from rfl, show pre (⟨#[91]⟩ : ByteArray) (64 :: (l ++ r)) = false from rfl, show pre (⟨#[123]⟩ : ByteArray) (64 :: (l ++ r)) = false from rfl]
    obtain ⟨hl10, g⟩ := dateC ht (by omega) hD hn
    refine Ev.bind g ?_
    exact Ev.ret _
  | point a b ha hb =>
    intro t i d r ht hi h0 hr hd hdep
    have h : rest t i = 40 :: (Lib.itoa a ++ 32 :: (Lib.itoa b ++ 41 :: r)) := by rw [h0]; simp
    have hl := rest_lt h
    have hn := rest_next h
    rw [show (i + (40 :: (Lib.itoa a ++ 32 :: (Lib.itoa b ++ [41]))).length : Nat) = i + 1 + (Lib.itoa a).length + 1 + (Lib.itoa b).length + 1 by simp; omega]
    refine Ev.step ?_
    simp only [spec_l01Reader_value.f, le_cons h, takes_ (t := t) (i := i) _ _ (Nat.le_of_lt hl) ht, h, Option.bind_some, cond_true, cond_false, Bool.false_eq_true, if_true, if_false, len1, List.length_cons, List.length_nil, Nat.zero_add, Nat.reduceAdd, show pre (⟨#[110, 117, 108, 108]⟩ : ByteArray) (40 :: (Lib.itoa a ++ 32 :: (Lib.itoa b ++ 41 :: r))) = false from rfl, show pre (⟨#[116, 114, 117, 101]⟩ : ByteArray) (40 :: (Lib.itoa a ++ 32 :: (Lib.itoa b ++ 41 :: r))) = false from rfl, show pre (⟨#[102, 97, 108, 115, 101]⟩ : ByteArray) (40 :: (Lib.itoa a ++ 32 :: (Lib.itoa b ++ 41 :: r))) = false from rfl, show pre (⟨#[34]⟩ : ByteArray) (40 :: (Lib.itoa a ++ 32 :: (Lib.itoa b ++ 41 :: r))) = false from rfl, show pre (⟨#[64]⟩ : ByteArray) (40 :: (Lib.itoa a ++ 32 :: (Lib.itoa b ++ 41 :: r))) = false from rfl, show pre (⟨#[40]⟩ : ByteArray) (40 :: (Lib.itoa a ++ 32 :: (Lib.itoa b ++ 41 :: r))) = true from rfl, show pre (⟨#[110]⟩ : ByteArray) (40 :: (Lib.itoa a ++ 32 :: (Lib.itoa b ++ 41 :: r))) = false from rfl, show pre (⟨#[101]⟩ : ByteArray) (40 :: (Lib.itoa a ++ 32 :: (Lib.itoa b ++ 41 :: r))) = false from rfl, show pre (⟨#[60]⟩ : ByteArray) (40 :: (Lib.itoa a ++ 32 :: (Lib.itoa b ++ 41 :: r))) = false from rfl, show pre (⟨#[91]⟩ : ByteArray) (40 :: (Lib.itoa a ++ 32 :: (Lib.itoa b ++ 41 :: r))) = false from rfl, show pre (⟨#[123]⟩ : ByteArray) (40 :: (Lib.itoa a ++ 32 :: (Lib.itoa b ++ 41 :: r))) = false from rfl]
    refine Ev.bind (numC (b := false) ht (by omega) (by omega) hn (dlm_c _ rfl)) ?_
    have h2 := rest_split hn
    have h3 := rest_next h2
    have hl2 := rest_lt h2
    have h4 := rest_split h3
    have hl4 := rest_lt h4
    simp only [cond_false, take1 _ ht h2, Option.bind_some, beq_self_eq_true, if_true, Bool.not_true]
    refine Ev.step ?_
    simp only [spec_l01Reader_value.j0]
    refine Ev.bind (numC (b := false) ht (by omega) (by omega) h3 (dlm_c _ rfl)) ?_
    simp only [cond_false, take1 _ ht h4, Option.bind_some, beq_self_eq_true, if_true, cond_true, show decide (a < -1000000) = false by simp; omega, show decide (1000000 < a) = false by simp; omega, show decide (b < -1000000) = false by simp; omega, show decide (1000000 < b) = false by simp; omega]
    exact Ev.ret _
  | thing kind w n hk hn1 =>
    intro t i d r ht hi h0 hr hd hdep
    rcases hk with ⟨rfl, rfl⟩ | ⟨rfl, rfl⟩
    · have h : rest t i = 110 :: (Lib.itoa n ++ r) := h0
      have hl := rest_lt h
      have hn := rest_next h
      have hno : pre (⟨#[110, 117, 108, 108]⟩ : ByteArray) (110 :: (Lib.itoa n ++ r)) = false := by
        rw [itoa_nn (by omega)]
        cases hD : Lib.decDigits n.toNat with
        | nil => exact absurd hD (dec_ne _)
        | cons c q =>
          have hc := dec_head hD
          have : c ≠ 117 := by rintro rfl; simp [isD] at hc
          unfold pre
          simp only [List.cons_append, List.isPrefixOf, Bool.and_eq_false_iff]
          refine .inr (.inl ?_)
          simpa using fun e => this e.symm
      rw [show (i + (110 :: Lib.itoa n).length : Nat) = i + 1 + (Lib.itoa n).length by simp; omega]
      refine Ev.step ?_
      simp only [spec_l01Reader_value.f, le_cons h, takes_ (t := t) (i := i) _ _ (Nat.le_of_lt hl) ht, h, Option.bind_some, cond_true, cond_false, Bool.false_eq_true, if_true, if_false, len1, List.length_cons, List.length_nil, Nat.zero_add, Nat.reduceAdd, show pre (⟨#[116, 114, 117, 101]⟩ : ByteArray) (110 :: (Lib.itoa n ++ r)) = false from rfl, show pre (⟨#[102, 97, 108, 115, 101]⟩ : ByteArray) (110 :: (Lib.itoa n ++ r)) = false from rfl, show pre (⟨#[34]⟩ : ByteArray) (110 :: (Lib.itoa n ++ r)) = false from rfl, show pre (⟨#[64]⟩ : ByteArray) (110 :: (Lib.itoa n ++ r)) = false from rfl, show pre (⟨#[40]⟩ : ByteArray) (110 :: (Lib.itoa n ++ r)) = false from rfl, show pre (⟨#[110]⟩ : ByteArray) (110 :: (Lib.itoa n ++ r)) = true from rfl, show pre (⟨#[101]⟩ : ByteArray) (110 :: (Lib.itoa n ++ r)) = false from rfl, show pre (⟨#[60]⟩ : ByteArray) (110 :: (Lib.itoa n ++ r)) = false from rfl, show pre (⟨#[91]⟩ : ByteArray) (110 :: (Lib.itoa n ++ r)) = false from rfl, show pre (⟨#[123]⟩ : ByteArray) (110 :: (Lib.itoa n ++ r)) = false from rfl, hno]
      refine Ev.bind (thingC ht (by omega) hn1 hn hr) ?_
      exact Ev.ret _
    · have h : rest t i = 101 :: (Lib.itoa n ++ r) := h0
      have hl := rest_lt h
      have hn := rest_next h
      rw [show (i + (101 :: Lib.itoa n).length : Nat) = i + 1 + (Lib.itoa n).length by simp; omega]
      refine Ev.step ?_
      simp only [spec_l01Reader_value.f, le_cons h, takes_ (t := t) (i := i) _ _ (Nat.le_of_lt hl) ht, h, Option.bind_some, cond_true, cond_false, Bool.false_eq_true, if_true, if_false, len1, List.length_cons, List.length_nil, Nat.zero_add, Nat.reduceAdd, show pre (⟨#[110, 117, 108, 108]⟩ : ByteArray) (101 :: (Lib.itoa n ++ r)) = false from rfl, show pre (⟨#[116, 114, 117, 101]⟩ : ByteArray) (101 :: (Lib.itoa n ++ r)) = false from rfl, show pre (⟨#[102, 97, 108, 115, 101]⟩ : ByteArray) (101 :: (Lib.itoa n ++ r)) = false from rfl, show pre (⟨#[34]⟩ : ByteArray) (101 :: (Lib.itoa n ++ r)) = false from rfl, show pre (⟨#[64]⟩ : ByteArray) (101 :: (Lib.itoa n ++ r)) = false from rfl, show pre (⟨#[40]⟩ : ByteArray) (101 :: (Lib.itoa n ++ r)) = false from rfl, show pre (⟨#[110]⟩ : ByteArray) (101 :: (Lib.itoa n ++ r)) = false from rfl, show pre (⟨#[101]⟩ : ByteArray) (101 :: (Lib.itoa n ++ r)) = true from rfl, show pre (⟨#[60]⟩ : ByteArray) (101 :: (Lib.itoa n ++ r)) = false from rfl, show pre (⟨#[91]⟩ : ByteArray) (101 :: (Lib.itoa n ++ r)) = false from rfl, show pre (⟨#[123]⟩ : ByteArray) (101 :: (Lib.itoa n ++ r)) = false from rfl]
      refine Ev.bind (thingC ht (by omega) hn1 hn hr) ?_
      exact Ev.ret _
  | list items ls hl0 htx ih =>
    intro t i d r ht hi h0 hr hd hdep
    have h : rest t i = 91 :: (joinS [44] ls ++ 93 :: r) := by rw [h0]; simp
    have hl := rest_lt h
    have hn := rest_next h
    rw [show (i + (91 :: (joinS [44] ls ++ [93])).length : Nat) = i + 1 + (joinS [44] ls).length + 1 by simp; omega]
    refine Ev.step ?_
    simp only [spec_l01Reader_value.f, le_cons h, takes_ (t := t) (i := i) _ _ (Nat.le_of_lt hl) ht, h, Option.bind_some, cond_true, cond_false, Bool.false_eq_true, if_true, if_false, len1, List.length_cons, List.length_nil, Nat.zero_add, Nat.reduceAdd, show pre (⟨#[110, 117, 108, 108]⟩ : ByteArray) (91 :: (joinS [44] ls ++ 93 :: r)) = false from rfl, show pre (⟨#[116, 114, 117, 101]⟩ : ByteArray) (91 :: (joinS [44] ls ++ 93 :: r)) = false from rfl, show pre (⟨#[102, 97, 108, 115, 101]⟩ : ByteArray) (91 :: (joinS [44] ls ++ 93 :: r)) = false from rfl, show pre (⟨#[34]⟩ : ByteArray) (91 :: (joinS [44] ls ++ 93 :: r)) = false from rfl, show pre (⟨#[64]⟩ : ByteArray) (91 :: (joinS [44] ls ++ 93 :: r)) = false from rfl, show pre (⟨#[40]⟩ : ByteArray) (91 :: (joinS [44] ls ++ 93 :: r)) = false from rfl, show pre (⟨#[110]⟩ : ByteArray) (91 :: (joinS [44] ls ++ 93 :: r)) = false from rfl, show pre (⟨#[101]⟩ : ByteArray) (91 :: (joinS [44] ls ++ 93 :: r)) = false from rfl, show pre (⟨#[60]⟩ : ByteArray) (91 :: (joinS [44] ls ++ 93 :: r)) = false from rfl, show pre (⟨#[91]⟩ : ByteArray) (91 :: (joinS [44] ls ++ 93 :: r)) = true from rfl, show pre (⟨#[123]⟩ : ByteArray) (91 :: (joinS [44] ls ++ 93 :: r)) = false from rfl]
    have hdlt : d < 5 := by
      rcases Nat.lt_or_ge d 5 with g | g
      · exact g
      · rw [show 5 - d = 0 by omega] at hdep; exact absurd rfl hdep.1
    have hdep' : ∀ y ∈ items, DepLe (5 - (d + 1)) y := by
      rw [show 5 - d = (5 - (d + 1)) + 1 by omega] at hdep
      exact hdep (.inl rfl)
    simp only [show decide ((d : Int) < 5) = true by simp; omega, cond_true]
    refine Ev.pair (Ev.step ?_)
    by_cases he : items = []
    · subst he
      obtain rfl : ls = [] := List.eq_nil_of_length_eq_zero (by simpa using hl0)
      have h1 : rest t (i + 1) = 93 :: r := hn
      simp only [spec_l01Reader_list.f, take1 _ ht h1, Option.bind_some, beq_self_eq_true, if_true, cond_true]
      exact Ev.ret _
    · have hne : ∀ l ∈ ls, l ≠ [] := fun l hm => by
        obtain ⟨j, hj, e⟩ := List.getElem_of_mem hm
        obtain ⟨c, q, e2, _⟩ := txt_ne (htx j (items[j]'(by omega)) l (List.getElem?_eq_getElem (by omega)) (by rw [← e]; exact List.getElem?_eq_getElem hj))
        rw [e2]; simp
      obtain ⟨c, q, hq, hc⟩ : ∃ c q, joinS [44] ls ++ 93 :: r = c :: q ∧ c ≠ 93 := by
        cases ls with
        | nil => exact absurd (List.eq_nil_of_length_eq_zero (by simpa using hl0.symm)) he
        | cons a ls =>
          obtain ⟨c, q, e2, hc, _⟩ := txt_ne (htx 0 (items[0]'(by simp at hl0; omega)) a (List.getElem?_eq_getElem (by simp at hl0; omega)) rfl)
          cases ls with
          | nil => exact ⟨c, q ++ 93 :: r, by rw [e2]; rfl, hc⟩
          | cons b ls => exact ⟨c, _, by rw [e2]; simp only [joinS, List.cons_append]; rfl, hc⟩
      have h1 := hn
      rw [hq] at h1
      simp only [spec_l01Reader_list.f, take1 _ ht h1, Option.bind_some, show ((93 : UInt8) == c) = false by simpa using fun e => hc e.symm, Bool.false_eq_true, if_false, cond_false]
      have := listC (r := r) ht hdlt items ls [] (i + 1) he hl0 (fun j x l h1 h2 => ⟨ih j x l h1 h2, hdep' x (List.mem_of_getElem? h1)⟩) hn (by simp) (by omega) hne
      exact this
  | map items names ls hl0 hn0 hrs hk htx ih =>
    intro t i d r ht hi h0 hr hd hdep
    have h : rest t i = 123 :: (joinS [44] (List.zipWith (fun (n : ByteArray) l => n.data.toList ++ 58 :: l) names ls) ++ 125 :: r) := by rw [h0]; simp
    have hl := rest_lt h
    have hn := rest_next h
    rw [show (i + (123 :: (joinS [44] (List.zipWith (fun (n : ByteArray) l => n.data.toList ++ 58 :: l) names ls) ++ [125])).length : Nat) = i + 1 + (joinS [44] (List.zipWith (fun (n : ByteArray) l => n.data.toList ++ 58 :: l) names ls)).length + 1 by simp; omega]
    refine Ev.step ?_
    simp only [spec_l01Reader_value.f, le_cons h, takes_ (t := t) (i := i) _ _ (Nat.le_of_lt hl) ht, h, Option.bind_some, cond_true, cond_false, Bool.false_eq_true, if_true, if_false, len1, List.length_cons, List.length_nil, Nat.zero_add, Nat.reduceAdd, show pre (⟨#[110, 117, 108, 108]⟩ : ByteArray) (123 :: (joinS [44] (List.zipWith (fun (n : ByteArray) l => n.data.toList ++ 58 :: l) names ls) ++ 125 :: r)) = false from rfl, show pre (⟨#[116, 114, 117, 101]⟩ : ByteArray) (123 :: (joinS [44] (List.zipWith (fun (n : ByteArray) l => n.data.toList ++ 58 :: l) names ls) ++ 125 :: r)) = false from rfl, show pre (⟨#[102, 97, 108, 115, 101]⟩ : ByteArray) (123 :: (joinS [44] (List.zipWith (fun (n : ByteArray) l => n.data.toList ++ 58 :: l) names ls) ++ 125 :: r)) = false from rfl, show pre (⟨#[34]⟩ : ByteArray) (123 :: (joinS [44] (List.zipWith (fun (n : ByteArray) l => n.data.toList ++ 58 :: l) names ls) ++ 125 :: r)) = false from rfl, show pre (⟨#[64]⟩ : ByteArray) (123 :: (joinS [44] (List.zipWith (fun (n : ByteArray) l => n.data.toList ++ 58 :: l) names ls) ++ 125 :: r)) = false from rfl, show pre (⟨#[40]⟩ : ByteArray) (123 :: (joinS [44] (List.zipWith (fun (n : ByteArray) l => n.data.toList ++ 58 :: l) names ls) ++ 125 :: r)) = false from rfl, show pre (⟨#[110]⟩ : ByteArray) (123 :: (joinS [44] (List.zipWith (fun (n : ByteArray) l => n.data.toList ++ 58 :: l) names ls) ++ 125 :: r)) = false from rfl, show pre (⟨#[101]⟩ : ByteArray) (123 :: (joinS [44] (List.zipWith (fun (n : ByteArray) l => n.data.toList ++ 58 :: l) names ls) ++ 125 :: r)) = false from rfl, show pre (⟨#[60]⟩ : ByteArray) (123 :: (joinS [44] (List.zipWith (fun (n : ByteArray) l => n.data.toList ++ 58 :: l) names ls) ++ 125 :: r)) = false from rfl, show pre (⟨#[91]⟩ : ByteArray) (123 :: (joinS [44] (List.zipWith (fun (n : ByteArray) l => n.data.toList ++ 58 :: l) names ls) ++ 125 :: r)) = false from rfl, show pre (⟨#[123]⟩ : ByteArray) (123 :: (joinS [44] (List.zipWith (fun (n : ByteArray) l => n.data.toList ++ 58 :: l) names ls) ++ 125 :: r)) = true from rfl]
    have hdlt : d < 5 := by
      rcases Nat.lt_or_ge d 5 with g | g
      · exact g
      · rw [show 5 - d = 0 by omega] at hdep; exact absurd rfl hdep.2
    have hdep' : ∀ y ∈ items, DepLe (5 - (d + 1)) y := by
      rw [show 5 - d = (5 - (d + 1)) + 1 by omega] at hdep
      exact hdep (.inr rfl)
    simp only [show decide ((d : Int) < 5) = true by simp; omega, cond_true]
    refine Ev.step ?_
    simp only [spec_l01Reader_value.j1, show decide ((d : Int) < 5) = true by simp; omega, cond_true, take1 _ ht h, Option.bind_some, beq_self_eq_true, if_true]
    refine Ev.pair (Ev.step ?_)
    by_cases he : items = []
    · subst he
      obtain rfl : ls = [] := List.eq_nil_of_length_eq_zero (by simpa using hl0)
      obtain rfl : names = [] := List.eq_nil_of_length_eq_zero (by simpa using hn0)
      have h1 : rest t (i + 1) = 125 :: r := hn
      simp only [spec_l01Reader_fields.f, take1 _ ht h1, Option.bind_some, beq_self_eq_true, if_true, cond_true]
      exact Ev.ret _
    · obtain ⟨c, q, hq, hc⟩ : ∃ c q, joinS [44] (List.zipWith (fun (n : ByteArray) l => n.data.toList ++ 58 :: l) names ls) ++ 125 :: r = c :: q ∧ c ≠ 125 := by
        cases ls with
        | nil => exact absurd (List.eq_nil_of_length_eq_zero (by simpa using hl0.symm)) he
        | cons a ls =>
          cases names with
          | nil => exact absurd (List.eq_nil_of_length_eq_zero (by simpa using hn0.symm)) he
          | cons n names =>
            have hno := hk n (by simp)
            cases hnl : n.data.toList with
            | nil => rw [hnl] at hno; simp [nameOk] at hno
            | cons c q =>
              have hc : isN c = true := by
                unfold nameOk at hno; simp only [Bool.and_eq_true, List.all_eq_true] at hno; exact hno.2 c (by rw [hnl]; simp)
              have hc' : c ≠ 125 := by rintro rfl; simp [isN, isL, isD] at hc
              cases hz : List.zipWith (fun (n : ByteArray) l => n.data.toList ++ 58 :: l) names ls with
              | nil => exact ⟨c, q ++ 58 :: a ++ 125 :: r, by rw [List.zipWith_cons_cons, hz, hnl]; simp [joinS], hc'⟩
              | cons z zs => exact ⟨c, q ++ 58 :: (a ++ 44 :: (joinS [44] (z :: zs) ++ 125 :: r)), by rw [List.zipWith_cons_cons, hz, hnl]; simp [joinS], hc'⟩
      have h1 := hn
      rw [hq] at h1
      simp only [spec_l01Reader_fields.f, take1 _ ht h1, Option.bind_some, show ((125 : UInt8) == c) = false by simpa using fun e => hc e.symm, Bool.false_eq_true, if_false, cond_false]
      have := fieldsC (r := r) ht hdlt items names ls [] [] (i + 1) he hl0 hn0 hk hrs (fun j x l h1 h2 => ⟨ih j x l h1 h2, hdep' x (List.mem_of_getElem? h1)⟩) hn (by simp) (by simp) (by omega)
      exact this
  | path items ls hl0 htx hk ih =>
    intro t i d r ht hi h0 hr hd hdep
    have h : rest t i = 60 :: (joinS [32] ls ++ 62 :: r) := by rw [h0]; simp
    have hl := rest_lt h
    have hn := rest_next h
    rw [show (i + (60 :: (joinS [32] ls ++ [62])).length : Nat) = i + 1 + (joinS [32] ls).length + 1 by simp; omega]
    refine Ev.step ?_
    simp only [spec_l01Reader_value.f, le_cons h, takes_ (t := t) (i := i) _ _ (Nat.le_of_lt hl) ht, h, Option.bind_some, cond_true, cond_false, Bool.false_eq_true, if_true, if_false, len1, List.length_cons, List.length_nil, Nat.zero_add, Nat.reduceAdd, show pre (⟨#[110, 117, 108, 108]⟩ : ByteArray) (60 :: (joinS [32] ls ++ 62 :: r)) = false from rfl, show pre (⟨#[116, 114, 117, 101]⟩ : ByteArray) (60 :: (joinS [32] ls ++ 62 :: r)) = false from rfl, show pre (⟨#[102, 97, 108, 115, 101]⟩ : ByteArray) (60 :: (joinS [32] ls ++ 62 :: r)) = false from rfl, show pre (⟨#[34]⟩ : ByteArray) (60 :: (joinS [32] ls ++ 62 :: r)) = false from rfl, show pre (⟨#[64]⟩ : ByteArray) (60 :: (joinS [32] ls ++ 62 :: r)) = false from rfl, show pre (⟨#[40]⟩ : ByteArray) (60 :: (joinS [32] ls ++ 62 :: r)) = false from rfl, show pre (⟨#[110]⟩ : ByteArray) (60 :: (joinS [32] ls ++ 62 :: r)) = false from rfl, show pre (⟨#[101]⟩ : ByteArray) (60 :: (joinS [32] ls ++ 62 :: r)) = false from rfl, show pre (⟨#[60]⟩ : ByteArray) (60 :: (joinS [32] ls ++ 62 :: r)) = true from rfl, show pre (⟨#[91]⟩ : ByteArray) (60 :: (joinS [32] ls ++ 62 :: r)) = false from rfl, show pre (⟨#[123]⟩ : ByteArray) (60 :: (joinS [32] ls ++ 62 :: r)) = false from rfl]
    have he : items ≠ [] := by rintro rfl; simp at hk
    refine Ev.pair (Ev.step ?_)
    simp only [spec_l01Reader_path.f]
    have := pathC (r := r) ht items ls [] (i + 1) he hl0 htx (fun j x h1 => by rw [hk.1 j x h1]; simp) (by simpa using hk.2) hn (by simp) (by omega)
    exact this
  | num n hn0 =>
    intro t i d r ht hi h0 hr hd hdep
    obtain ⟨c, q, hc, hcd⟩ : ∃ c q, Lib.itoa n = c :: q ∧ (c = 45 ∨ isD c = true) := by
      by_cases hneg : n < 0
      · exact ⟨45, _, itoa_ng hneg, .inl rfl⟩
      · rw [itoa_nn (by omega)]
        cases hD : Lib.decDigits n.toNat with
        | nil => exact absurd hD (dec_ne _)
        | cons c q => exact ⟨c, q, rfl, .inr (dec_head hD)⟩
    have h : rest t i = c :: (q ++ r) := by rw [h0, hc]; rfl
    have hl := rest_lt h
    have hne : ∀ x : UInt8, x ≠ 45 → isD x = false → c ≠ x := by
      rintro x h1 h2 rfl
      rcases hcd with hcd | hcd
      · exact h1 hcd
      · rw [hcd] at h2; cases h2
    have hnum := numC (b := false) ht hi hn0 h0 hr
    have j1 : Ev (fun k => spec_l01Reader_value.j1 k (d : Int) t (i : Int) false) (⟨2, n, 0, ⟨#[]⟩, [], []⟩, ⟨t, ((i + (Lib.itoa n).length : Nat) : Int), false⟩) := by
      refine Ev.step ?_
      simp only [spec_l01Reader_value.j1, take1 _ ht h, Option.bind_some, show ((123 : UInt8) == c) = false by simpa using fun e => hne 123 (by decide) rfl e.symm, Bool.false_eq_true, if_false, cond_false]
      have g := Ev.bind hnum (g := fun k v37 => some ((⟨2, v37.1, 0, (⟨#[]⟩ : ByteArray), ([] : (List S42)), ([] : (List ByteArray))⟩ : S42), v37.2)) (Ev.ret _)
      by_cases hd5 : d < 5
      · simp only [show decide ((d : Int) < 5) = true by simp; omega, cond_true]; exact g
      · simp only [show decide ((d : Int) < 5) = false by simp; omega, cond_false]; exact g
    refine Ev.step ?_
    simp only [spec_l01Reader_value.f, le_cons h, takes_ (t := t) (i := i) _ _ (Nat.le_of_lt hl) ht, h, Option.bind_some, cond_true, cond_false, Bool.false_eq_true, if_true, if_false, len1, List.length_cons, List.length_nil, Nat.zero_add, Nat.reduceAdd, show pre (⟨#[110, 117, 108, 108]⟩ : ByteArray) (c :: (q ++ r)) = false from pre_hd _ _ (hne 110 (by decide) rfl), show pre (⟨#[116, 114, 117, 101]⟩ : ByteArray) (c :: (q ++ r)) = false from pre_hd _ _ (hne 116 (by decide) rfl), show pre (⟨#[102, 97, 108, 115, 101]⟩ : ByteArray) (c :: (q ++ r)) = false from pre_hd _ _ (hne 102 (by decide) rfl), show pre (⟨#[34]⟩ : ByteArray) (c :: (q ++ r)) = false from pre_hd _ _ (hne 34 (by decide) rfl), show pre (⟨#[64]⟩ : ByteArray) (c :: (q ++ r)) = false from pre_hd _ _ (hne 64 (by decide) rfl), show pre (⟨#[40]⟩ : ByteArray) (c :: (q ++ r)) = false from pre_hd _ _ (hne 40 (by decide) rfl), show pre (⟨#[110]⟩ : ByteArray) (c :: (q ++ r)) = false from pre_hd _ _ (hne 110 (by decide) rfl), show pre (⟨#[101]⟩ : ByteArray) (c :: (q ++ r)) = false from pre_hd _ _ (hne 101 (by decide) rfl), show pre (⟨#[60]⟩ : ByteArray) (c :: (q ++ r)) = false from pre_hd _ _ (hne 60 (by decide) rfl), show pre (⟨#[91]⟩ : ByteArray) (c :: (q ++ r)) = false from pre_hd _ _ (hne 91 (by decide) rfl)]
    simp only [bif_same]
    exact j1
end Go.Ab
namespace Go.Ab
open Go.Proofs
set_option linter.unusedVariables false
set_option linter.unusedSimpArgs false
theorem pc_bind {α β : Type} {x : Option α} {f : α → Option β} {r : β} {P : Prop} (h : x.bind f = some r) (g : ∀ a, x = some a → f a = some r → P) : P := by
  cases x with
  | none => cases h
  | some a => exact g a rfl h
theorem pc_cond {α : Type} {c : Bool} {a b : Option α} {r : α} {P : Prop} (h : (bif c then a else b) = some r) (g1 : c = true → a = some r → P) (g2 : c = false → b = some r → P) : P := by
  cases c
  · exact g2 rfl h
  · exact g1 rfl h
theorem app_inv {α : Type} {a b r : List α} (h : app a b = some r) : r = a ++ b := by
  unfold app at h
  split at h
  · cases h; rfl
  · cases h
def Fl (x : S42) : Prop := x.f0 ≠ 6 ∧ x.f0 ≠ 7
theorem fl_of {x : S42} {n : Int} (e : x.f0 = n) (h : n ≠ 6 ∧ n ≠ 7) : Fl x := by unfold Fl; rw [e]; exact h
theorem fl_fail {k : Nat} {s : S70} {r : S42 × S70} (h : spec_l01Reader_fail.f k s = some r) : Fl r.1 := by
  cases h; exact fl_of rfl (by simp)
theorem fl_pass {x : Option (S42 × S70)} {r : S42 × S70} {P : S42 → Prop} (h : (x.bind fun v => some (v.1, v.2)) = some r) (g : ∀ a, x = some a → P a.1) : P r.1 := by
  refine pc_bind h fun a e h => ?_
  cases h; exact g a e
theorem fl_date0 : ∀ (k : Nat) (v1 v6 v11 : Int × S70) (n q : Int) (r : S42 × S70), spec_l01Reader_date.l0 k v1 v6 n q v11 = some r → Fl r.1 := by
  intro k
  induction k with
  | zero => intro v1 v6 v11 n q r h; simp only [spec_l01Reader_date.l0] at h; cases h
  | succ k ih =>
    intro v1 v6 v11 n q r h
    simp only [spec_l01Reader_date.l0] at h
    refine pc_cond h (fun _ h => ?_) (fun _ h => ?_)
    · refine pc_bind h fun a e h => ?_
      exact ih _ _ _ _ _ _ h
    · cases h; exact fl_of rfl (by simp)
theorem fl_date {k : Nat} {s : S70} {r : S42 × S70} (h : spec_l01Reader_date.f k s = some r) : Fl r.1 := by
  have j1 : ∀ (k : Nat) (v1 v6 : Int × S70) (t : ByteArray) (i : Int) (b : Bool) (r : S42 × S70), spec_l01Reader_date.j1 k v1 v6 t i b = some r → Fl r.1 := by
    intro k v1 v6 t i b r h
    cases k with
    | zero => simp only [spec_l01Reader_date.j1] at h; cases h
    | succ k =>
      simp only [spec_l01Reader_date.j1] at h
      refine pc_bind h fun _ _ h => ?_
      refine pc_cond h (fun _ h => fl_pass h fun a e => fl_fail e) (fun _ h => ?_)
      refine pc_cond h (fun _ h => fl_pass h fun a e => fl_fail e) (fun _ h => ?_)
      refine pc_cond h (fun _ h => fl_pass h fun a e => fl_fail e) (fun _ h => ?_)
      refine pc_cond h (fun _ h => fl_pass h fun a e => fl_fail e) (fun _ h => ?_)
      refine pc_cond h (fun _ h => fl_pass h fun a e => fl_fail e) (fun _ h => ?_)
      refine pc_bind h fun _ _ h => ?_
      refine pc_cond h (fun _ h => fl_pass h fun a e => fl_fail e) (fun _ h => ?_)
      refine pc_bind h fun _ _ h => ?_
      exact fl_date0 _ _ _ _ _ _ _ h
  have j0 : ∀ (k : Nat) (v1 : Int × S70) (t : ByteArray) (i : Int) (b : Bool) (r : S42 × S70), spec_l01Reader_date.j0 k v1 t i b = some r → Fl r.1 := by
    intro k v1 t i b r h
    cases k with
    | zero => simp only [spec_l01Reader_date.j0] at h; cases h
    | succ k =>
      simp only [spec_l01Reader_date.j0] at h
      refine pc_bind h fun _ _ h => ?_
      refine pc_cond h (fun _ h => j1 _ _ _ _ _ _ _ h) (fun _ h => ?_)
      refine pc_bind h fun _ _ h => ?_
      exact j1 _ _ _ _ _ _ _ h
  cases k with
  | zero => simp only [spec_l01Reader_date.f] at h; cases h
  | succ k =>
    simp only [spec_l01Reader_date.f] at h
    refine pc_bind h fun _ _ h => ?_
    refine pc_cond h (fun _ h => j0 _ _ _ _ _ _ h) (fun _ h => ?_)
    refine pc_bind h fun _ _ h => ?_
    exact j0 _ _ _ _ _ _ h
theorem fl_path1 : ∀ (k : Nat), (∀ (t : ByteArray) (i : Int) (b : Bool) (acc : List S42) (r : S42 × S70), spec_l01Reader_path.l0 k t i b acc = some r → Fl r.1) ∧ (∀ (w : ByteArray) (kd : Int) (t : ByteArray) (i : Int) (acc : List S42) (r : S42 × S70), spec_l01Reader_path.j0 k w kd t i acc = some r → Fl r.1) := by
  intro k
  induction k with
  | zero => exact ⟨fun _ _ _ _ _ h => by (simp only [spec_l01Reader_path.l0] at h; cases h), fun _ _ _ _ _ _ h => by (simp only [spec_l01Reader_path.j0] at h; cases h)⟩
  | succ k ih =>
    constructor
    · intro t i b acc r h
      simp only [spec_l01Reader_path.l0] at h
      refine pc_cond h (fun _ h => by cases h; exact fl_of rfl (by simp)) (fun _ h => ?_)
      refine pc_bind h fun _ _ h => ?_
      exact pc_cond h (fun _ h => ih.2 _ _ _ _ _ _ h) (fun _ h => ih.2 _ _ _ _ _ _ h)
    · intro w kd t i acc r h
      simp only [spec_l01Reader_path.j0] at h
      refine pc_bind h fun _ _ h => ?_
      refine pc_cond h (fun _ h => ?_) (fun _ h => fl_pass h fun a e => fl_fail e)
      refine pc_bind h fun _ _ h => ?_
      refine pc_bind h fun _ _ h => ?_
      refine pc_cond h (fun _ h => ?_) (fun _ h => ?_)
      · refine pc_bind h fun _ _ h => ?_
        refine pc_cond h (fun _ h => by cases h; exact fl_of rfl (by simp)) (fun _ h => ?_)
        refine pc_bind h fun _ _ h => ?_
        exact pc_cond h (fun _ h => ih.1 _ _ _ _ _ h) (fun _ h => fl_pass h fun a e => fl_fail e)
      · refine pc_bind h fun _ _ h => ?_
        exact pc_cond h (fun _ h => ih.1 _ _ _ _ _ h) (fun _ h => fl_pass h fun a e => fl_fail e)
theorem fl_path {k : Nat} {s : S70} {r : S42 × S70} (h : spec_l01Reader_path.f k s = some r) : Fl r.1 := by
  cases k with
  | zero => simp only [spec_l01Reader_path.f] at h; cases h
  | succ k =>
    simp only [spec_l01Reader_path.f] at h
    exact (fl_path1 k).1 _ _ _ _ _ h
theorem fl_thing {k : Nat} {kd : Int} (hk : kd ≠ 6 ∧ kd ≠ 7) {s : S70} {r : S42 × S70} (h : spec_l01Reader_thing.f k kd s = some r) : Fl r.1 := by
  unfold spec_l01Reader_thing.f at h
  refine pc_bind h fun _ _ h => ?_
  refine pc_cond h (fun _ h => by cases h; exact hk) (fun _ h => ?_)
  exact pc_cond h (fun _ h => by cases h; exact hk) (fun _ h => by cases h; exact hk)
theorem fl_point {k : Nat} {v12 : Int × S70} {t : ByteArray} {i : Int} {b : Bool} {r : S42 × S70} (h : spec_l01Reader_value.j0 k v12 t i b = some r) : Fl r.1 := by
  cases k with
  | zero => simp only [spec_l01Reader_value.j0] at h; cases h
  | succ k =>
    simp only [spec_l01Reader_value.j0] at h
    refine pc_bind h fun _ _ h => ?_
    refine pc_cond h (fun _ h => fl_pass h fun a e => fl_fail e) (fun _ h => ?_)
    refine pc_bind h fun _ _ h => ?_
    refine pc_cond h (fun _ h => ?_) (fun _ h => fl_pass h fun a e => fl_fail e)
    refine pc_cond h (fun _ h => fl_pass h fun a e => fl_fail e) (fun _ h => ?_)
    refine pc_cond h (fun _ h => fl_pass h fun a e => fl_fail e) (fun _ h => ?_)
    refine pc_cond h (fun _ h => fl_pass h fun a e => fl_fail e) (fun _ h => ?_)
    refine pc_cond h (fun _ h => fl_pass h fun a e => fl_fail e) (fun _ h => ?_)
    cases h; exact fl_of rfl (by simp)
theorem dep_mk {d : Nat} (hd : d < 5) {x : S42} (h : ∀ y ∈ x.f4, DepLe (5 - (d + 1)) y) : DepLe (5 - d) x := by
  rw [show 5 - d = (5 - (d + 1)) + 1 by omega]
  exact fun _ => h
theorem dep_snoc {n : Nat} {acc : List S42} {x : S42} (h : ∀ y ∈ acc, DepLe n y) (hx : DepLe n x) : ∀ y ∈ acc ++ [x], DepLe n y := fun y hy => (List.mem_append.1 hy).elim (h y) (fun e => List.mem_singleton.1 e ▸ hx)
theorem dep_value : ∀ (k : Nat),
    (∀ (d : Nat) (s : S70) (r : S42 × S70), d ≤ 5 → spec_l01Reader_value.f k (d : Int) s = some r → DepLe (5 - d) r.1) ∧
    (∀ (d : Nat) (t : ByteArray) (i : Int) (b : Bool) (r : S42 × S70), d ≤ 5 → spec_l01Reader_value.j1 k (d : Int) t i b = some r → DepLe (5 - d) r.1) ∧
    (∀ (d : Nat) (s : S70) (r : S42 × S70), d < 5 → spec_l01Reader_list.f k (d : Int) s = some r → DepLe (5 - d) r.1) ∧
    (∀ (d : Nat) (t : ByteArray) (i : Int) (b : Bool) (acc : List S42) (r : S42 × S70), d < 5 → (∀ y ∈ acc, DepLe (5 - (d + 1)) y) → spec_l01Reader_list.l0 k (d : Int) t i b acc = some r → DepLe (5 - d) r.1) ∧
    (∀ (d : Nat) (s : S70) (r : S42 × S70), d < 5 → spec_l01Reader_fields.f k (d : Int) s = some r → DepLe (5 - d) r.1) ∧
    (∀ (d : Nat) (t : ByteArray) (i : Int) (b : Bool) (acc : List S42) (accN : List ByteArray) (r : S42 × S70), d < 5 → (∀ y ∈ acc, DepLe (5 - (d + 1)) y) → spec_l01Reader_fields.l0 k (d : Int) t i b acc accN = some r → DepLe (5 - d) r.1) := by
  intro k
  induction k with
  | zero =>
    refine ⟨?_, ?_, ?_, ?_, ?_, ?_⟩
    · intro d s r _ h; simp only [spec_l01Reader_value.f] at h; cases h
    · intro d t i b r _ h; simp only [spec_l01Reader_value.j1] at h; cases h
    · intro d s r _ h; simp only [spec_l01Reader_list.f] at h; cases h
    · intro d t i b acc r _ _ h; simp only [spec_l01Reader_list.l0] at h; cases h
    · intro d s r _ h; simp only [spec_l01Reader_fields.f] at h; cases h
    · intro d t i b acc accN r _ _ h; simp only [spec_l01Reader_fields.l0] at h; cases h
  | succ k ih =>
    obtain ⟨iv, ij, il, il0, ig, ig0⟩ := ih
    have ff : ∀ {n : Nat} {k : Nat} {s : S70} {r : S42 × S70}, ((spec_l01Reader_fail.f k s).bind fun v => some (v.1, v.2)) = some r → DepLe n r.1 := fun h => dep_flat (fl_pass h fun a e => fl_fail e)
    refine ⟨?_, ?_, ?_, ?_, ?_, ?_⟩
    · intro d s r hd h
      simp only [spec_l01Reader_value.f] at h
      refine pc_cond h (fun _ h => ff h) (fun _ h => ?_)
      refine pc_cond h (fun _ h => ff h) (fun _ h => ?_)
      refine pc_bind h fun _ _ h => ?_
      refine pc_cond h (fun _ h => by cases h; exact dep_flat (fl_of rfl (by simp))) (fun _ h => ?_)
      refine pc_bind h fun _ _ h => ?_
      refine pc_cond h (fun _ h => by cases h; exact dep_flat (fl_of rfl (by simp))) (fun _ h => ?_)
      refine pc_bind h fun _ _ h => ?_
      refine pc_cond h (fun _ h => by cases h; exact dep_flat (fl_of rfl (by simp))) (fun _ h => ?_)
      refine pc_bind h fun _ _ h => ?_
      refine pc_cond h (fun _ h => ?_) (fun _ h => ?_)
      · refine pc_bind h fun _ _ h => ?_
        cases h; exact dep_flat (fl_of rfl (by simp))
      refine pc_bind h fun _ _ h => ?_
      refine pc_cond h (fun _ h => dep_flat (fl_pass h fun a e => fl_date e)) (fun _ h => ?_)
      refine pc_bind h fun _ _ h => ?_
      refine pc_cond h (fun _ h => ?_) (fun _ h => ?_)
      · refine pc_bind h fun _ _ h => ?_
        refine pc_cond h (fun _ h => dep_flat (fl_point h)) (fun _ h => ?_)
        refine pc_bind h fun _ _ h => ?_
        exact dep_flat (fl_point h)
      refine pc_bind h fun _ _ h => ?_
      refine pc_cond h (fun _ h => dep_flat (fl_pass h fun a e => fl_thing (by decide) e)) (fun _ h => ?_)
      refine pc_bind h fun _ _ h => ?_
      refine pc_cond h (fun _ h => dep_flat (fl_pass h fun a e => fl_thing (by decide) e)) (fun _ h => ?_)
      refine pc_bind h fun _ _ h => ?_
      refine pc_cond h (fun _ h => dep_flat (fl_pass h fun a e => fl_path e)) (fun _ h => ?_)
      refine pc_cond h (fun hd5 h => ?_) (fun _ h => ij _ _ _ _ _ hd h)
      refine pc_bind h fun _ _ h => ?_
      exact pc_cond h (fun _ h => fl_pass h fun a e => il _ _ _ (by simp at hd5; omega) e) (fun _ h => ij _ _ _ _ _ hd h)
    · intro d t i b r hd h
      simp only [spec_l01Reader_value.j1] at h
      refine pc_cond h (fun hd5 h => ?_) (fun _ h => ?_)
      · refine pc_bind h fun _ _ h => ?_
        refine pc_cond h (fun _ h => fl_pass h fun a e => ig _ _ _ (by simp at hd5; omega) e) (fun _ h => ?_)
        refine pc_bind h fun _ _ h => ?_
        cases h; exact dep_flat (fl_of rfl (by simp))
      · refine pc_bind h fun _ _ h => ?_
        cases h; exact dep_flat (fl_of rfl (by simp))
    · intro d s r hd h
      simp only [spec_l01Reader_list.f] at h
      refine pc_bind h fun _ _ h => ?_
      refine pc_cond h (fun _ h => ?_) (fun _ h => il0 _ _ _ _ _ _ hd (fun y hy => by simp at hy) h)
      cases h; exact dep_mk hd (fun y hy => by simp at hy)
    · intro d t i b acc r hd ha h
      simp only [spec_l01Reader_list.l0, w1d (d := d) (by omega)] at h
      refine pc_cond h (fun _ h => by cases h; exact dep_mk hd ha) (fun _ h => ?_)
      refine pc_bind h fun x e h => ?_
      have hx := iv (d + 1) _ _ (by omega) e
      refine pc_bind h fun q e h => ?_
      have eq := app_inv e
      subst eq
      have ha2 := dep_snoc ha hx
      refine pc_bind h fun _ _ h => ?_
      refine pc_cond h (fun _ h => by cases h; exact dep_mk hd ha2) (fun _ h => ?_)
      refine pc_bind h fun _ _ h => ?_
      exact pc_cond h (fun _ h => il0 _ _ _ _ _ _ hd ha2 h) (fun _ h => ff h)
    · intro d s r hd h
      simp only [spec_l01Reader_fields.f] at h
      refine pc_bind h fun _ _ h => ?_
      refine pc_cond h (fun _ h => ?_) (fun _ h => ig0 _ _ _ _ _ _ _ hd (fun y hy => by simp at hy) h)
      cases h; exact dep_mk hd (fun y hy => by simp at hy)
    · intro d t i b acc accN r hd ha h
      simp only [spec_l01Reader_fields.l0, w1d (d := d) (by omega)] at h
      refine pc_cond h (fun _ h => by cases h; exact dep_mk hd ha) (fun _ h => ?_)
      refine pc_bind h fun _ _ h => ?_
      refine pc_bind h fun _ _ h => ?_
      refine pc_bind h fun _ _ h => ?_
      refine pc_cond h (fun _ h => ?_) (fun _ h => ff h)
      refine pc_bind h fun x e h => ?_
      have hx := iv (d + 1) _ _ (by omega) e
      refine pc_bind h fun q e h => ?_
      have eq := app_inv e
      subst eq
      have ha2 := dep_snoc ha hx
      refine pc_bind h fun _ _ h => ?_
      refine pc_cond h (fun _ h => ?_) (fun _ h => ?_)
      · refine pc_bind h fun _ _ h => ?_
        exact pc_cond h (fun _ h => by cases h; exact dep_mk hd ha2) (fun _ h => ff h)
      · refine pc_bind h fun _ _ h => ?_
        exact pc_cond h (fun _ h => ig0 _ _ _ _ _ _ _ hd ha2 h) (fun _ h => ff h)
theorem read_dep {t : ByteArray} {x : S42} (h : Ev (fun k => spec_l01Read.f k t) x) : DepLe 5 x := by
  obtain ⟨k, hk⟩ := h.at_
  unfold spec_l01Read.f at hk
  refine pc_cond hk (fun _ h => by cases h; exact dep_flat (fl_of rfl (by simp))) (fun _ h => ?_)
  refine pc_bind h fun a e h => ?_
  have := (dep_value k).1 0 _ _ (by omega) e
  refine pc_cond h (fun _ h => by cases h; exact dep_flat (fl_of rfl (by simp))) (fun _ h => ?_)
  refine pc_cond h (fun _ h => by cases h; exact this) (fun _ h => by cases h; exact dep_flat (fl_of rfl (by simp)))
/-- A value's text, read whole. -/
theorem read_txt {x : S42} {l : List UInt8} (h : Txt x l) (hl : l.length ≤ 2000) (hd : DepLe 5 x) : Ev (fun k => spec_l01Read.f k (bs l)) x := by
  have hr := readC h (bs l) 0 0 [] (by rw [bs_size]; omega) (by omega) (by rw [rest_bs]; simp) dlm_nil (by omega) hd
  unfold spec_l01Read.f
  simp only [show decide ((2000 : Int) < ((bs l).size : Int)) = false by rw [bs_size]; simp; omega, cond_false]
  refine Ev.bind hr ?_
  simp only [cond_false, Nat.zero_add, bs_size, beq_self_eq_true, cond_true]
  exact Ev.ret _
theorem txt_kind {x : S42} {l : List UInt8} (h : Txt x l) : 0 ≤ x.f0 := by
  cases h with
  | thing kind w n h hn => rcases h with ⟨_, rfl⟩ | ⟨_, rfl⟩ <;> simp
  | num n h => simp
  | null => simp
  | tru => simp
  | fls => simp
  | text s hs => simp
  | date n l h => simp
  | point a b ha hb => simp
  | list items ls hl h => simp
  | map items names ls hl hn hr hk h => simp
  | path items ls hl h hk => simp
/-- A value's text tells the value to both. -/
theorem both_txt {x : S42} {l : List UInt8} (h : Txt x l) (hl : l.length ≤ 2000) (hd : DepLe 5 x) : Wf x ∧ Ev (fun k => spec_l01Read.f k (bs l)) x ∧ Ev (fun k => impl_read.f k (bs l)) (toI x, true) := by
  have h1 := read_txt h hl hd
  rcases readT_ (bs l) with ⟨sv, ⟨hw, _, _⟩, h2, h3⟩ | ⟨iv, h2, _⟩
  · have e := h1.uniq h2
    subst e
    exact ⟨hw, h1, h3⟩
  · have e := h1.uniq h2
    have := txt_kind h
    rw [e] at this
    exact absurd this (by decide)
end Go.Ab
namespace Go.Ab
open Go.Proofs
set_option linter.unusedVariables false
set_option linter.unusedSimpArgs false
/-- A text that both read. -/
def VT (t : ByteArray) : Prop := ∃ sv, (Wf sv ∧ t.size ≤ 2000 ∧ Txt sv t.data.toList) ∧ Ev (fun k => spec_l01Read.f k t) sv ∧ Ev (fun k => impl_read.f k t) (toI sv, true)
theorem vt_no {t : ByteArray} (h : ¬ VT t) : ∃ iv, Ev (fun k => spec_l01Read.f k t) ⟨-1, 0, 0, ⟨#[]⟩, [], []⟩ ∧ Ev (fun k => impl_read.f k t) (iv, false) := (readT_ t).resolve_left h
theorem vt_kind {t : ByteArray} {sv : S42} (h : Wf sv) : ¬ sv.f0 < 0 := by
  cases h with | mk _ hk => omega
def parts (l : List ByteArray) : List (List UInt8) := l.map (·.data.toList)
def listT (l : List ByteArray) : List UInt8 := 91 :: (joinS [44] (parts l) ++ [93])
open Classical in
/-- What both tell. -/
noncomputable def listR (l : List ByteArray) : ByteArray := if (∀ s ∈ l, VT s) ∧ VT (bs (listT l)) then bs (listT l) else ⟨#[]⟩
theorem listR_no1 {l : List ByteArray} {s : ByteArray} (h : s ∈ l) (hn : ¬ VT s) : listR l = ⟨#[]⟩ := by
  unfold listR; rw [if_neg (fun h' => hn (h'.1 s h))]
theorem listR_no2 {l : List ByteArray} (hn : ¬ VT (bs (listT l))) : listR l = ⟨#[]⟩ := by
  unfold listR; rw [if_neg (fun h' => hn h'.2)]
section
variable {l : List ByteArray}
theorem parts_get {i : Nat} (h : i < l.length) : (parts l)[i]'(by simpa [parts] using h) = l[i].data.toList := by simp [parts]
theorem parts_len : (parts l).length = l.length := by simp [parts]
theorem list_s (hl : l.length ≤ 1000) : ∀ (n i : Nat), l.length - i ≤ n → i ≤ l.length → (∀ s ∈ l.take i, VT s) → (joinS [44] ((parts l).take i)).length ≤ 2000 → Ev (fun k => spec_ListOf.l0 k l (bs (joinS [44] ((parts l).take i))) (i : Int)) (listR l) := by
  have fin : ∀ i : Nat, ¬ i < l.length → i ≤ l.length → (∀ s ∈ l.take i, VT s) → (joinS [44] ((parts l).take i)).length ≤ 2000 → Ev (fun k => spec_ListOf.l0 k l (bs (joinS [44] ((parts l).take i))) (i : Int)) (listR l) := fun i h hle hv hb => by
    refine Ev.step ?_
    rw [List.take_of_length_le (by rw [parts_len]; omega)] at hb ⊢
    rw [List.take_of_length_le (by omega)] at hv
    simp only [spec_ListOf.l0, ltn h, cond_false, show (⟨#[91]⟩ : ByteArray) = bs [91] from rfl, show (⟨#[93]⟩ : ByteArray) = bs [93] from rfl]
    rw [catl (by simp; omega)]
    simp only [Option.bind_some]
    rw [catl (by simp; omega)]
    simp only [Option.bind_some]
    rw [show [91] ++ joinS [44] (parts l) ++ [93] = listT l by simp [listT]]
    by_cases hT : VT (bs (listT l))
    · have e : listR l = bs (listT l) := by unfold listR; rw [if_pos ⟨hv, hT⟩]
      rw [e]
      obtain ⟨sv, ⟨hw, _⟩, r1, _⟩ := hT
      refine Ev.bind (?_ : Ev (fun k => spec_l01Keep.f k (bs (listT l))) (bs (listT l))) (Ev.ret _)
      unfold spec_l01Keep.f
      refine Ev.bind r1 ?_
      simp only [decide_eq_false (vt_kind (t := bs (listT l)) hw), cond_false]
      exact Ev.ret _
    · rw [listR_no2 hT]
      obtain ⟨iv, r1, _⟩ := vt_no hT
      refine Ev.bind (?_ : Ev (fun k => spec_l01Keep.f k (bs (listT l))) (⟨#[]⟩ : ByteArray)) (Ev.ret _)
      unfold spec_l01Keep.f
      refine Ev.bind r1 ?_
      simp only [show decide ((-1 : Int) < 0) = true from rfl, cond_true]
      exact Ev.ret _
  intro n
  induction n with
  | zero => intro i h hle hv hb; exact fin i (by omega) hle hv hb
  | succ n ih =>
    intro i h hle hv hb
    by_cases hi : i < l.length
    case neg => exact fin i hi hle hv hb
    have hip : i < (parts l).length := by rw [parts_len]; exact hi
    have hstep := joinS_step (sep := [44]) hip
    rw [parts_get hi] at hstep
    have hall := joinS_take (sep := [44]) (parts l) (i + 1)
    have go : ∀ o : List UInt8, o.length ≤ 2001 → (if i = 0 then l[i].data.toList else joinS [44] ((parts l).take i) ++ [44] ++ l[i].data.toList) = o ++ l[i].data.toList → Ev (fun k => spec_ListOf.j0 k l (bs o) (i : Int)) (listR l) := fun o ho he => by
      refine Ev.step ?_
      simp only [spec_ListOf.j0, ixg hi, Option.bind_some]
      by_cases hV : VT l[i]
      · obtain ⟨sv, ⟨hw, hsz, _⟩, r1, _⟩ := id hV
        refine Ev.bind r1 ?_
        simp only [decide_eq_false (vt_kind (t := l[i]) hw), cond_false]
        have hdl : l[i].data.toList.length ≤ 2000 := by rw [← size_list]; exact hsz
        rw [show l[i] = bs l[i].data.toList from bs_of _, catl (by omega)]
        simp only [Option.bind_some, bs_size]
        rw [he] at hstep
        by_cases hbig : 2000 < (o ++ l[i].data.toList).length
        · simp only [decide_eq_true (show (2000 : Int) < ((o ++ l[i].data.toList).length : Int) by omega), cond_true]
          have hT : ¬ VT (bs (listT l)) := fun ⟨sv, ⟨_, hz, _⟩, _⟩ => by
            rw [bs_size] at hz
            unfold listT at hz
            simp only [List.length_cons, List.length_append, List.length_nil] at hz
            rw [hstep] at hall
            omega
          rw [listR_no2 hT]
          exact Ev.ret _
        · simp only [decide_eq_false (show ¬ (2000 : Int) < ((o ++ l[i].data.toList).length : Int) by omega), cond_false, wup hi (show l.length ≤ 2000000 by omega)]
          rw [← hstep]
          refine ih (i + 1) (by omega) (by omega) (fun s hs => ?_) (by rw [hstep]; omega)
          rw [List.take_succ_eq_append_getElem hi] at hs
          rcases List.mem_append.1 hs with h | h
          · exact hv s h
          · rw [List.mem_singleton.1 h]; exact hV
      · rw [listR_no1 (List.getElem_mem hi) hV]
        obtain ⟨iv, r1, _⟩ := vt_no hV
        refine Ev.bind r1 ?_
        simp only [show decide ((-1 : Int) < 0) = true from rfl, cond_true]
        exact Ev.ret _
    refine Ev.step ?_
    simp only [spec_ListOf.l0, ltd hi, cond_true]
    by_cases h0 : i = 0
    · simp only [decide_eq_false (show ¬ (0 : Int) < (i : Int) by omega), cond_false]
      refine go _ (by omega) ?_
      rw [if_pos h0]
      subst h0
      simp [joinS]
    · simp only [decide_eq_true (show (0 : Int) < (i : Int) by omega), cond_true, show (⟨#[44]⟩ : ByteArray) = bs [44] from rfl]
      rw [catl (by simp; omega)]
      simp only [Option.bind_some]
      exact go _ (by simp; omega) (by rw [if_neg h0])
theorem list_i (hl : l.length ≤ 1000) : ∀ (n i : Nat) (svs : List S42), l.length - i ≤ n → i ≤ l.length → (∀ s ∈ l.take i, VT s) → svs.length = i → (∀ (j : Nat) (x : S42) (s : ByteArray), svs[j]? = some x → l[j]? = some s → Txt x s.data.toList ∧ s.size ≤ 2000) → Ev (fun k => impl_ListOf.l0 k l (i : Int) (svs.map toI)) (listR l) := by
  have fin : ∀ (i : Nat) (svs : List S42), ¬ i < l.length → i ≤ l.length → (∀ s ∈ l.take i, VT s) → svs.length = i → (∀ (j : Nat) (x : S42) (s : ByteArray), svs[j]? = some x → l[j]? = some s → Txt x s.data.toList ∧ s.size ≤ 2000) → Ev (fun k => impl_ListOf.l0 k l (i : Int) (svs.map toI)) (listR l) := fun i svs h hle hv hsl hx => by
    obtain rfl : i = l.length := by omega
    rw [List.take_length] at hv
    have hpl : ∀ p ∈ parts l, p.length ≤ 2000 := fun p hp => by
      unfold parts at hp
      obtain ⟨s, hs, rfl⟩ := List.mem_map.1 hp
      obtain ⟨_, ⟨_, hz, _⟩, _⟩ := hv s hs
      rw [← size_list]; exact hz
    have hjl : ∀ L : List (List UInt8), (∀ p ∈ L, p.length ≤ 2000) → (joinS [44] L).length ≤ 2001 * L.length := fun L => by
      induction L with
      | nil => intro _; simp [joinS]
      | cons a r ih =>
        intro h
        have ha := h a (List.mem_cons_self ..)
        have hr := ih fun p hp => h p (List.mem_cons_of_mem _ hp)
        cases r with
        | nil => simp [joinS]; omega
        | cons b r => simp only [joinS, List.length_append, List.length_cons, List.length_nil] at hr ⊢; omega
    have hjb := hjl _ hpl
    rw [parts_len] at hjb
    have hsh : Ev (fun k => impl_val_show.f k ⟨6, 0, 0, ⟨#[]⟩, [], svs.map toI⟩) (bs (listT l)) := by
      unfold impl_val_show.f
      have hw : Ev (fun k => impl_val_write.f k ⟨6, 0, 0, ⟨#[]⟩, [], svs.map toI⟩ (⟨#[]⟩ : ByteArray)) (bs (listT l)) := by
        refine Ev.step ?_
        simp only [impl_val_write.f, show ((6 : Int) == 0) = false from rfl, show ((6 : Int) == 1) = false from rfl, show ((6 : Int) == 2) = false from rfl, show ((6 : Int) == 3) = false from rfl, show ((6 : Int) == 4) = false from rfl, show ((6 : Int) == 5) = false from rfl, show ((6 : Int) == 6) = true from rfl, cond_true, cond_false]
        simp only [show ∀ k, strings_Builder_WriteByte.f k 91 (⟨#[]⟩ : ByteArray) = _ from fun k => bwbl k 91 (x := 91) rfl (s := []) (by simp), Option.bind_some]
        have := w_l0 (items := svs) (ls := parts l) (X := ⟨6, 0, 0, ⟨#[]⟩, [], svs.map toI⟩) rfl (by rw [parts_len]; exact hsl.symm) (fun j x p h1 h2 _ => by
          have hj : j < l.length := by have := (List.getElem?_eq_some_iff.1 h2).1; rwa [parts_len] at this
          have e : p = l[j].data.toList := by
            unfold parts at h2
            rw [List.getElem?_map, List.getElem?_eq_getElem hj] at h2
            exact (Option.some.inj h2).symm
          subst e
          obtain ⟨q1, q2⟩ := hx j x l[j] h1 (List.getElem?_eq_getElem hj)
          exact txt_ishw q1 (by rw [← size_list]; exact q2)) (by omega) hpl (by omega) _ 0 (Nat.le_refl _) (Nat.zero_le _) [91] (by simp; omega)
        simpa [joinS, listT] using this
      refine Ev.bind hw ?_
      simp only [strings_Builder_String.f, Option.bind_some]
      exact Ev.ret _
    refine Ev.step ?_
    simp only [impl_ListOf.l0, ltn h, cond_false]
    by_cases hT : VT (bs (listT l))
    · have e : listR l = bs (listT l) := by unfold listR; rw [if_pos ⟨hv, hT⟩]
      rw [e]
      obtain ⟨sv, _, _, r2⟩ := hT
      refine Ev.bind (?_ : Ev (fun k => impl_val_sound.f k ⟨6, 0, 0, ⟨#[]⟩, [], svs.map toI⟩) true) ?_
      · unfold impl_val_sound.f
        exact Ev.bind hsh (Ev.bind r2 (Ev.ret _))
      · simp only [cond_true]
        exact Ev.bind hsh (Ev.ret _)
    · rw [listR_no2 hT]
      obtain ⟨iv, _, r2⟩ := vt_no hT
      refine Ev.bind (?_ : Ev (fun k => impl_val_sound.f k ⟨6, 0, 0, ⟨#[]⟩, [], svs.map toI⟩) false) ?_
      · unfold impl_val_sound.f
        exact Ev.bind hsh (Ev.bind r2 (Ev.ret _))
      · simp only [cond_false]
        exact Ev.ret _
  intro n
  induction n with
  | zero => intro i svs h hle hv hsl hx; exact fin i svs (by omega) hle hv hsl hx
  | succ n ih =>
    intro i svs h hle hv hsl hx
    by_cases hi : i < l.length
    case neg => exact fin i svs hi hle hv hsl hx
    refine Ev.step ?_
    simp only [impl_ListOf.l0, ltd hi, cond_true, ixg hi, Option.bind_some]
    by_cases hV : VT l[i]
    · obtain ⟨sv, ⟨_, hsz, htx⟩, _, r2⟩ := id hV
      refine Ev.bind r2 ?_
      simp only [cond_true]
      rw [app_one _ (by simp; omega)]
      simp only [Option.bind_some, wup hi (show l.length ≤ 2000000 by omega)]
      have := ih (i + 1) (svs ++ [sv]) (by omega) (by omega) (fun s hs => by
        rw [List.take_succ_eq_append_getElem hi] at hs
        rcases List.mem_append.1 hs with h | h
        · exact hv s h
        · rw [List.mem_singleton.1 h]; exact hV) (by simp [hsl]) (fun j x s h1 h2 => by
        by_cases hj : j < svs.length
        · rw [List.getElem?_append_left hj] at h1; exact hx j x s h1 h2
        · rw [List.getElem?_append_right (by omega)] at h1
          have e : j - svs.length = 0 := by
            have := (List.getElem?_eq_some_iff.1 h1).1; simp at this; omega
          rw [e] at h1
          simp at h1
          have ej : j = i := by omega
          subst ej
          rw [List.getElem?_eq_getElem hi] at h2
          cases h2; subst h1
          exact ⟨htx, hsz⟩)
      rw [List.map_append] at this
      exact this
    · rw [listR_no1 (List.getElem_mem hi) hV]
      obtain ⟨iv, _, r2⟩ := vt_no hV
      refine Ev.bind r2 ?_
      simp only [cond_false]
      exact Ev.ret _
theorem listR_size (l : List ByteArray) : (listR l).size ≤ 2000 := by
  unfold listR
  split
  · rename_i h
    obtain ⟨_, _, ⟨_, h2, _⟩, _⟩ := h
    exact h2
  · exact Nat.zero_le _
theorem list2s (l : List ByteArray) : ∃ R : ByteArray, R.size ≤ 2000 ∧ (l.length ≤ 1000 → R = listR l) ∧ Ev (fun k => spec_ListOf.f k l) R := by
  by_cases h : l.length ≤ 1000
  · refine ⟨listR l, listR_size l, fun _ => rfl, Ev.step ?_⟩
    simp only [spec_ListOf.f, decide_eq_false (show ¬ (1000 : Int) < (l.length : Int) by omega), cond_false]
    exact list_s h _ 0 (Nat.le_refl _) (Nat.zero_le _) (fun s hs => by simp at hs) (by simp [joinS])
  · refine ⟨⟨#[]⟩, Nat.zero_le _, fun e => absurd e h, Ev.step ?_⟩
    simp only [spec_ListOf.f, decide_eq_true (show (1000 : Int) < (l.length : Int) by omega), cond_true]; exact Ev.ret _
end
theorem bnm {s : ByteArray} : Ev (fun k => spec_l01Name.f k s) (nameOk s.data.toList) := by
  have := lname_ s.data.toList; rwa [← bs_of] at this
theorem bnm' {s : ByteArray} : Ev (fun k => impl_isName.f k s) (nameOk s.data.toList) := by
  have := iname_ s.data.toList; rwa [← bs_of] at this
theorem name_len {s : List UInt8} (h : nameOk s = true) : s.length ≤ 20 := by
  unfold nameOk at h
  simp only [Bool.and_eq_true, decide_eq_true_eq] at h
  exact h.1.1.2
def FOk (f : S58) : Prop := nameOk f.f0.data.toList = true ∧ VT f.f1
open Classical in
/-- What both tell. -/
noncomputable def mapR (S : List S58) : ByteArray := if (∀ f ∈ S, FOk f) ∧ VT (bs (mapT S)) then bs (mapT S) else ⟨#[]⟩
theorem mapR_no1 {S : List S58} {f : S58} (h : f ∈ S) (hn : ¬ FOk f) : mapR S = ⟨#[]⟩ := by
  unfold mapR; rw [if_neg (fun h' => hn (h'.1 f h))]
theorem mapR_no2 {S : List S58} (hn : ¬ VT (bs (mapT S))) : mapR S = ⟨#[]⟩ := by
  unfold mapR; rw [if_neg (fun h' => hn h'.2)]
theorem mapR_dup {S : List S58} (hn : ¬ (S.map (·.f0)).Nodup) : mapR S = ⟨#[]⟩ := by
  unfold mapR
  refine if_neg (fun h' => hn ?_)
  obtain ⟨h1, sv, ⟨_, _, h2⟩, _⟩ := h'
  have e : (bs (mapT S)).data.toList = mapT S := by simp [bs]
  rw [e] at h2
  exact rs_nodup (rising_rs _ (map_rising (fun f hf => (h1 f hf).1) (fun f hf => by
    obtain ⟨_, y, ⟨_, _, hy⟩, _⟩ := h1 f hf
    exact ⟨y, hy⟩) h2))
section
variable {S : List S58}
theorem map_s (hl : S.length ≤ 1000) : ∀ (n i : Nat), S.length - i ≤ n → i ≤ S.length → (∀ s ∈ S.take i, FOk s) → (joinS [44] ((S.map part).take i)).length ≤ 2000 → Ev (fun k => spec_MapOf.l0 k (bs (joinS [44] ((S.map part).take i))) S (i : Int)) (mapR S) := by
  have fin : ∀ i : Nat, ¬ i < S.length → i ≤ S.length → (∀ s ∈ S.take i, FOk s) → (joinS [44] ((S.map part).take i)).length ≤ 2000 → Ev (fun k => spec_MapOf.l0 k (bs (joinS [44] ((S.map part).take i))) S (i : Int)) (mapR S) := fun i h hle hv hb => by
    refine Ev.step ?_
    rw [List.take_of_length_le (by rw [List.length_map]; omega)] at hb ⊢
    rw [List.take_of_length_le (by omega)] at hv
    simp only [spec_MapOf.l0, ltn h, cond_false, show (⟨#[123]⟩ : ByteArray) = bs [123] from rfl, show (⟨#[125]⟩ : ByteArray) = bs [125] from rfl]
    rw [catl (by simp; omega)]
    simp only [Option.bind_some]
    rw [catl (by simp; omega)]
    simp only [Option.bind_some]
    rw [show [123] ++ joinS [44] (S.map part) ++ [125] = mapT S by simp [mapT]]
    by_cases hT : VT (bs (mapT S))
    · have e : mapR S = bs (mapT S) := by unfold mapR; rw [if_pos ⟨hv, hT⟩]
      rw [e]
      obtain ⟨sv, ⟨hw, _⟩, r1, _⟩ := hT
      refine Ev.bind (?_ : Ev (fun k => spec_l01Keep.f k (bs (mapT S))) (bs (mapT S))) (Ev.ret _)
      unfold spec_l01Keep.f
      refine Ev.bind r1 ?_
      simp only [decide_eq_false (vt_kind (t := bs (mapT S)) hw), cond_false]
      exact Ev.ret _
    · rw [mapR_no2 hT]
      obtain ⟨iv, r1, _⟩ := vt_no hT
      refine Ev.bind (?_ : Ev (fun k => spec_l01Keep.f k (bs (mapT S))) (⟨#[]⟩ : ByteArray)) (Ev.ret _)
      unfold spec_l01Keep.f
      refine Ev.bind r1 ?_
      simp only [show decide ((-1 : Int) < 0) = true from rfl, cond_true]
      exact Ev.ret _
  intro n
  induction n with
  | zero => intro i h hle hv hb; exact fin i (by omega) hle hv hb
  | succ n ih =>
    intro i h hle hv hb
    by_cases hi : i < S.length
    case neg => exact fin i hi hle hv hb
    have hip : i < (S.map part).length := by rw [List.length_map]; exact hi
    have hstep := joinS_step (sep := [44]) hip
    rw [List.getElem_map] at hstep
    have hall := joinS_take (sep := [44]) (S.map part) (i + 1)
    have go : ∀ o : List UInt8, o.length ≤ 2001 → (if i = 0 then part S[i] else joinS [44] ((S.map part).take i) ++ [44] ++ part S[i]) = o ++ part S[i] → Ev (fun k => spec_MapOf.j0 k (bs o) S (i : Int)) (mapR S) := fun o ho he => by
      refine Ev.step ?_
      simp only [spec_MapOf.j0, ixg hi, Option.bind_some]
      refine Ev.bind bnm ?_
      cases hN : nameOk S[i].f0.data.toList with
      | false =>
        rw [mapR_no1 (List.getElem_mem hi) (fun h => by have h1 := h.1; rw [hN] at h1; cases h1)]
        simp only [cond_false]
        exact Ev.ret _
      | true =>
        simp only [cond_true]
        have hnl := name_len hN
        by_cases hV : VT S[i].f1
        · obtain ⟨sv, ⟨hw, hsz, _⟩, r1, _⟩ := id hV
          refine Ev.bind r1 ?_
          simp only [decide_eq_false (vt_kind (t := S[i].f1) hw), cond_false]
          have hdl : S[i].f1.data.toList.length ≤ 2000 := by rw [← size_list]; exact hsz
          have c1 : cat (bs o) S[i].f0 = some (bs (o ++ S[i].f0.data.toList)) := by
            have := catl (a := o) (b := S[i].f0.data.toList) (by omega)
            rwa [← bs_of] at this
          have c2 : cat (bs (o ++ S[i].f0.data.toList)) (⟨#[58]⟩ : ByteArray) = some (bs (o ++ S[i].f0.data.toList ++ [58])) := catl (a := o ++ S[i].f0.data.toList) (b := [58]) (by simp only [List.length_append, List.length_cons, List.length_nil]; omega)
          have c3 : cat (bs (o ++ S[i].f0.data.toList ++ [58])) S[i].f1 = some (bs (o ++ part S[i])) := by
            have := catl (a := o ++ S[i].f0.data.toList ++ [58]) (b := S[i].f1.data.toList) (by simp only [List.length_append, List.length_cons, List.length_nil]; omega)
            rw [← bs_of] at this
            rw [this]; simp [part]
          simp only [c1, c2, c3, Option.bind_some, bs_size]
          rw [he] at hstep
          by_cases hbig : 2000 < (o ++ part S[i]).length
          · simp only [decide_eq_true (show (2000 : Int) < ((o ++ part S[i]).length : Int) by omega), cond_true]
            have hT : ¬ VT (bs (mapT S)) := fun ⟨sv, ⟨_, hz, _⟩, _⟩ => by
              rw [bs_size] at hz
              unfold mapT at hz
              simp only [List.length_cons, List.length_append, List.length_nil] at hz
              rw [hstep] at hall
              omega
            rw [mapR_no2 hT]
            exact Ev.ret _
          · simp only [decide_eq_false (show ¬ (2000 : Int) < ((o ++ part S[i]).length : Int) by omega), cond_false, wup hi (show S.length ≤ 2000000 by omega)]
            rw [← hstep]
            refine ih (i + 1) (by omega) (by omega) (fun s hs => ?_) (by rw [hstep]; omega)
            rw [List.take_succ_eq_append_getElem hi] at hs
            rcases List.mem_append.1 hs with h | h
            · exact hv s h
            · rw [List.mem_singleton.1 h]; exact ⟨hN, hV⟩
        · rw [mapR_no1 (List.getElem_mem hi) (fun h => hV h.2)]
          obtain ⟨iv, r1, _⟩ := vt_no hV
          refine Ev.bind r1 ?_
          simp only [show decide ((-1 : Int) < 0) = true from rfl, cond_true]
          exact Ev.ret _
    refine Ev.step ?_
    simp only [spec_MapOf.l0, ltd hi, cond_true]
    by_cases h0 : i = 0
    · simp only [decide_eq_false (show ¬ (0 : Int) < (i : Int) by omega), cond_false]
      refine go _ (by omega) ?_
      rw [if_pos h0]
      subst h0
      simp [joinS]
    · simp only [decide_eq_true (show (0 : Int) < (i : Int) by omega), cond_true, show (⟨#[44]⟩ : ByteArray) = bs [44] from rfl]
      rw [catl (by simp; omega)]
      simp only [Option.bind_some]
      exact go _ (by simp; omega) (by rw [if_neg h0])
theorem eta_val (x : S46) : (⟨x.f0, x.f1, x.f2, x.f3, x.f4, x.f5⟩ : S46) = x := by cases x; rfl
def z0 : S46 := ⟨0, 0, 0, ⟨#[]⟩, [], []⟩
/-- The program's last part: the items by their names, shown and read. -/
theorem map_end (hl : S.length ≤ 1000) (hok : ∀ f ∈ S, FOk f) (m : List (ByteArray × S46)) (ht : ∀ f ∈ S, ∃ sv, tget m f.f0 z0 = toI sv ∧ Txt sv f.f1.data.toList) : ∀ (n i : Nat) (svs : List S42), S.length - i ≤ n → i ≤ S.length → svs.length = i → (∀ (j : Nat) (x : S42) (f : S58), svs[j]? = some x → S[j]? = some f → Txt x f.f1.data.toList) → Ev (fun k => impl_MapOf.l1 k (S.map (·.f0)) (i : Int) m (svs.map toI)) (mapR S) := by
  have hsz : ∀ f ∈ S, f.f1.data.toList.length ≤ 2000 := fun f hf => by
    obtain ⟨_, _, ⟨_, hz, _⟩, _⟩ := hok f hf
    rw [← size_list]; exact hz
  have fin : ∀ (i : Nat) (svs : List S42), ¬ i < S.length → i ≤ S.length → svs.length = i → (∀ (j : Nat) (x : S42) (f : S58), svs[j]? = some x → S[j]? = some f → Txt x f.f1.data.toList) → Ev (fun k => impl_MapOf.l1 k (S.map (·.f0)) (i : Int) m (svs.map toI)) (mapR S) := fun i svs h hle hsl hx => by
    obtain rfl : i = S.length := by omega
    have hzip : List.zipWith (fun (n : ByteArray) l => n.data.toList ++ 58 :: l) (S.map (·.f0)) (S.map (·.f1.data.toList)) = S.map part := by
      refine List.ext_getElem (by simp) fun j h1 h2 => ?_
      simp [part]
    have hpl : ∀ p ∈ S.map part, p.length ≤ 2021 := fun p hp => by
      obtain ⟨f, hf, rfl⟩ := List.mem_map.1 hp
      have h1 := hsz f hf
      have h2 := name_len (hok f hf).1
      unfold part
      simp only [List.length_append, List.length_cons]; omega
    have hjl : ∀ L : List (List UInt8), (∀ p ∈ L, p.length ≤ 2021) → (joinS [44] L).length ≤ 2022 * L.length := fun L => by
      induction L with
      | nil => intro _; simp [joinS]
      | cons a r ih =>
        intro h
        have ha := h a (List.mem_cons_self ..)
        have hr := ih fun p hp => h p (List.mem_cons_of_mem _ hp)
        cases r with
        | nil => simp [joinS]; omega
        | cons b r => simp only [joinS, List.length_append, List.length_cons, List.length_nil] at hr ⊢; omega
    have hjb := hjl _ hpl
    rw [List.length_map] at hjb
    have hsh : Ev (fun k => impl_val_show.f k ⟨7, 0, 0, ⟨#[]⟩, S.map (·.f0), svs.map toI⟩) (bs (mapT S)) := by
      unfold impl_val_show.f
      have hw : Ev (fun k => impl_val_write.f k ⟨7, 0, 0, ⟨#[]⟩, S.map (·.f0), svs.map toI⟩ (⟨#[]⟩ : ByteArray)) (bs (mapT S)) := by
        refine Ev.step ?_
        simp only [impl_val_write.f, show ((7 : Int) == 0) = false from rfl, show ((7 : Int) == 1) = false from rfl, show ((7 : Int) == 2) = false from rfl, show ((7 : Int) == 3) = false from rfl, show ((7 : Int) == 4) = false from rfl, show ((7 : Int) == 5) = false from rfl, show ((7 : Int) == 6) = false from rfl, show ((7 : Int) == 7) = true from rfl, cond_true, cond_false]
        simp only [show ∀ k, strings_Builder_WriteByte.f k 123 (⟨#[]⟩ : ByteArray) = _ from fun k => bwbl k 123 (x := 123) rfl (s := []) (by simp), Option.bind_some]
        have := w_l1 (items := svs) (ls := S.map (·.f1.data.toList)) (names := S.map (·.f0)) (X := ⟨7, 0, 0, ⟨#[]⟩, S.map (·.f0), svs.map toI⟩) rfl rfl (by rw [List.length_map]; exact hsl.symm) (by rw [List.length_map]; exact hsl.symm) (fun j x p h1 h2 _ => by
          have hj : j < S.length := by have := (List.getElem?_eq_some_iff.1 h2).1; rwa [List.length_map] at this
          have e : p = S[j].f1.data.toList := by
            rw [List.getElem?_map, List.getElem?_eq_getElem hj] at h2
            exact (Option.some.inj h2).symm
          subst e
          exact txt_ishw (hx j x S[j] h1 (List.getElem?_eq_getElem hj)) (hsz _ (List.getElem_mem hj))) (by rw [hzip]; omega) (fun l hm => by
          obtain ⟨f, hf, rfl⟩ := List.mem_map.1 hm
          exact hsz f hf) (by omega) _ 0 (Nat.le_refl _) (Nat.zero_le _) [123] (by rw [hzip]; simp; omega)
        rw [hzip] at this
        simpa [joinS, mapT] using this
      refine Ev.bind hw ?_
      simp only [strings_Builder_String.f, Option.bind_some]
      exact Ev.ret _
    refine Ev.step ?_
    simp only [impl_MapOf.l1, List.length_map, ltn h, cond_false]
    by_cases hT : VT (bs (mapT S))
    · have e : mapR S = bs (mapT S) := by unfold mapR; rw [if_pos ⟨hok, hT⟩]
      rw [e]
      obtain ⟨sv, _, _, r2⟩ := hT
      refine Ev.bind (?_ : Ev (fun k => impl_val_sound.f k ⟨7, 0, 0, ⟨#[]⟩, S.map (·.f0), svs.map toI⟩) true) ?_
      · unfold impl_val_sound.f
        exact Ev.bind hsh (Ev.bind r2 (Ev.ret _))
      · simp only [cond_true]
        exact Ev.bind hsh (Ev.ret _)
    · rw [mapR_no2 hT]
      obtain ⟨iv, _, r2⟩ := vt_no hT
      refine Ev.bind (?_ : Ev (fun k => impl_val_sound.f k ⟨7, 0, 0, ⟨#[]⟩, S.map (·.f0), svs.map toI⟩) false) ?_
      · unfold impl_val_sound.f
        exact Ev.bind hsh (Ev.bind r2 (Ev.ret _))
      · simp only [cond_false]
        exact Ev.ret _
  intro n
  induction n with
  | zero => intro i svs h hle hsl hx; exact fin i svs (by omega) hle hsl hx
  | succ n ih =>
    intro i svs h hle hsl hx
    by_cases hi : i < S.length
    case neg => exact fin i svs hi hle hsl hx
    have him : i < (S.map (·.f0)).length := by simpa using hi
    obtain ⟨sv, t1, t2⟩ := ht S[i] (List.getElem_mem hi)
    unfold z0 at t1
    refine Ev.step ?_
    simp only [impl_MapOf.l1, List.length_map, ltd hi, cond_true, ixg him, List.getElem_map, Option.bind_some, t1, wup hi (show S.length ≤ 2000000 by omega)]
    rw [app_one _ (by simp; omega)]
    have := ih (i + 1) (svs ++ [sv]) (by omega) (by omega) (by simp [hsl]) (fun j x f h1 h2 => by
      by_cases hj : j < svs.length
      · rw [List.getElem?_append_left hj] at h1; exact hx j x f h1 h2
      · rw [List.getElem?_append_right (by omega)] at h1
        have e : j - svs.length = 0 := by
          have := (List.getElem?_eq_some_iff.1 h1).1; simp at this; omega
        rw [e] at h1
        simp at h1
        have ej : j = i := by omega
        subst ej
        rw [List.getElem?_eq_getElem hi] at h2
        cases h2; subst h1
        exact t2)
    rw [List.map_append, List.map_cons, List.map_nil] at this
    simp only [Option.bind_some, eta_val]
    exact this
theorem map_i {l : List S58} (hl : l.length ≤ 1000) (hp : S.Perm l) (hS : Srt S) : ∀ (n i : Nat) (N : List ByteArray) (m : List (ByteArray × S46)), l.length - i ≤ n → i ≤ l.length → RsN N → (∀ x, x ∈ N ↔ x ∈ (l.take i).map (·.f0)) → N.length ≤ i → ((l.take i).map (·.f0)).Nodup → (∀ f ∈ l.take i, FOk f) → (∀ f ∈ l.take i, ∃ sv, tget m f.f0 z0 = toI sv ∧ Txt sv f.f1.data.toList) → (∀ x, thas m x = true ↔ x ∈ (l.take i).map (·.f0)) → Ev (fun k => impl_MapOf.l0 k N l (i : Int) m) (mapR S) := by
  have fin : ∀ (i : Nat) (N : List ByteArray) (m : List (ByteArray × S46)), ¬ i < l.length → RsN N → (∀ x, x ∈ N ↔ x ∈ (l.take i).map (·.f0)) → ((l.take i).map (·.f0)).Nodup → (∀ f ∈ l.take i, FOk f) → (∀ f ∈ l.take i, ∃ sv, tget m f.f0 z0 = toI sv ∧ Txt sv f.f1.data.toList) → Ev (fun k => impl_MapOf.l0 k N l (i : Int) m) (mapR S) := fun i N m h hr hN hd hok ht => by
    rw [List.take_of_length_le (by omega)] at hN hd hok ht
    have hd' : (S.map (·.f0)).Nodup := (hp.map (·.f0)).nodup_iff.2 hd
    have eN : N = S.map (·.f0) := strict_ext _ _ hr (srt_rs hS hd') (fun x => by rw [hN]; exact ((hp.map (·.f0)).mem_iff).symm)
    refine Ev.step ?_
    simp only [impl_MapOf.l0, ltn h, cond_false]
    rw [eN]
    exact map_end (by rw [hp.length_eq]; exact hl) (fun f hf => hok f (hp.mem_iff.1 hf)) m (fun f hf => ht f (hp.mem_iff.1 hf)) _ 0 [] (Nat.le_refl _) (Nat.zero_le _) rfl (fun j x f h => by simp at h)
  intro n
  induction n with
  | zero => intro i N m h hle hr hN hNl hd hok ht hh; exact fin i N m (by omega) hr hN hd hok ht
  | succ n ih =>
    intro i N m h hle hr hN hNl hd hok ht hh
    by_cases hi : i < l.length
    case neg => exact fin i N m hi hr hN hd hok ht
    have hmem : l[i] ∈ S := hp.mem_iff.2 (List.getElem_mem hi)
    have bad : ¬ FOk l[i] → mapR S = ⟨#[]⟩ := fun h => mapR_no1 hmem h
    refine Ev.step ?_
    simp only [impl_MapOf.l0, ltd hi, cond_true, ixg hi, Option.bind_some]
    have go : ∀ (iv : S46) (b : Bool), Ev (fun k => impl_read.f k l[i].f1) (iv, b) → (b = true → VT l[i].f1 ∧ ∃ sv, iv = toI sv ∧ Txt sv l[i].f1.data.toList) → (b = false → ¬ VT l[i].f1) → Ev (fun k => (impl_read.f k l[i].f1).bind fun v8 => (bif thas m l[i].f0 then (some (⟨#[]⟩ : ByteArray)) else (bif v8.2 then ((impl_isName.f k l[i].f0).bind fun v9 => (bif v9 then ((impl_insert.f k N l[i].f0).bind fun v10 => (impl_MapOf.l0 k v10 l (IntKind.i64.wrap ((i : Int) + 1)) (tput m l[i].f0 v8.1))) else (some (⟨#[]⟩ : ByteArray)))) else (some (⟨#[]⟩ : ByteArray))))) (mapR S) := fun iv b hr1 hb1 hb2 => by
      refine Ev.bind hr1 ?_
      cases hhas : thas m l[i].f0 with
      | true =>
        simp only [cond_true]
        have hdup : ¬ (S.map (·.f0)).Nodup := fun hd' => by
          have h1 := (hp.map (·.f0)).nodup_iff.1 hd'
          have h2 := (hh _).1 hhas
          rw [← List.take_append_drop i l, List.map_append, List.nodup_append] at h1
          exact h1.2.2 _ h2 _ (List.mem_map.2 ⟨l[i], by rw [List.drop_eq_getElem_cons hi]; exact List.mem_cons_self .., rfl⟩) rfl
        rw [mapR_dup hdup]
        exact Ev.ret _
      | false =>
        simp only [cond_false]
        cases b with
        | false =>
          simp only [cond_false]
          rw [bad (fun h => hb2 rfl h.2)]
          exact Ev.ret _
        | true =>
          simp only [cond_true]
          refine Ev.bind bnm' ?_
          cases hNm : nameOk l[i].f0.data.toList with
          | false =>
            simp only [cond_false]
            rw [bad (fun h => by have h1 := h.1; rw [hNm] at h1; cases h1)]
            exact Ev.ret _
          | true =>
            simp only [cond_true]
            obtain ⟨hV, sv, rfl, hT⟩ := hb1 rfl
            have hnm : l[i].f0 ∉ (l.take i).map (·.f0) := fun h' => by
              have := (hh _).2 h'; rw [hhas] at this; cases this
            obtain ⟨r, i1, i2, i3⟩ := insert_r (a := l[i].f0) (by omega) hr (fun h' => hnm ((hN _).1 h'))
            obtain ⟨q1, q2, q3⟩ := tput_new (v := toI sv) (z := z0) hhas
            refine Ev.bind i1 ?_
            rw [wup hi (show l.length ≤ 2000000 by omega)]
            have et := List.take_succ_eq_append_getElem hi
            refine ih (i + 1) r _ (by omega) (by omega) i2 (fun x => ?_) (by rw [i3.length_eq, List.length_cons]; omega) ?_ (fun f hf => ?_) (fun f hf => ?_) (fun x => ?_)
            · rw [i3.mem_iff, List.mem_cons, et, List.map_append, List.mem_append, hN]
              simp [or_comm]
            · rw [et, List.map_append, List.nodup_append]
              refine ⟨hd, by simp, fun a ha b hb e => ?_⟩
              simp at hb
              subst hb; subst e
              exact hnm ha
            · rw [et] at hf
              rcases List.mem_append.1 hf with hf | hf
              · exact hok f hf
              · rw [List.mem_singleton.1 hf]; exact ⟨hNm, hV⟩
            · rw [et] at hf
              rcases List.mem_append.1 hf with hf | hf
              · rw [q2 f.f0 (fun e => hnm (e ▸ List.mem_map.2 ⟨f, hf, rfl⟩))]; exact ht f hf
              · rw [List.mem_singleton.1 hf]; exact ⟨sv, q1, hT⟩
            · rw [q3, Bool.or_eq_true, hh, et, List.map_append, List.mem_append]
              simp
    by_cases hV : VT l[i].f1
    · obtain ⟨sv, ⟨_, _, htx⟩, _, r2⟩ := id hV
      exact go _ _ r2 (fun _ => ⟨hV, sv, rfl, htx⟩) (fun h => by cases h)
    · obtain ⟨iv, _, r2⟩ := vt_no hV
      exact go _ _ r2 (fun h => by cases h) (fun _ => hV)
end
theorem mapR_size (S : List S58) : (mapR S).size ≤ 2000 := by
  unfold mapR
  split
  · rename_i h
    obtain ⟨_, _, ⟨_, h2, _⟩, _⟩ := h
    exact h2
  · exact Nat.zero_le _
theorem map2s (l : List S58) : ∃ R : ByteArray, R.size ≤ 2000 ∧ Ev (fun k => spec_MapOf.f k l) R := by
  by_cases h : l.length ≤ 1000
  · obtain ⟨S, s1, s2, s3⟩ := sorted_ h
    refine ⟨mapR S, mapR_size S, Ev.step ?_⟩
    simp only [spec_MapOf.f, decide_eq_false (show ¬ (1000 : Int) < (l.length : Int) by omega), cond_false]
    refine Ev.bind s1 ?_
    exact map_s (by rw [s2.length_eq]; exact h) _ 0 (Nat.le_refl _) (Nat.zero_le _) (fun s hs => by simp at hs) (by simp [joinS])
  · refine ⟨⟨#[]⟩, Nat.zero_le _, Ev.step ?_⟩
    simp only [spec_MapOf.f, decide_eq_true (show (1000 : Int) < (l.length : Int) by omega), cond_true]; exact Ev.ret _
end Go.Ab
