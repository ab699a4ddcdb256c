/- The program's DateText and the reference's DateText tell the same text for every number: both take the same years and months off the number of days, and write the same digits. The numbers of strconv's own table are as the card ties them. -/
import Derived.Test.YthblbbhnmbfjjabDoorOpnFnExactDateText
namespace Go.Proofs.YthblbbhnmbfjjabDoor.Pure
open Go.RowKit Go.Proofs.YthblbbhnmbfjjabDoor.PFnExactDateText Go.Proofs.YthblbbhnmbfjjabDoorW.PrintWords Go.Proofs.YthblbbhnmbfjjabDoorW.PrintLast Go.Proofs.YthblbbhnmbfjjabDoor.OFnExactDateText
set_option linter.unusedVariables false
/-- With enough rounds g tells something of which P holds. -/
def EvP {α : Type} (g : Nat → Option α) (P : α → Prop) : Prop := ∃ r, Ev g r ∧ P r
section
variable {α β : Type}
theorem EvP.ret {P : α → Prop} {r : α} (h : P r) : EvP (fun _ => some r) P := ⟨r, Ev.now r, h⟩
theorem EvP.now {P : α → Prop} {o : Option α} {r : α} (e : o = some r) (h : P r) : EvP (fun _ => o) P := ⟨r, ⟨0, fun _ _ => e⟩, h⟩
theorem EvP.ite {c : Prop} [Decidable c] {f g : Nat → Option α} {P : α → Prop} (h : c → EvP f P) (h' : ¬ c → EvP g P) : EvP (fun k => if c then f k else g k) P := by
  by_cases hc : c
  · simp only [if_pos hc]; exact h hc
  · simp only [if_neg hc]; exact h' hc
theorem EvP.pos {c : Prop} [Decidable c] {f g : Nat → Option α} {P : α → Prop} (hc : c) (h : EvP f P) : EvP (fun k => if c then f k else g k) P := by
  simp only [if_pos hc]; exact h
theorem EvP.neg {c : Prop} [Decidable c] {f g : Nat → Option α} {P : α → Prop} (hc : ¬ c) (h : EvP g P) : EvP (fun k => if c then f k else g k) P := by
  simp only [if_neg hc]; exact h
theorem EvP.bind {g : Nat → Option α} {f : Nat → α → Option β} {Q : α → Prop} {P : β → Prop} (h : EvP g Q) (k : ∀ a, Q a → EvP (fun n => f n a) P) : EvP (fun n => (g n).bind (f n)) P := by
  obtain ⟨a, ha, hq⟩ := h
  obtain ⟨r, hr, hp⟩ := k a hq
  exact ⟨r, Ev.bind ha hr, hp⟩
theorem EvP.mono {g : Nat → Option α} {P Q : α → Prop} (h : EvP g P) (k : ∀ a, P a → Q a) : EvP g Q := by
  obtain ⟨r, hr, hp⟩ := h
  exact ⟨r, hr, k r hp⟩
theorem EvP.step {g f : Nat → Option α} {P : α → Prop} (h : ∀ k, g (k + 1) = f k) (k : EvP f P) : EvP g P := by
  obtain ⟨r, hr, hp⟩ := k
  exact ⟨r, Ev.step h hr, hp⟩
theorem EvP.rounds {g : Nat → Option α} {r : α} (h : EvP g (· = r)) : ∃ k, g k = some r := by
  obtain ⟨_, hr, rfl⟩ := h
  exact hr.rounds
/-- A loop (or a function that calls itself) with a measure m and an invariant inv; 'ih': what a later round tells. -/
theorem EvP.whl1 {σ ρ : Type} {g : Nat → σ → Option ρ} {P : ρ → Prop} (m : σ → Nat) (inv : σ → Prop)
    (step : ∀ s, inv s → (∀ s', m s' < m s → inv s' → EvP (fun k => g k s') P) → EvP (fun k => g (k + 1) s) P) : ∀ s, inv s → EvP (fun k => g k s) P := by
  have H : ∀ (n : Nat) (s : σ), m s < n → inv s → EvP (fun k => g k s) P := by
    intro n
    induction n with
    | zero => intro s h; exact absurd h (Nat.not_lt_zero _)
    | succ n ih =>
      intro s hm hs
      exact EvP.step (f := fun k => g (k + 1) s) (fun _ => rfl) (step s hs (fun s' h hs' => ih s' (by omega) hs'))
  exact fun s hs => H (m s + 1) s (Nat.lt_succ_self _) hs
theorem EvP.whl2 {σ τ ρ : Type} {g : Nat → σ → τ → Option ρ} {P : ρ → Prop} (m : σ → τ → Nat) (inv : σ → τ → Prop)
    (step : ∀ s t, inv s t → (∀ s' t', m s' t' < m s t → inv s' t' → EvP (fun k => g k s' t') P) → EvP (fun k => g (k + 1) s t) P) : ∀ s t, inv s t → EvP (fun k => g k s t) P :=
  fun s t h => EvP.whl1 (g := fun k (x : σ × τ) => g k x.1 x.2) (m := fun x => m x.1 x.2) (inv := fun x => inv x.1 x.2) (fun x hx ih => step x.1 x.2 hx (fun s' t' hm hi => ih (s', t') hm hi)) (s, t) h
theorem EvP.whl3 {σ τ υ ρ : Type} {g : Nat → σ → τ → υ → Option ρ} {P : ρ → Prop} (m : σ → τ → υ → Nat) (inv : σ → τ → υ → Prop)
    (step : ∀ s t u, inv s t u → (∀ s' t' u', m s' t' u' < m s t u → inv s' t' u' → EvP (fun k => g k s' t' u') P) → EvP (fun k => g (k + 1) s t u) P) : ∀ s t u, inv s t u → EvP (fun k => g k s t u) P :=
  fun s t u h => EvP.whl1 (g := fun k (x : σ × τ × υ) => g k x.1 x.2.1 x.2.2) (m := fun x => m x.1 x.2.1 x.2.2) (inv := fun x => inv x.1 x.2.1 x.2.2) (fun x hx ih => step x.1 x.2.1 x.2.2 hx (fun s' t' u' hm hi => ih (s', t', u') hm hi)) (s, t, u) h
theorem EvP.whl4 {σ τ υ φ ρ : Type} {g : Nat → σ → τ → υ → φ → Option ρ} {P : ρ → Prop} (m : σ → τ → υ → φ → Nat) (inv : σ → τ → υ → φ → Prop)
    (step : ∀ s t u v, inv s t u v → (∀ s' t' u' v', m s' t' u' v' < m s t u v → inv s' t' u' v' → EvP (fun k => g k s' t' u' v') P) → EvP (fun k => g (k + 1) s t u v) P) : ∀ s t u v, inv s t u v → EvP (fun k => g k s t u v) P :=
  fun s t u v h => EvP.whl1 (g := fun k (x : σ × τ × υ × φ) => g k x.1 x.2.1 x.2.2.1 x.2.2.2) (m := fun x => m x.1 x.2.1 x.2.2.1 x.2.2.2) (inv := fun x => inv x.1 x.2.1 x.2.2.1 x.2.2.2) (fun x hx ih => step x.1 x.2.1 x.2.2.1 x.2.2.2 hx (fun s' t' u' v' hm hi => ih (s', t', u', v') hm hi)) (s, t, u, v) h
theorem wrap_in {x : Int} (h0 : -9223372036854775808 ≤ x) (h1 : x ≤ 9223372036854775807) : wrap64 x = x := by
  unfold wrap64
  omega
theorem wrap_next {i n : Nat} (h : i < n) (hn : n ≤ 9223372036854775807) : wrap64 ((i : Int) + 1) = ((i + 1 : Nat) : Int) := by
  rw [wrap_in (by omega) (by omega)]
  omega
theorem set_at {xs : List α} {i : Nat} (z : α) (f : Nat → α) (n : Nat) (hxs : xs = (List.range i).map f ++ List.replicate (n - i) z) (hi : i < n) : xs.set i (f i) = (List.range (i + 1)).map f ++ List.replicate (n - (i + 1)) z := by
  subst hxs
  rw [List.set_append_right _ _ (by simp)]
  simp only [List.length_map, List.length_range, Nat.sub_self]
  obtain ⟨m, hm⟩ : ∃ m, n - i = m + 1 := ⟨n - i - 1, by omega⟩
  rw [hm, show n - (i + 1) = m by omega, List.replicate_succ, List.set_cons_zero, List.range_succ]
  simp
theorem map_of_range {xs : List β} (z : β) (c : β → α) : (List.range xs.length).map (fun i => c (xs.getD i z)) = xs.map c := by
  apply List.ext_getElem?
  intro i
  by_cases hi : i < xs.length
  · simp [hi, List.getD]
  · simp [hi]
theorem getD_mem {xs : List α} {i : Nat} (z : α) (h : i < xs.length) : xs.getD i z ∈ xs := by
  rw [List.getD_eq_getElem?_getD, List.getElem?_eq_getElem h]
  exact List.getElem_mem h
end
/-- f and g, with enough rounds, tell two things of which R holds. -/
def Ev2 {α β : Type} (f : Nat → Option α) (g : Nat → Option β) (R : α → β → Prop) : Prop := ∃ a b, Ev f a ∧ Ev g b ∧ R a b
section
variable {α β γ δ : Type}
theorem Ev2.ret {R : α → β → Prop} {a : α} {b : β} (h : R a b) : Ev2 (fun _ => some a) (fun _ => some b) R := ⟨a, b, Ev.now a, Ev.now b, h⟩
theorem Ev2.of {f : Nat → Option α} {g : Nat → Option β} {P : α → Prop} {Q : β → Prop} {R : α → β → Prop} (h : EvP f P) (h' : EvP g Q) (k : ∀ a b, P a → Q b → R a b) : Ev2 f g R := by
  obtain ⟨a, ha, hp⟩ := h
  obtain ⟨b, hb, hq⟩ := h'
  exact ⟨a, b, ha, hb, k a b hp hq⟩
theorem Ev2.ite {c : Prop} [Decidable c] {f f' : Nat → Option α} {g g' : Nat → Option β} {R : α → β → Prop} (h : c → Ev2 f g R) (h' : ¬ c → Ev2 f' g' R) : Ev2 (fun k => if c then f k else f' k) (fun k => if c then g k else g' k) R := by
  by_cases hc : c
  · simp only [if_pos hc]; exact h hc
  · simp only [if_neg hc]; exact h' hc
theorem Ev2.lite {c : Prop} [Decidable c] {f f' : Nat → Option α} {g : Nat → Option β} {R : α → β → Prop} (h : c → Ev2 f g R) (h' : ¬ c → Ev2 f' g R) : Ev2 (fun k => if c then f k else f' k) g R := by
  by_cases hc : c
  · simp only [if_pos hc]; exact h hc
  · simp only [if_neg hc]; exact h' hc
theorem Ev2.rite {c : Prop} [Decidable c] {f : Nat → Option α} {g g' : Nat → Option β} {R : α → β → Prop} (h : c → Ev2 f g R) (h' : ¬ c → Ev2 f g' R) : Ev2 f (fun k => if c then g k else g' k) R := by
  by_cases hc : c
  · simp only [if_pos hc]; exact h hc
  · simp only [if_neg hc]; exact h' hc
theorem Ev2.lpos {c : Prop} [Decidable c] {f f' : Nat → Option α} {g : Nat → Option β} {R : α → β → Prop} (hc : c) (h : Ev2 f g R) : Ev2 (fun k => if c then f k else f' k) g R := Ev2.lite (fun _ => h) (fun n => absurd hc n)
theorem Ev2.lneg {c : Prop} [Decidable c] {f f' : Nat → Option α} {g : Nat → Option β} {R : α → β → Prop} (hc : ¬ c) (h : Ev2 f' g R) : Ev2 (fun k => if c then f k else f' k) g R := Ev2.lite (fun n => absurd n hc) (fun _ => h)
theorem Ev2.rpos {c : Prop} [Decidable c] {f : Nat → Option α} {g g' : Nat → Option β} {R : α → β → Prop} (hc : c) (h : Ev2 f g R) : Ev2 f (fun k => if c then g k else g' k) R := Ev2.rite (fun _ => h) (fun n => absurd hc n)
theorem Ev2.rneg {c : Prop} [Decidable c] {f : Nat → Option α} {g g' : Nat → Option β} {R : α → β → Prop} (hc : ¬ c) (h : Ev2 f g' R) : Ev2 f (fun k => if c then g k else g' k) R := Ev2.rite (fun n => absurd n hc) (fun _ => h)
theorem Ev2.bind {f : Nat → Option α} {g : Nat → Option β} {f' : Nat → α → Option γ} {g' : Nat → β → Option δ} {Q : α → β → Prop} {R : γ → δ → Prop} (h : Ev2 f g Q) (k : ∀ a b, Q a b → Ev2 (fun n => f' n a) (fun n => g' n b) R) : Ev2 (fun n => (f n).bind (f' n)) (fun n => (g n).bind (g' n)) R := by
  obtain ⟨a, b, ha, hb, hq⟩ := h
  obtain ⟨c, d, hc, hd, hr⟩ := k a b hq
  exact ⟨c, d, Ev.bind ha hc, Ev.bind hb hd, hr⟩
theorem Ev2.lbind {f : Nat → Option α} {f' : Nat → α → Option γ} {g : Nat → Option δ} {Q : α → Prop} {R : γ → δ → Prop} (h : EvP f Q) (k : ∀ a, Q a → Ev2 (fun n => f' n a) g R) : Ev2 (fun n => (f n).bind (f' n)) g R := by
  obtain ⟨a, ha, hq⟩ := h
  obtain ⟨c, d, hc, hd, hr⟩ := k a hq
  exact ⟨c, d, Ev.bind ha hc, hd, hr⟩
theorem Ev2.rbind {f : Nat → Option γ} {g : Nat → Option β} {g' : Nat → β → Option δ} {Q : β → Prop} {R : γ → δ → Prop} (h : EvP g Q) (k : ∀ b, Q b → Ev2 f (fun n => g' n b) R) : Ev2 f (fun n => (g n).bind (g' n)) R := by
  obtain ⟨b, hb, hq⟩ := h
  obtain ⟨c, d, hc, hd, hr⟩ := k b hq
  exact ⟨c, d, hc, Ev.bind hb hd, hr⟩
theorem Ev2.mono {f : Nat → Option α} {g : Nat → Option β} {R S : α → β → Prop} (h : Ev2 f g R) (k : ∀ a b, R a b → S a b) : Ev2 f g S := by
  obtain ⟨a, b, ha, hb, hr⟩ := h
  exact ⟨a, b, ha, hb, k a b hr⟩
theorem Ev2.and {f : Nat → Option α} {g : Nat → Option β} {R : α → β → Prop} {P : α → Prop} (h : Ev2 f g R) (h' : EvP f P) : Ev2 f g (fun a b => R a b ∧ P a) := by
  obtain ⟨a, b, ha, hb, hr⟩ := h
  obtain ⟨a', ⟨K', ha'⟩, hp⟩ := h'
  obtain ⟨K, ha0⟩ := ha
  have e : some a = some a' := (ha0 (max K K') (Nat.le_max_left _ _)).symm.trans (ha' (max K K') (Nat.le_max_right _ _))
  cases e
  exact ⟨a, b, ⟨K, ha0⟩, hb, hr, hp⟩
/-- Two loops side by side. -/
theorem Ev2.whl {σ τ : Type} {f : Nat → σ → Option α} {g : Nat → τ → Option β} {R : α → β → Prop} (m : σ → τ → Nat) (inv : σ → τ → Prop)
    (step : ∀ s t, inv s t → (∀ s' t', m s' t' < m s t → inv s' t' → Ev2 (fun k => f k s') (fun k => g k t') R) → Ev2 (fun k => f (k + 1) s) (fun k => g (k + 1) t) R) : ∀ s t, inv s t → Ev2 (fun k => f k s) (fun k => g k t) R := by
  have H : ∀ (n : Nat) (s : σ) (t : τ), m s t < n → inv s t → Ev2 (fun k => f k s) (fun k => g k t) R := by
    intro n
    induction n with
    | zero => intro s t h; exact absurd h (Nat.not_lt_zero _)
    | succ n ih =>
      intro s t hm hs
      obtain ⟨a, b, ha, hb, hr⟩ := step s t hs (fun s' t' h hs' => ih s' t' (by omega) hs')
      exact ⟨a, b, Ev.step (f := fun k => f (k + 1) s) (fun _ => rfl) ha, Ev.step (f := fun k => g (k + 1) t) (fun _ => rfl) hb, hr⟩
  exact fun s t hs => H (m s t + 1) s t (Nat.lt_succ_self _) hs
theorem Ev2.lstep {f : Nat → Option α} {g : Nat → Option β} {R : α → β → Prop} (h : Ev2 (fun k => f (k + 1)) g R) : Ev2 f g R := by
  obtain ⟨a, b, ha, hb, hr⟩ := h
  exact ⟨a, b, Ev.step (f := fun k => f (k + 1)) (fun _ => rfl) ha, hb, hr⟩
theorem Ev2.rstep {f : Nat → Option α} {g : Nat → Option β} {R : α → β → Prop} (h : Ev2 f (fun k => g (k + 1)) R) : Ev2 f g R := by
  obtain ⟨a, b, ha, hb, hr⟩ := h
  exact ⟨a, b, ha, Ev.step (f := fun k => g (k + 1)) (fun _ => rfl) hb, hr⟩
end
/-! Decimal numerals: the reference's l01Dec -/
def dig (n : Nat) : ByteArray := ⟨#[UInt8.ofNat (48 + n)]⟩
theorem strOf_one (n : Nat) (h : n < 10) (x : Int) (hx : x = 48 + (n : Int)) : strOfNums [(wrap64 x) % 256] = dig n := by
  have e : (wrap64 x) % 256 = 48 + (n : Int) := by
    rw [hx, wrap_in (by omega) (by omega)]; omega
  rw [e]
  show (⟨#[UInt8.ofNat (48 + (n : Int)).toNat]⟩ : ByteArray) = dig n
  rw [show (48 + (n : Int)).toNat = 48 + n from by omega]
  rfl
def decB (n : Nat) : ByteArray := ⟨(Lib.decDigits n).toArray⟩
theorem decB_small {n : Nat} (h : n < 10) : decB n = dig n := by
  unfold decB dig; rw [Lib.decDigits_one h]
theorem decB_big {n : Nat} (h : ¬ n < 10) : decB n = decB (n / 10) ++ dig (n % 10) := by
  unfold decB dig
  rw [show Lib.decDigits n = Lib.decDigits (n / 10) ++ [UInt8.ofNat (48 + n % 10)] from by rw [Lib.decDigits, dif_neg h]]
  apply ByteArray.ext
  simp
theorem decB_size (n : Nat) : (decB n).size = Lib.nDigits n := by
  unfold decB
  show (Lib.decDigits n).toArray.size = _
  simp [Lib.decDigits_length]
theorem nDigits_le : ∀ (k n : Nat), n < 10 ^ (k + 1) → Lib.nDigits n ≤ k + 1
  | 0, n, h => by rw [Lib.nDigits_small (by simpa using h)]; exact Nat.le_refl _
  | k + 1, n, h => by
    by_cases h1 : n < 10
    · rw [Lib.nDigits_small h1]; omega
    · rw [Lib.nDigits_big h1]
      have := nDigits_le k (n / 10) (by rw [Nat.pow_succ] at h; omega)
      omega
theorem decB_le {n : Nat} (h : n < 10000000000000000000) : (decB n).size ≤ 20 := by
  rw [decB_size]
  exact nDigits_le 19 n (by omega)
/-- A number that is not below 0. -/
theorem dec_nat : ∀ (n : Nat), n < 10000000000000000000 → (n : Int) ≤ 9223372036854775807 → EvP (fun k => spec_l01Dec.f k (n : Int)) (· = decB n) := by
  intro n
  induction n using Nat.strongRecOn with
  | _ n ih =>
    intro h0 h1
    refine EvP.step (f := fun k => spec_l01Dec.f (k + 1) (n : Int)) (fun _ => rfl) ?_
    simp only [spec_l01Dec.f]
    refine EvP.neg (by omega) (EvP.ite (fun h => EvP.ret ?_) (fun h => ?_))
    · rw [strOf_one n (by omega) _ rfl, decB_small (by omega)]
    · have e : wrap64 (Int.tdiv (n : Int) 10) = ((n / 10 : Nat) : Int) := by
        rw [Int.tdiv_eq_ediv_of_nonneg (by omega), wrap_in (by omega) (by omega)]; omega
      have e2 : wrap64 (48 + Int.tmod (n : Int) 10) % 256 = wrap64 (48 + ((n % 10 : Nat) : Int)) % 256 := by
        rw [Int.tmod_eq_emod_of_nonneg (by omega)]; rfl
      rw [e]
      refine EvP.bind (ih (n / 10) (by omega) (by omega) (by omega)) (fun t ht => ?_)
      subst ht
      simp only [Option.bind_some]
      rw [e2, strOf_one (n % 10) (by omega) _ rfl]
      have hs := decB_le (n := n / 10) (by omega)
      have hd : (dig (n % 10)).size = 1 := rfl
      exact EvP.pos (by omega) (EvP.ret (decB_big (by omega)).symm)
theorem itoa_nat (n : Nat) : (⟨(Lib.itoa (n : Int)).toArray⟩ : ByteArray) = decB n := by
  unfold Lib.itoa decB
  rw [if_neg (by omega)]
  simp
/-! Days and months -/
def dys (y : Int) : Int := (y - 1) * 365 + (y - 1) / 4 - (y - 1) / 100 + (y - 1) / 400
def lpB (y : Int) : Bool := decide (y % 4 = 0) && (!decide (y % 100 = 0) || decide (y % 400 = 0))
def lpI (y : Int) : Int := if lpB y = true then 1 else 0
def mon (y m : Int) : Int := if m = 2 then 28 + lpI y else if m = 4 then 30 else if m = 6 then 30 else if m = 9 then 30 else if m = 11 then 30 else 31
def cumD (y m : Int) : Int := if m = 1 then 0 else if m = 2 then 31 else if m = 3 then 59 + lpI y else if m = 4 then 90 + lpI y else if m = 5 then 120 + lpI y else if m = 6 then 151 + lpI y else if m = 7 then 181 + lpI y else if m = 8 then 212 + lpI y else if m = 9 then 243 + lpI y else if m = 10 then 273 + lpI y else if m = 11 then 304 + lpI y else 334 + lpI y
theorem lpI_le (y : Int) : 0 ≤ lpI y ∧ lpI y ≤ 1 := by unfold lpI; split <;> omega
theorem dys_succ (y : Int) (h : 1 ≤ y) : dys (y + 1) = dys y + 365 + lpI y := by
  unfold dys lpI lpB
  by_cases h4 : y % 4 = 0 <;> by_cases h1 : y % 100 = 0 <;> by_cases h5 : y % 400 = 0 <;> simp [h4, h1, h5] <;> omega
theorem cumD_succ (y m : Int) (h1 : 1 ≤ m) (h2 : m ≤ 11) : cumD y (m + 1) = cumD y m + mon y m := by
  have : m = 1 ∨ m = 2 ∨ m = 3 ∨ m = 4 ∨ m = 5 ∨ m = 6 ∨ m = 7 ∨ m = 8 ∨ m = 9 ∨ m = 10 ∨ m = 11 := by omega
  rcases this with rfl | rfl | rfl | rfl | rfl | rfl | rfl | rfl | rfl | rfl | rfl <;> simp [cumD, mon] <;> omega
theorem cumD_nonneg (y m : Int) : 0 ≤ cumD y m := by
  have := lpI_le y
  unfold cumD
  (repeat' split) <;> omega
theorem mon_pos (y m : Int) : 28 ≤ mon y m ∧ mon y m ≤ 31 := by
  have := lpI_le y
  unfold mon
  (repeat' split) <;> omega
theorem mod_t (y k : Int) (h : 0 ≤ y) : Int.tmod y k = y % k := Int.tmod_eq_emod_of_nonneg h
theorem leap_some (y : Int) (h : 1 ≤ y) : spec_l01Leap.f y = some (lpB y) := by
  unfold spec_l01Leap.f lpB
  rw [mod_t y 4 (by omega), mod_t y 100 (by omega), mod_t y 400 (by omega)]
  by_cases h4 : y % 4 = 0 <;> by_cases h1 : y % 100 = 0 <;> simp [h4, h1]
  rfl
theorem leap_impl (y : Int) (h : 1 ≤ y) : impl_leap.f y = some (lpB y) := leap_some y h
theorem month_spec (y m : Int) (hy : 1 ≤ y) (h1 : 1 ≤ m) (h2 : m ≤ 12) : spec_l01Month.f y m = some (mon y m) := by
  unfold spec_l01Month.f
  rw [leap_some y hy]
  have hm : m = 1 ∨ m = 2 ∨ m = 3 ∨ m = 4 ∨ m = 5 ∨ m = 6 ∨ m = 7 ∨ m = 8 ∨ m = 9 ∨ m = 10 ∨ m = 11 ∨ m = 12 := by omega
  have hl : lpB y = true ∨ lpB y = false := by cases lpB y <;> simp
  rcases hl with hl | hl <;> rcases hm with rfl | rfl | rfl | rfl | rfl | rfl | rfl | rfl | rfl | rfl | rfl | rfl <;> simp [mon, lpI, hl, rd, wrap64]
theorem month_impl (y m : Int) (hy : 1 ≤ y) (h1 : 1 ≤ m) (h2 : m ≤ 12) : impl_monthDays.f y m = some (mon y m) := by
  unfold impl_monthDays.f
  rw [leap_impl y hy]
  have hm : m = 1 ∨ m = 2 ∨ m = 3 ∨ m = 4 ∨ m = 5 ∨ m = 6 ∨ m = 7 ∨ m = 8 ∨ m = 9 ∨ m = 10 ∨ m = 11 ∨ m = 12 := by omega
  have hl : lpB y = true ∨ lpB y = false := by cases lpB y <;> simp
  rcases hl with hl | hl <;> rcases hm with rfl | rfl | rfl | rfl | rfl | rfl | rfl | rfl | rfl | rfl | rfl | rfl <;> simp [mon, lpI, hl]
theorem days_w (y : Int) (h1 : 1 ≤ y) (h2 : y ≤ 10001) : wrap64 ((wrap64 ((wrap64 ((wrap64 ((wrap64 (y - 1)) * 365)) + (wrap64 (Int.tdiv (wrap64 (y - 1)) 4)))) - (wrap64 (Int.tdiv (wrap64 (y - 1)) 100)))) + (wrap64 (Int.tdiv (wrap64 (y - 1)) 400))) = dys y := by
  rw [wrap_in (x := y - 1) (by omega) (by omega), Int.tdiv_eq_ediv_of_nonneg (by omega), Int.tdiv_eq_ediv_of_nonneg (by omega), Int.tdiv_eq_ediv_of_nonneg (by omega)]
  rw [wrap_in (x := (y - 1) * 365) (by omega) (by omega), wrap_in (x := (y - 1) / 4) (by omega) (by omega), wrap_in (x := (y - 1) / 100) (by omega) (by omega), wrap_in (x := (y - 1) / 400) (by omega) (by omega)]
  rw [wrap_in (x := (y - 1) * 365 + (y - 1) / 4) (by omega) (by omega), wrap_in (x := (y - 1) * 365 + (y - 1) / 4 - (y - 1) / 100) (by omega) (by omega), wrap_in (by omega) (by omega)]
  rfl
theorem days_spec (y : Int) (h1 : 1 ≤ y) (h2 : y ≤ 10001) : spec_l01Days.f y = some (dys y) := by
  unfold spec_l01Days.f
  rw [days_w y h1 h2]
theorem dys_bd (y : Int) (h1 : 1 ≤ y) (h2 : y ≤ 10001) : 0 ≤ dys y ∧ dys y ≤ 3700000 := by unfold dys; omega
theorem days_impl (y : Int) (h1 : 1 ≤ y) (h2 : y ≤ 10001) : EvP (fun k => impl_dayNumber.f k y 1 1) (· = dys y) := by
  unfold impl_dayNumber.f
  rw [days_w y h1 h2]
  have := dys_bd y h1 h2
  refine EvP.step (f := fun _ => some (dys y)) (fun k => ?_) (EvP.ret rfl)
  simp only [impl_dayNumber.l0]
  rw [if_neg (by omega), wrap_in (x := dys y + 1) (by omega) (by omega), wrap_in (by omega) (by omega)]
  congr 1; omega
/-! The date's text -/
def two (n : Nat) : ByteArray := if n < 10 then (⟨#[48]⟩ : ByteArray) ++ decB n else decB n
def four (n : Nat) : ByteArray := padB (decB n) (4 - (decB n).size)
def dateB (y m d : Nat) : ByteArray := (((((⟨#[64]⟩ : ByteArray) ++ four y) ++ (⟨#[45]⟩ : ByteArray)) ++ two m) ++ (⟨#[45]⟩ : ByteArray)) ++ two d
theorem pad_zero (s : ByteArray) : padB s 0 = s := by
  unfold padB
  apply ByteArray.ext
  simp [Lib.repeatL]
theorem pad_succ (s : ByteArray) (c : Nat) : padB s (c + 1) = (⟨#[48]⟩ : ByteArray) ++ padB s c := by
  unfold padB
  apply ByteArray.ext
  apply Array.ext'
  simp [Lib.repeatL]
theorem pad_comm (s : ByteArray) (c : Nat) : padB ((⟨#[48]⟩ : ByteArray) ++ s) c = padB s (c + 1) := by
  induction c with
  | zero => rw [pad_zero, pad_succ, pad_zero]
  | succ c ih => rw [pad_succ, ih, ← pad_succ]
theorem two_size (n : Nat) (h : n < 100) : (two n).size = 2 := by
  unfold two
  split
  · rename_i h1; rw [ByteArray.size_append, decB_size, Lib.nDigits_small h1]; rfl
  · rename_i h1; rw [decB_size, Lib.nDigits_big h1, Lib.nDigits_small (by omega)]
theorem four_size (n : Nat) (h : n < 10000) : (four n).size = 4 := by
  unfold four
  rw [padB_size, decB_size]
  have := nDigits_le 3 n (by omega)
  omega
theorem spec_two (n : Nat) (h : n < 100) : EvP (fun k => spec_l01Two.f k (n : Int)) (· = two n) := by
  unfold spec_l01Two.f two
  refine EvP.ite (fun h1 => ?_) (fun h1 => ?_)
  · rw [if_pos (by omega)]
    refine EvP.bind (dec_nat n (by omega) (by omega)) (fun t ht => ?_)
    subst ht
    have := decB_le (n := n) (by omega)
    exact EvP.pos (by omega) (EvP.ret rfl)
  · rw [if_neg (by omega)]
    exact EvP.bind (dec_nat n (by omega) (by omega)) (fun t ht => EvP.ret ht)
theorem impl_pad_two (n : Nat) (h : n < 100) : impl_pad.f (n : Int) 2 = some (two n) := by
  unfold impl_pad.f impl_num.f
  rw [if_pos (by omega), if_pos (by omega), itoa_nat]
  simp only [Option.bind_some]
  have h1 := decB_le (n := n) (by omega)
  rw [if_pos h1]
  unfold two
  by_cases h2 : n < 10
  · have e : (decB n).size = 1 := by rw [decB_size, Lib.nDigits_small h2]
    rw [if_pos (by omega), if_pos (by omega), if_pos h2, e]
    rw [show ((2 : Int) - ((1 : Nat) : Int)).toNat = 0 + 1 from rfl, pad_succ, pad_zero]
  · have e : (decB n).size = 2 := by rw [decB_size, Lib.nDigits_big h2, Lib.nDigits_small (by omega)]
    rw [if_pos (by omega), if_pos (by omega), if_neg h2, e]
    rw [show ((2 : Int) - ((2 : Nat) : Int)).toNat = 0 from rfl, pad_zero]
theorem impl_pad_four (n : Nat) (h : n < 10000) : impl_pad.f (n : Int) 4 = some (four n) := by
  unfold impl_pad.f impl_num.f
  rw [if_pos (by omega), if_pos (by omega), itoa_nat]
  simp only [Option.bind_some]
  have h1 := decB_le (n := n) (by omega)
  have h2 : (decB n).size ≤ 4 := by rw [decB_size]; exact nDigits_le 3 n (by omega)
  rw [if_pos h1, if_pos (by omega), if_pos (by omega)]
  unfold four
  congr 2
  omega
/-- The reference's last part: padding to four, then the rest. -/
theorem spec_tail (x0 x4 : Nat) (h0 : x0 < 99) (h4 : x4 < 100) (y : Nat) (hy : y < 10000) : EvP (fun k => spec_l01Date.l2 k (x0 : Int) (x4 : Int) (decB y)) (· = dateB y x4 (x0 + 1)) := by
  have hs : (decB y).size ≤ 4 := by rw [decB_size]; exact nDigits_le 3 y (by omega)
  refine EvP.whl1 (g := fun k (s : ByteArray) => spec_l01Date.l2 k (x0 : Int) (x4 : Int) s) (m := fun s => 4 - s.size) (inv := fun s => s.size ≤ 4 ∧ padB s (4 - s.size) = four y) ?_ _ ⟨hs, rfl⟩
  rintro s ⟨h1, h2⟩ ih
  simp only [spec_l01Date.l2]
  have hz : ((⟨#[48]⟩ : ByteArray) ++ s).size = 1 + s.size := by rw [ByteArray.size_append]; rfl
  refine EvP.ite (fun h => EvP.pos (by omega) (ih _ (by omega) ⟨by omega, ?_⟩)) (fun h => ?_)
  · rw [pad_comm, hz, show 4 - (1 + s.size) + 1 = 4 - s.size from by omega, h2]
  · have h5 : s = four y := by rw [← h2, show 4 - s.size = 0 from by omega, pad_zero]
    subst h5
    have f4 := four_size y hy
    have t4 := two_size x4 (by omega)
    have t0 := two_size (x0 + 1) (by omega)
    have z1 : ((⟨#[64]⟩ : ByteArray) ++ four y).size = 5 := by rw [ByteArray.size_append, f4]; rfl
    have z2 : ((⟨#[64]⟩ : ByteArray) ++ four y ++ (⟨#[45]⟩ : ByteArray)).size = 6 := by rw [ByteArray.size_append, z1]; rfl
    refine EvP.pos (by omega) (EvP.pos (by omega) (EvP.bind (spec_two x4 (by omega)) (fun t ht => ?_)))
    subst ht
    have z3 : ((⟨#[64]⟩ : ByteArray) ++ four y ++ (⟨#[45]⟩ : ByteArray) ++ two x4).size = 8 := by rw [ByteArray.size_append, z2, t4]
    have z4 : ((⟨#[64]⟩ : ByteArray) ++ four y ++ (⟨#[45]⟩ : ByteArray) ++ two x4 ++ (⟨#[45]⟩ : ByteArray)).size = 9 := by rw [ByteArray.size_append, z3]; rfl
    have hx1 : x0 + 1 < 100 := by omega
    rw [show wrap64 ((x0 : Int) + 1) = ((x0 + 1 : Nat) : Int) from by rw [wrap_in (by omega) (by omega)]; omega]
    refine EvP.pos (by omega) (EvP.pos (by omega) (EvP.bind (spec_two (x0 + 1) hx1) (fun t ht => ?_)))
    subst ht
    exact EvP.pos (by omega) (EvP.ret rfl)
/-- Both sides of a date. -/
theorem date2 (n : Nat) (hn : (n : Int) ≤ 3652058) : Ev2 (fun k => spec_l01Date.f k (n : Int)) (fun k => impl_dateText.f k (n : Int)) (· = ·) := by
  unfold spec_l01Date.f impl_dateText.f
  have e0 : wrap64 ((wrap64 (Int.tdiv (n : Int) 366)) + 1) = (n : Int) / 366 + 1 := by
    rw [Int.tdiv_eq_ediv_of_nonneg (by omega), wrap_in (x := (n : Int) / 366) (by omega) (by omega), wrap_in (by omega) (by omega)]
  rw [e0]
  refine Ev2.whl (f := fun k (y : Int) => spec_l01Date.l0 k (n : Int) y) (g := fun k (y : Int) => impl_dateText.l0 k (n : Int) y) (m := fun y _ => (10000 - y).toNat) (inv := fun y y' => y = y' ∧ 1 ≤ y ∧ y ≤ 9999 ∧ dys y ≤ n) ?_ _ _ ⟨rfl, by omega, by omega, by unfold dys; omega⟩
  rintro y _ ⟨rfl, y1, y2, hd⟩ ih
  simp only [spec_l01Date.l0, impl_dateText.l0]
  have ey : wrap64 (y + 1) = y + 1 := wrap_in (by omega) (by omega)
  rw [ey, days_spec (y + 1) (by omega) (by omega), days_spec y (by omega) (by omega)]
  simp only [Option.bind_some]
  refine Ev2.rbind (days_impl (y + 1) (by omega) (by omega)) (fun t ht => ?_)
  subst ht
  have hlast : dys 10000 = 3652059 := by decide
  refine Ev2.ite (fun h => ih _ _ (by omega) ⟨rfl, by omega, ?_, h⟩) (fun h => ?_)
  · by_cases hy : y = 9999
    · subst hy; rw [show (9999 : Int) + 1 = 10000 from rfl, hlast] at h; omega
    · omega
  refine Ev2.rbind (days_impl y (by omega) (by omega)) (fun u hu => ?_)
  subst hu
  have hb := dys_bd y y1 (by omega)
  have hsucc := dys_succ y y1
  have hl := lpI_le y
  rw [wrap_in (x := (n : Int) - dys y) (by omega) (by omega)]
  refine Ev2.whl (f := fun k (s : Int × Int) => spec_l01Date.l1 k s.1 y s.2) (g := fun k (s : Int × Int) => impl_dateText.l1 k s.1 y s.2) (m := fun s _ => (13 - s.2).toNat) (inv := fun s t => s = t ∧ 1 ≤ s.2 ∧ s.2 ≤ 12 ∧ 0 ≤ s.1 ∧ s.1 + cumD y s.2 < 365 + lpI y) ?_ ((n : Int) - dys y, 1) ((n : Int) - dys y, 1) ⟨rfl, by simp, by simp, by simp only []; omega, by simp only [cumD, if_true]; omega⟩
  rintro ⟨x, m⟩ ⟨_, _⟩ ⟨e, m1, m2, x1, x2⟩ ih2
  cases e
  simp only [] at m1 m2 x1 x2
  simp only [spec_l01Date.l1, impl_dateText.l1]
  rw [month_spec y m y1 m1 m2, month_impl y m y1 m1 m2]
  simp only [Option.bind_some]
  have hm := mon_pos y m
  have hcn := cumD_nonneg y m
  refine Ev2.ite (fun h2 => ?_) (fun h2 => ?_)
  · have hm12 : m ≠ 12 := by
      rintro rfl
      have : cumD y 12 = 334 + lpI y := by simp [cumD]
      have : mon y 12 = 31 := by simp [mon]
      omega
    have hc := cumD_succ y m m1 (by omega)
    have ex : wrap64 (x - mon y m) = x - mon y m := wrap_in (by omega) (by omega)
    have em : wrap64 (m + 1) = m + 1 := wrap_in (by omega) (by omega)
    rw [ex, em]
    exact ih2 (x - mon y m, m + 1) (x - mon y m, m + 1) (by simp only []; omega) ⟨rfl, by simp only []; omega, by simp only []; omega, by simp only []; omega, by simp only []; rw [hc]; omega⟩
  · obtain ⟨y', rfl⟩ : ∃ q : Nat, y = q := ⟨y.toNat, by omega⟩
    obtain ⟨m', rfl⟩ : ∃ q : Nat, m = q := ⟨m.toNat, by omega⟩
    obtain ⟨x', rfl⟩ : ∃ q : Nat, x = q := ⟨x.toNat, by omega⟩
    refine Ev2.lbind (dec_nat y' (by omega) (by omega)) (fun t ht => ?_)
    subst ht
    refine Ev2.of (Q := (· = dateB y' m' (x' + 1))) (spec_tail x' m' (by omega) (by omega) y' (by omega)) ?_ (fun a b ha hb => by rw [ha, hb])
    have hx1 : x' + 1 < 100 := by omega
    rw [show wrap64 ((x' : Int) + 1) = ((x' + 1 : Nat) : Int) from by rw [wrap_in (by omega) (by omega)]; omega, impl_pad_four y' (by omega), impl_pad_two m' (by omega), impl_pad_two (x' + 1) hx1]
    simp only [Option.bind_some]
    exact EvP.ret rfl
theorem FnExactDateText : OFnExactDateText.Said := by
  intro n hn0
  have hn := ink_i64 hn0
  refine EvP.rounds (?_ : EvP (fun k => laws_FnExactDateText.f k n) (· = true))
  unfold laws_FnExactDateText.f
  suffices h : Ev2 (fun k => spec_DateText.f k n) (fun k => impl_DateText.f k n) (· = ·) by
    obtain ⟨a, b, ha, hb, rfl⟩ := h
    refine EvP.bind (Q := (· = a)) ⟨a, ha, rfl⟩ (fun w hw => EvP.bind (Q := (· = a)) ⟨a, hb, rfl⟩ (fun g hg => EvP.pos (by rw [hg, hw]) (EvP.ret rfl)))
  unfold spec_DateText.f impl_DateText.f
  refine Ev2.ite (fun _ => Ev2.ret rfl) (fun h0 => ?_)
  rw [days_spec 10000 (by omega) (by omega), show dys 10000 = 3652059 from by decide]
  simp only [Option.bind_some]
  refine Ev2.lite (fun h1 => Ev2.rpos (by omega) (Ev2.ret rfl)) (fun h1 => Ev2.rneg (by omega) ?_)
  obtain ⟨m, rfl⟩ : ∃ q : Nat, n = q := ⟨n.toNat, by omega⟩
  exact Ev2.bind (date2 m (by omega)) (fun a b e => Ev2.ret e)
end Go.Proofs.YthblbbhnmbfjjabDoor.Pure
