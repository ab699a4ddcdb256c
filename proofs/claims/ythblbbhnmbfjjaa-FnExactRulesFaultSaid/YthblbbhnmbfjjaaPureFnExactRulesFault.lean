/- The program's RulesFault and the reference's RulesFault tell the same code for all rules within the law's size bound: both make the same tests of each atom; what stands ahead is a sorted list in the one and a plain list in the other, with the same members. No condition beyond the statement's own. -/
import Derived.Test.YthblbbhnmbfjjaaOpnFnExactRulesFault
namespace Go.Proofs.Ythblbbhnmbfjjaa.Pure
open Go.RowKit Go.Proofs.Ythblbbhnmbfjjaa.PFnExactRulesFault Go.Proofs.YthblbbhnmbfjjaaW.PrintWords Go.Proofs.YthblbbhnmbfjjaaW.PrintLast Go.Proofs.Ythblbbhnmbfjjaa.OFnExactRulesFault
set_option linter.unusedVariables false
/-- With enough rounds g tells something of which P holds. -/
def EvP {α : Type} (g : Nat → Option α) (P : α → Prop) : Prop := ∃ r, Ev g r ∧ P r
section
variable {α β : Type}
theorem EvP.ret {P : α → Prop} {r : α} (h : P r) : EvP (fun _ => some r) P := ⟨r, Ev.now r, h⟩
theorem EvP.now {P : α → Prop} {o : Option α} {r : α} (e : o = some r) (h : P r) : EvP (fun _ => o) P := ⟨r, ⟨0, fun _ _ => e⟩, h⟩
theorem EvP.ite {c : Prop} [Decidable c] {f g : Nat → Option α} {P : α → Prop} (h : c → EvP f P) (h' : ¬ c → EvP g P) : EvP (fun k => if c then f k else g k) P := by
  by_cases hc : c
  · simp only [if_pos hc]; exact h hc
  · simp only [if_neg hc]; exact h' hc
theorem EvP.pos {c : Prop} [Decidable c] {f g : Nat → Option α} {P : α → Prop} (hc : c) (h : EvP f P) : EvP (fun k => if c then f k else g k) P := by
  simp only [if_pos hc]; exact h
theorem EvP.neg {c : Prop} [Decidable c] {f g : Nat → Option α} {P : α → Prop} (hc : ¬ c) (h : EvP g P) : EvP (fun k => if c then f k else g k) P := by
  simp only [if_neg hc]; exact h
theorem EvP.bind {g : Nat → Option α} {f : Nat → α → Option β} {Q : α → Prop} {P : β → Prop} (h : EvP g Q) (k : ∀ a, Q a → EvP (fun n => f n a) P) : EvP (fun n => (g n).bind (f n)) P := by
  obtain ⟨a, ha, hq⟩ := h
  obtain ⟨r, hr, hp⟩ := k a hq
  exact ⟨r, Ev.bind ha hr, hp⟩
theorem EvP.mono {g : Nat → Option α} {P Q : α → Prop} (h : EvP g P) (k : ∀ a, P a → Q a) : EvP g Q := by
  obtain ⟨r, hr, hp⟩ := h
  exact ⟨r, hr, k r hp⟩
theorem EvP.step {g f : Nat → Option α} {P : α → Prop} (h : ∀ k, g (k + 1) = f k) (k : EvP f P) : EvP g P := by
  obtain ⟨r, hr, hp⟩ := k
  exact ⟨r, Ev.step h hr, hp⟩
theorem EvP.rounds {g : Nat → Option α} {r : α} (h : EvP g (· = r)) : ∃ k, g k = some r := by
  obtain ⟨_, hr, rfl⟩ := h
  exact hr.rounds
/-- A loop (or a function that calls itself) with a measure m and an invariant inv; 'ih': what a later round tells. -/
theorem EvP.whl1 {σ ρ : Type} {g : Nat → σ → Option ρ} {P : ρ → Prop} (m : σ → Nat) (inv : σ → Prop)
    (step : ∀ s, inv s → (∀ s', m s' < m s → inv s' → EvP (fun k => g k s') P) → EvP (fun k => g (k + 1) s) P) : ∀ s, inv s → EvP (fun k => g k s) P := by
  have H : ∀ (n : Nat) (s : σ), m s < n → inv s → EvP (fun k => g k s) P := by
    intro n
    induction n with
    | zero => intro s h; exact absurd h (Nat.not_lt_zero _)
    | succ n ih =>
      intro s hm hs
      exact EvP.step (f := fun k => g (k + 1) s) (fun _ => rfl) (step s hs (fun s' h hs' => ih s' (by omega) hs'))
  exact fun s hs => H (m s + 1) s (Nat.lt_succ_self _) hs
theorem EvP.whl2 {σ τ ρ : Type} {g : Nat → σ → τ → Option ρ} {P : ρ → Prop} (m : σ → τ → Nat) (inv : σ → τ → Prop)
    (step : ∀ s t, inv s t → (∀ s' t', m s' t' < m s t → inv s' t' → EvP (fun k => g k s' t') P) → EvP (fun k => g (k + 1) s t) P) : ∀ s t, inv s t → EvP (fun k => g k s t) P :=
  fun s t h => EvP.whl1 (g := fun k (x : σ × τ) => g k x.1 x.2) (m := fun x => m x.1 x.2) (inv := fun x => inv x.1 x.2) (fun x hx ih => step x.1 x.2 hx (fun s' t' hm hi => ih (s', t') hm hi)) (s, t) h
theorem EvP.whl3 {σ τ υ ρ : Type} {g : Nat → σ → τ → υ → Option ρ} {P : ρ → Prop} (m : σ → τ → υ → Nat) (inv : σ → τ → υ → Prop)
    (step : ∀ s t u, inv s t u → (∀ s' t' u', m s' t' u' < m s t u → inv s' t' u' → EvP (fun k => g k s' t' u') P) → EvP (fun k => g (k + 1) s t u) P) : ∀ s t u, inv s t u → EvP (fun k => g k s t u) P :=
  fun s t u h => EvP.whl1 (g := fun k (x : σ × τ × υ) => g k x.1 x.2.1 x.2.2) (m := fun x => m x.1 x.2.1 x.2.2) (inv := fun x => inv x.1 x.2.1 x.2.2) (fun x hx ih => step x.1 x.2.1 x.2.2 hx (fun s' t' u' hm hi => ih (s', t', u') hm hi)) (s, t, u) h
theorem EvP.whl4 {σ τ υ φ ρ : Type} {g : Nat → σ → τ → υ → φ → Option ρ} {P : ρ → Prop} (m : σ → τ → υ → φ → Nat) (inv : σ → τ → υ → φ → Prop)
    (step : ∀ s t u v, inv s t u v → (∀ s' t' u' v', m s' t' u' v' < m s t u v → inv s' t' u' v' → EvP (fun k => g k s' t' u' v') P) → EvP (fun k => g (k + 1) s t u v) P) : ∀ s t u v, inv s t u v → EvP (fun k => g k s t u v) P :=
  fun s t u v h => EvP.whl1 (g := fun k (x : σ × τ × υ × φ) => g k x.1 x.2.1 x.2.2.1 x.2.2.2) (m := fun x => m x.1 x.2.1 x.2.2.1 x.2.2.2) (inv := fun x => inv x.1 x.2.1 x.2.2.1 x.2.2.2) (fun x hx ih => step x.1 x.2.1 x.2.2.1 x.2.2.2 hx (fun s' t' u' v' hm hi => ih (s', t', u', v') hm hi)) (s, t, u, v) h
theorem wrap_in {x : Int} (h0 : -9223372036854775808 ≤ x) (h1 : x ≤ 9223372036854775807) : wrap64 x = x := by
  unfold wrap64
  omega
theorem wrap_next {i n : Nat} (h : i < n) (hn : n ≤ 9223372036854775807) : wrap64 ((i : Int) + 1) = ((i + 1 : Nat) : Int) := by
  rw [wrap_in (by omega) (by omega)]
  omega
theorem set_at {xs : List α} {i : Nat} (z : α) (f : Nat → α) (n : Nat) (hxs : xs = (List.range i).map f ++ List.replicate (n - i) z) (hi : i < n) : xs.set i (f i) = (List.range (i + 1)).map f ++ List.replicate (n - (i + 1)) z := by
  subst hxs
  rw [List.set_append_right _ _ (by simp)]
  simp only [List.length_map, List.length_range, Nat.sub_self]
  obtain ⟨m, hm⟩ : ∃ m, n - i = m + 1 := ⟨n - i - 1, by omega⟩
  rw [hm, show n - (i + 1) = m by omega, List.replicate_succ, List.set_cons_zero, List.range_succ]
  simp
theorem map_of_range {xs : List β} (z : β) (c : β → α) : (List.range xs.length).map (fun i => c (xs.getD i z)) = xs.map c := by
  apply List.ext_getElem?
  intro i
  by_cases hi : i < xs.length
  · simp [hi, List.getD]
  · simp [hi]
theorem getD_mem {xs : List α} {i : Nat} (z : α) (h : i < xs.length) : xs.getD i z ∈ xs := by
  rw [List.getD_eq_getElem?_getD, List.getElem?_eq_getElem h]
  exact List.getElem_mem h
end
/-- f and g, with enough rounds, tell two things of which R holds. -/
def Ev2 {α β : Type} (f : Nat → Option α) (g : Nat → Option β) (R : α → β → Prop) : Prop := ∃ a b, Ev f a ∧ Ev g b ∧ R a b
section
variable {α β γ δ : Type}
theorem Ev2.ret {R : α → β → Prop} {a : α} {b : β} (h : R a b) : Ev2 (fun _ => some a) (fun _ => some b) R := ⟨a, b, Ev.now a, Ev.now b, h⟩
theorem Ev2.of {f : Nat → Option α} {g : Nat → Option β} {P : α → Prop} {Q : β → Prop} {R : α → β → Prop} (h : EvP f P) (h' : EvP g Q) (k : ∀ a b, P a → Q b → R a b) : Ev2 f g R := by
  obtain ⟨a, ha, hp⟩ := h
  obtain ⟨b, hb, hq⟩ := h'
  exact ⟨a, b, ha, hb, k a b hp hq⟩
theorem Ev2.ite {c : Prop} [Decidable c] {f f' : Nat → Option α} {g g' : Nat → Option β} {R : α → β → Prop} (h : c → Ev2 f g R) (h' : ¬ c → Ev2 f' g' R) : Ev2 (fun k => if c then f k else f' k) (fun k => if c then g k else g' k) R := by
  by_cases hc : c
  · simp only [if_pos hc]; exact h hc
  · simp only [if_neg hc]; exact h' hc
theorem Ev2.lite {c : Prop} [Decidable c] {f f' : Nat → Option α} {g : Nat → Option β} {R : α → β → Prop} (h : c → Ev2 f g R) (h' : ¬ c → Ev2 f' g R) : Ev2 (fun k => if c then f k else f' k) g R := by
  by_cases hc : c
  · simp only [if_pos hc]; exact h hc
  · simp only [if_neg hc]; exact h' hc
theorem Ev2.rite {c : Prop} [Decidable c] {f : Nat → Option α} {g g' : Nat → Option β} {R : α → β → Prop} (h : c → Ev2 f g R) (h' : ¬ c → Ev2 f g' R) : Ev2 f (fun k => if c then g k else g' k) R := by
  by_cases hc : c
  · simp only [if_pos hc]; exact h hc
  · simp only [if_neg hc]; exact h' hc
theorem Ev2.lpos {c : Prop} [Decidable c] {f f' : Nat → Option α} {g : Nat → Option β} {R : α → β → Prop} (hc : c) (h : Ev2 f g R) : Ev2 (fun k => if c then f k else f' k) g R := Ev2.lite (fun _ => h) (fun n => absurd hc n)
theorem Ev2.lneg {c : Prop} [Decidable c] {f f' : Nat → Option α} {g : Nat → Option β} {R : α → β → Prop} (hc : ¬ c) (h : Ev2 f' g R) : Ev2 (fun k => if c then f k else f' k) g R := Ev2.lite (fun n => absurd n hc) (fun _ => h)
theorem Ev2.rpos {c : Prop} [Decidable c] {f : Nat → Option α} {g g' : Nat → Option β} {R : α → β → Prop} (hc : c) (h : Ev2 f g R) : Ev2 f (fun k => if c then g k else g' k) R := Ev2.rite (fun _ => h) (fun n => absurd hc n)
theorem Ev2.rneg {c : Prop} [Decidable c] {f : Nat → Option α} {g g' : Nat → Option β} {R : α → β → Prop} (hc : ¬ c) (h : Ev2 f g' R) : Ev2 f (fun k => if c then g k else g' k) R := Ev2.rite (fun n => absurd n hc) (fun _ => h)
theorem Ev2.bind {f : Nat → Option α} {g : Nat → Option β} {f' : Nat → α → Option γ} {g' : Nat → β → Option δ} {Q : α → β → Prop} {R : γ → δ → Prop} (h : Ev2 f g Q) (k : ∀ a b, Q a b → Ev2 (fun n => f' n a) (fun n => g' n b) R) : Ev2 (fun n => (f n).bind (f' n)) (fun n => (g n).bind (g' n)) R := by
  obtain ⟨a, b, ha, hb, hq⟩ := h
  obtain ⟨c, d, hc, hd, hr⟩ := k a b hq
  exact ⟨c, d, Ev.bind ha hc, Ev.bind hb hd, hr⟩
theorem Ev2.lbind {f : Nat → Option α} {f' : Nat → α → Option γ} {g : Nat → Option δ} {Q : α → Prop} {R : γ → δ → Prop} (h : EvP f Q) (k : ∀ a, Q a → Ev2 (fun n => f' n a) g R) : Ev2 (fun n => (f n).bind (f' n)) g R := by
  obtain ⟨a, ha, hq⟩ := h
  obtain ⟨c, d, hc, hd, hr⟩ := k a hq
  exact ⟨c, d, Ev.bind ha hc, hd, hr⟩
theorem Ev2.rbind {f : Nat → Option γ} {g : Nat → Option β} {g' : Nat → β → Option δ} {Q : β → Prop} {R : γ → δ → Prop} (h : EvP g Q) (k : ∀ b, Q b → Ev2 f (fun n => g' n b) R) : Ev2 f (fun n => (g n).bind (g' n)) R := by
  obtain ⟨b, hb, hq⟩ := h
  obtain ⟨c, d, hc, hd, hr⟩ := k b hq
  exact ⟨c, d, hc, Ev.bind hb hd, hr⟩
theorem Ev2.mono {f : Nat → Option α} {g : Nat → Option β} {R S : α → β → Prop} (h : Ev2 f g R) (k : ∀ a b, R a b → S a b) : Ev2 f g S := by
  obtain ⟨a, b, ha, hb, hr⟩ := h
  exact ⟨a, b, ha, hb, k a b hr⟩
theorem Ev2.and {f : Nat → Option α} {g : Nat → Option β} {R : α → β → Prop} {P : α → Prop} (h : Ev2 f g R) (h' : EvP f P) : Ev2 f g (fun a b => R a b ∧ P a) := by
  obtain ⟨a, b, ha, hb, hr⟩ := h
  obtain ⟨a', ⟨K', ha'⟩, hp⟩ := h'
  obtain ⟨K, ha0⟩ := ha
  have e : some a = some a' := (ha0 (max K K') (Nat.le_max_left _ _)).symm.trans (ha' (max K K') (Nat.le_max_right _ _))
  cases e
  exact ⟨a, b, ⟨K, ha0⟩, hb, hr, hp⟩
/-- Two loops side by side. -/
theorem Ev2.whl {σ τ : Type} {f : Nat → σ → Option α} {g : Nat → τ → Option β} {R : α → β → Prop} (m : σ → τ → Nat) (inv : σ → τ → Prop)
    (step : ∀ s t, inv s t → (∀ s' t', m s' t' < m s t → inv s' t' → Ev2 (fun k => f k s') (fun k => g k t') R) → Ev2 (fun k => f (k + 1) s) (fun k => g (k + 1) t) R) : ∀ s t, inv s t → Ev2 (fun k => f k s) (fun k => g k t) R := by
  have H : ∀ (n : Nat) (s : σ) (t : τ), m s t < n → inv s t → Ev2 (fun k => f k s) (fun k => g k t) R := by
    intro n
    induction n with
    | zero => intro s t h; exact absurd h (Nat.not_lt_zero _)
    | succ n ih =>
      intro s t hm hs
      obtain ⟨a, b, ha, hb, hr⟩ := step s t hs (fun s' t' h hs' => ih s' t' (by omega) hs')
      exact ⟨a, b, Ev.step (f := fun k => f (k + 1) s) (fun _ => rfl) ha, Ev.step (f := fun k => g (k + 1) t) (fun _ => rfl) hb, hr⟩
  exact fun s t hs => H (m s t + 1) s t (Nat.lt_succ_self _) hs
theorem Ev2.lstep {f : Nat → Option α} {g : Nat → Option β} {R : α → β → Prop} (h : Ev2 (fun k => f (k + 1)) g R) : Ev2 f g R := by
  obtain ⟨a, b, ha, hb, hr⟩ := h
  exact ⟨a, b, Ev.step (f := fun k => f (k + 1)) (fun _ => rfl) ha, hb, hr⟩
theorem Ev2.rstep {f : Nat → Option α} {g : Nat → Option β} {R : α → β → Prop} (h : Ev2 f (fun k => g (k + 1)) R) : Ev2 f g R := by
  obtain ⟨a, b, ha, hb, hr⟩ := h
  exact ⟨a, b, ha, Ev.step (f := fun k => g (k + 1)) (fun _ => rfl) hb, hr⟩
end
def Sm (s : ByteArray) : Prop := s.size ≤ 1048576
def SmA {α : Type} (_ : α) : Prop := True
def SmL {α : Type} (sm : α → Prop) (xs : List α) : Prop := xs.length ≤ 1048576 ∧ ∀ x ∈ xs, sm x
theorem smL_map {α β : Type} {P : α → Prop} {Q : β → Prop} {c : α → β} {l : List α} (h : SmL P l) (hc : ∀ x, P x → Q (c x)) : SmL Q (l.map c) :=
  ⟨by simpa using h.1, fun y hy => by obtain ⟨x, hx, rfl⟩ := List.mem_map.1 hy; exact hc x (h.2 x hx)⟩
def sm84 (x : S84) : Prop := Sm x.f0 ∧ Sm x.f1 ∧ Sm x.f2
def c84 (x : S84) : S88 := ⟨x.f0, x.f1, x.f2⟩
theorem sz84 (x : S84) (hx : wf84 x) (a : Int) (ha : 0 ≤ a) (hb : a ≤ 1048576) : EvP (fun k => laws_szRuleAtom.f x.f0 x.f1 x.f2 a) (fun t => -1 ≤ t ∧ t ≤ a ∧ (0 ≤ t → sm84 x)) := by
  obtain ⟨h0, h1, h2⟩ := hx
  unfold Str at h0
  unfold Str at h1
  unfold Str at h2
  unfold laws_szRuleAtom.f
  rw [show wrap64 (a - (x.f0.size : Int)) = a - x.f0.size from wrap_in (by omega) (by omega)]
  refine EvP.ite (fun _ => EvP.ret ⟨by omega, by omega, fun h => absurd h (by omega)⟩) (fun g0 => ?_)
  rw [show wrap64 ((a - (x.f0.size : Int)) - (x.f1.size : Int)) = (a - (x.f0.size : Int)) - x.f1.size from wrap_in (by omega) (by omega)]
  refine EvP.ite (fun _ => EvP.ret ⟨by omega, by omega, fun h => absurd h (by omega)⟩) (fun g1 => ?_)
  rw [show wrap64 (((a - (x.f0.size : Int)) - (x.f1.size : Int)) - (x.f2.size : Int)) = ((a - (x.f0.size : Int)) - (x.f1.size : Int)) - x.f2.size from wrap_in (by omega) (by omega)]
  refine EvP.ite (fun _ => EvP.ret ⟨by omega, by omega, fun h => absurd h (by omega)⟩) (fun g2 => ?_)
  exact EvP.ret ⟨by omega, by omega, fun _ => ⟨by unfold Sm; omega, by unfold Sm; omega, by unfold Sm; omega⟩⟩
theorem szlRuleAtom (l : List S84) (hl : Lst wf84 l) (a : Int) (ha : 0 ≤ a) (hb : a ≤ 1048576) : EvP (fun k => laws_szRuleAtomS.f k l a) (fun t => -1 ≤ t ∧ t ≤ a ∧ (0 ≤ t → SmL sm84 l)) := by
  obtain ⟨h0, h1⟩ := hl
  unfold laws_szRuleAtomS.f
  rw [show wrap64 (a - (l.length : Int)) = a - l.length from wrap_in (by omega) (by omega)]
  refine EvP.ite (fun _ => EvP.ret ⟨by omega, by omega, fun h => absurd h (by omega)⟩) (fun g => ?_)
  refine EvP.whl2 (g := fun k (s : Int) (i : Int) => laws_szRuleAtomS.l0 k l s i) (m := fun _ i => (l.length - i).toNat) (inv := fun s i => ∃ j : Nat, i = j ∧ j ≤ l.length ∧ 0 ≤ s ∧ s ≤ a ∧ ∀ q, q < j → ∀ y, l[q]? = some y → sm84 y) ?_ _ _ ⟨0, rfl, by omega, by omega, by omega, fun q hq => absurd hq (by omega)⟩
  rintro s i ⟨j, rfl, hj, s0, s1, hs⟩ ih
  simp only [laws_szRuleAtomS.l0]
  refine EvP.ite (fun h => ?_) (fun h => EvP.ret ⟨by omega, by omega, fun _ => ⟨by omega, fun y hy => ?_⟩⟩)
  · have hj' : j < l.length := by omega
    refine EvP.pos (by omega) ?_
    refine EvP.bind (sz84 (rd_T84 l j) (h1 _ (getD_mem _ (by simpa using hj'))) s (by omega) (by omega)) (fun t ht => ?_)
    obtain ⟨p1, q1, r1⟩ := ht
    refine EvP.ite (fun _ => EvP.ret ⟨by omega, by omega, fun h => absurd h (by omega)⟩) (fun g1 => ?_)
    have hlast : sm84 l[j] := by have := r1 (by omega); simpa [rd_T84, List.getD, List.getElem?_eq_getElem hj'] using this
    rw [wrap_next hj' (by omega)]
    refine ih _ _ (by omega) ⟨j + 1, rfl, by omega, by omega, by omega, fun q hq y hy => ?_⟩
    by_cases e : q = j
    · subst e; rw [List.getElem?_eq_getElem hj'] at hy; cases hy; exact hlast
    · exact hs q (by omega) y hy
  · obtain ⟨q, hq, rfl⟩ := List.mem_iff_getElem.1 hy
    exact hs q (by omega) _ (List.getElem?_eq_getElem hq)
theorem to84 (x : S84) (hx : sm84 x) : EvP (fun k => laws_toRuleAtom.f x.f0 x.f1 x.f2) (· = ((c84 x).f0, (c84 x).f1, (c84 x).f2)) := by
  unfold laws_toRuleAtom.f
  obtain ⟨h0, h1, h2⟩ := hx
  exact EvP.ret rfl
theorem tolRuleAtom (l : List S84) (hl : SmL sm84 l) : EvP (fun k => laws_toRuleAtomS.f k l) (· = l.map c84) := by
  obtain ⟨h0, h1⟩ := hl
  unfold laws_toRuleAtomS.f
  refine EvP.pos (by omega) (EvP.pos (by omega) ?_)
  refine EvP.whl2 (g := fun k (s : List S88) (i : Int) => laws_toRuleAtomS.l0 k l s i) (m := fun _ i => (l.length - i).toNat) (inv := fun s i => ∃ j : Nat, i = j ∧ j ≤ l.length ∧ s = (List.range j).map (fun q : Nat => c84 (rd_T84 l (q : Int))) ++ List.replicate (l.length - j) z88) ?_ _ _ ⟨0, rfl, by omega, by simp⟩
  rintro s i ⟨j, rfl, hj, hs⟩ ih
  simp only [laws_toRuleAtomS.l0]
  refine EvP.ite (fun h => ?_) (fun h => EvP.ret ?_)
  · have hj' : j < l.length := by omega
    refine EvP.pos (by omega) ?_
    refine EvP.bind (to84 (rd_T84 l j) (h1 _ (getD_mem _ (by simpa using hj')))) (fun r hr => ?_)
    subst hr
    refine EvP.pos (by rw [hs]; simp; omega) ?_
    rw [wrap_next hj' (by omega)]
    refine ih _ _ (by omega) ⟨j + 1, rfl, hj', ?_⟩
    exact set_at z88 (fun q : Nat => c84 (rd_T84 l (q : Int))) _ hs hj'
  · obtain rfl : j = l.length := by omega
    rw [hs]; simpa [rd_T84] using map_of_range z84 c84 (xs := l)
def sm87 (x : S87) : Prop := sm84 x.f0 ∧ SmL sm84 x.f1
def c87 (x : S87) : S91 := ⟨(c84 x.f0), (x.f1.map c84)⟩
theorem sz87 (x : S87) (hx : wf87 x) (a : Int) (ha : 0 ≤ a) (hb : a ≤ 1048576) : EvP (fun k => laws_szDerive.f k x.f0.f0 x.f0.f1 x.f0.f2 x.f1 a) (fun t => -1 ≤ t ∧ t ≤ a ∧ (0 ≤ t → sm87 x)) := by
  obtain ⟨h0, h1⟩ := hx
  unfold laws_szDerive.f
  refine EvP.bind (sz84 x.f0 h0 a (by omega) (by omega)) (fun t0 ht0 => ?_)
  obtain ⟨p0, q0, r0⟩ := ht0
  refine EvP.ite (fun _ => EvP.ret ⟨by omega, by omega, fun h => absurd h (by omega)⟩) (fun g0 => ?_)
  refine EvP.bind (szlRuleAtom x.f1 h1 t0 (by omega) (by omega)) (fun t1 ht1 => ?_)
  obtain ⟨p1, q1, r1⟩ := ht1
  refine EvP.ite (fun _ => EvP.ret ⟨by omega, by omega, fun h => absurd h (by omega)⟩) (fun g1 => ?_)
  exact EvP.ret ⟨by omega, by omega, fun _ => ⟨r0 (by omega), r1 (by omega)⟩⟩
theorem szlDerive (l : List S87) (hl : Lst wf87 l) (a : Int) (ha : 0 ≤ a) (hb : a ≤ 1048576) : EvP (fun k => laws_szDeriveS.f k l a) (fun t => -1 ≤ t ∧ t ≤ a ∧ (0 ≤ t → SmL sm87 l)) := by
  obtain ⟨h0, h1⟩ := hl
  unfold laws_szDeriveS.f
  rw [show wrap64 (a - (l.length : Int)) = a - l.length from wrap_in (by omega) (by omega)]
  refine EvP.ite (fun _ => EvP.ret ⟨by omega, by omega, fun h => absurd h (by omega)⟩) (fun g => ?_)
  refine EvP.whl2 (g := fun k (s : Int) (i : Int) => laws_szDeriveS.l0 k l s i) (m := fun _ i => (l.length - i).toNat) (inv := fun s i => ∃ j : Nat, i = j ∧ j ≤ l.length ∧ 0 ≤ s ∧ s ≤ a ∧ ∀ q, q < j → ∀ y, l[q]? = some y → sm87 y) ?_ _ _ ⟨0, rfl, by omega, by omega, by omega, fun q hq => absurd hq (by omega)⟩
  rintro s i ⟨j, rfl, hj, s0, s1, hs⟩ ih
  simp only [laws_szDeriveS.l0]
  refine EvP.ite (fun h => ?_) (fun h => EvP.ret ⟨by omega, by omega, fun _ => ⟨by omega, fun y hy => ?_⟩⟩)
  · have hj' : j < l.length := by omega
    refine EvP.pos (by omega) ?_
    refine EvP.bind (sz87 (rd_T87 l j) (h1 _ (getD_mem _ (by simpa using hj'))) s (by omega) (by omega)) (fun t ht => ?_)
    obtain ⟨p1, q1, r1⟩ := ht
    refine EvP.ite (fun _ => EvP.ret ⟨by omega, by omega, fun h => absurd h (by omega)⟩) (fun g1 => ?_)
    have hlast : sm87 l[j] := by have := r1 (by omega); simpa [rd_T87, List.getD, List.getElem?_eq_getElem hj'] using this
    rw [wrap_next hj' (by omega)]
    refine ih _ _ (by omega) ⟨j + 1, rfl, by omega, by omega, by omega, fun q hq y hy => ?_⟩
    by_cases e : q = j
    · subst e; rw [List.getElem?_eq_getElem hj'] at hy; cases hy; exact hlast
    · exact hs q (by omega) y hy
  · obtain ⟨q, hq, rfl⟩ := List.mem_iff_getElem.1 hy
    exact hs q (by omega) _ (List.getElem?_eq_getElem hq)
theorem to87 (x : S87) (hx : sm87 x) : EvP (fun k => laws_toDerive.f k x.f0.f0 x.f0.f1 x.f0.f2 x.f1) (· = ((c87 x).f0.f0, (c87 x).f0.f1, (c87 x).f0.f2, (c87 x).f1)) := by
  unfold laws_toDerive.f
  obtain ⟨h0, h1⟩ := hx
  refine EvP.bind (to84 x.f0 h0) (fun r0 hr0 => ?_)
  subst hr0
  refine EvP.bind (tolRuleAtom x.f1 h1) (fun r1 hr1 => ?_)
  subst hr1
  exact EvP.ret rfl
theorem tolDerive (l : List S87) (hl : SmL sm87 l) : EvP (fun k => laws_toDeriveS.f k l) (· = l.map c87) := by
  obtain ⟨h0, h1⟩ := hl
  unfold laws_toDeriveS.f
  refine EvP.pos (by omega) (EvP.pos (by omega) ?_)
  refine EvP.whl2 (g := fun k (s : List S91) (i : Int) => laws_toDeriveS.l0 k l s i) (m := fun _ i => (l.length - i).toNat) (inv := fun s i => ∃ j : Nat, i = j ∧ j ≤ l.length ∧ s = (List.range j).map (fun q : Nat => c87 (rd_T87 l (q : Int))) ++ List.replicate (l.length - j) z91) ?_ _ _ ⟨0, rfl, by omega, by simp⟩
  rintro s i ⟨j, rfl, hj, hs⟩ ih
  simp only [laws_toDeriveS.l0]
  refine EvP.ite (fun h => ?_) (fun h => EvP.ret ?_)
  · have hj' : j < l.length := by omega
    refine EvP.pos (by omega) ?_
    refine EvP.bind (to87 (rd_T87 l j) (h1 _ (getD_mem _ (by simpa using hj')))) (fun r hr => ?_)
    subst hr
    refine EvP.pos (by rw [hs]; simp; omega) ?_
    rw [wrap_next hj' (by omega)]
    refine ih _ _ (by omega) ⟨j + 1, rfl, hj', ?_⟩
    exact set_at z91 (fun q : Nat => c87 (rd_T87 l (q : Int))) _ hs hj'
  · obtain rfl : j = l.length := by omega
    rw [hs]; simpa [rd_T87] using map_of_range z87 c87 (xs := l)
def le88 (x : S88) : Prop := True
theorem eq88 (x : S88) (hx : le88 x) : EvP (fun k => laws_eqRuleAtom.f x.f0 x.f1 x.f2 x.f0 x.f1 x.f2) (· = true) := by
  unfold laws_eqRuleAtom.f
  refine EvP.pos rfl ?_
  refine EvP.pos rfl ?_
  refine EvP.pos rfl ?_
  exact EvP.ret rfl
theorem eqlRuleAtom (l : List S88) (hl : SmL le88 l) : EvP (fun k => laws_eqRuleAtomS.f k l l) (· = true) := by
  obtain ⟨h0, h1⟩ := hl
  unfold laws_eqRuleAtomS.f
  refine EvP.pos rfl ?_
  refine EvP.whl1 (g := fun k (i : Int) => laws_eqRuleAtomS.l0 k l l i) (m := fun i => (l.length - i).toNat) (inv := fun i => ∃ j : Nat, i = j ∧ j ≤ l.length) ?_ _ ⟨0, rfl, by omega⟩
  rintro i ⟨j, rfl, hj⟩ ih
  simp only [laws_eqRuleAtomS.l0]
  refine EvP.ite (fun h => ?_) (fun h => EvP.ret rfl)
  have hj' : j < l.length := by omega
  refine EvP.pos (by omega) (EvP.pos (by omega) ?_)
  refine EvP.bind (eq88 (rd_T88 l j) (h1 _ (getD_mem _ (by simpa using hj')))) (fun r hr => ?_)
  subst hr
  refine EvP.pos rfl ?_
  rw [wrap_next hj' (by omega)]
  exact ih _ (by omega) ⟨j + 1, rfl, by omega⟩
def le91 (x : S91) : Prop := le88 x.f0 ∧ SmL le88 x.f1
theorem eq91 (x : S91) (hx : le91 x) : EvP (fun k => laws_eqDerive.f k x.f0.f0 x.f0.f1 x.f0.f2 x.f1 x.f0.f0 x.f0.f1 x.f0.f2 x.f1) (· = true) := by
  unfold laws_eqDerive.f
  obtain ⟨h0, h1⟩ := hx
  refine EvP.bind (eq88 x.f0 h0) (fun r0 hr0 => ?_)
  subst hr0
  refine EvP.pos rfl ?_
  refine EvP.bind (eqlRuleAtom x.f1 h1) (fun r1 hr1 => ?_)
  subst hr1
  refine EvP.pos rfl ?_
  exact EvP.ret rfl
theorem eqlDerive (l : List S91) (hl : SmL le91 l) : EvP (fun k => laws_eqDeriveS.f k l l) (· = true) := by
  obtain ⟨h0, h1⟩ := hl
  unfold laws_eqDeriveS.f
  refine EvP.pos rfl ?_
  refine EvP.whl1 (g := fun k (i : Int) => laws_eqDeriveS.l0 k l l i) (m := fun i => (l.length - i).toNat) (inv := fun i => ∃ j : Nat, i = j ∧ j ≤ l.length) ?_ _ ⟨0, rfl, by omega⟩
  rintro i ⟨j, rfl, hj⟩ ih
  simp only [laws_eqDeriveS.l0]
  refine EvP.ite (fun h => ?_) (fun h => EvP.ret rfl)
  have hj' : j < l.length := by omega
  refine EvP.pos (by omega) (EvP.pos (by omega) ?_)
  refine EvP.bind (eq91 (rd_T91 l j) (h1 _ (getD_mem _ (by simpa using hj')))) (fun r hr => ?_)
  subst hr
  refine EvP.pos rfl ?_
  rw [wrap_next hj' (by omega)]
  exact ih _ (by omega) ⟨j + 1, rfl, by omega⟩
theorem le_c84 (x : S84) (hx : sm84 x) : le88 (c84 x) := by
  exact trivial
theorem le_c87 (x : S87) (hx : sm87 x) : le91 (c87 x) := by
  obtain ⟨h0, h1⟩ := hx
  exact ⟨le_c84 _ h0, smL_map h1 le_c84⟩
/-! Names and words: plain facts on bytes -/
def joinSp (ws : List (List UInt8)) : List UInt8 := 32 :: ws.flatMap (· ++ [32])
theorem joinSp_cons (w : List UInt8) (ws : List (List UInt8)) : joinSp (w :: ws) = 32 :: (w ++ joinSp ws) := by
  simp [joinSp]
theorem pre_eq : ∀ (t w : List UInt8) (r : List UInt8), 32 ∉ t → 32 ∉ w → (t ++ [32]) <+: (w ++ 32 :: r) → t = w
  | [], [], _, _, _, _ => rfl
  | [], c :: w, r, _, hw, h => by
    obtain ⟨z, hz⟩ := h
    simp at hz
    exact absurd (by simp [hz.1]) hw
  | c :: t, [], r, ht, _, h => by
    obtain ⟨z, hz⟩ := h
    simp at hz
    exact absurd (by simp [hz.1]) ht
  | c :: t, d :: w, r, ht, hw, h => by
    obtain ⟨z, hz⟩ := h
    simp at hz
    have := pre_eq t w r (by simp at ht; exact ht.2) (by simp at hw; exact hw.2) ⟨z, by simp [hz.2]⟩
    rw [this, hz.1]
theorem infix_skip : ∀ (w t r : List UInt8), 32 ∉ w → (32 :: t) <:+: (w ++ r) → (32 :: t) <:+: r
  | [], _, _, _, h => h
  | c :: w, t, r, hw, h => by
    rw [List.cons_append, List.infix_cons_iff] at h
    simp at hw
    rcases h with h | h
    · obtain ⟨z, hz⟩ := h
      simp at hz
      exact absurd hz.1 hw.1
    · exact infix_skip w t r hw.2 h
theorem infix_join : ∀ (ws : List (List UInt8)) (t : List UInt8), t ≠ [] → 32 ∉ t → (∀ w ∈ ws, 32 ∉ w) → ((32 :: (t ++ [32])) <:+: joinSp ws ↔ t ∈ ws)
  | [], t, hne, _, _ => by
    constructor
    · intro h
      have := h.length_le
      simp [joinSp] at this
    · intro h; cases h
  | w :: ws, t, hne, ht, hw => by
    have ih := infix_join ws t hne ht (fun x hx => hw x (List.mem_cons_of_mem _ hx))
    have h0 := hw w (List.mem_cons_self ..)
    rw [joinSp_cons, List.infix_cons_iff, List.mem_cons]
    constructor
    · rintro (h | h)
      · left
        obtain ⟨z, hz⟩ := h
        simp only [List.cons_append, List.cons.injEq, true_and] at hz
        exact pre_eq t w (ws.flatMap (· ++ [32])) ht h0 ⟨z, hz⟩
      · exact Or.inr (ih.1 (infix_skip w _ _ h0 h))
    · rintro (rfl | h)
      · left
        exact ⟨ws.flatMap (· ++ [32]), by simp [joinSp]⟩
      · right
        exact (ih.2 h).trans (List.suffix_append w (joinSp ws)).isInfix
theorem contains_iff (s sub : List UInt8) : Go.Lib.contains s sub = true ↔ sub <:+: s := by
  unfold Go.Lib.contains
  rw [decide_eq_true_iff]
  rcases Go.Lib.index_spec s sub with ⟨h, hn⟩ | ⟨i, h, hi, ho, _⟩
  · rw [h]
    constructor
    · intro h; omega
    · rintro ⟨a, b, hab⟩
      have h1 := hn a.length (by rw [← hab]; simp)
      have h2 : sub.isPrefixOf (sub ++ b) = true := List.isPrefixOf_iff_prefix.2 (List.prefix_append _ _)
      rw [Go.Lib.occAt, ← hab, List.append_assoc, List.drop_left, h2] at h1
      cases h1
  · rw [h]
    constructor
    · intro _
      simp only [Go.Lib.occAt, List.isPrefixOf_iff_prefix] at ho
      obtain ⟨z, hz⟩ := ho
      exact ⟨s.take i, z, by rw [List.append_assoc, hz, List.take_append_drop]⟩
    · intro _; omega

def letU (c : UInt8) : Bool := (decide (97 ≤ c.toNat) && decide (c.toNat ≤ 122)) || (decide (65 ≤ c.toNat) && decide (c.toNat ≤ 90))
def digU (c : UInt8) : Bool := decide (48 ≤ c.toNat) && decide (c.toNat ≤ 57)
def nameU (c : UInt8) : Bool := letU c || digU c || c.toNat == 95
def nameL (l : List UInt8) : Bool := decide (1 ≤ l.length) && decide (l.length ≤ 20) && letU (l.headD 0) && l.all nameU
theorem bt_list (s : ByteArray) (j : Nat) (h : j < s.size) : bt s (j : Int) = ((s.data.toList[j]'(by simpa using h)).toNat : Int) := by
  simp [bt, h]
  rfl
theorem letter_some (c : UInt8) : spec_l01Letter.f (c.toNat : Int) = some (letU c) := by
  unfold spec_l01Letter.f letU
  have e1 : ((c.toNat : Int) ≥ 97) = (97 ≤ c.toNat) := propext (by omega)
  have e2 : ((c.toNat : Int) ≤ 122) = (c.toNat ≤ 122) := propext (by omega)
  have e3 : ((c.toNat : Int) ≥ 65) = (65 ≤ c.toNat) := propext (by omega)
  have e4 : ((c.toNat : Int) ≤ 90) = (c.toNat ≤ 90) := propext (by omega)
  simp only [e1, e2, e3, e4]
  by_cases a1 : 97 ≤ c.toNat <;> by_cases a2 : c.toNat ≤ 122 <;> by_cases a3 : 65 ≤ c.toNat <;> simp [a1, a2, a3]
theorem letter_impl (c : UInt8) : impl_isLetter.f (c.toNat : Int) = some (letU c) := letter_some c
theorem digit_some (c : UInt8) : spec_l01Digit.f (c.toNat : Int) = some (digU c) := by
  unfold spec_l01Digit.f digU
  have e1 : ((c.toNat : Int) ≥ 48) = (48 ≤ c.toNat) := propext (by omega)
  have e2 : ((c.toNat : Int) ≤ 57) = (c.toNat ≤ 57) := propext (by omega)
  simp only [e1, e2]
  by_cases a1 : 48 ≤ c.toNat <;> simp [a1]
theorem nameU_of {c : UInt8} : nameU c = (letU c || digU c || c.toNat == 95) := rfl
theorem digit_impl (c : UInt8) : impl_isDigit.f (c.toNat : Int) = some (digU c) := digit_some c
theorem all_drop {l : List UInt8} {j : Nat} (h : j < l.length) : (l.drop j).all nameU = (nameU l[j] && (l.drop (j + 1)).all nameU) := by
  rw [List.drop_eq_getElem_cons h, List.all_cons]
theorem spec_name_loop (s : ByteArray) (hs : s.size ≤ 20) (j : Nat) (hj : j ≤ s.size) : EvP (fun k => spec_l01Name.l0 k s (j : Int)) (· = (s.data.toList.drop j).all nameU) := by
  refine EvP.whl1 (g := fun k (i : Int) => spec_l01Name.l0 k s i) (m := fun i => (s.size - i).toNat) (inv := fun i => ∃ q : Nat, i = q ∧ q ≤ s.size ∧ (s.data.toList.drop q).all nameU = (s.data.toList.drop j).all nameU) ?_ _ ⟨j, rfl, hj, rfl⟩
  rintro i ⟨q, rfl, hq, hv⟩ ih
  simp only [spec_l01Name.l0]
  have hlen : s.data.toList.length = s.size := by simp
  refine EvP.ite (fun h => ?_) (fun h => EvP.ret ?_)
  · have hq' : q < s.size := by omega
    have hn := ih ((q + 1 : Nat) : Int) (by omega)
    rw [all_drop (by omega)] at hv
    rw [bt_list s q hq', letter_some, digit_some, wrap_next hq' (by omega)]
    generalize s.data.toList[q]'(by omega) = c at hv
    refine EvP.pos (by omega) ?_
    simp only [Option.bind_some]
    refine EvP.ite (fun h1 => hn ⟨q + 1, rfl, hq', by rw [← hv, nameU_of, h1]; rfl⟩) (fun h1 => ?_)
    refine EvP.ite (fun h2 => hn ⟨q + 1, rfl, hq', by rw [← hv, nameU_of, h2, Bool.or_true]; rfl⟩) (fun h2 => ?_)
    refine EvP.ite (fun h3 => hn ⟨q + 1, rfl, hq', ?_⟩) (fun h3 => EvP.ret ?_)
    · rw [← hv, nameU_of, show (c.toNat == 95) = true from by simpa using (by omega : c.toNat = 95), Bool.or_true]; rfl
    · rw [← hv, nameU_of, show (c.toNat == 95) = false from by simpa using (by omega : ¬ c.toNat = 95), show letU c = false from by simpa using h1, show digU c = false from by simpa using h2]; rfl
  · obtain rfl : q = s.size := by omega
    rw [← hv, List.drop_of_length_le (by omega)]; rfl
theorem impl_name_loop (s : ByteArray) (hs : s.size ≤ 20) (j : Nat) (hj : j ≤ s.size) : EvP (fun k => impl_isName.l0 k s (s.size : Int) (j : Int)) (· = (s.data.toList.drop j).all nameU) := by
  refine EvP.whl1 (g := fun k (i : Int) => impl_isName.l0 k s s.size i) (m := fun i => (s.size - i).toNat) (inv := fun i => ∃ q : Nat, i = q ∧ q ≤ s.size ∧ (s.data.toList.drop q).all nameU = (s.data.toList.drop j).all nameU) ?_ _ ⟨j, rfl, hj, rfl⟩
  rintro i ⟨q, rfl, hq, hv⟩ ih
  simp only [impl_isName.l0]
  have hlen : s.data.toList.length = s.size := by simp
  refine EvP.ite (fun h => ?_) (fun h => EvP.ret ?_)
  · have hq' : q < s.size := by omega
    have hn := ih ((q + 1 : Nat) : Int) (by omega)
    rw [all_drop (by omega)] at hv
    rw [bt_list s q hq', letter_impl, digit_impl, wrap_next hq' (by omega)]
    generalize s.data.toList[q]'(by omega) = c at hv
    refine EvP.pos (by omega) (EvP.pos h ?_)
    simp only [Option.bind_some]
    refine EvP.ite (fun h1 => hn ⟨q + 1, rfl, hq', by rw [← hv, nameU_of, h1]; rfl⟩) (fun h1 => ?_)
    refine EvP.ite (fun h2 => hn ⟨q + 1, rfl, hq', by rw [← hv, nameU_of, h2, Bool.or_true]; rfl⟩) (fun h2 => ?_)
    refine EvP.ite (fun h3 => hn ⟨q + 1, rfl, hq', ?_⟩) (fun h3 => EvP.ret ?_)
    · rw [← hv, nameU_of, show (c.toNat == 95) = true from by simpa using (by omega : c.toNat = 95), Bool.or_true]; rfl
    · rw [← hv, nameU_of, show (c.toNat == 95) = false from by simpa using (by omega : ¬ c.toNat = 95), show letU c = false from by simpa using h1, show digU c = false from by simpa using h2]; rfl
  · obtain rfl : q = s.size := by omega
    rw [← hv, List.drop_of_length_le (by omega)]; rfl
theorem head_of : ∀ (l : List UInt8) (h : 0 < l.length), l[0] = l.headD 0
  | [], h => by cases h
  | _ :: _, _ => rfl
theorem head_bt (s : ByteArray) (h : 0 < s.size) : bt s 0 = ((s.data.toList.headD 0).toNat : Int) := by
  have := bt_list s 0 h
  rw [show ((0 : Nat) : Int) = 0 from rfl] at this
  rw [this, head_of]
theorem nameL_no (l : List UInt8) (h : ¬ (1 ≤ l.length ∧ l.length ≤ 20 ∧ letU (l.headD 0) = true)) : nameL l = false := by
  rw [Bool.eq_false_iff]
  intro hh
  simp only [nameL, Bool.and_eq_true, decide_eq_true_eq] at hh
  exact h ⟨hh.1.1.1, hh.1.1.2, hh.1.2⟩
theorem nameL_split (l : List UInt8) (h : letU (l.headD 0) = true) (hl : 1 ≤ l.length) : (l.drop 1).all nameU = l.all nameU := by
  cases l with
  | nil => cases hl
  | cons c r =>
    have hc : letU c = true := by simpa using h
    simp [nameU, hc]
theorem spec_name (s : ByteArray) : EvP (fun k => spec_l01Name.f k s) (· = nameL s.data.toList) := by
  unfold spec_l01Name.f
  have hlen : s.data.toList.length = s.size := by simp
  have no : ¬ (1 ≤ s.size ∧ s.size ≤ 20 ∧ letU (s.data.toList.headD 0) = true) → EvP (fun k => spec_l01Name.j0 k s true) (· = nameL s.data.toList) := by
    intro h
    refine EvP.step (f := fun _ => some false) (fun k => by simp [spec_l01Name.j0]) (EvP.ret ?_)
    exact (nameL_no _ (by rw [hlen]; exact h)).symm
  refine EvP.ite (fun h => no (by omega)) (fun h => EvP.ite (fun h2 => no (by omega)) (fun h2 => EvP.pos (by omega) ?_))
  rw [head_bt s (by omega), letter_some]
  simp only [Option.bind_some]
  by_cases h3 : letU (s.data.toList.headD 0) = true
  · rw [h3]
    refine EvP.step (f := fun k => spec_l01Name.l0 k s 1) (fun k => by simp [spec_l01Name.j0]) ?_
    refine (spec_name_loop s (by omega) 1 (by omega)).mono (fun b hb => ?_)
    rw [hb, nameL_split _ h3 (by omega)]
    unfold nameL
    rw [h3, hlen]
    simp [show 1 ≤ s.size from by omega, show s.size ≤ 20 from by omega]
  · rw [show letU (s.data.toList.headD 0) = false from by simpa using h3]
    exact no (fun hh => h3 hh.2.2)
theorem impl_name (s : ByteArray) : EvP (fun k => impl_isName.f k s) (· = nameL s.data.toList) := by
  unfold impl_isName.f
  have hlen : s.data.toList.length = s.size := by simp
  have no : ¬ (1 ≤ s.size ∧ s.size ≤ 20 ∧ letU (s.data.toList.headD 0) = true) → EvP (fun k => impl_isName.j0 k s true) (· = nameL s.data.toList) := by
    intro h
    refine EvP.step (f := fun _ => some false) (fun k => by simp [impl_isName.j0]) (EvP.ret ?_)
    exact (nameL_no _ (by rw [hlen]; exact h)).symm
  refine EvP.ite (fun h => no (by omega)) (fun h => EvP.ite (fun h2 => no (by omega)) (fun h2 => EvP.pos (by omega) ?_))
  rw [head_bt s (by omega), letter_impl]
  simp only [Option.bind_some]
  by_cases h3 : letU (s.data.toList.headD 0) = true
  · rw [h3]
    refine EvP.step (f := fun k => impl_isName.l0 k s s.size 0) (fun k => by simp [impl_isName.j0]) ?_
    refine (impl_name_loop s (by omega) 0 (by omega)).mono (fun b hb => ?_)
    rw [hb, List.drop_zero]
    unfold nameL
    rw [h3, hlen]
    simp [show 1 ≤ s.size from by omega, show s.size ≤ 20 from by omega]
  · rw [show letU (s.data.toList.headD 0) = false from by simpa using h3]
    exact no (fun hh => h3 hh.2.2)
def wordsW : List (List UInt8) := [[110, 117, 108, 108], [116, 114, 117, 101], [102, 97, 108, 115, 101], [110, 111, 116], [111, 114], [120, 111, 114], [97, 110, 100], [105, 110], [105, 115], [99, 97, 115, 101], [119, 104, 101, 110], [116, 104, 101, 110], [101, 108, 115, 101], [101, 110, 100], [119, 104, 101, 114, 101], [97, 108, 108], [97, 110, 121], [109, 97, 116, 99, 104], [111, 112, 116, 105, 111, 110, 97, 108], [119, 105, 116, 104], [114, 101, 116, 117, 114, 110], [100, 105, 115, 116, 105, 110, 99, 116], [111, 114, 100, 101, 114], [98, 121], [100, 101, 115, 99], [115, 107, 105, 112], [108, 105, 109, 105, 116], [97, 115], [117, 110, 119, 105, 110, 100], [99, 114, 101, 97, 116, 101], [115, 101, 116], [114, 101, 109, 111, 118, 101], [100, 101, 108, 101, 116, 101], [100, 101, 116, 97, 99, 104], [109, 101, 114, 103, 101], [111, 110], [117, 110, 105, 111, 110], [115, 104, 111, 114, 116, 101, 115, 116], [116, 114, 97, 105, 108], [115, 105, 109, 112, 108, 101], [119, 97, 108, 107]]
def freeL (l : List UInt8) : Bool := nameL l && !decide (l ∈ wordsW)
theorem in_texts (l : List ByteArray) (a : ByteArray) (hl : l.length ≤ 1048576) : EvP (fun k => spec_l01InTexts.f k l a) (· = l.any (fun x => decide (x.toList = a.toList))) := by
  unfold spec_l01InTexts.f
  refine EvP.whl1 (g := fun k (i : Int) => spec_l01InTexts.l0 k l a i) (m := fun i => (l.length - i).toNat) (inv := fun i => ∃ q : Nat, i = q ∧ q ≤ l.length ∧ (l.drop q).any (fun x => decide (x.toList = a.toList)) = l.any (fun x => decide (x.toList = a.toList))) ?_ _ ⟨0, rfl, by omega, by simp⟩
  rintro i ⟨q, rfl, hq, hv⟩ ih
  simp only [spec_l01InTexts.l0]
  refine EvP.ite (fun h => ?_) (fun h => EvP.ret ?_)
  · have hq' : q < l.length := by omega
    rw [List.drop_eq_getElem_cons hq', List.any_cons] at hv
    have hr : rdOf ByteArray.empty l (q : Int) = l[q] := by simp [rdOf, List.getD, hq']
    rw [wrap_next hq' (by omega), hr]
    refine EvP.pos (by omega) (EvP.ite (fun h1 => EvP.ret ?_) (fun h1 => ih _ (by omega) ⟨q + 1, rfl, hq', ?_⟩))
    · rw [← hv]; simp [h1]
    · rw [← hv]; simp [h1]
  · obtain rfl : q = l.length := by omega
    rw [← hv, List.drop_of_length_le (by omega)]; rfl
theorem words_join : wordsL = joinSp wordsW := by decide +kernel
theorem words_nosp : ∀ w ∈ wordsW, (32 : UInt8) ∉ w := by decide +kernel
theorem name_nosp {l : List UInt8} (h : nameL l = true) : l ≠ [] ∧ (32 : UInt8) ∉ l ∧ l.length ≤ 20 := by
  unfold nameL at h
  simp only [Bool.and_eq_true, decide_eq_true_eq] at h
  obtain ⟨⟨⟨h1, h2⟩, _⟩, h3⟩ := h
  refine ⟨fun e => (by rw [e] at h1; cases h1), fun hm => ?_, h2⟩
  have := List.all_eq_true.1 h3 _ hm
  exact absurd this (by decide)
theorem word_iff (a : ByteArray) (h : nameL a.data.toList = true) : Go.Lib.contains wordsL ((⟨#[32]⟩ : ByteArray) ++ a ++ (⟨#[32]⟩ : ByteArray)).data.toList = decide (a.data.toList ∈ wordsW) := by
  obtain ⟨h1, h2, _⟩ := name_nosp h
  have e : ((⟨#[32]⟩ : ByteArray) ++ a ++ (⟨#[32]⟩ : ByteArray)).data.toList = 32 :: (a.data.toList ++ [32]) := by simp
  rw [e, words_join, Bool.eq_iff_iff, contains_iff, decide_eq_true_iff]
  exact infix_join wordsW _ h1 h2 words_nosp
theorem impl_free_ev (a : ByteArray) : EvP (fun k => impl_free.f k a) (· = freeL a.data.toList) := by
  unfold impl_free.f
  refine EvP.bind (impl_name a) (fun b hb => ?_)
  subst hb
  refine EvP.ite (fun h => ?_) (fun h => EvP.ret (by unfold freeL; simp [h]))
  have hs : a.size ≤ 1000 := by
    have := (name_nosp h).2.2
    simp at this
    omega
  refine EvP.now (r := !decide (a.data.toList ∈ wordsW)) ?_ (by unfold freeL; simp [h])
  unfold impl_isWord.f
  rw [if_pos hs, word_iff a h]
  rfl
def wordsB : List ByteArray := wordsW.map (fun w => ⟨w.toArray⟩)
theorem words_spec : spec_l06Words.f = some wordsB := by
  unfold spec_l06Words.f wordsB wordsW
  rfl
theorem any_words (a : ByteArray) : wordsB.any (fun x => decide (x.toList = a.toList)) = decide (a.data.toList ∈ wordsW) := by
  rw [Bool.eq_iff_iff, List.any_eq_true, decide_eq_true_iff]
  unfold wordsB
  constructor
  · rintro ⟨x, hx, h⟩
    obtain ⟨w, hw, rfl⟩ := List.mem_map.1 hx
    rw [decide_eq_true_iff] at h
    rw [ByteArray.toList_eq, ByteArray.toList_eq] at h
    rw [← h]; simpa using hw
  · intro h
    refine ⟨⟨a.data.toList.toArray⟩, List.mem_map.2 ⟨_, h, rfl⟩, ?_⟩
    rw [decide_eq_true_iff]
theorem spec_free_ev (a : ByteArray) : EvP (fun k => spec_l06Name.f k a) (· = freeL a.data.toList) := by
  unfold spec_l06Name.f
  refine EvP.bind (spec_name a) (fun b hb => ?_)
  subst hb
  refine EvP.ite (fun h => ?_) (fun h => EvP.ret (by unfold freeL; simp [h]))
  rw [words_spec]
  simp only [Option.bind_some]
  refine EvP.bind (in_texts wordsB a (by decide)) (fun b hb => EvP.ret ?_)
  rw [hb, any_words]
  unfold freeL; simp [h]
/-! Sorted lists of texts, as the reference makes them -/
theorem rd_text {l : List ByteArray} {j : Nat} (h : j < l.length) : rdOf ByteArray.empty l (j : Int) = l[j] := by
  simp [rdOf, List.getD, h]
def posU (x : ByteArray) (out : List ByteArray) : Nat → Nat
  | 0 => 0
  | k + 1 => if Op.bytesLess x.toList ((out.getD k ByteArray.empty).toList) = true then posU x out k else k + 1
theorem posU_le (x : ByteArray) (out : List ByteArray) : ∀ k, posU x out k ≤ k
  | 0 => Nat.le_refl _
  | k + 1 => by
    unfold posU
    split
    · exact Nat.le_succ_of_le (posU_le x out k)
    · exact Nat.le_refl _
def insU (out : List ByteArray) (x : ByteArray) : List ByteArray :=
  if 0 < posU x out out.length ∧ (out.getD (posU x out out.length - 1) ByteArray.empty).toList = x.toList then out
  else out.take (posU x out out.length) ++ x :: out.drop (posU x out out.length)
theorem insU_length (out : List ByteArray) (x : ByteArray) : (insU out x).length ≤ out.length + 1 := by
  unfold insU
  have := posU_le x out out.length
  split
  · omega
  · simp; omega
theorem insU_mem (out : List ByteArray) (x a : ByteArray) : (∃ y ∈ insU out x, y.toList = a.toList) ↔ (∃ y ∈ out, y.toList = a.toList) ∨ x.toList = a.toList := by
  unfold insU
  have hp := posU_le x out out.length
  split
  · rename_i h
    obtain ⟨h0, h1⟩ := h
    refine ⟨Or.inl, fun h => h.elim id (fun e => ⟨_, getD_mem ByteArray.empty (by omega : posU x out out.length - 1 < out.length), h1.trans e⟩)⟩
  · constructor
    · rintro ⟨y, hy, e⟩
      rw [List.mem_append, List.mem_cons] at hy
      rcases hy with hy | rfl | hy
      · exact Or.inl ⟨y, List.mem_of_mem_take hy, e⟩
      · exact Or.inr e
      · exact Or.inl ⟨y, List.mem_of_mem_drop hy, e⟩
    · rintro (⟨y, hy, e⟩ | e)
      · rw [← List.take_append_drop (posU x out out.length) out, List.mem_append] at hy
        refine ⟨y, ?_, e⟩
        rw [List.mem_append, List.mem_cons]
        exact hy.elim Or.inl (fun h => Or.inr (Or.inr h))
      · exact ⟨x, by simp, e⟩
def sortU (l : List ByteArray) : List ByteArray := l.foldl insU []
theorem fold_mem : ∀ (l acc : List ByteArray) (a : ByteArray), (∃ y ∈ l.foldl insU acc, y.toList = a.toList) ↔ (∃ y ∈ acc, y.toList = a.toList) ∨ ∃ y ∈ l, y.toList = a.toList
  | [], acc, a => by simp
  | x :: l, acc, a => by
    rw [List.foldl_cons, fold_mem l (insU acc x) a, insU_mem]
    simp only [List.mem_cons, exists_eq_or_imp]
    exact or_assoc
theorem sortU_any (l : List ByteArray) (a : ByteArray) : (sortU l).any (fun y => decide (y.toList = a.toList)) = l.any (fun y => decide (y.toList = a.toList)) := by
  rw [Bool.eq_iff_iff, List.any_eq_true, List.any_eq_true]
  simp only [decide_eq_true_eq]
  have := fold_mem l [] a
  simpa [sortU] using this
theorem fold_length : ∀ (l acc : List ByteArray), (l.foldl insU acc).length ≤ acc.length + l.length
  | [], acc => by simp
  | x :: l, acc => by
    rw [List.foldl_cons]
    have h1 := fold_length l (insU acc x)
    have h2 := insU_length acc x
    simp only [List.length_cons]
    omega
theorem sortU_length (l : List ByteArray) : (sortU l).length ≤ l.length := by
  have := fold_length l []
  simpa [sortU] using this
theorem texts_some (l : List ByteArray) (h : l.length ≤ 1048576) : spec_l01Texts.f l = some l := by
  unfold spec_l01Texts.f
  simp only [Option.bind_some, List.length_nil, List.nil_append]
  rw [if_pos (by omega)]
theorem sort_ev (l : List ByteArray) (hl : l.length ≤ 1048576) : EvP (fun k => spec_l03Sort.f k l) (· = sortU l) := by
  unfold spec_l03Sort.f
  refine EvP.whl2 (g := fun k (out : List ByteArray) (i : Int) => spec_l03Sort.l0 k l out i) (m := fun _ i => (l.length - i).toNat) (inv := fun out i => ∃ q : Nat, i = q ∧ q ≤ l.length ∧ (l.drop q).foldl insU out = sortU l ∧ out.length ≤ q) ?_ _ _ ⟨0, rfl, by omega, by rw [List.drop_zero]; rfl, by simp⟩
  rintro out i ⟨q, rfl, hq, hv, ho⟩ ih
  simp only [spec_l03Sort.l0]
  refine EvP.ite (fun h => ?_) (fun h => EvP.ret ?_)
  · have hq' : q < l.length := by omega
    rw [List.drop_eq_getElem_cons hq', List.foldl_cons] at hv
    have hn : ∀ out', out' = insU out l[q] → EvP (fun k => spec_l03Sort.l0 k l out' ((q + 1 : Nat) : Int)) (· = sortU l) := fun out' e => by
      subst e
      exact ih _ _ (by omega) ⟨q + 1, rfl, hq', hv, by have := insU_length out l[q]; omega⟩
    refine EvP.whl1 (g := fun k (j : Int) => spec_l03Sort.l1 k l out q j) (m := fun j => j.toNat) (inv := fun j => ∃ p : Nat, j = p ∧ p ≤ out.length ∧ posU l[q] out p = posU l[q] out out.length) ?_ _ ⟨out.length, rfl, Nat.le_refl _, rfl⟩
    rintro j ⟨p, rfl, hp, hpos⟩ ih2
    simp only [spec_l03Sort.l1]
    have hins : ∀ o2 : List ByteArray, posU l[q] out out.length = p → ¬ (0 < p ∧ (out.getD (p - 1) ByteArray.empty).toList = l[q].toList) → o2 = (out.take p ++ [l[q]]) ++ out.drop p → o2 = insU out l[q] := by
      intro o2 e hno h2
      unfold insU
      rw [e, if_neg hno, h2, List.append_assoc]
      rfl
    have htx := texts_some (out.drop p) (by simp; omega)
    refine EvP.ite (fun h0 => ?_) (fun h0 => ?_)
    · have hp1 : p - 1 < out.length := by omega
      have hw : wrap64 ((p : Int) - 1) = ((p - 1 : Nat) : Int) := by rw [wrap_in (by omega) (by omega)]; omega
      rw [hw, rd_text hq', rd_text hp1]
      refine EvP.pos (by omega) (EvP.pos (by omega) (EvP.pos (by omega) (EvP.pos (by omega) ?_)))
      obtain ⟨p, rfl⟩ : ∃ z, p = z + 1 := ⟨p - 1, by omega⟩
      simp only [Nat.add_sub_cancel] at *
      have hp2 : p < out.length := by omega
      have hg : out.getD p ByteArray.empty = out[p] := by simp [List.getD, hp2]
      refine EvP.ite (fun h1 => ih2 _ (by omega) ⟨p, rfl, by omega, ?_⟩) (fun h1 => ?_)
      · rw [← hpos]; conv => rhs; unfold posU
        rw [hg, if_pos h1]
      · have hk : posU l[q] out out.length = p + 1 := by
          rw [← hpos]; unfold posU; rw [hg, if_neg h1]
        rw [wrap_next hq' (by omega)]
        refine EvP.ite (fun h2 => hn _ ?_) (fun h2 => ?_)
        · unfold insU
          rw [hk, if_pos ⟨Nat.succ_pos _, by rw [Nat.add_sub_cancel, hg]; exact h2⟩]
        · refine EvP.pos (by omega) (EvP.pos (by omega) ?_)
          rw [show ((p + 1 : Nat) : Int).toNat = p + 1 from by omega, htx]
          simp only [Option.bind_some]
          refine EvP.pos (by simp; omega) (EvP.pos (by simp; omega) (hn _ (hins _ hk (fun hh => h2 (by rw [hg] at hh; exact hh.2)) rfl)))
    · obtain rfl : p = 0 := by omega
      refine EvP.pos (by omega) (EvP.pos (by omega) ?_)
      rw [show ((0 : Nat) : Int).toNat = 0 from rfl, htx, rd_text hq', wrap_next hq' (by omega)]
      simp only [Option.bind_some]
      refine EvP.pos (by omega) (EvP.pos (by omega) (EvP.pos (by simp) (EvP.pos (by simp; omega) (hn _ (hins _ ?_ (fun hh => absurd hh.1 (Nat.lt_irrefl _)) rfl)))))
      rw [← hpos]; rfl
  · obtain rfl : q = l.length := by omega
    rw [← hv, List.drop_length]; rfl
theorem contains_ev (l : List ByteArray) (a : ByteArray) (hl : l.length ≤ 1048576) : EvP (fun k => slices_Contains_string_string.f k l a) (· = l.any (fun x => decide (x.toList = a.toList))) := by
  unfold slices_Contains_string_string.f
  refine EvP.bind (Q := fun t => decide (t ≥ 0) = l.any (fun x => decide (x.toList = a.toList))) ?_ (fun t ht => EvP.ret ht)
  unfold slices_Index_string_string.f
  refine EvP.whl1 (g := fun k (i : Int) => slices_Index_string_string.l0 k l a l.length i) (m := fun i => (l.length - i).toNat) (inv := fun i => ∃ q : Nat, i = q ∧ q ≤ l.length ∧ (l.drop q).any (fun x => decide (x.toList = a.toList)) = l.any (fun x => decide (x.toList = a.toList))) ?_ _ ⟨0, rfl, by omega, by simp⟩
  rintro i ⟨q, rfl, hq, hv⟩ ih
  simp only [slices_Index_string_string.l0]
  refine EvP.ite (fun h => ?_) (fun h => EvP.ret ?_)
  · have hq' : q < l.length := by omega
    rw [List.drop_eq_getElem_cons hq', List.any_cons] at hv
    rw [wrap_next hq' (by omega), rd_text hq']
    refine EvP.pos (by omega) (EvP.pos h (EvP.ite (fun h1 => EvP.ret ?_) (fun h1 => ih _ (by omega) ⟨q + 1, rfl, hq', ?_⟩)))
    · rw [← hv, decide_eq_true (by omega), decide_eq_true h1.symm]; rfl
    · rw [← hv, decide_eq_false (fun e => h1 e.symm)]; rfl
  · obtain rfl : q = l.length := by omega
    rw [← hv, List.drop_length]; rfl
abbrev hasT (l : List ByteArray) (a : ByteArray) : Bool := l.any (fun x => decide (x.toList = a.toList))
def atomR (x : S88) : Bool := nameL x.f0.data.toList && freeL x.f1.data.toList && (decide (x.f2.toList = []) || freeL x.f2.data.toList)
def varsR (x : S88) : List ByteArray := if x.f2.toList = [] then [x.f1] else [x.f1, x.f2]
def aheadR (l : List S88) : List ByteArray := l.flatMap varsR
theorem varsR_len (x : S88) : (varsR x).length ≤ 2 := by
  unfold varsR; split <;> simp
theorem aheadR_len : ∀ l : List S88, (aheadR l).length ≤ 2 * l.length
  | [] => by simp [aheadR]
  | x :: l => by
    have := aheadR_len l
    have := varsR_len x
    simp only [aheadR, List.flatMap_cons, List.length_append, List.length_cons] at *
    omega
theorem spec_atomR (x : S88) : EvP (fun k => spec_l19Atom.f k x.f0 x.f1 x.f2) (· = atomR x) := by
  unfold spec_l19Atom.f
  refine EvP.bind (spec_name _) (fun b1 h1 => EvP.ite (fun g1 => ?_) (fun g1 => EvP.ret ?_))
  · refine EvP.bind (spec_free_ev _) (fun b2 h2 => EvP.ite (fun g2 => ?_) (fun g2 => EvP.ret ?_))
    · refine EvP.ite (fun e => EvP.ret ?_) (fun e => EvP.bind (spec_free_ev _) (fun b3 h3 => EvP.ret ?_))
      · subst h1 h2; simp [atomR, g1, g2, e]
      · subst h1 h2 h3; simp [atomR, g1, g2, e]
    · subst h1 h2; simp [atomR, g1, g2]
  · subst h1; simp [atomR, g1]
theorem impl_atomR (x : S88) : EvP (fun k => impl_RuleAtom_ok.f k x.f0 x.f1 x.f2) (· = atomR x) := by
  unfold impl_RuleAtom_ok.f
  refine EvP.bind (impl_name _) (fun b1 h1 => EvP.ite (fun g1 => ?_) (fun g1 => EvP.ret ?_))
  · refine EvP.bind (impl_free_ev _) (fun b2 h2 => EvP.ite (fun g2 => ?_) (fun g2 => EvP.ret ?_))
    · refine EvP.ite (fun e => EvP.ret ?_) (fun e => EvP.bind (impl_free_ev _) (fun b3 h3 => EvP.ret ?_))
      · subst h1 h2; simp [atomR, g1, g2, e]
      · subst h1 h2 h3; simp [atomR, g1, g2, e]
    · subst h1 h2; simp [atomR, g1, g2]
  · subst h1; simp [atomR, g1]
theorem rd_rule {l : List S88} {j : Nat} (h : j < l.length) : rd_T88 l j = l[j] := by
  simp [rd_T88, List.getD, h]
theorem ahead_succ {l : List S88} {j : Nat} (h : j < l.length) : aheadR (l.take (j + 1)) = aheadR (l.take j) ++ varsR l[j] := by
  rw [List.take_succ_eq_append_getElem h, aheadR, List.flatMap_append]
  simp [aheadR]
theorem spec_vars (l : List S88) (a b c : ByteArray) (hl : l.length ≤ 3) : EvP (fun k => spec_l19Vars.f k a b c l) (· = sortU (aheadR l)) := by
  unfold spec_l19Vars.f
  have hA := aheadR_len l
  refine EvP.whl2 (g := fun k (s : List ByteArray) (i : Int) => spec_l19Vars.l0 k s i a b c l) (m := fun _ i => (l.length - i).toNat) (inv := fun s i => ∃ q : Nat, i = q ∧ q ≤ l.length ∧ s = aheadR (l.take q)) ?_ _ _ ⟨0, rfl, by omega, rfl⟩
  rintro s i ⟨q, rfl, hq, rfl⟩ ih
  simp only [spec_l19Vars.l0]
  have hlen := aheadR_len (l.take q)
  rw [List.length_take] at hlen
  refine EvP.ite (fun h => ?_) (fun h => ?_)
  · have hq' : q < l.length := by omega
    rw [wrap_next hq' (by omega), rd_rule hq']
    refine EvP.pos (by omega) (EvP.pos (by omega) ?_)
    simp only [Option.bind_some]
    have e := ahead_succ hq'
    unfold varsR at e
    refine EvP.ite (fun h1 => ih _ _ (by omega) ⟨q + 1, rfl, hq', ?_⟩) (fun h1 => EvP.pos (by simp; omega) (ih _ _ (by omega) ⟨q + 1, rfl, hq', ?_⟩))
    · rw [e, if_pos h1]
    · rw [e, if_neg h1]; simp
  · obtain rfl : q = l.length := by omega
    rw [List.take_length]
    refine EvP.bind (sort_ev _ (by omega)) (fun t ht => EvP.ret ht)
theorem in_sorted (l : List ByteArray) (a : ByteArray) (hl : l.length ≤ 1048576) : EvP (fun k => spec_l01InTexts.f k (sortU l) a) (· = hasT l a) := by
  refine (in_texts (sortU l) a (by have := sortU_length l; omega)).mono (fun b hb => ?_)
  rw [hb]; exact sortU_any l a
def tiedR (l : List S88) (j : Nat) (x : S88) : Bool := decide (j = 0) || (hasT (aheadR (l.take j)) x.f1 || (!decide (x.f2.toList = []) && hasT (aheadR (l.take j)) x.f2))
def bodyR (l : List S88) : Nat → Bool
  | 0 => true
  | j + 1 => bodyR l j && (atomR (l.getD j z88) && tiedR l j (l.getD j z88))
def headR (x : S88) (l : List S88) : Bool := hasT (aheadR l) x.f1 && (decide (x.f2.toList = []) || hasT (aheadR l) x.f2)
theorem bodyR_false {l : List S88} {j : Nat} (h : bodyR l j = false) : ∀ n, j ≤ n → bodyR l n = false
  | 0, hn => by
    obtain rfl : j = 0 := by omega
    exact h
  | n + 1, hn => by
    by_cases e : j = n + 1
    · subst e; exact h
    · rw [bodyR, bodyR_false h n (by omega)]; rfl
def ruleB (r : S91) : Bool := atomR r.f0 && decide (1 ≤ r.f1.length) && decide (r.f1.length ≤ 3) && bodyR r.f1 r.f1.length && headR r.f0 r.f1
theorem rules_drop {l : List S91} {j : Nat} (h : j < l.length) : (l.drop j).all ruleB = (ruleB (rd_T91 l j) && (l.drop (j + 1)).all ruleB) := by
  rw [List.drop_eq_getElem_cons h, List.all_cons]
  simp [rd_T91, List.getD, h]
/-- The body's and the head's tests of one rule, in the reference: what follows is handed in. -/
theorem spec_rule (l : List S91) (n : Int) (r : S91) (hr : r.f1.length ≤ 3) (v : Int) (go : bodyR r.f1 r.f1.length = true ∧ headR r.f0 r.f1 = true → EvP (fun k => spec_RulesFault.l0 k l (wrap64 (n + 1))) (· = v)) (no : ¬ (bodyR r.f1 r.f1.length = true ∧ headR r.f0 r.f1 = true) → 1 = v) :
    EvP (fun k => spec_RulesFault.l1 k l n 0 r.f0.f0 r.f0.f1 r.f0.f2 r.f1) (· = v) := by
  refine EvP.whl1 (g := fun k (i : Int) => spec_RulesFault.l1 k l n i r.f0.f0 r.f0.f1 r.f0.f2 r.f1) (m := fun i => (r.f1.length - i).toNat) (inv := fun i => ∃ q : Nat, i = q ∧ q ≤ r.f1.length ∧ bodyR r.f1 q = true) ?_ _ ⟨0, rfl, by omega, rfl⟩
  rintro i ⟨q, rfl, hq, hb⟩ ih
  simp only [spec_RulesFault.l1]
  refine EvP.ite (fun h => ?_) (fun h => ?_)
  · have hq' : q < r.f1.length := by omega
    have hb1 : bodyR r.f1 (q + 1) = (atomR r.f1[q] && tiedR r.f1 q r.f1[q]) := by
      rw [bodyR, hb]; simp [List.getD, hq']
    have hno : bodyR r.f1 (q + 1) = false → 1 = v := fun e => no (fun hh => by rw [bodyR_false e _ hq'] at hh; cases hh.1)
    have hn := fun e => ih ((q + 1 : Nat) : Int) (by omega) ⟨q + 1, rfl, hq', e⟩
    have hA := aheadR_len (r.f1.take q)
    rw [List.length_take] at hA
    refine EvP.pos (by omega) (EvP.pos (by omega) ?_)
    rw [wrap_next hq' (by omega), rd_rule hq', show ((q : Int)).toNat = q from by omega]
    refine EvP.bind (spec_vars _ _ _ _ (by simp; omega)) (fun ah hah => ?_)
    subst hah
    refine EvP.bind (spec_atomR _) (fun b1 h1 => EvP.ite (fun g1 => ?_) (fun g1 => EvP.ret (hno ?_)))
    · subst h1
      refine EvP.ite (fun g2 => ?_) (fun g2 => hn ?_)
      · refine EvP.bind (in_sorted _ _ (by omega)) (fun b2 h2 => EvP.ite (fun g3 => hn ?_) (fun g3 => ?_))
        · subst h2; rw [hb1, g1]; simp [tiedR, g3]
        · subst h2
          refine EvP.ite (fun g4 => EvP.ret (hno ?_)) (fun g4 => EvP.bind (in_sorted _ _ (by omega)) (fun b3 h3 => EvP.ite (fun g5 => hn ?_) (fun g5 => EvP.ret (hno ?_))))
          · rw [hb1, g1]
            simp only [tiedR, decide_eq_false (show ¬ q = 0 from by omega), show hasT (aheadR (r.f1.take q)) r.f1[q].f1 = false from by simpa using g3, decide_eq_true g4]
            rfl
          · subst h3
            rw [hb1, g1]
            simp only [tiedR, decide_eq_false g4, g5, Bool.not_false, Bool.true_and, Bool.or_true]
          · subst h3
            rw [hb1, g1]
            simp only [tiedR, decide_eq_false (show ¬ q = 0 from by omega), show hasT (aheadR (r.f1.take q)) r.f1[q].f1 = false from by simpa using g3, show hasT (aheadR (r.f1.take q)) r.f1[q].f2 = false from by simpa using g5, Bool.and_false]
            rfl
      · rw [hb1, g1]; simp only [tiedR, decide_eq_true (show q = 0 from by omega), Bool.true_or, Bool.true_and]
    · subst h1; rw [hb1]; simp [g1]
  · obtain rfl : q = r.f1.length := by omega
    refine EvP.bind (spec_vars _ _ _ _ hr) (fun ah hah => ?_)
    subst hah
    have hA := aheadR_len r.f1
    refine EvP.bind (in_sorted _ _ (by omega)) (fun b1 h1 => EvP.ite (fun g1 => ?_) (fun g1 => EvP.ret (no (fun hh => ?_))))
    · refine EvP.ite (fun g2 => go ⟨hb, ?_⟩) (fun g2 => EvP.bind (in_sorted _ _ (by omega)) (fun b2 h2 => EvP.ite (fun g3 => go ⟨hb, ?_⟩) (fun g3 => EvP.ret (no (fun hh => ?_)))))
      · unfold headR; subst h1; rw [g1, decide_eq_true g2]; rfl
      · unfold headR; subst h1 h2; rw [g1, g3, Bool.or_true]; rfl
      · have hh := hh.2; unfold headR at hh; subst h1 h2
        rw [g1, decide_eq_false g2, show hasT (aheadR r.f1) r.f0.f2 = false from by simpa using g3] at hh
        cases hh
    · have hh := hh.2; unfold headR at hh; subst h1
      rw [show hasT (aheadR r.f1) r.f0.f1 = false from by simpa using g1] at hh
      cases hh
theorem spec_rules_loop (l : List S91) (hl : l.length ≤ 1048576) : EvP (fun k => spec_RulesFault.l0 k l 0) (· = if l.all ruleB = true then 0 else 1) := by
  refine EvP.whl1 (g := fun k (i : Int) => spec_RulesFault.l0 k l i) (m := fun i => (l.length - i).toNat) (inv := fun i => ∃ q : Nat, i = q ∧ q ≤ l.length ∧ (l.drop q).all ruleB = l.all ruleB) ?_ _ ⟨0, rfl, by omega, by simp⟩
  rintro i ⟨q, rfl, hq, hv⟩ ih
  simp only [spec_RulesFault.l0]
  refine EvP.ite (fun h => ?_) (fun h => EvP.ret ?_)
  · have hq' : q < l.length := by omega
    rw [rules_drop hq'] at hv
    have hw := wrap_next hq' (by omega)
    generalize rd_T91 l q = r at hv
    have bad : ruleB r = false → (1 : Int) = if l.all ruleB = true then 0 else 1 := fun e => by rw [← hv, e]; rfl
    have one : ruleB r = false → EvP (fun k => spec_RulesFault.j1 k l q true r.f0.f0 r.f0.f1 r.f0.f2 r.f1) (· = if l.all ruleB = true then 0 else 1) := fun e =>
      EvP.step (f := fun _ => some 1) (fun k => by simp [spec_RulesFault.j1]) (EvP.ret (bad e))
    refine EvP.pos (by omega) (EvP.bind (spec_atomR _) (fun b1 h1 => EvP.ite (fun g1 => ?_) (fun g1 => one ?_)))
    · subst h1
      refine EvP.ite (fun g2 => one ?_) (fun g2 => ?_)
      · unfold ruleB; rw [decide_eq_false (show ¬ 1 ≤ r.f1.length from by omega)]; simp
      · by_cases g3 : (r.f1.length : Int) > 3
        · rw [decide_eq_true g3]
          refine one ?_
          unfold ruleB; rw [decide_eq_false (show ¬ r.f1.length ≤ 3 from by omega)]; simp
        · rw [decide_eq_false g3]
          refine EvP.step (f := fun k => spec_RulesFault.l1 k l q 0 r.f0.f0 r.f0.f1 r.f0.f2 r.f1) (fun k => by simp [spec_RulesFault.j1]) ?_
          have hr : ruleB r = (bodyR r.f1 r.f1.length && headR r.f0 r.f1) := by
            unfold ruleB; rw [g1, decide_eq_true (show 1 ≤ r.f1.length from by omega), decide_eq_true (show r.f1.length ≤ 3 from by omega)]; simp
          refine spec_rule l q r (by omega) _ (fun hh => ?_) (fun hh => bad ?_)
          · rw [hw]
            refine ih _ (by omega) ⟨q + 1, rfl, hq', ?_⟩
            rw [← hv, hr, hh.1, hh.2]; rfl
          · rw [hr, Bool.eq_false_iff]; intro h; rw [Bool.and_eq_true] at h; exact hh h
    · subst h1; unfold ruleB; rw [show atomR r.f0 = false from by simpa using g1]; rfl
  · obtain rfl : q = l.length := by omega
    rw [← hv]; simp
theorem spec_rules (l : List S91) (hl : l.length ≤ 1048576) : EvP (fun k => spec_RulesFault.f k l) (· = if decide (l.length ≤ 10) && l.all ruleB then 0 else 1) := by
  unfold spec_RulesFault.f
  refine EvP.ite (fun h => EvP.ret (by rw [decide_eq_false (show ¬ l.length ≤ 10 from by omega)]; rfl)) (fun h => ?_)
  refine (spec_rules_loop l hl).mono (fun b hb => ?_)
  rw [hb, decide_eq_true (show l.length ≤ 10 from by omega)]; rfl
theorem impl_vars (x : S88) : impl_RuleAtom_vars.f x.f0 x.f1 x.f2 = some (varsR x) := by
  unfold impl_RuleAtom_vars.f varsR
  split <;> rfl
def anyT (l vs : List ByteArray) : Bool := vs.any (fun s => hasT l s)
theorem anyT_vars (l : List ByteArray) (x : S88) : anyT l (varsR x) = (hasT l x.f1 || (!decide (x.f2.toList = []) && hasT l x.f2)) := by
  unfold anyT varsR
  by_cases h : x.f2.toList = []
  · rw [if_pos h, decide_eq_true h]; simp
  · rw [if_neg h, decide_eq_false h]; simp
theorem allT_vars (l : List ByteArray) (x : S88) : (varsR x).all (fun s => hasT l s) = (hasT l x.f1 && (decide (x.f2.toList = []) || hasT l x.f2)) := by
  unfold varsR
  by_cases h : x.f2.toList = []
  · rw [if_pos h, decide_eq_true h]; simp
  · rw [if_neg h, decide_eq_false h]; simp
/-- The head's variables, in the program. -/
theorem impl_head (l : List S91) (n : Int) (ah vs : List ByteArray) (v : Bool) (hah : ah.length ≤ 1048576) (hvs : vs.length ≤ 2) (go : vs.all (fun s => hasT ah s) = true → EvP (fun k => impl_rulesRight.l0 k l l.length (wrap64 (n + 1))) (· = v)) (no : vs.all (fun s => hasT ah s) = false → false = v) :
    EvP (fun k => impl_rulesRight.l3 k ah l l.length n vs vs.length 0) (· = v) := by
  refine EvP.whl1 (g := fun k (i : Int) => impl_rulesRight.l3 k ah l l.length n vs vs.length i) (m := fun i => (vs.length - i).toNat) (inv := fun i => ∃ q : Nat, i = q ∧ q ≤ vs.length ∧ (vs.drop q).all (fun s => hasT ah s) = vs.all (fun s => hasT ah s)) ?_ _ ⟨0, rfl, by omega, by simp⟩
  rintro i ⟨q, rfl, hq, hv⟩ ih
  simp only [impl_rulesRight.l3]
  refine EvP.ite (fun h => ?_) (fun h => go ?_)
  · have hq' : q < vs.length := by omega
    rw [List.drop_eq_getElem_cons hq', List.all_cons] at hv
    rw [wrap_next hq' (by omega), rd_text hq']
    refine EvP.pos (by omega) (EvP.pos h (EvP.bind (contains_ev _ _ hah) (fun b hb => EvP.ite (fun g => ih _ (by omega) ⟨q + 1, rfl, hq', ?_⟩) (fun g => EvP.ret (no ?_)))))
    · rw [← hv]; subst hb; rw [show hasT ah vs[q] = true from g]; rfl
    · rw [← hv]; subst hb; rw [show hasT ah vs[q] = false from by simpa using g]; rfl
  · obtain rfl : q = vs.length := by omega
    rw [← hv, List.drop_length]; rfl
/-- The body's and the head's tests of one rule, in the program. -/
theorem impl_rule (l : List S91) (n : Int) (r : S91) (hr : r.f1.length ≤ 3) (v : Bool) (go : bodyR r.f1 r.f1.length = true ∧ headR r.f0 r.f1 = true → EvP (fun k => impl_rulesRight.l0 k l l.length (wrap64 (n + 1))) (· = v)) (no : ¬ (bodyR r.f1 r.f1.length = true ∧ headR r.f0 r.f1 = true) → false = v) :
    EvP (fun k => impl_rulesRight.l1 k [] l l.length n r.f1 r.f1.length 0 r.f0.f0 r.f0.f1 r.f0.f2 r.f1) (· = v) := by
  refine EvP.whl2 (g := fun k (ah : List ByteArray) (i : Int) => impl_rulesRight.l1 k ah l l.length n r.f1 r.f1.length i r.f0.f0 r.f0.f1 r.f0.f2 r.f1) (m := fun _ i => (r.f1.length - i).toNat) (inv := fun ah i => ∃ q : Nat, i = q ∧ q ≤ r.f1.length ∧ bodyR r.f1 q = true ∧ ah = aheadR (r.f1.take q)) ?_ _ _ ⟨0, rfl, by omega, rfl, rfl⟩
  rintro ah i ⟨q, rfl, hq, hb, rfl⟩ ih
  simp only [impl_rulesRight.l1]
  have hA := aheadR_len (r.f1.take q)
  rw [List.length_take] at hA
  refine EvP.ite (fun h => ?_) (fun h => ?_)
  · have hq' : q < r.f1.length := by omega
    have hb1 : bodyR r.f1 (q + 1) = (atomR r.f1[q] && tiedR r.f1 q r.f1[q]) := by
      rw [bodyR, hb]; simp [List.getD, hq']
    have hno : bodyR r.f1 (q + 1) = false → false = v := fun e => no (fun hh => by rw [bodyR_false e _ hq'] at hh; cases hh.1)
    have hn := fun e => ih (aheadR (r.f1.take (q + 1))) ((q + 1 : Nat) : Int) (by omega) ⟨q + 1, rfl, hq', e, rfl⟩
    refine EvP.pos (by omega) (EvP.pos h ?_)
    rw [rd_rule hq', impl_vars]
    refine EvP.bind (impl_atomR _) (fun b1 h1 => EvP.ite (fun g1 => ?_) (fun g1 => EvP.ret (hno (by subst h1; rw [hb1]; simp [g1]))))
    subst h1
    simp only [Option.bind_some]
    have hvs := varsR_len r.f1[q]
    have htie : (decide (q = 0) || anyT (aheadR (r.f1.take q)) (varsR r.f1[q])) = tiedR r.f1 q r.f1[q] := by rw [anyT_vars]; rfl
    refine EvP.whl2 (g := fun k (t : Bool) (i : Int) => impl_rulesRight.l2 k (aheadR (r.f1.take q)) t l l.length n r.f1 r.f1.length q (varsR r.f1[q]) (varsR r.f1[q]).length i r.f0.f0 r.f0.f1 r.f0.f2 r.f1 r.f1[q].f0 r.f1[q].f1 r.f1[q].f2) (m := fun _ i => ((varsR r.f1[q]).length - i).toNat) (inv := fun t i => ∃ p : Nat, i = p ∧ p ≤ (varsR r.f1[q]).length ∧ (t || anyT (aheadR (r.f1.take q)) ((varsR r.f1[q]).drop p)) = tiedR r.f1 q r.f1[q]) ?_ _ _ ⟨0, rfl, by omega, ?_⟩
    · rintro t j ⟨p, rfl, hp, ht⟩ ih2
      simp only [impl_rulesRight.l2]
      refine EvP.ite (fun h2 => ?_) (fun h2 => ?_)
      · have hp' : p < (varsR r.f1[q]).length := by omega
        rw [List.drop_eq_getElem_cons hp'] at ht
        rw [wrap_next hp' (by omega), rd_text hp']
        refine EvP.pos (by omega) (EvP.pos h2 (EvP.ite (fun g2 => ih2 _ _ (by omega) ⟨p + 1, rfl, hp', ?_⟩) (fun g2 => EvP.bind (contains_ev _ _ (by omega)) (fun b hb2 => ih2 _ _ (by omega) ⟨p + 1, rfl, hp', ?_⟩))))
        · rw [← ht, g2]; rfl
        · rw [← ht, show t = false from by simpa using g2, hb2]
          simp only [anyT, List.any_cons, Bool.false_or]
      · obtain rfl : p = (varsR r.f1[q]).length := by omega
        rw [List.drop_length] at ht
        rw [impl_vars]
        simp only [Option.bind_some]
        refine EvP.ite (fun g2 => EvP.pos (by omega) ?_) (fun g2 => EvP.ret (hno ?_))
        · rw [wrap_next hq' (by omega), ← ahead_succ hq']
          refine hn ?_
          rw [hb1, g1, ← ht, g2]; rfl
        · rw [hb1, ← ht, show t = false from by simpa using g2]; simp [anyT]
    · rw [← htie, List.drop_zero]
      congr 1
      rw [Bool.eq_iff_iff]
      simp
  · obtain rfl : q = r.f1.length := by omega
    rw [impl_vars]
    simp only [Option.bind_some, List.take_length]
    have hvs := varsR_len r.f0
    have hA2 := aheadR_len r.f1
    refine impl_head l n _ _ v (by omega) hvs (fun e => go ⟨hb, ?_⟩) (fun e => no (fun hh => ?_))
    · rw [allT_vars] at e; exact e
    · rw [allT_vars] at e
      have h2 : headR r.f0 r.f1 = false := e
      rw [h2] at hh; cases hh.2
theorem impl_rules_loop (l : List S91) (hl : l.length ≤ 1048576) : EvP (fun k => impl_rulesRight.l0 k l l.length 0) (· = l.all ruleB) := by
  refine EvP.whl1 (g := fun k (i : Int) => impl_rulesRight.l0 k l l.length i) (m := fun i => (l.length - i).toNat) (inv := fun i => ∃ q : Nat, i = q ∧ q ≤ l.length ∧ (l.drop q).all ruleB = l.all ruleB) ?_ _ ⟨0, rfl, by omega, by simp⟩
  rintro i ⟨q, rfl, hq, hv⟩ ih
  simp only [impl_rulesRight.l0]
  refine EvP.ite (fun h => ?_) (fun h => EvP.ret ?_)
  · have hq' : q < l.length := by omega
    rw [rules_drop hq'] at hv
    have hw := wrap_next hq' (by omega)
    generalize rd_T91 l q = r at hv
    have bad : ruleB r = false → false = l.all ruleB := fun e => by rw [← hv, e]; rfl
    have one : ruleB r = false → EvP (fun k => impl_rulesRight.j1 k l l.length q true r.f0.f0 r.f0.f1 r.f0.f2 r.f1) (· = l.all ruleB) := fun e =>
      EvP.step (f := fun _ => some false) (fun k => by simp [impl_rulesRight.j1]) (EvP.ret (bad e))
    refine EvP.pos (by omega) (EvP.pos h (EvP.bind (impl_atomR _) (fun b1 h1 => EvP.ite (fun g1 => ?_) (fun g1 => one ?_))))
    · subst h1
      refine EvP.ite (fun g2 => one ?_) (fun g2 => ?_)
      · unfold ruleB; rw [decide_eq_false (show ¬ 1 ≤ r.f1.length from by omega)]; simp
      · by_cases g3 : (r.f1.length : Int) > 3
        · rw [decide_eq_true g3]
          refine one ?_
          unfold ruleB; rw [decide_eq_false (show ¬ r.f1.length ≤ 3 from by omega)]; simp
        · rw [decide_eq_false g3]
          refine EvP.step (f := fun k => impl_rulesRight.l1 k [] l l.length q r.f1 r.f1.length 0 r.f0.f0 r.f0.f1 r.f0.f2 r.f1) (fun k => by simp [impl_rulesRight.j1]) ?_
          have hr : ruleB r = (bodyR r.f1 r.f1.length && headR r.f0 r.f1) := by
            unfold ruleB; rw [g1, decide_eq_true (show 1 ≤ r.f1.length from by omega), decide_eq_true (show r.f1.length ≤ 3 from by omega)]; simp
          refine impl_rule l q r (by omega) _ (fun hh => ?_) (fun hh => bad ?_)
          · rw [hw]
            refine ih _ (by omega) ⟨q + 1, rfl, hq', ?_⟩
            rw [← hv, hr, hh.1, hh.2]; rfl
          · rw [hr, Bool.eq_false_iff]; intro h; rw [Bool.and_eq_true] at h; exact hh h
    · subst h1; unfold ruleB; rw [show atomR r.f0 = false from by simpa using g1]; rfl
  · obtain rfl : q = l.length := by omega
    rw [← hv]; simp
theorem impl_rules (l : List S91) (hl : l.length ≤ 1048576) : EvP (fun k => impl_RulesFault.f k l) (· = if decide (l.length ≤ 10) && l.all ruleB then 0 else 1) := by
  unfold impl_RulesFault.f
  refine EvP.bind (Q := (· = (decide (l.length ≤ 10) && l.all ruleB))) ?_ (fun b hb => ?_)
  · unfold impl_rulesRight.f
    refine EvP.ite (fun h => EvP.ret (by rw [decide_eq_false (show ¬ l.length ≤ 10 from by omega)]; rfl)) (fun h => ?_)
    refine (impl_rules_loop l hl).mono (fun b hb => ?_)
    rw [hb, decide_eq_true (show l.length ≤ 10 from by omega)]; rfl
  · rw [← hb]
    exact EvP.ite (fun g => EvP.ret (by rw [if_pos g])) (fun g => EvP.ret (by rw [if_neg g]))
theorem FnExactRulesFault : OFnExactRulesFault.Said := by
  intro l hl
  refine EvP.rounds (?_ : EvP (fun k => laws_FnExactRulesFault.f k l) (· = true))
  unfold laws_FnExactRulesFault.f
  refine EvP.bind (szlDerive l hl 1048576 (by omega) (by omega)) (fun t ht => ?_)
  refine EvP.ite (fun _ => EvP.ret rfl) (fun hn => ?_)
  have hs := ht.2.2 (by omega)
  have hto := tolDerive l hs
  have hl' : (l.map c87).length ≤ 1048576 := by simpa using hs.1
  refine EvP.bind hto (fun x hx => ?_)
  subst hx
  refine EvP.bind (spec_rules _ hl') (fun w hw => ?_)
  refine EvP.bind hto (fun x hx => ?_)
  subst hx
  refine EvP.bind (impl_rules _ hl') (fun g hg => ?_)
  refine EvP.pos (by rw [hw, hg]) ?_
  refine EvP.bind hto (fun x hx => ?_)
  subst hx
  refine EvP.bind (eqlDerive _ (smL_map hs le_c87)) (fun b hb => ?_)
  exact EvP.pos hb (EvP.ret rfl)
end Go.Proofs.Ythblbbhnmbfjjaa.Pure
