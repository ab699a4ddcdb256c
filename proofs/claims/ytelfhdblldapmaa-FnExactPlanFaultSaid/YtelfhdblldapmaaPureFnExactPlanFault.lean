/- The program's PlanFault and the reference's PlanFault tell the same code for all lists of atoms and of plan steps within the law's size bound: both ask that the atoms are right, that the steps are one tree told from its root on, and that each atom is scanned once. No condition beyond the statement's own. -/
import Derived.Test.YtelfhdblldapmaaOpnFnExactPlanFault
namespace Go.Proofs.Ytelfhdblldapmaa.Pure
open Go.RowKit Go.Proofs.Ytelfhdblldapmaa.PFnExactPlanFault Go.Proofs.YtelfhdblldapmaaW.PrintWords Go.Proofs.YtelfhdblldapmaaW.PrintLast Go.Proofs.Ytelfhdblldapmaa.OFnExactPlanFault
set_option linter.unusedVariables false
/-- With enough rounds g tells something of which P holds. -/
def EvP {α : Type} (g : Nat → Option α) (P : α → Prop) : Prop := ∃ r, Ev g r ∧ P r
section
variable {α β : Type}
theorem EvP.ret {P : α → Prop} {r : α} (h : P r) : EvP (fun _ => some r) P := ⟨r, Ev.now r, h⟩
theorem EvP.now {P : α → Prop} {o : Option α} {r : α} (e : o = some r) (h : P r) : EvP (fun _ => o) P := ⟨r, ⟨0, fun _ _ => e⟩, h⟩
theorem EvP.ite {c : Prop} [Decidable c] {f g : Nat → Option α} {P : α → Prop} (h : c → EvP f P) (h' : ¬ c → EvP g P) : EvP (fun k => if c then f k else g k) P := by
  by_cases hc : c
  · simp only [if_pos hc]; exact h hc
  · simp only [if_neg hc]; exact h' hc
theorem EvP.pos {c : Prop} [Decidable c] {f g : Nat → Option α} {P : α → Prop} (hc : c) (h : EvP f P) : EvP (fun k => if c then f k else g k) P := by
  simp only [if_pos hc]; exact h
theorem EvP.neg {c : Prop} [Decidable c] {f g : Nat → Option α} {P : α → Prop} (hc : ¬ c) (h : EvP g P) : EvP (fun k => if c then f k else g k) P := by
  simp only [if_neg hc]; exact h
theorem EvP.bind {g : Nat → Option α} {f : Nat → α → Option β} {Q : α → Prop} {P : β → Prop} (h : EvP g Q) (k : ∀ a, Q a → EvP (fun n => f n a) P) : EvP (fun n => (g n).bind (f n)) P := by
  obtain ⟨a, ha, hq⟩ := h
  obtain ⟨r, hr, hp⟩ := k a hq
  exact ⟨r, Ev.bind ha hr, hp⟩
theorem EvP.mono {g : Nat → Option α} {P Q : α → Prop} (h : EvP g P) (k : ∀ a, P a → Q a) : EvP g Q := by
  obtain ⟨r, hr, hp⟩ := h
  exact ⟨r, hr, k r hp⟩
theorem EvP.step {g f : Nat → Option α} {P : α → Prop} (h : ∀ k, g (k + 1) = f k) (k : EvP f P) : EvP g P := by
  obtain ⟨r, hr, hp⟩ := k
  exact ⟨r, Ev.step h hr, hp⟩
theorem EvP.rounds {g : Nat → Option α} {r : α} (h : EvP g (· = r)) : ∃ k, g k = some r := by
  obtain ⟨_, hr, rfl⟩ := h
  exact hr.rounds
/-- A loop (or a function that calls itself) with a measure m and an invariant inv; 'ih': what a later round tells. -/
theorem EvP.whl1 {σ ρ : Type} {g : Nat → σ → Option ρ} {P : ρ → Prop} (m : σ → Nat) (inv : σ → Prop)
    (step : ∀ s, inv s → (∀ s', m s' < m s → inv s' → EvP (fun k => g k s') P) → EvP (fun k => g (k + 1) s) P) : ∀ s, inv s → EvP (fun k => g k s) P := by
  have H : ∀ (n : Nat) (s : σ), m s < n → inv s → EvP (fun k => g k s) P := by
    intro n
    induction n with
    | zero => intro s h; exact absurd h (Nat.not_lt_zero _)
    | succ n ih =>
      intro s hm hs
      exact EvP.step (f := fun k => g (k + 1) s) (fun _ => rfl) (step s hs (fun s' h hs' => ih s' (by omega) hs'))
  exact fun s hs => H (m s + 1) s (Nat.lt_succ_self _) hs
theorem EvP.whl2 {σ τ ρ : Type} {g : Nat → σ → τ → Option ρ} {P : ρ → Prop} (m : σ → τ → Nat) (inv : σ → τ → Prop)
    (step : ∀ s t, inv s t → (∀ s' t', m s' t' < m s t → inv s' t' → EvP (fun k => g k s' t') P) → EvP (fun k => g (k + 1) s t) P) : ∀ s t, inv s t → EvP (fun k => g k s t) P :=
  fun s t h => EvP.whl1 (g := fun k (x : σ × τ) => g k x.1 x.2) (m := fun x => m x.1 x.2) (inv := fun x => inv x.1 x.2) (fun x hx ih => step x.1 x.2 hx (fun s' t' hm hi => ih (s', t') hm hi)) (s, t) h
theorem EvP.whl3 {σ τ υ ρ : Type} {g : Nat → σ → τ → υ → Option ρ} {P : ρ → Prop} (m : σ → τ → υ → Nat) (inv : σ → τ → υ → Prop)
    (step : ∀ s t u, inv s t u → (∀ s' t' u', m s' t' u' < m s t u → inv s' t' u' → EvP (fun k => g k s' t' u') P) → EvP (fun k => g (k + 1) s t u) P) : ∀ s t u, inv s t u → EvP (fun k => g k s t u) P :=
  fun s t u h => EvP.whl1 (g := fun k (x : σ × τ × υ) => g k x.1 x.2.1 x.2.2) (m := fun x => m x.1 x.2.1 x.2.2) (inv := fun x => inv x.1 x.2.1 x.2.2) (fun x hx ih => step x.1 x.2.1 x.2.2 hx (fun s' t' u' hm hi => ih (s', t', u') hm hi)) (s, t, u) h
theorem EvP.whl4 {σ τ υ φ ρ : Type} {g : Nat → σ → τ → υ → φ → Option ρ} {P : ρ → Prop} (m : σ → τ → υ → φ → Nat) (inv : σ → τ → υ → φ → Prop)
    (step : ∀ s t u v, inv s t u v → (∀ s' t' u' v', m s' t' u' v' < m s t u v → inv s' t' u' v' → EvP (fun k => g k s' t' u' v') P) → EvP (fun k => g (k + 1) s t u v) P) : ∀ s t u v, inv s t u v → EvP (fun k => g k s t u v) P :=
  fun s t u v h => EvP.whl1 (g := fun k (x : σ × τ × υ × φ) => g k x.1 x.2.1 x.2.2.1 x.2.2.2) (m := fun x => m x.1 x.2.1 x.2.2.1 x.2.2.2) (inv := fun x => inv x.1 x.2.1 x.2.2.1 x.2.2.2) (fun x hx ih => step x.1 x.2.1 x.2.2.1 x.2.2.2 hx (fun s' t' u' v' hm hi => ih (s', t', u', v') hm hi)) (s, t, u, v) h
theorem wrap_in {x : Int} (h0 : -9223372036854775808 ≤ x) (h1 : x ≤ 9223372036854775807) : wrap64 x = x := by
  unfold wrap64
  omega
theorem wrap_next {i n : Nat} (h : i < n) (hn : n ≤ 9223372036854775807) : wrap64 ((i : Int) + 1) = ((i + 1 : Nat) : Int) := by
  rw [wrap_in (by omega) (by omega)]
  omega
theorem set_at {xs : List α} {i : Nat} (z : α) (f : Nat → α) (n : Nat) (hxs : xs = (List.range i).map f ++ List.replicate (n - i) z) (hi : i < n) : xs.set i (f i) = (List.range (i + 1)).map f ++ List.replicate (n - (i + 1)) z := by
  subst hxs
  rw [List.set_append_right _ _ (by simp)]
  simp only [List.length_map, List.length_range, Nat.sub_self]
  obtain ⟨m, hm⟩ : ∃ m, n - i = m + 1 := ⟨n - i - 1, by omega⟩
  rw [hm, show n - (i + 1) = m by omega, List.replicate_succ, List.set_cons_zero, List.range_succ]
  simp
theorem map_of_range {xs : List β} (z : β) (c : β → α) : (List.range xs.length).map (fun i => c (xs.getD i z)) = xs.map c := by
  apply List.ext_getElem?
  intro i
  by_cases hi : i < xs.length
  · simp [hi, List.getD]
  · simp [hi]
theorem getD_mem {xs : List α} {i : Nat} (z : α) (h : i < xs.length) : xs.getD i z ∈ xs := by
  rw [List.getD_eq_getElem?_getD, List.getElem?_eq_getElem h]
  exact List.getElem_mem h
end
/-- f and g, with enough rounds, tell two things of which R holds. -/
def Ev2 {α β : Type} (f : Nat → Option α) (g : Nat → Option β) (R : α → β → Prop) : Prop := ∃ a b, Ev f a ∧ Ev g b ∧ R a b
section
variable {α β γ δ : Type}
theorem Ev2.ret {R : α → β → Prop} {a : α} {b : β} (h : R a b) : Ev2 (fun _ => some a) (fun _ => some b) R := ⟨a, b, Ev.now a, Ev.now b, h⟩
theorem Ev2.of {f : Nat → Option α} {g : Nat → Option β} {P : α → Prop} {Q : β → Prop} {R : α → β → Prop} (h : EvP f P) (h' : EvP g Q) (k : ∀ a b, P a → Q b → R a b) : Ev2 f g R := by
  obtain ⟨a, ha, hp⟩ := h
  obtain ⟨b, hb, hq⟩ := h'
  exact ⟨a, b, ha, hb, k a b hp hq⟩
theorem Ev2.ite {c : Prop} [Decidable c] {f f' : Nat → Option α} {g g' : Nat → Option β} {R : α → β → Prop} (h : c → Ev2 f g R) (h' : ¬ c → Ev2 f' g' R) : Ev2 (fun k => if c then f k else f' k) (fun k => if c then g k else g' k) R := by
  by_cases hc : c
  · simp only [if_pos hc]; exact h hc
  · simp only [if_neg hc]; exact h' hc
theorem Ev2.lite {c : Prop} [Decidable c] {f f' : Nat → Option α} {g : Nat → Option β} {R : α → β → Prop} (h : c → Ev2 f g R) (h' : ¬ c → Ev2 f' g R) : Ev2 (fun k => if c then f k else f' k) g R := by
  by_cases hc : c
  · simp only [if_pos hc]; exact h hc
  · simp only [if_neg hc]; exact h' hc
theorem Ev2.rite {c : Prop} [Decidable c] {f : Nat → Option α} {g g' : Nat → Option β} {R : α → β → Prop} (h : c → Ev2 f g R) (h' : ¬ c → Ev2 f g' R) : Ev2 f (fun k => if c then g k else g' k) R := by
  by_cases hc : c
  · simp only [if_pos hc]; exact h hc
  · simp only [if_neg hc]; exact h' hc
theorem Ev2.lpos {c : Prop} [Decidable c] {f f' : Nat → Option α} {g : Nat → Option β} {R : α → β → Prop} (hc : c) (h : Ev2 f g R) : Ev2 (fun k => if c then f k else f' k) g R := Ev2.lite (fun _ => h) (fun n => absurd hc n)
theorem Ev2.lneg {c : Prop} [Decidable c] {f f' : Nat → Option α} {g : Nat → Option β} {R : α → β → Prop} (hc : ¬ c) (h : Ev2 f' g R) : Ev2 (fun k => if c then f k else f' k) g R := Ev2.lite (fun n => absurd n hc) (fun _ => h)
theorem Ev2.rpos {c : Prop} [Decidable c] {f : Nat → Option α} {g g' : Nat → Option β} {R : α → β → Prop} (hc : c) (h : Ev2 f g R) : Ev2 f (fun k => if c then g k else g' k) R := Ev2.rite (fun _ => h) (fun n => absurd hc n)
theorem Ev2.rneg {c : Prop} [Decidable c] {f : Nat → Option α} {g g' : Nat → Option β} {R : α → β → Prop} (hc : ¬ c) (h : Ev2 f g' R) : Ev2 f (fun k => if c then g k else g' k) R := Ev2.rite (fun n => absurd n hc) (fun _ => h)
theorem Ev2.bind {f : Nat → Option α} {g : Nat → Option β} {f' : Nat → α → Option γ} {g' : Nat → β → Option δ} {Q : α → β → Prop} {R : γ → δ → Prop} (h : Ev2 f g Q) (k : ∀ a b, Q a b → Ev2 (fun n => f' n a) (fun n => g' n b) R) : Ev2 (fun n => (f n).bind (f' n)) (fun n => (g n).bind (g' n)) R := by
  obtain ⟨a, b, ha, hb, hq⟩ := h
  obtain ⟨c, d, hc, hd, hr⟩ := k a b hq
  exact ⟨c, d, Ev.bind ha hc, Ev.bind hb hd, hr⟩
theorem Ev2.lbind {f : Nat → Option α} {f' : Nat → α → Option γ} {g : Nat → Option δ} {Q : α → Prop} {R : γ → δ → Prop} (h : EvP f Q) (k : ∀ a, Q a → Ev2 (fun n => f' n a) g R) : Ev2 (fun n => (f n).bind (f' n)) g R := by
  obtain ⟨a, ha, hq⟩ := h
  obtain ⟨c, d, hc, hd, hr⟩ := k a hq
  exact ⟨c, d, Ev.bind ha hc, hd, hr⟩
theorem Ev2.rbind {f : Nat → Option γ} {g : Nat → Option β} {g' : Nat → β → Option δ} {Q : β → Prop} {R : γ → δ → Prop} (h : EvP g Q) (k : ∀ b, Q b → Ev2 f (fun n => g' n b) R) : Ev2 f (fun n => (g n).bind (g' n)) R := by
  obtain ⟨b, hb, hq⟩ := h
  obtain ⟨c, d, hc, hd, hr⟩ := k b hq
  exact ⟨c, d, hc, Ev.bind hb hd, hr⟩
theorem Ev2.mono {f : Nat → Option α} {g : Nat → Option β} {R S : α → β → Prop} (h : Ev2 f g R) (k : ∀ a b, R a b → S a b) : Ev2 f g S := by
  obtain ⟨a, b, ha, hb, hr⟩ := h
  exact ⟨a, b, ha, hb, k a b hr⟩
theorem Ev2.and {f : Nat → Option α} {g : Nat → Option β} {R : α → β → Prop} {P : α → Prop} (h : Ev2 f g R) (h' : EvP f P) : Ev2 f g (fun a b => R a b ∧ P a) := by
  obtain ⟨a, b, ha, hb, hr⟩ := h
  obtain ⟨a', ⟨K', ha'⟩, hp⟩ := h'
  obtain ⟨K, ha0⟩ := ha
  have e : some a = some a' := (ha0 (max K K') (Nat.le_max_left _ _)).symm.trans (ha' (max K K') (Nat.le_max_right _ _))
  cases e
  exact ⟨a, b, ⟨K, ha0⟩, hb, hr, hp⟩
/-- Two loops side by side. -/
theorem Ev2.whl {σ τ : Type} {f : Nat → σ → Option α} {g : Nat → τ → Option β} {R : α → β → Prop} (m : σ → τ → Nat) (inv : σ → τ → Prop)
    (step : ∀ s t, inv s t → (∀ s' t', m s' t' < m s t → inv s' t' → Ev2 (fun k => f k s') (fun k => g k t') R) → Ev2 (fun k => f (k + 1) s) (fun k => g (k + 1) t) R) : ∀ s t, inv s t → Ev2 (fun k => f k s) (fun k => g k t) R := by
  have H : ∀ (n : Nat) (s : σ) (t : τ), m s t < n → inv s t → Ev2 (fun k => f k s) (fun k => g k t) R := by
    intro n
    induction n with
    | zero => intro s t h; exact absurd h (Nat.not_lt_zero _)
    | succ n ih =>
      intro s t hm hs
      obtain ⟨a, b, ha, hb, hr⟩ := step s t hs (fun s' t' h hs' => ih s' t' (by omega) hs')
      exact ⟨a, b, Ev.step (f := fun k => f (k + 1) s) (fun _ => rfl) ha, Ev.step (f := fun k => g (k + 1) t) (fun _ => rfl) hb, hr⟩
  exact fun s t hs => H (m s t + 1) s t (Nat.lt_succ_self _) hs
theorem Ev2.lstep {f : Nat → Option α} {g : Nat → Option β} {R : α → β → Prop} (h : Ev2 (fun k => f (k + 1)) g R) : Ev2 f g R := by
  obtain ⟨a, b, ha, hb, hr⟩ := h
  exact ⟨a, b, Ev.step (f := fun k => f (k + 1)) (fun _ => rfl) ha, hb, hr⟩
theorem Ev2.rstep {f : Nat → Option α} {g : Nat → Option β} {R : α → β → Prop} (h : Ev2 f (fun k => g (k + 1)) R) : Ev2 f g R := by
  obtain ⟨a, b, ha, hb, hr⟩ := h
  exact ⟨a, b, ha, Ev.step (f := fun k => g (k + 1)) (fun _ => rfl) hb, hr⟩
end
def Sm (s : ByteArray) : Prop := s.size ≤ 1048576
def SmA {α : Type} (_ : α) : Prop := True
def SmL {α : Type} (sm : α → Prop) (xs : List α) : Prop := xs.length ≤ 1048576 ∧ ∀ x ∈ xs, sm x
theorem smL_map {α β : Type} {P : α → Prop} {Q : β → Prop} {c : α → β} {l : List α} (h : SmL P l) (hc : ∀ x, P x → Q (c x)) : SmL Q (l.map c) :=
  ⟨by simpa using h.1, fun y hy => by obtain ⟨x, hx, rfl⟩ := List.mem_map.1 hy; exact hc x (h.2 x hx)⟩
def sm55 (x : S55) : Prop := Sm x.f0 ∧ Sm x.f1 ∧ Sm x.f2
def c55 (x : S55) : S60 := ⟨x.f0, x.f1, x.f2⟩
theorem sz55 (x : S55) (hx : wf55 x) (a : Int) (ha : 0 ≤ a) (hb : a ≤ 1048576) : EvP (fun k => laws_szAtom.f x.f0 x.f1 x.f2 a) (fun t => -1 ≤ t ∧ t ≤ a ∧ (0 ≤ t → sm55 x)) := by
  obtain ⟨h0, h1, h2⟩ := hx
  unfold Str at h0
  unfold Str at h1
  unfold Str at h2
  unfold laws_szAtom.f
  rw [show wrap64 (a - (x.f0.size : Int)) = a - x.f0.size from wrap_in (by omega) (by omega)]
  refine EvP.ite (fun _ => EvP.ret ⟨by omega, by omega, fun h => absurd h (by omega)⟩) (fun g0 => ?_)
  rw [show wrap64 ((a - (x.f0.size : Int)) - (x.f1.size : Int)) = (a - (x.f0.size : Int)) - x.f1.size from wrap_in (by omega) (by omega)]
  refine EvP.ite (fun _ => EvP.ret ⟨by omega, by omega, fun h => absurd h (by omega)⟩) (fun g1 => ?_)
  rw [show wrap64 (((a - (x.f0.size : Int)) - (x.f1.size : Int)) - (x.f2.size : Int)) = ((a - (x.f0.size : Int)) - (x.f1.size : Int)) - x.f2.size from wrap_in (by omega) (by omega)]
  refine EvP.ite (fun _ => EvP.ret ⟨by omega, by omega, fun h => absurd h (by omega)⟩) (fun g2 => ?_)
  exact EvP.ret ⟨by omega, by omega, fun _ => ⟨by unfold Sm; omega, by unfold Sm; omega, by unfold Sm; omega⟩⟩
theorem szlAtom (l : List S55) (hl : Lst wf55 l) (a : Int) (ha : 0 ≤ a) (hb : a ≤ 1048576) : EvP (fun k => laws_szAtomS.f k l a) (fun t => -1 ≤ t ∧ t ≤ a ∧ (0 ≤ t → SmL sm55 l)) := by
  obtain ⟨h0, h1⟩ := hl
  unfold laws_szAtomS.f
  rw [show wrap64 (a - (l.length : Int)) = a - l.length from wrap_in (by omega) (by omega)]
  refine EvP.ite (fun _ => EvP.ret ⟨by omega, by omega, fun h => absurd h (by omega)⟩) (fun g => ?_)
  refine EvP.whl2 (g := fun k (s : Int) (i : Int) => laws_szAtomS.l0 k l s i) (m := fun _ i => (l.length - i).toNat) (inv := fun s i => ∃ j : Nat, i = j ∧ j ≤ l.length ∧ 0 ≤ s ∧ s ≤ a ∧ ∀ q, q < j → ∀ y, l[q]? = some y → sm55 y) ?_ _ _ ⟨0, rfl, by omega, by omega, by omega, fun q hq => absurd hq (by omega)⟩
  rintro s i ⟨j, rfl, hj, s0, s1, hs⟩ ih
  simp only [laws_szAtomS.l0]
  refine EvP.ite (fun h => ?_) (fun h => EvP.ret ⟨by omega, by omega, fun _ => ⟨by omega, fun y hy => ?_⟩⟩)
  · have hj' : j < l.length := by omega
    refine EvP.pos (by omega) ?_
    refine EvP.bind (sz55 (rd_T55 l j) (h1 _ (getD_mem _ (by simpa using hj'))) s (by omega) (by omega)) (fun t ht => ?_)
    obtain ⟨p1, q1, r1⟩ := ht
    refine EvP.ite (fun _ => EvP.ret ⟨by omega, by omega, fun h => absurd h (by omega)⟩) (fun g1 => ?_)
    have hlast : sm55 l[j] := by have := r1 (by omega); simpa [rd_T55, List.getD, List.getElem?_eq_getElem hj'] using this
    rw [wrap_next hj' (by omega)]
    refine ih _ _ (by omega) ⟨j + 1, rfl, by omega, by omega, by omega, fun q hq y hy => ?_⟩
    by_cases e : q = j
    · subst e; rw [List.getElem?_eq_getElem hj'] at hy; cases hy; exact hlast
    · exact hs q (by omega) y hy
  · obtain ⟨q, hq, rfl⟩ := List.mem_iff_getElem.1 hy
    exact hs q (by omega) _ (List.getElem?_eq_getElem hq)
theorem to55 (x : S55) (hx : sm55 x) : EvP (fun k => laws_toAtom.f x.f0 x.f1 x.f2) (· = ((c55 x).f0, (c55 x).f1, (c55 x).f2)) := by
  unfold laws_toAtom.f
  obtain ⟨h0, h1, h2⟩ := hx
  exact EvP.ret rfl
theorem tolAtom (l : List S55) (hl : SmL sm55 l) : EvP (fun k => laws_toAtomS.f k l) (· = l.map c55) := by
  obtain ⟨h0, h1⟩ := hl
  unfold laws_toAtomS.f
  refine EvP.pos (by omega) (EvP.pos (by omega) ?_)
  refine EvP.whl2 (g := fun k (s : List S60) (i : Int) => laws_toAtomS.l0 k l s i) (m := fun _ i => (l.length - i).toNat) (inv := fun s i => ∃ j : Nat, i = j ∧ j ≤ l.length ∧ s = (List.range j).map (fun q : Nat => c55 (rd_T55 l (q : Int))) ++ List.replicate (l.length - j) z60) ?_ _ _ ⟨0, rfl, by omega, by simp⟩
  rintro s i ⟨j, rfl, hj, hs⟩ ih
  simp only [laws_toAtomS.l0]
  refine EvP.ite (fun h => ?_) (fun h => EvP.ret ?_)
  · have hj' : j < l.length := by omega
    refine EvP.pos (by omega) ?_
    refine EvP.bind (to55 (rd_T55 l j) (h1 _ (getD_mem _ (by simpa using hj')))) (fun r hr => ?_)
    subst hr
    refine EvP.pos (by rw [hs]; simp; omega) ?_
    rw [wrap_next hj' (by omega)]
    refine ih _ _ (by omega) ⟨j + 1, rfl, hj', ?_⟩
    exact set_at z60 (fun q : Nat => c55 (rd_T55 l (q : Int))) _ hs hj'
  · obtain rfl : j = l.length := by omega
    rw [hs]; simpa [rd_T55] using map_of_range z55 c55 (xs := l)
def sm63 (x : S63) : Prop := True
def c63 (x : S63) : S59 := ⟨x.f0, x.f1⟩
theorem szlPlanStep (l : List S63) (hl : Lst wf63 l) (a : Int) (ha : 0 ≤ a) (hb : a ≤ 1048576) : EvP (fun k => laws_szPlanStepS.f l a) (fun t => -1 ≤ t ∧ t ≤ a ∧ (0 ≤ t → SmL sm63 l)) := by
  obtain ⟨h0, h1⟩ := hl
  unfold laws_szPlanStepS.f
  rw [show wrap64 (a - (l.length : Int)) = a - l.length from wrap_in (by omega) (by omega)]
  exact EvP.ite (fun _ => EvP.ret ⟨by omega, by omega, fun h => absurd h (by omega)⟩) (fun g => EvP.ret ⟨by omega, by omega, fun _ => ⟨by omega, fun _ _ => trivial⟩⟩)
theorem to63 (x : S63) (hx : sm63 x) : EvP (fun k => laws_toPlanStep.f x.f0 x.f1) (· = ((c63 x).f0, (c63 x).f1)) := by
  unfold laws_toPlanStep.f
  exact EvP.ret rfl
theorem tolPlanStep (l : List S63) (hl : SmL sm63 l) : EvP (fun k => laws_toPlanStepS.f k l) (· = l.map c63) := by
  obtain ⟨h0, h1⟩ := hl
  unfold laws_toPlanStepS.f
  refine EvP.pos (by omega) (EvP.pos (by omega) ?_)
  refine EvP.whl2 (g := fun k (s : List S59) (i : Int) => laws_toPlanStepS.l0 k l s i) (m := fun _ i => (l.length - i).toNat) (inv := fun s i => ∃ j : Nat, i = j ∧ j ≤ l.length ∧ s = (List.range j).map (fun q : Nat => c63 (rd_T63 l (q : Int))) ++ List.replicate (l.length - j) z59) ?_ _ _ ⟨0, rfl, by omega, by simp⟩
  rintro s i ⟨j, rfl, hj, hs⟩ ih
  simp only [laws_toPlanStepS.l0]
  refine EvP.ite (fun h => ?_) (fun h => EvP.ret ?_)
  · have hj' : j < l.length := by omega
    refine EvP.pos (by omega) ?_
    refine EvP.bind (to63 (rd_T63 l j) (h1 _ (getD_mem _ (by simpa using hj')))) (fun r hr => ?_)
    subst hr
    refine EvP.pos (by rw [hs]; simp; omega) ?_
    rw [wrap_next hj' (by omega)]
    refine ih _ _ (by omega) ⟨j + 1, rfl, hj', ?_⟩
    exact set_at z59 (fun q : Nat => c63 (rd_T63 l (q : Int))) _ hs hj'
  · obtain rfl : j = l.length := by omega
    rw [hs]; simpa [rd_T63] using map_of_range z63 c63 (xs := l)
def le60 (x : S60) : Prop := True
theorem eq60 (x : S60) (hx : le60 x) : EvP (fun k => laws_eqAtom.f x.f0 x.f1 x.f2 x.f0 x.f1 x.f2) (· = true) := by
  unfold laws_eqAtom.f
  refine EvP.pos rfl ?_
  refine EvP.pos rfl ?_
  refine EvP.pos rfl ?_
  exact EvP.ret rfl
theorem eqlAtom (l : List S60) (hl : SmL le60 l) : EvP (fun k => laws_eqAtomS.f k l l) (· = true) := by
  obtain ⟨h0, h1⟩ := hl
  unfold laws_eqAtomS.f
  refine EvP.pos rfl ?_
  refine EvP.whl1 (g := fun k (i : Int) => laws_eqAtomS.l0 k l l i) (m := fun i => (l.length - i).toNat) (inv := fun i => ∃ j : Nat, i = j ∧ j ≤ l.length) ?_ _ ⟨0, rfl, by omega⟩
  rintro i ⟨j, rfl, hj⟩ ih
  simp only [laws_eqAtomS.l0]
  refine EvP.ite (fun h => ?_) (fun h => EvP.ret rfl)
  have hj' : j < l.length := by omega
  refine EvP.pos (by omega) (EvP.pos (by omega) ?_)
  refine EvP.bind (eq60 (rd_T60 l j) (h1 _ (getD_mem _ (by simpa using hj')))) (fun r hr => ?_)
  subst hr
  refine EvP.pos rfl ?_
  rw [wrap_next hj' (by omega)]
  exact ih _ (by omega) ⟨j + 1, rfl, by omega⟩
def le59 (x : S59) : Prop := True
theorem eq59 (x : S59) (hx : le59 x) : EvP (fun k => laws_eqPlanStep.f x.f0 x.f1 x.f0 x.f1) (· = true) := by
  unfold laws_eqPlanStep.f
  refine EvP.pos rfl ?_
  refine EvP.pos rfl ?_
  exact EvP.ret rfl
theorem eqlPlanStep (l : List S59) (hl : SmL le59 l) : EvP (fun k => laws_eqPlanStepS.f k l l) (· = true) := by
  obtain ⟨h0, h1⟩ := hl
  unfold laws_eqPlanStepS.f
  refine EvP.pos rfl ?_
  refine EvP.whl1 (g := fun k (i : Int) => laws_eqPlanStepS.l0 k l l i) (m := fun i => (l.length - i).toNat) (inv := fun i => ∃ j : Nat, i = j ∧ j ≤ l.length) ?_ _ ⟨0, rfl, by omega⟩
  rintro i ⟨j, rfl, hj⟩ ih
  simp only [laws_eqPlanStepS.l0]
  refine EvP.ite (fun h => ?_) (fun h => EvP.ret rfl)
  have hj' : j < l.length := by omega
  refine EvP.pos (by omega) (EvP.pos (by omega) ?_)
  refine EvP.bind (eq59 (rd_T59 l j) (h1 _ (getD_mem _ (by simpa using hj')))) (fun r hr => ?_)
  subst hr
  refine EvP.pos rfl ?_
  rw [wrap_next hj' (by omega)]
  exact ih _ (by omega) ⟨j + 1, rfl, by omega⟩
theorem le_c55 (x : S55) (hx : sm55 x) : le60 (c55 x) := by
  exact trivial
theorem le_c63 (x : S63) (hx : sm63 x) : le59 (c63 x) := by
  exact trivial
/-! Names and words: plain facts on bytes -/
def joinSp (ws : List (List UInt8)) : List UInt8 := 32 :: ws.flatMap (· ++ [32])
theorem joinSp_cons (w : List UInt8) (ws : List (List UInt8)) : joinSp (w :: ws) = 32 :: (w ++ joinSp ws) := by
  simp [joinSp]
theorem pre_eq : ∀ (t w : List UInt8) (r : List UInt8), 32 ∉ t → 32 ∉ w → (t ++ [32]) <+: (w ++ 32 :: r) → t = w
  | [], [], _, _, _, _ => rfl
  | [], c :: w, r, _, hw, h => by
    obtain ⟨z, hz⟩ := h
    simp at hz
    exact absurd (by simp [hz.1]) hw
  | c :: t, [], r, ht, _, h => by
    obtain ⟨z, hz⟩ := h
    simp at hz
    exact absurd (by simp [hz.1]) ht
  | c :: t, d :: w, r, ht, hw, h => by
    obtain ⟨z, hz⟩ := h
    simp at hz
    have := pre_eq t w r (by simp at ht; exact ht.2) (by simp at hw; exact hw.2) ⟨z, by simp [hz.2]⟩
    rw [this, hz.1]
theorem infix_skip : ∀ (w t r : List UInt8), 32 ∉ w → (32 :: t) <:+: (w ++ r) → (32 :: t) <:+: r
  | [], _, _, _, h => h
  | c :: w, t, r, hw, h => by
    rw [List.cons_append, List.infix_cons_iff] at h
    simp at hw
    rcases h with h | h
    · obtain ⟨z, hz⟩ := h
      simp at hz
      exact absurd hz.1 hw.1
    · exact infix_skip w t r hw.2 h
theorem infix_join : ∀ (ws : List (List UInt8)) (t : List UInt8), t ≠ [] → 32 ∉ t → (∀ w ∈ ws, 32 ∉ w) → ((32 :: (t ++ [32])) <:+: joinSp ws ↔ t ∈ ws)
  | [], t, hne, _, _ => by
    constructor
    · intro h
      have := h.length_le
      simp [joinSp] at this
    · intro h; cases h
  | w :: ws, t, hne, ht, hw => by
    have ih := infix_join ws t hne ht (fun x hx => hw x (List.mem_cons_of_mem _ hx))
    have h0 := hw w (List.mem_cons_self ..)
    rw [joinSp_cons, List.infix_cons_iff, List.mem_cons]
    constructor
    · rintro (h | h)
      · left
        obtain ⟨z, hz⟩ := h
        simp only [List.cons_append, List.cons.injEq, true_and] at hz
        exact pre_eq t w (ws.flatMap (· ++ [32])) ht h0 ⟨z, hz⟩
      · exact Or.inr (ih.1 (infix_skip w _ _ h0 h))
    · rintro (rfl | h)
      · left
        exact ⟨ws.flatMap (· ++ [32]), by simp [joinSp]⟩
      · right
        exact (ih.2 h).trans (List.suffix_append w (joinSp ws)).isInfix
theorem contains_iff (s sub : List UInt8) : Go.Lib.contains s sub = true ↔ sub <:+: s := by
  unfold Go.Lib.contains
  rw [decide_eq_true_iff]
  rcases Go.Lib.index_spec s sub with ⟨h, hn⟩ | ⟨i, h, hi, ho, _⟩
  · rw [h]
    constructor
    · intro h; omega
    · rintro ⟨a, b, hab⟩
      have h1 := hn a.length (by rw [← hab]; simp)
      have h2 : sub.isPrefixOf (sub ++ b) = true := List.isPrefixOf_iff_prefix.2 (List.prefix_append _ _)
      rw [Go.Lib.occAt, ← hab, List.append_assoc, List.drop_left, h2] at h1
      cases h1
  · rw [h]
    constructor
    · intro _
      simp only [Go.Lib.occAt, List.isPrefixOf_iff_prefix] at ho
      obtain ⟨z, hz⟩ := ho
      exact ⟨s.take i, z, by rw [List.append_assoc, hz, List.take_append_drop]⟩
    · intro _; omega

def letU (c : UInt8) : Bool := (decide (97 ≤ c.toNat) && decide (c.toNat ≤ 122)) || (decide (65 ≤ c.toNat) && decide (c.toNat ≤ 90))
def digU (c : UInt8) : Bool := decide (48 ≤ c.toNat) && decide (c.toNat ≤ 57)
def nameU (c : UInt8) : Bool := letU c || digU c || c.toNat == 95
def nameL (l : List UInt8) : Bool := decide (1 ≤ l.length) && decide (l.length ≤ 20) && letU (l.headD 0) && l.all nameU
theorem bt_list (s : ByteArray) (j : Nat) (h : j < s.size) : bt s (j : Int) = ((s.data.toList[j]'(by simpa using h)).toNat : Int) := by
  simp [bt, h]
  rfl
theorem letter_some (c : UInt8) : spec_l01Letter.f (c.toNat : Int) = some (letU c) := by
  unfold spec_l01Letter.f letU
  have e1 : ((c.toNat : Int) ≥ 97) = (97 ≤ c.toNat) := propext (by omega)
  have e2 : ((c.toNat : Int) ≤ 122) = (c.toNat ≤ 122) := propext (by omega)
  have e3 : ((c.toNat : Int) ≥ 65) = (65 ≤ c.toNat) := propext (by omega)
  have e4 : ((c.toNat : Int) ≤ 90) = (c.toNat ≤ 90) := propext (by omega)
  simp only [e1, e2, e3, e4]
  by_cases a1 : 97 ≤ c.toNat <;> by_cases a2 : c.toNat ≤ 122 <;> by_cases a3 : 65 ≤ c.toNat <;> simp [a1, a2, a3]
theorem letter_impl (c : UInt8) : impl_isLetter.f (c.toNat : Int) = some (letU c) := letter_some c
theorem digit_some (c : UInt8) : spec_l01Digit.f (c.toNat : Int) = some (digU c) := by
  unfold spec_l01Digit.f digU
  have e1 : ((c.toNat : Int) ≥ 48) = (48 ≤ c.toNat) := propext (by omega)
  have e2 : ((c.toNat : Int) ≤ 57) = (c.toNat ≤ 57) := propext (by omega)
  simp only [e1, e2]
  by_cases a1 : 48 ≤ c.toNat <;> simp [a1]
theorem nameU_of {c : UInt8} : nameU c = (letU c || digU c || c.toNat == 95) := rfl
theorem digit_impl (c : UInt8) : impl_isDigit.f (c.toNat : Int) = some (digU c) := digit_some c
theorem all_drop {l : List UInt8} {j : Nat} (h : j < l.length) : (l.drop j).all nameU = (nameU l[j] && (l.drop (j + 1)).all nameU) := by
  rw [List.drop_eq_getElem_cons h, List.all_cons]
theorem spec_name_loop (s : ByteArray) (hs : s.size ≤ 20) (j : Nat) (hj : j ≤ s.size) : EvP (fun k => spec_l01Name.l0 k s (j : Int)) (· = (s.data.toList.drop j).all nameU) := by
  refine EvP.whl1 (g := fun k (i : Int) => spec_l01Name.l0 k s i) (m := fun i => (s.size - i).toNat) (inv := fun i => ∃ q : Nat, i = q ∧ q ≤ s.size ∧ (s.data.toList.drop q).all nameU = (s.data.toList.drop j).all nameU) ?_ _ ⟨j, rfl, hj, rfl⟩
  rintro i ⟨q, rfl, hq, hv⟩ ih
  simp only [spec_l01Name.l0]
  have hlen : s.data.toList.length = s.size := by simp
  refine EvP.ite (fun h => ?_) (fun h => EvP.ret ?_)
  · have hq' : q < s.size := by omega
    have hn := ih ((q + 1 : Nat) : Int) (by omega)
    rw [all_drop (by omega)] at hv
    rw [bt_list s q hq', letter_some, digit_some, wrap_next hq' (by omega)]
    generalize s.data.toList[q]'(by omega) = c at hv
    refine EvP.pos (by omega) ?_
    simp only [Option.bind_some]
    refine EvP.ite (fun h1 => hn ⟨q + 1, rfl, hq', by rw [← hv, nameU_of, h1]; rfl⟩) (fun h1 => ?_)
    refine EvP.ite (fun h2 => hn ⟨q + 1, rfl, hq', by rw [← hv, nameU_of, h2, Bool.or_true]; rfl⟩) (fun h2 => ?_)
    refine EvP.ite (fun h3 => hn ⟨q + 1, rfl, hq', ?_⟩) (fun h3 => EvP.ret ?_)
    · rw [← hv, nameU_of, show (c.toNat == 95) = true from by simpa using (by omega : c.toNat = 95), Bool.or_true]; rfl
    · rw [← hv, nameU_of, show (c.toNat == 95) = false from by simpa using (by omega : ¬ c.toNat = 95), show letU c = false from by simpa using h1, show digU c = false from by simpa using h2]; rfl
  · obtain rfl : q = s.size := by omega
    rw [← hv, List.drop_of_length_le (by omega)]; rfl
theorem impl_name_loop (s : ByteArray) (hs : s.size ≤ 20) (j : Nat) (hj : j ≤ s.size) : EvP (fun k => impl_isName.l0 k s (s.size : Int) (j : Int)) (· = (s.data.toList.drop j).all nameU) := by
  refine EvP.whl1 (g := fun k (i : Int) => impl_isName.l0 k s s.size i) (m := fun i => (s.size - i).toNat) (inv := fun i => ∃ q : Nat, i = q ∧ q ≤ s.size ∧ (s.data.toList.drop q).all nameU = (s.data.toList.drop j).all nameU) ?_ _ ⟨j, rfl, hj, rfl⟩
  rintro i ⟨q, rfl, hq, hv⟩ ih
  simp only [impl_isName.l0]
  have hlen : s.data.toList.length = s.size := by simp
  refine EvP.ite (fun h => ?_) (fun h => EvP.ret ?_)
  · have hq' : q < s.size := by omega
    have hn := ih ((q + 1 : Nat) : Int) (by omega)
    rw [all_drop (by omega)] at hv
    rw [bt_list s q hq', letter_impl, digit_impl, wrap_next hq' (by omega)]
    generalize s.data.toList[q]'(by omega) = c at hv
    refine EvP.pos (by omega) (EvP.pos h ?_)
    simp only [Option.bind_some]
    refine EvP.ite (fun h1 => hn ⟨q + 1, rfl, hq', by rw [← hv, nameU_of, h1]; rfl⟩) (fun h1 => ?_)
    refine EvP.ite (fun h2 => hn ⟨q + 1, rfl, hq', by rw [← hv, nameU_of, h2, Bool.or_true]; rfl⟩) (fun h2 => ?_)
    refine EvP.ite (fun h3 => hn ⟨q + 1, rfl, hq', ?_⟩) (fun h3 => EvP.ret ?_)
    · rw [← hv, nameU_of, show (c.toNat == 95) = true from by simpa using (by omega : c.toNat = 95), Bool.or_true]; rfl
    · rw [← hv, nameU_of, show (c.toNat == 95) = false from by simpa using (by omega : ¬ c.toNat = 95), show letU c = false from by simpa using h1, show digU c = false from by simpa using h2]; rfl
  · obtain rfl : q = s.size := by omega
    rw [← hv, List.drop_of_length_le (by omega)]; rfl
theorem head_of : ∀ (l : List UInt8) (h : 0 < l.length), l[0] = l.headD 0
  | [], h => by cases h
  | _ :: _, _ => rfl
theorem head_bt (s : ByteArray) (h : 0 < s.size) : bt s 0 = ((s.data.toList.headD 0).toNat : Int) := by
  have := bt_list s 0 h
  rw [show ((0 : Nat) : Int) = 0 from rfl] at this
  rw [this, head_of]
theorem nameL_no (l : List UInt8) (h : ¬ (1 ≤ l.length ∧ l.length ≤ 20 ∧ letU (l.headD 0) = true)) : nameL l = false := by
  rw [Bool.eq_false_iff]
  intro hh
  simp only [nameL, Bool.and_eq_true, decide_eq_true_eq] at hh
  exact h ⟨hh.1.1.1, hh.1.1.2, hh.1.2⟩
theorem nameL_split (l : List UInt8) (h : letU (l.headD 0) = true) (hl : 1 ≤ l.length) : (l.drop 1).all nameU = l.all nameU := by
  cases l with
  | nil => cases hl
  | cons c r =>
    have hc : letU c = true := by simpa using h
    simp [nameU, hc]
theorem spec_name (s : ByteArray) : EvP (fun k => spec_l01Name.f k s) (· = nameL s.data.toList) := by
  unfold spec_l01Name.f
  have hlen : s.data.toList.length = s.size := by simp
  have no : ¬ (1 ≤ s.size ∧ s.size ≤ 20 ∧ letU (s.data.toList.headD 0) = true) → EvP (fun k => spec_l01Name.j0 k s true) (· = nameL s.data.toList) := by
    intro h
    refine EvP.step (f := fun _ => some false) (fun k => by simp [spec_l01Name.j0]) (EvP.ret ?_)
    exact (nameL_no _ (by rw [hlen]; exact h)).symm
  refine EvP.ite (fun h => no (by omega)) (fun h => EvP.ite (fun h2 => no (by omega)) (fun h2 => EvP.pos (by omega) ?_))
  rw [head_bt s (by omega), letter_some]
  simp only [Option.bind_some]
  by_cases h3 : letU (s.data.toList.headD 0) = true
  · rw [h3]
    refine EvP.step (f := fun k => spec_l01Name.l0 k s 1) (fun k => by simp [spec_l01Name.j0]) ?_
    refine (spec_name_loop s (by omega) 1 (by omega)).mono (fun b hb => ?_)
    rw [hb, nameL_split _ h3 (by omega)]
    unfold nameL
    rw [h3, hlen]
    simp [show 1 ≤ s.size from by omega, show s.size ≤ 20 from by omega]
  · rw [show letU (s.data.toList.headD 0) = false from by simpa using h3]
    exact no (fun hh => h3 hh.2.2)
theorem impl_name (s : ByteArray) : EvP (fun k => impl_isName.f k s) (· = nameL s.data.toList) := by
  unfold impl_isName.f
  have hlen : s.data.toList.length = s.size := by simp
  have no : ¬ (1 ≤ s.size ∧ s.size ≤ 20 ∧ letU (s.data.toList.headD 0) = true) → EvP (fun k => impl_isName.j0 k s true) (· = nameL s.data.toList) := by
    intro h
    refine EvP.step (f := fun _ => some false) (fun k => by simp [impl_isName.j0]) (EvP.ret ?_)
    exact (nameL_no _ (by rw [hlen]; exact h)).symm
  refine EvP.ite (fun h => no (by omega)) (fun h => EvP.ite (fun h2 => no (by omega)) (fun h2 => EvP.pos (by omega) ?_))
  rw [head_bt s (by omega), letter_impl]
  simp only [Option.bind_some]
  by_cases h3 : letU (s.data.toList.headD 0) = true
  · rw [h3]
    refine EvP.step (f := fun k => impl_isName.l0 k s s.size 0) (fun k => by simp [impl_isName.j0]) ?_
    refine (impl_name_loop s (by omega) 0 (by omega)).mono (fun b hb => ?_)
    rw [hb, List.drop_zero]
    unfold nameL
    rw [h3, hlen]
    simp [show 1 ≤ s.size from by omega, show s.size ≤ 20 from by omega]
  · rw [show letU (s.data.toList.headD 0) = false from by simpa using h3]
    exact no (fun hh => h3 hh.2.2)
def wordsW : List (List UInt8) := [[110, 117, 108, 108], [116, 114, 117, 101], [102, 97, 108, 115, 101], [110, 111, 116], [111, 114], [120, 111, 114], [97, 110, 100], [105, 110], [105, 115], [99, 97, 115, 101], [119, 104, 101, 110], [116, 104, 101, 110], [101, 108, 115, 101], [101, 110, 100], [119, 104, 101, 114, 101], [97, 108, 108], [97, 110, 121], [109, 97, 116, 99, 104], [111, 112, 116, 105, 111, 110, 97, 108], [119, 105, 116, 104], [114, 101, 116, 117, 114, 110], [100, 105, 115, 116, 105, 110, 99, 116], [111, 114, 100, 101, 114], [98, 121], [100, 101, 115, 99], [115, 107, 105, 112], [108, 105, 109, 105, 116], [97, 115], [117, 110, 119, 105, 110, 100], [99, 114, 101, 97, 116, 101], [115, 101, 116], [114, 101, 109, 111, 118, 101], [100, 101, 108, 101, 116, 101], [100, 101, 116, 97, 99, 104], [109, 101, 114, 103, 101], [111, 110], [117, 110, 105, 111, 110], [115, 104, 111, 114, 116, 101, 115, 116], [116, 114, 97, 105, 108], [115, 105, 109, 112, 108, 101], [119, 97, 108, 107]]
def freeL (l : List UInt8) : Bool := nameL l && !decide (l ∈ wordsW)
theorem in_texts (l : List ByteArray) (a : ByteArray) (hl : l.length ≤ 1048576) : EvP (fun k => spec_l01InTexts.f k l a) (· = l.any (fun x => decide (x.toList = a.toList))) := by
  unfold spec_l01InTexts.f
  refine EvP.whl1 (g := fun k (i : Int) => spec_l01InTexts.l0 k l a i) (m := fun i => (l.length - i).toNat) (inv := fun i => ∃ q : Nat, i = q ∧ q ≤ l.length ∧ (l.drop q).any (fun x => decide (x.toList = a.toList)) = l.any (fun x => decide (x.toList = a.toList))) ?_ _ ⟨0, rfl, by omega, by simp⟩
  rintro i ⟨q, rfl, hq, hv⟩ ih
  simp only [spec_l01InTexts.l0]
  refine EvP.ite (fun h => ?_) (fun h => EvP.ret ?_)
  · have hq' : q < l.length := by omega
    rw [List.drop_eq_getElem_cons hq', List.any_cons] at hv
    have hr : rdOf ByteArray.empty l (q : Int) = l[q] := by simp [rdOf, List.getD, hq']
    rw [wrap_next hq' (by omega), hr]
    refine EvP.pos (by omega) (EvP.ite (fun h1 => EvP.ret ?_) (fun h1 => ih _ (by omega) ⟨q + 1, rfl, hq', ?_⟩))
    · rw [← hv]; simp [h1]
    · rw [← hv]; simp [h1]
  · obtain rfl : q = l.length := by omega
    rw [← hv, List.drop_of_length_le (by omega)]; rfl
theorem words_join : wordsL = joinSp wordsW := by decide +kernel
theorem words_nosp : ∀ w ∈ wordsW, (32 : UInt8) ∉ w := by decide +kernel
theorem name_nosp {l : List UInt8} (h : nameL l = true) : l ≠ [] ∧ (32 : UInt8) ∉ l ∧ l.length ≤ 20 := by
  unfold nameL at h
  simp only [Bool.and_eq_true, decide_eq_true_eq] at h
  obtain ⟨⟨⟨h1, h2⟩, _⟩, h3⟩ := h
  refine ⟨fun e => (by rw [e] at h1; cases h1), fun hm => ?_, h2⟩
  have := List.all_eq_true.1 h3 _ hm
  exact absurd this (by decide)
theorem word_iff (a : ByteArray) (h : nameL a.data.toList = true) : Go.Lib.contains wordsL ((⟨#[32]⟩ : ByteArray) ++ a ++ (⟨#[32]⟩ : ByteArray)).data.toList = decide (a.data.toList ∈ wordsW) := by
  obtain ⟨h1, h2, _⟩ := name_nosp h
  have e : ((⟨#[32]⟩ : ByteArray) ++ a ++ (⟨#[32]⟩ : ByteArray)).data.toList = 32 :: (a.data.toList ++ [32]) := by simp
  rw [e, words_join, Bool.eq_iff_iff, contains_iff, decide_eq_true_iff]
  exact infix_join wordsW _ h1 h2 words_nosp
theorem impl_free_ev (a : ByteArray) : EvP (fun k => impl_free.f k a) (· = freeL a.data.toList) := by
  unfold impl_free.f
  refine EvP.bind (impl_name a) (fun b hb => ?_)
  subst hb
  refine EvP.ite (fun h => ?_) (fun h => EvP.ret (by unfold freeL; simp [h]))
  have hs : a.size ≤ 1000 := by
    have := (name_nosp h).2.2
    simp at this
    omega
  refine EvP.now (r := !decide (a.data.toList ∈ wordsW)) ?_ (by unfold freeL; simp [h])
  unfold impl_isWord.f
  rw [if_pos hs, word_iff a h]
  rfl
def wordsB : List ByteArray := wordsW.map (fun w => ⟨w.toArray⟩)
theorem words_spec : spec_l06Words.f = some wordsB := by
  unfold spec_l06Words.f wordsB wordsW
  rfl
theorem any_words (a : ByteArray) : wordsB.any (fun x => decide (x.toList = a.toList)) = decide (a.data.toList ∈ wordsW) := by
  rw [Bool.eq_iff_iff, List.any_eq_true, decide_eq_true_iff]
  unfold wordsB
  constructor
  · rintro ⟨x, hx, h⟩
    obtain ⟨w, hw, rfl⟩ := List.mem_map.1 hx
    rw [decide_eq_true_iff] at h
    rw [ByteArray.toList_eq, ByteArray.toList_eq] at h
    rw [← h]; simpa using hw
  · intro h
    refine ⟨⟨a.data.toList.toArray⟩, List.mem_map.2 ⟨_, h, rfl⟩, ?_⟩
    rw [decide_eq_true_iff]
theorem spec_free_ev (a : ByteArray) : EvP (fun k => spec_l06Name.f k a) (· = freeL a.data.toList) := by
  unfold spec_l06Name.f
  refine EvP.bind (spec_name a) (fun b hb => ?_)
  subst hb
  refine EvP.ite (fun h => ?_) (fun h => EvP.ret (by unfold freeL; simp [h]))
  rw [words_spec]
  simp only [Option.bind_some]
  refine EvP.bind (in_texts wordsB a (by decide)) (fun b hb => EvP.ret ?_)
  rw [hb, any_words]
  unfold freeL; simp [h]
def atomB (x : S60) : Bool := nameL x.f0.data.toList && freeL x.f1.data.toList && freeL x.f2.data.toList
def atomsB (l : List S60) : Bool := decide (1 ≤ l.length) && decide (l.length ≤ 6) && l.all atomB
theorem atoms_drop {l : List S60} {j : Nat} (h : j < l.length) : (l.drop j).all atomB = (atomB (rd_T60 l j) && (l.drop (j + 1)).all atomB) := by
  rw [List.drop_eq_getElem_cons h, List.all_cons]
  simp [rd_T60, List.getD, h]
theorem spec_atoms_loop (l : List S60) (hl : l.length ≤ 1048576) : EvP (fun k => spec_AtomsFault.l0 k l 0) (· = if l.all atomB = true then 0 else 1) := by
  refine EvP.whl1 (g := fun k (i : Int) => spec_AtomsFault.l0 k l i) (m := fun i => (l.length - i).toNat) (inv := fun i => ∃ q : Nat, i = q ∧ q ≤ l.length ∧ (l.drop q).all atomB = l.all atomB) ?_ _ ⟨0, rfl, by omega, by simp⟩
  rintro i ⟨q, rfl, hq, hv⟩ ih
  simp only [spec_AtomsFault.l0]
  refine EvP.ite (fun h => ?_) (fun h => EvP.ret ?_)
  · have hq' : q < l.length := by omega
    rw [atoms_drop hq'] at hv
    have hn := ih ((q + 1 : Nat) : Int) (by omega)
    rw [wrap_next hq' (by omega)]
    refine EvP.pos (by omega) (EvP.bind (spec_name _) (fun b1 h1 => EvP.ite (fun g1 => ?_) (fun g1 => EvP.ret ?_)))
    · refine EvP.bind (spec_free_ev _) (fun b2 h2 => EvP.ite (fun g2 => ?_) (fun g2 => EvP.ret ?_))
      · refine EvP.bind (spec_free_ev _) (fun b3 h3 => EvP.ite (fun g3 => hn ⟨q + 1, rfl, hq', ?_⟩) (fun g3 => EvP.ret ?_))
        · rw [← hv]; subst h1 h2 h3; simp [atomB, g1, g2, g3]
        · rw [← hv]; subst h1 h2 h3; simp [atomB, g1, g2, g3]
      · rw [← hv]; subst h1 h2; simp [atomB, g1, g2]
    · rw [← hv]; subst h1; simp [atomB, g1]
  · obtain rfl : q = l.length := by omega
    rw [← hv]; simp
theorem spec_atoms (l : List S60) (hl : l.length ≤ 1048576) : EvP (fun k => spec_AtomsFault.f k l) (· = if atomsB l = true then 0 else 1) := by
  unfold spec_AtomsFault.f
  refine EvP.ite (fun h => ?_) (fun h => ?_)
  · refine EvP.step (f := fun _ => some 1) (fun k => by simp [spec_AtomsFault.j0]) (EvP.ret ?_)
    unfold atomsB; rw [decide_eq_false (by omega)]; simp
  · by_cases h2 : (l.length : Int) > 6
    · rw [decide_eq_true h2]
      refine EvP.step (f := fun _ => some 1) (fun k => by simp [spec_AtomsFault.j0]) (EvP.ret ?_)
      unfold atomsB; rw [decide_eq_true (by omega), decide_eq_false (by omega)]; simp
    · rw [decide_eq_false h2]
      refine EvP.step (f := fun k => spec_AtomsFault.l0 k l 0) (fun k => by simp [spec_AtomsFault.j0]) ?_
      refine (spec_atoms_loop l hl).mono (fun b hb => ?_)
      unfold atomsB; rw [hb, decide_eq_true (by omega), decide_eq_true (by omega)]; simp
theorem impl_atoms_loop (l : List S60) (hl : l.length ≤ 1048576) : EvP (fun k => impl_atomsOk.l0 k l l.length 0) (· = l.all atomB) := by
  refine EvP.whl1 (g := fun k (i : Int) => impl_atomsOk.l0 k l l.length i) (m := fun i => (l.length - i).toNat) (inv := fun i => ∃ q : Nat, i = q ∧ q ≤ l.length ∧ (l.drop q).all atomB = l.all atomB) ?_ _ ⟨0, rfl, by omega, by simp⟩
  rintro i ⟨q, rfl, hq, hv⟩ ih
  simp only [impl_atomsOk.l0]
  refine EvP.ite (fun h => ?_) (fun h => EvP.ret ?_)
  · have hq' : q < l.length := by omega
    rw [atoms_drop hq'] at hv
    have hn := ih ((q + 1 : Nat) : Int) (by omega)
    rw [wrap_next hq' (by omega)]
    refine EvP.pos (by omega) (EvP.pos h (EvP.bind (impl_name _) (fun b1 h1 => EvP.ite (fun g1 => ?_) (fun g1 => EvP.ret ?_))))
    · refine EvP.bind (impl_free_ev _) (fun b2 h2 => EvP.ite (fun g2 => ?_) (fun g2 => EvP.ret ?_))
      · refine EvP.bind (impl_free_ev _) (fun b3 h3 => EvP.ite (fun g3 => hn ⟨q + 1, rfl, hq', ?_⟩) (fun g3 => EvP.ret ?_))
        · rw [← hv]; subst h1 h2 h3; simp [atomB, g1, g2, g3]
        · rw [← hv]; subst h1 h2 h3; simp [atomB, g1, g2, g3]
      · rw [← hv]; subst h1 h2; simp [atomB, g1, g2]
    · rw [← hv]; subst h1; simp [atomB, g1]
  · obtain rfl : q = l.length := by omega
    rw [← hv]; simp
theorem impl_atoms (l : List S60) (hl : l.length ≤ 1048576) : EvP (fun k => impl_atomsOk.f k l) (· = atomsB l) := by
  unfold impl_atomsOk.f
  refine EvP.ite (fun h => ?_) (fun h => ?_)
  · refine EvP.step (f := fun _ => some false) (fun k => by simp [impl_atomsOk.j0]) (EvP.ret ?_)
    unfold atomsB; rw [decide_eq_false (by omega)]; simp
  · by_cases h2 : (l.length : Int) > 6
    · rw [decide_eq_true h2]
      refine EvP.step (f := fun _ => some false) (fun k => by simp [impl_atomsOk.j0]) (EvP.ret ?_)
      unfold atomsB; rw [decide_eq_true (by omega), decide_eq_false (by omega)]; simp
    · rw [decide_eq_false h2]
      refine EvP.step (f := fun k => impl_atomsOk.l0 k l l.length 0) (fun k => by simp [impl_atomsOk.j0]) ?_
      refine (impl_atoms_loop l hl).mono (fun b hb => ?_)
      unfold atomsB; rw [hb, decide_eq_true (by omega), decide_eq_true (by omega)]; simp
abbrev pkn (l : List S59) (a : Nat) : Int := (rd_T59 l (a : Int)).f0
abbrev pat (l : List S59) (a : Nat) : Int := (rd_T59 l (a : Int)).f1
/-- A plan's part from a on that ends ahead of e. -/
inductive PT (l : List S59) (n : Nat) : Nat → Nat → Prop
  | scan {a : Nat} (h : a < l.length) (hk : pkn l a = 1) (h0 : 0 ≤ pat l a) (h1 : pat l a < n) : PT l n a (a + 1)
  | join {a b e : Nat} (h : a < l.length) (hk : pkn l a = 2) (h0 : pat l a = 0) (hb : PT l n (a + 1) b) (he : PT l n b e) : PT l n a e
theorem PT.lt {l : List S59} {n a e : Nat} (h : PT l n a e) : a < e ∧ e ≤ l.length := by
  induction h with
  | scan h => omega
  | join h _ _ _ _ ih1 ih2 => omega
theorem PT.det {l : List S59} {n a e : Nat} (h : PT l n a e) : ∀ e', PT l n a e' → e = e' := by
  induction h with
  | scan h hk => intro e' h'; cases h' with
    | scan => rfl
    | join _ hk' => rw [hk] at hk'; cases hk'
  | join h hk _ _ _ ih1 ih2 => intro e' h'; cases h' with
    | scan _ hk' => rw [hk] at hk'; cases hk'
    | join _ _ _ hb he => obtain rfl := ih1 _ hb; exact ih2 _ he
def cn (l : List S59) (i : Nat) : Nat → Nat → Nat
  | _, 0 => 0
  | a, m + 1 => (if pkn l a = 1 ∧ pat l a = i then 1 else 0) + cn l i (a + 1) m
theorem cn_add (l : List S59) (i : Nat) : ∀ m a m', cn l i a (m + m') = cn l i a m + cn l i (a + m) m'
  | 0, a, m' => by simp [cn]
  | m + 1, a, m' => by
    rw [show m + 1 + m' = (m + m') + 1 by omega]
    simp only [cn]
    rw [cn_add l i m (a + 1) m', show a + 1 + m = a + (m + 1) by omega]
    omega
def sm_ : Nat → (Nat → Nat) → Nat
  | 0, _ => 0
  | n + 1, f => sm_ n f + f n
theorem sm_add (f g : Nat → Nat) : ∀ n, sm_ n (fun i => f i + g i) = sm_ n f + sm_ n g
  | 0 => rfl
  | n + 1 => by simp only [sm_, sm_add f g n]; omega
theorem sm_zero : ∀ n, sm_ n (fun _ => 0) = 0
  | 0 => rfl
  | n + 1 => by simp only [sm_, sm_zero n]
theorem sm_congr {f g : Nat → Nat} : ∀ n, (∀ i, i < n → f i = g i) → sm_ n f = sm_ n g
  | 0, _ => rfl
  | n + 1, h => by simp only [sm_, sm_congr n (fun i hi => h i (by omega)), h n (by omega)]
theorem sm_hit (j : Nat) : ∀ n, sm_ n (fun i => if j = i then 1 else 0) = if j < n then 1 else 0
  | 0 => rfl
  | n + 1 => by
    simp only [sm_, sm_hit j n]
    by_cases h : j < n
    · rw [if_pos h, if_neg (by omega), if_pos (by omega)]
    · rw [if_neg h]
      by_cases h' : j = n
      · rw [if_pos h', if_pos (by omega)]
      · rw [if_neg h', if_neg (by omega)]
theorem sm_one : ∀ n, sm_ n (fun _ => 1) = n
  | 0 => rfl
  | n + 1 => by simp only [sm_, sm_one n]
theorem cn_one (l : List S59) (i a : Nat) : cn l i a 1 = if pkn l a = 1 ∧ pat l a = i then 1 else 0 := by
  simp [cn]
theorem PT.cn_join {l : List S59} {n a b e : Nat} (hk : pkn l a = 2) (hb : PT l n (a + 1) b) (he : PT l n b e) (i : Nat) : cn l i a (e - a) = cn l i (a + 1) (b - (a + 1)) + cn l i b (e - b) := by
  have h1 := hb.lt
  have h2 := he.lt
  rw [show e - a = 1 + ((b - (a + 1)) + (e - b)) by omega, cn_add, cn_one, if_neg (by rw [hk]; simp), cn_add, show a + 1 + (b - (a + 1)) = b by omega]
  omega
theorem PT.sum {l : List S59} {n a e : Nat} (h : PT l n a e) : 2 * sm_ n (fun i => cn l i a (e - a)) = e - a + 1 := by
  induction h with
  | @scan a h hk h0 h1 =>
    have : sm_ n (fun i => cn l i a (a + 1 - a)) = sm_ n (fun i => if (pat l a).toNat = i then 1 else 0) := by
      refine sm_congr n (fun i _ => ?_)
      rw [show a + 1 - a = 1 by omega, cn_one]
      by_cases hi : pat l a = i
      · rw [if_pos ⟨hk, hi⟩, if_pos (by omega)]
      · rw [if_neg (fun x => hi x.2), if_neg (by omega)]
    rw [this, sm_hit, if_pos (by omega)]
    omega
  | @join a b e h hk _ hb he ih1 ih2 =>
    have : sm_ n (fun i => cn l i a (e - a)) = sm_ n (fun i => cn l i (a + 1) (b - (a + 1)) + cn l i b (e - b)) := sm_congr n (fun i _ => PT.cn_join hk hb he i)
    rw [this, sm_add]
    have h1 := hb.lt
    have h2 := he.lt
    omega
def ER (l : List S59) (n q : Nat) (r : Int) : Prop := (∃ e, PT l n q e ∧ r = (e : Int)) ∨ (r = -1 ∧ ∀ e, ¬ PT l n q e)
theorem spec_end (l : List S59) (n : Nat) (hl : l.length ≤ 1048576) : ∀ d q, l.length - q < d → EvP (fun k => spec_l12End.f k (n : Int) l (q : Int)) (ER l n q)
  | 0, q, h => absurd h (Nat.not_lt_zero _)
  | d + 1, q, h => by
    refine EvP.step (f := fun k => spec_l12End.f (k + 1) n l q) (fun _ => rfl) ?_
    simp only [spec_l12End.f]
    refine EvP.ite (fun h1 => EvP.ret (.inr ⟨rfl, fun e he => ?_⟩)) (fun h1 => ?_)
    · have := he.lt; omega
    have hq : q < l.length := by omega
    have hw : wrap64 ((q : Int) + 1) = ((q + 1 : Nat) : Int) := wrap_next hq (by omega)
    refine EvP.pos (by omega) (EvP.pos (by omega) ?_)
    by_cases hk1 : pkn l q = 1
    · refine EvP.pos hk1 (EvP.ite (fun h2 => ?_) (fun h2 => ?_))
      · refine EvP.step (f := fun k => spec_l12End.j0 (k + 1) _ _ _ _ _ _) (fun _ => rfl) ?_
        simp only [spec_l12End.j0]
        by_cases h3 : pat l q < (n : Int)
        · refine EvP.pos (decide_eq_true h3) (EvP.ret (.inl ⟨q + 1, PT.scan hq hk1 h2 h3, hw⟩))
        · refine EvP.neg (by rw [decide_eq_false h3]; decide) (EvP.neg (fun x => absurd (hk1.symm.trans x) (by decide)) ?_)
          refine EvP.step (f := fun k => spec_l12End.j1 (k + 1) _ _ _ _) (fun _ => rfl) ?_
          simp only [spec_l12End.j1]
          refine EvP.neg (by decide) (EvP.ret (.inr ⟨rfl, fun e he => ?_⟩))
          cases he with
          | scan _ _ _ h4 => exact h3 h4
          | join _ hk' => rw [hk1] at hk'; cases hk'
      · refine EvP.step (f := fun k => spec_l12End.j0 (k + 1) _ _ _ _ _ _) (fun _ => rfl) ?_
        simp only [spec_l12End.j0]
        refine EvP.neg (by decide) (EvP.neg (fun x => absurd (hk1.symm.trans x) (by decide)) ?_)
        refine EvP.step (f := fun k => spec_l12End.j1 (k + 1) _ _ _ _) (fun _ => rfl) ?_
        simp only [spec_l12End.j1]
        refine EvP.neg (by decide) (EvP.ret (.inr ⟨rfl, fun e he => ?_⟩))
        cases he with
        | scan _ _ h4 _ => exact h2 h4
        | join _ hk' => rw [hk1] at hk'; cases hk'
    · refine EvP.neg hk1 ?_
      refine EvP.step (f := fun k => spec_l12End.j0 (k + 1) _ _ _ _ _ _) (fun _ => rfl) ?_
      simp only [spec_l12End.j0]
      refine EvP.neg (by decide) ?_
      by_cases hk2 : pkn l q = 2
      · refine EvP.pos hk2 ?_
        refine EvP.step (f := fun k => spec_l12End.j1 (k + 1) _ _ _ _) (fun _ => rfl) ?_
        simp only [spec_l12End.j1]
        by_cases h0 : pat l q = 0
        · rw [hw]
          refine EvP.pos (beq_iff_eq.mpr h0) (EvP.bind (spec_end l n hl d (q + 1) (by omega)) (fun t ht => ?_))
          rcases ht with ⟨b, hb, rfl⟩ | ⟨rfl, hno⟩
          · have hbl := hb.lt
            refine EvP.neg (by omega) (EvP.bind (spec_end l n hl d b (by omega)) (fun t ht => EvP.ret ?_))
            rcases ht with ⟨e, he, rfl⟩ | ⟨rfl, hno⟩
            · exact .inl ⟨e, PT.join hq hk2 h0 hb he, rfl⟩
            · refine .inr ⟨rfl, fun e he => ?_⟩
              cases he with
              | scan _ hk' => exact hk1 hk'
              | join _ _ _ hb' he' => obtain rfl := hb.det _ hb'; exact hno _ he'
          · refine EvP.pos (by decide) (EvP.ret (.inr ⟨rfl, fun e he => ?_⟩))
            cases he with
            | scan _ hk' => exact hk1 hk'
            | join _ _ _ hb' he' => exact hno _ hb'
        · refine EvP.neg (fun x => h0 (beq_iff_eq.mp x)) (EvP.ret (.inr ⟨rfl, fun e he => ?_⟩))
          cases he with
          | scan _ hk' => exact hk1 hk'
          | join _ _ h0' => exact h0 h0'
      · refine EvP.neg hk2 ?_
        refine EvP.step (f := fun k => spec_l12End.j1 (k + 1) _ _ _ _) (fun _ => rfl) ?_
        simp only [spec_l12End.j1]
        refine EvP.neg (by decide) (EvP.ret (.inr ⟨rfl, fun e he => ?_⟩))
        cases he with
        | scan _ hk' => exact hk1 hk'
        | join _ hk' => exact hk2 hk'
def SN (n : Nat) (sn : List Int) : Prop := sn.length = n ∧ ∀ i, i < n → 0 ≤ sn.getD i 0 ∧ sn.getD i 0 ≤ 1
def GR (l : List S59) (n q : Nat) (sn : List Int) (r : Int × List S66 × Int × Bool × List Int) : Prop :=
  (r.2.2.2.1 = true ∧ ∃ e, PT l n q e ∧ r.2.2.1 = (e : Int) ∧ SN n r.2.2.2.2 ∧ ∀ i, i < n → r.2.2.2.2.getD i 0 = sn.getD i 0 + cn l i q (e - q)) ∨
  (r.2.2.2.1 = false ∧ ∀ e, PT l n q e → ∃ i, i < n ∧ 2 ≤ sn.getD i 0 + cn l i q (e - q))
theorem grow (l : List S59) (n : Nat) (hl : l.length ≤ 1048576) : ∀ d q sn, l.length - q < d → SN n sn → EvP (fun k => impl_growPlan.f k l (q : Int) (n : Int) sn) (GR l n q sn)
  | 0, q, sn, h, _ => absurd h (Nat.not_lt_zero _)
  | d + 1, q, sn, h, hs => by
    refine EvP.step (f := fun k => impl_growPlan.f (k + 1) l q n sn) (fun _ => rfl) ?_
    simp only [impl_growPlan.f]
    refine EvP.ite (fun h1 => EvP.ret (.inr ⟨rfl, fun e he => ?_⟩)) (fun h1 => ?_)
    · have := he.lt; omega
    have hq : q < l.length := by omega
    have hw : wrap64 ((q : Int) + 1) = ((q + 1 : Nat) : Int) := wrap_next hq (by omega)
    refine EvP.pos (by omega) (EvP.pos (by omega) ?_)
    by_cases hk1 : pkn l q = 1
    · refine EvP.pos hk1 (EvP.ite (fun (h2 : pat l q < 0) => EvP.ret (.inr ⟨rfl, fun e he => ?_⟩)) (fun (h2 : ¬ pat l q < 0) => ?_))
      · cases he with
        | scan _ _ h4 _ => exact absurd h4 (by omega)
        | join _ hk' => rw [hk1] at hk'; cases hk'
      refine EvP.ite (fun (h3 : pat l q ≥ n) => EvP.ret (.inr ⟨rfl, fun e he => ?_⟩)) (fun (h3 : ¬ pat l q ≥ n) => ?_)
      · cases he with
        | scan _ _ _ h4 => exact absurd h4 (by omega)
        | join _ hk' => rw [hk1] at hk'; cases hk'
      have hsl := hs.1
      obtain ⟨a, ha⟩ : ∃ a : Nat, pat l q = a := ⟨(pat l q).toNat, by omega⟩
      have han : a < n := by omega
      have hrd : rd sn (pat l q) = sn.getD a 0 := by rw [ha]; simp [rd]
      have hone : ∀ i, cn l i q (q + 1 - q) = if a = i then 1 else 0 := fun i => by
        rw [show q + 1 - q = 1 by omega, cn_one]
        by_cases hi : a = i
        · rw [if_pos ⟨hk1, by omega⟩, if_pos hi]
        · rw [if_neg (fun x => hi (by omega)), if_neg hi]
      refine EvP.pos (show 0 ≤ pat l q by omega) (EvP.pos (show pat l q < (sn.length : Int) by omega) (EvP.ite (fun h4 => EvP.ret (.inr ⟨rfl, fun e he => ?_⟩)) (fun h4 => EvP.ret (.inl ⟨rfl, q + 1, PT.scan hq hk1 (by omega) (by omega), hw, ?_, ?_⟩))))
      · cases he with
        | scan _ _ _ _ =>
          refine ⟨a, han, ?_⟩
          rw [hone, if_pos rfl]
          rw [hrd] at h4
          omega
        | join _ hk' => rw [hk1] at hk'; cases hk'
      all_goals
        rw [hrd] at h4
        have h5 := (hs.2 a han).1
        have h6 : sn.getD a 0 = 0 := by omega
        have hset : ∀ i, i < n → (sn.set (pat l q : Int).toNat (wrap64 (rd sn (pat l q) + 1))).getD i 0 = sn.getD i 0 + (if a = i then 1 else 0) := fun i hi => by
          rw [hrd, h6, ha, show wrap64 (0 + 1) = 1 from (wrap_in (by decide) (by decide)).trans rfl]
          simp only [Int.toNat_natCast, List.getD_eq_getElem?_getD, List.getElem?_set]
          by_cases hai : a = i
          · subst hai
            rw [if_pos rfl, if_pos (by omega), if_pos rfl]
            rw [List.getD_eq_getElem?_getD] at h6
            rw [h6]; rfl
          · rw [if_neg hai, if_neg hai]; simp
      · refine ⟨by simp [hsl], fun i hi => ?_⟩
        show 0 ≤ (sn.set (pat l q : Int).toNat (wrap64 (rd sn (pat l q) + 1))).getD i 0 ∧ (sn.set (pat l q : Int).toNat (wrap64 (rd sn (pat l q) + 1))).getD i 0 ≤ 1
        rw [hset i hi]
        have := hs.2 i hi
        by_cases hai : a = i
        · subst hai; rw [if_pos rfl]; omega
        · rw [if_neg hai]; omega
      · intro i hi
        show (sn.set (pat l q : Int).toNat (wrap64 (rd sn (pat l q) + 1))).getD i 0 = _
        rw [hset i hi, hone]
        by_cases hai : a = i
        · rw [if_pos hai, if_pos hai]; rfl
        · rw [if_neg hai, if_neg hai]; rfl
    · refine EvP.neg hk1 ?_
      by_cases hk2 : pkn l q = 2
      · refine EvP.pos hk2 ?_
        by_cases h0 : pat l q = 0
        · refine EvP.pos h0 ?_
          rw [hw]
          refine EvP.bind (grow l n hl d (q + 1) sn (by omega) hs) (fun r1 hr1 => ?_)
          obtain ⟨x1, x2, x3, x4, sn1⟩ := r1
          rcases hr1 with ⟨ok, b, hb, hx, hs1, hc1⟩ | ⟨ok, hno⟩
          · simp only at ok hx hs1 hc1
            subst ok hx
            have hbl := hb.lt
            refine EvP.pos rfl (EvP.bind (grow l n hl d b sn1 (by omega) hs1) (fun r2 hr2 => EvP.ret ?_))
            obtain ⟨y1, y2, y3, y4, sn2⟩ := r2
            rcases hr2 with ⟨ok, e, he, hx, hs2, hc2⟩ | ⟨ok, hno⟩
            · simp only at ok hx hs2 hc2
              subst ok hx
              refine .inl ⟨rfl, e, PT.join hq hk2 h0 hb he, rfl, hs2, fun i hi => ?_⟩
              show sn2.getD i 0 = _
              rw [hc2 i hi, hc1 i hi, PT.cn_join hk2 hb he i]
              omega
            · simp only at ok hno
              subst ok
              refine .inr ⟨rfl, fun e he => ?_⟩
              cases he with
              | scan _ hk' => exact absurd hk' hk1
              | join _ _ _ hb' he' =>
                obtain rfl := hb.det _ hb'
                obtain ⟨i, hi, h2⟩ := hno _ he'
                refine ⟨i, hi, ?_⟩
                rw [PT.cn_join hk2 hb he' i]
                rw [hc1 i hi] at h2
                omega
          · simp only at ok hno
            subst ok
            refine EvP.neg (fun z => absurd (show false = true from z) (by decide)) (EvP.ret (.inr ⟨rfl, fun e he => ?_⟩))
            cases he with
            | scan _ hk' => exact absurd hk' hk1
            | join _ _ _ hb' he' =>
              obtain ⟨i, hi, h2⟩ := hno _ hb'
              refine ⟨i, hi, ?_⟩
              rw [PT.cn_join hk2 hb' he' i]
              omega
        · refine EvP.neg h0 (EvP.ret (.inr ⟨rfl, fun e he => ?_⟩))
          cases he with
          | scan _ hk' => exact absurd hk' hk1
          | join _ _ h0' => exact absurd h0' h0
      · refine EvP.neg hk2 (EvP.ret (.inr ⟨rfl, fun e he => ?_⟩))
        cases he with
        | scan _ hk' => exact absurd hk' hk1
        | join _ hk' => exact absurd hk' hk2
/-- What a right plan over n atoms is. -/
def PlanOk (l : List S59) (n : Nat) : Prop := PT l n 0 l.length ∧ ∀ i, i < n → cn l i 0 l.length = 1
theorem PlanOk.len {l : List S59} {n : Nat} (h : PlanOk l n) : l.length + 1 = 2 * n := by
  have h1 := h.1.sum
  rw [sm_congr n (g := fun _ => 1) (fun i hi => by rw [show l.length - 0 = l.length by omega]; exact h.2 i hi), sm_one] at h1
  omega
theorem contains_int (l : List Int) (a : Int) (hl : l.length ≤ 1048576) : EvP (fun k => slices_Contains_int_int.f k l a) (fun b => b = true ↔ ∃ i, i < l.length ∧ l.getD i 0 = a) := by
  unfold slices_Contains_int_int.f
  refine EvP.bind (Q := fun t => 0 ≤ t ↔ ∃ i, i < l.length ∧ l.getD i 0 = a) ?_ (fun t ht => EvP.ret (by rw [decide_eq_true_iff]; exact ht))
  unfold slices_Index_int_int.f
  refine EvP.whl1 (g := fun k (i : Int) => slices_Index_int_int.l0 k l a l.length i) (m := fun i => (l.length - i).toNat) (inv := fun i => ∃ q : Nat, i = q ∧ q ≤ l.length ∧ ∀ j, j < q → l.getD j 0 ≠ a) ?_ _ ⟨0, rfl, by omega, fun j hj => absurd hj (Nat.not_lt_zero _)⟩
  rintro i ⟨q, rfl, hq, hv⟩ ih
  simp only [slices_Index_int_int.l0]
  refine EvP.ite (fun h => ?_) (fun h => EvP.ret ?_)
  · have hq' : q < l.length := by omega
    have hrd : rd l (q : Int) = l.getD q 0 := by simp [rd]
    rw [wrap_next hq' (by omega), hrd]
    refine EvP.pos (by omega) (EvP.pos h (EvP.ite (fun h1 => EvP.ret ⟨fun _ => ⟨q, hq', h1.symm⟩, fun _ => by omega⟩) (fun h1 => ih _ (by omega) ⟨q + 1, rfl, hq', fun j hj => ?_⟩)))
    rcases Nat.lt_succ_iff_lt_or_eq.mp hj with hj | rfl
    · exact hv j hj
    · exact fun e => h1 e.symm
  · obtain rfl : q = l.length := by omega
    exact ⟨fun x => absurd x (by decide), fun ⟨j, hj, e⟩ => absurd e (hv j hj)⟩
theorem impl_plan (x : List S60) (l : List S59) (hx : x.length ≤ 1048576) (hl : l.length ≤ 1048576) : EvP (fun k => impl_PlanFault.f k x l) (fun r => (r = 0 ∧ atomsB x = true ∧ PlanOk l x.length) ∨ (r = 1 ∧ ¬ (atomsB x = true ∧ PlanOk l x.length))) := by
  unfold impl_PlanFault.f
  refine EvP.bind (Q := fun t => (t.2.2 = true ↔ atomsB x = true ∧ PlanOk l x.length)) ?_ (fun t ht => EvP.ite (fun h => EvP.ret (.inl ⟨rfl, ht.mp h⟩)) (fun h => EvP.ret (.inr ⟨rfl, fun z => h (ht.mpr z)⟩)))
  unfold impl_readPlan.f
  refine EvP.bind (impl_atoms x hx) (fun b hb => ?_)
  subst hb
  refine EvP.ite (fun h => ?_) (fun h => ?_)
  · refine EvP.step (f := fun k => impl_readPlan.j0 (k + 1) _ _ _) (fun _ => rfl) ?_
    simp only [impl_readPlan.j0]
    have h6 : x.length ≤ 6 := by
      unfold atomsB at h
      simp only [Bool.and_eq_true, decide_eq_true_eq] at h
      exact h.1.2
    refine EvP.ite (fun h2 => EvP.ret ⟨fun e => (Bool.noConfusion e), fun ⟨_, z⟩ => ?_⟩) (fun h2 => ?_)
    · have := z.len
      have := of_decide_eq_true h2
      omega
    refine EvP.pos (by omega) (EvP.pos (by simp; omega) ?_)
    rw [show ((x.length : Int)).toNat = x.length by omega]
    have hr0 : ∀ i, i < x.length → (List.replicate x.length (0 : Int)).getD i 0 = 0 := fun i hi => by
      rw [List.getD_eq_getElem?_getD, List.getElem?_replicate]; simp [hi]
    have hs0 : SN x.length (List.replicate x.length (0 : Int)) := ⟨by simp, fun i hi => by rw [hr0 i hi]; decide⟩
    refine EvP.bind (grow l x.length hl (l.length + 1) 0 _ (by omega) hs0) (fun r hr => ?_)
    obtain ⟨x1, x2, x3, x4, sn⟩ := r
    rcases hr with ⟨ok, e, he, hx3, hs, hc⟩ | ⟨ok, hno⟩
    · simp only at ok hx3 hs hc
      subst ok hx3
      refine EvP.pos rfl (EvP.ite (fun h3 => ?_) (fun h3 => EvP.ret ⟨fun z => Bool.noConfusion z, fun ⟨_, z⟩ => ?_⟩))
      · have h3' : e = l.length := by
          have h3' : (e : Int) = l.length := h3
          omega
        subst h3'
        refine EvP.bind (contains_int sn 0 (by rw [hs.1]; omega)) (fun t ht => EvP.ret ?_)
        show (!t) = true ↔ _
        rw [hs.1] at ht
        have hc' : ∀ i, i < x.length → sn.getD i 0 = (cn l i 0 l.length : Int) := fun i hi => by
          rw [hc i hi, hr0 i hi, show l.length - 0 = l.length by omega]; omega
        constructor
        · intro hnt
          refine ⟨h, he, fun i hi => ?_⟩
          have h5 := hs.2 i hi
          have h4 : sn.getD i 0 ≠ 0 := fun z => by
            have := ht.mpr ⟨i, hi, z⟩
            rw [this] at hnt
            exact absurd hnt (by decide)
          rw [hc' i hi] at h5 h4
          omega
        · rintro ⟨_, _, hz⟩
          cases t with
          | false => rfl
          | true =>
            obtain ⟨i, hi, z⟩ := ht.mp rfl
            rw [hc' i hi, hz i hi] at z
            exact absurd z (by decide)
      · exact (h3 (show (e : Int) = l.length by rw [he.det _ z.1])).elim
    · simp only at ok hno
      subst ok
      refine EvP.neg (fun z => absurd (show false = true from z) (by decide)) (EvP.ret ⟨fun z => Bool.noConfusion z, fun ⟨_, z⟩ => ?_⟩)
      obtain ⟨i, hi, h2⟩ := hno _ z.1
      rw [hr0 i hi, show l.length - 0 = l.length by omega, z.2 i hi] at h2
      exact absurd h2 (by decide)
  · refine EvP.step (f := fun k => impl_readPlan.j0 (k + 1) _ _ _) (fun _ => rfl) ?_
    simp only [impl_readPlan.j0]
    exact EvP.pos trivial (EvP.ret ⟨fun e => Bool.noConfusion e, fun ⟨z, _⟩ => absurd z h⟩)
def CntR (l : List S59) (n i : Nat) (r : Int) : Prop := (r = 0 ∧ ∀ j, i ≤ j → j < n → cn l j 0 l.length = 1) ∨ (r = 1 ∧ ¬ ∀ j, i ≤ j → j < n → cn l j 0 l.length = 1)
theorem spec_cnt1 (x : List S60) (l : List S59) (hl : l.length ≤ 1048576) (i : Nat) (hi : i < x.length) (hx : x.length ≤ 1048576) (ih : EvP (fun k => spec_PlanFault.l0 k x l ((i + 1 : Nat) : Int)) (CntR l x.length (i + 1))) : ∀ d j, l.length - j < d → j ≤ l.length → EvP (fun k => spec_PlanFault.l1 k x l (i : Int) ((cn l i 0 j : Nat) : Int) (j : Int)) (CntR l x.length i)
  | 0, j, h, _ => absurd h (Nat.not_lt_zero _)
  | d + 1, j, h, hj => by
    refine EvP.step (f := fun k => spec_PlanFault.l1 (k + 1) _ _ _ _ _) (fun _ => rfl) ?_
    simp only [spec_PlanFault.l1]
    refine EvP.ite (fun h1 => ?_) (fun h1 => ?_)
    · have hj' : j < l.length := by omega
      have hn := spec_cnt1 x l hl i hi hx ih d (j + 1) (by omega) (by omega)
      have hc : cn l i 0 (j + 1) = cn l i 0 j + if pkn l j = 1 ∧ pat l j = i then 1 else 0 := by
        rw [cn_add, show 0 + j = j by omega, cn_one]
      have hle : ∀ m a, cn l i a m ≤ m := fun m => by
        induction m with
        | zero => intro a; simp [cn]
        | succ m ihm =>
          intro a
          simp only [cn]
          have := ihm (a + 1)
          split <;> omega
      have hb := hle j 0
      have hw1 : wrap64 ((cn l i 0 j : Int) + 1) = ((cn l i 0 j + 1 : Nat) : Int) := by
        rw [wrap_in (by omega) (by omega)]; omega
      rw [wrap_next hj' (by omega)]
      refine EvP.pos (by omega) (EvP.ite (fun h2 => EvP.ite (fun h3 => ?_) (fun h3 => ?_)) (fun h2 => ?_))
      · rw [hc, if_pos ⟨h2, h3⟩] at hn
        rw [hw1]
        exact hn
      · rw [hc, if_neg (fun z => h3 z.2)] at hn
        exact hn
      · rw [hc, if_neg (fun z => h2 z.1)] at hn
        exact hn
    · have hj' : j = l.length := by omega
      subst hj'
      refine EvP.ite (fun h2 => ?_) (fun h2 => EvP.ret (.inr ⟨rfl, fun z => h2 (by rw [z i (Nat.le_refl _) hi]; rfl)⟩))
      rw [wrap_next hi (by omega)]
      refine ih.mono (fun r hr => ?_)
      rcases hr with ⟨rfl, hz⟩ | ⟨rfl, hz⟩
      · refine .inl ⟨rfl, fun j hij hj => ?_⟩
        rcases Nat.eq_or_lt_of_le hij with rfl | hij
        · omega
        · exact hz j hij hj
      · exact .inr ⟨rfl, fun z => hz (fun j hij hj => z j (by omega) hj)⟩
theorem spec_cnt (x : List S60) (l : List S59) (hl : l.length ≤ 1048576) (hx : x.length ≤ 1048576) : ∀ d i, x.length - i < d → i ≤ x.length → EvP (fun k => spec_PlanFault.l0 k x l (i : Int)) (CntR l x.length i)
  | 0, i, h, _ => absurd h (Nat.not_lt_zero _)
  | d + 1, i, h, hi => by
    refine EvP.step (f := fun k => spec_PlanFault.l0 (k + 1) _ _ _) (fun _ => rfl) ?_
    simp only [spec_PlanFault.l0]
    refine EvP.ite (fun h1 => ?_) (fun h1 => EvP.ret (.inl ⟨rfl, fun j hij hj => absurd hj (by omega)⟩))
    have hi' : i < x.length := by omega
    exact spec_cnt1 x l hl i hi' hx (spec_cnt x l hl hx d (i + 1) (by omega) (by omega)) (l.length + 1) 0 (by omega) (by omega)
theorem spec_plan (x : List S60) (l : List S59) (hx : x.length ≤ 1048576) (hl : l.length ≤ 1048576) : EvP (fun k => spec_PlanFault.f k x l) (fun r => (r = 0 ∧ atomsB x = true ∧ PlanOk l x.length) ∨ (r = 1 ∧ ¬ (atomsB x = true ∧ PlanOk l x.length))) := by
  unfold spec_PlanFault.f
  have bad : ∀ (P : Int → Prop), P 1 → EvP (fun k => spec_PlanFault.j0 k x l true) P := fun P hP => by
    refine EvP.step (f := fun k => spec_PlanFault.j0 (k + 1) _ _ _) (fun _ => rfl) ?_
    simp only [spec_PlanFault.j0]
    exact EvP.pos trivial (EvP.ret hP)
  refine EvP.bind (spec_atoms x hx) (fun w hw => ?_)
  subst hw
  by_cases ha : atomsB x = true
  · rw [if_pos ha]
    refine EvP.pos rfl ?_
    have h6 : x.length ≤ 6 := by
      unfold atomsB at ha
      simp only [Bool.and_eq_true, decide_eq_true_eq] at ha
      exact ha.1.2
    rw [wrap_in (x := 2 * (x.length : Int)) (by omega) (by omega), wrap_in (by omega) (by omega)]
    refine EvP.ite (fun h1 => ?_) (fun h1 => bad _ (.inr ⟨rfl, fun z => h1 (by have := z.2.len; omega)⟩))
    refine EvP.bind (spec_end l x.length hl (l.length + 1) 0 (by omega)) (fun t ht => ?_)
    by_cases hP : PT l x.length 0 l.length
    · obtain rfl : t = (l.length : Int) := by
        rcases ht with ⟨e, he, rfl⟩ | ⟨_, hno⟩
        · rw [he.det _ hP]
        · exact absurd hP (hno _)
      rw [show ((l.length : Int) != (l.length : Int)) = false by simp]
      refine EvP.step (f := fun k => spec_PlanFault.j0 (k + 1) _ _ _) (fun _ => rfl) ?_
      simp only [spec_PlanFault.j0]
      refine EvP.neg (by decide) ((spec_cnt x l hl hx (x.length + 1) 0 (by omega) (by omega)).mono (fun r hr => ?_))
      rcases hr with ⟨rfl, hz⟩ | ⟨rfl, hz⟩
      · exact .inl ⟨rfl, ha, hP, fun i hi => hz i (Nat.zero_le _) hi⟩
      · exact .inr ⟨rfl, fun z => hz (fun j _ hj => z.2.2 j hj)⟩
    · have hne : t ≠ (l.length : Int) := by
        rcases ht with ⟨e, he, rfl⟩ | ⟨rfl, _⟩
        · exact fun z => hP (by rw [show l.length = e by omega]; exact he)
        · omega
      rw [show (t != (l.length : Int)) = true from bne_iff_ne.mpr hne]
      exact bad _ (.inr ⟨rfl, fun z => hP z.2.1⟩)
  · rw [if_neg ha]
    exact EvP.neg (by decide) (bad _ (.inr ⟨rfl, fun z => ha z.1⟩))
theorem FnExactPlanFault : OFnExactPlanFault.Said := by
  intro l p hl hp
  refine EvP.rounds (?_ : EvP (fun k => laws_FnExactPlanFault.f k l p) (· = true))
  unfold laws_FnExactPlanFault.f
  refine EvP.bind (szlAtom l hl 1048576 (by omega) (by omega)) (fun t ht => ?_)
  refine EvP.ite (fun _ => EvP.ret rfl) (fun hn => ?_)
  refine EvP.bind (szlPlanStep p hp t (by omega) (by omega)) (fun t' ht' => ?_)
  refine EvP.ite (fun _ => EvP.ret rfl) (fun hn' => ?_)
  have hs := ht.2.2 (by omega)
  have hs' := ht'.2.2 (by omega)
  have hto := tolAtom l hs
  have hto' := tolPlanStep p hs'
  have hl' : (l.map c55).length ≤ 1048576 := by simpa using hs.1
  have hp' : (p.map c63).length ≤ 1048576 := by simpa using hs'.1
  refine EvP.bind hto (fun x hx => ?_)
  subst hx
  refine EvP.bind hto' (fun x hx => ?_)
  subst hx
  refine EvP.bind (spec_plan _ _ hl' hp') (fun w hw => ?_)
  refine EvP.bind hto (fun x hx => ?_)
  subst hx
  refine EvP.bind hto' (fun x hx => ?_)
  subst hx
  refine EvP.bind (impl_plan _ _ hl' hp') (fun g hg => ?_)
  refine EvP.pos (by rcases hw with ⟨rfl, h1⟩ | ⟨rfl, h1⟩ <;> rcases hg with ⟨rfl, h2⟩ | ⟨rfl, h2⟩ <;> first | rfl | exact absurd h1 h2 | exact absurd h2 h1) ?_
  refine EvP.bind hto (fun x hx => ?_)
  subst hx
  refine EvP.bind (eqlAtom _ (smL_map hs le_c55)) (fun b hb => ?_)
  refine EvP.pos hb ?_
  refine EvP.bind hto' (fun x hx => ?_)
  subst hx
  refine EvP.bind (eqlPlanStep _ (smL_map hs' le_c63)) (fun b hb => ?_)
  exact EvP.pos hb (EvP.ret rfl)
end Go.Proofs.Ytelfhdblldapmaa.Pure
