/- The program's AtomsFault and the reference's AtomsFault tell the same code for all lists of atoms within the law's size bound: both ask the same of each atom's type and names; a name is a word of the language in the one exactly if it is in the other's list. No condition beyond the statement's own. -/
import Derived.Test.YtfokinbpepaamaaOpnFnExactAtomsFault
namespace Go.Proofs.Ytfokinbpepaamaa.Pure
open Go.RowKit Go.Proofs.Ytfokinbpepaamaa.PFnExactAtomsFault Go.Proofs.YtfokinbpepaamaaW.PrintWords Go.Proofs.YtfokinbpepaamaaW.PrintLast Go.Proofs.Ytfokinbpepaamaa.OFnExactAtomsFault
set_option linter.unusedVariables false
/-- With enough rounds g tells something of which P holds. -/
def EvP {α : Type} (g : Nat → Option α) (P : α → Prop) : Prop := ∃ r, Ev g r ∧ P r
section
variable {α β : Type}
theorem EvP.ret {P : α → Prop} {r : α} (h : P r) : EvP (fun _ => some r) P := ⟨r, Ev.now r, h⟩
theorem EvP.now {P : α → Prop} {o : Option α} {r : α} (e : o = some r) (h : P r) : EvP (fun _ => o) P := ⟨r, ⟨0, fun _ _ => e⟩, h⟩
theorem EvP.ite {c : Prop} [Decidable c] {f g : Nat → Option α} {P : α → Prop} (h : c → EvP f P) (h' : ¬ c → EvP g P) : EvP (fun k => if c then f k else g k) P := by
  by_cases hc : c
  · simp only [if_pos hc]; exact h hc
  · simp only [if_neg hc]; exact h' hc
theorem EvP.pos {c : Prop} [Decidable c] {f g : Nat → Option α} {P : α → Prop} (hc : c) (h : EvP f P) : EvP (fun k => if c then f k else g k) P := by
  simp only [if_pos hc]; exact h
theorem EvP.neg {c : Prop} [Decidable c] {f g : Nat → Option α} {P : α → Prop} (hc : ¬ c) (h : EvP g P) : EvP (fun k => if c then f k else g k) P := by
  simp only [if_neg hc]; exact h
theorem EvP.bind {g : Nat → Option α} {f : Nat → α → Option β} {Q : α → Prop} {P : β → Prop} (h : EvP g Q) (k : ∀ a, Q a → EvP (fun n => f n a) P) : EvP (fun n => (g n).bind (f n)) P := by
  obtain ⟨a, ha, hq⟩ := h
  obtain ⟨r, hr, hp⟩ := k a hq
  exact ⟨r, Ev.bind ha hr, hp⟩
theorem EvP.mono {g : Nat → Option α} {P Q : α → Prop} (h : EvP g P) (k : ∀ a, P a → Q a) : EvP g Q := by
  obtain ⟨r, hr, hp⟩ := h
  exact ⟨r, hr, k r hp⟩
theorem EvP.step {g f : Nat → Option α} {P : α → Prop} (h : ∀ k, g (k + 1) = f k) (k : EvP f P) : EvP g P := by
  obtain ⟨r, hr, hp⟩ := k
  exact ⟨r, Ev.step h hr, hp⟩
theorem EvP.rounds {g : Nat → Option α} {r : α} (h : EvP g (· = r)) : ∃ k, g k = some r := by
  obtain ⟨_, hr, rfl⟩ := h
  exact hr.rounds
/-- A loop (or a function that calls itself) with a measure m and an invariant inv; 'ih': what a later round tells. -/
theorem EvP.whl1 {σ ρ : Type} {g : Nat → σ → Option ρ} {P : ρ → Prop} (m : σ → Nat) (inv : σ → Prop)
    (step : ∀ s, inv s → (∀ s', m s' < m s → inv s' → EvP (fun k => g k s') P) → EvP (fun k => g (k + 1) s) P) : ∀ s, inv s → EvP (fun k => g k s) P := by
  have H : ∀ (n : Nat) (s : σ), m s < n → inv s → EvP (fun k => g k s) P := by
    intro n
    induction n with
    | zero => intro s h; exact absurd h (Nat.not_lt_zero _)
    | succ n ih =>
      intro s hm hs
      exact EvP.step (f := fun k => g (k + 1) s) (fun _ => rfl) (step s hs (fun s' h hs' => ih s' (by omega) hs'))
  exact fun s hs => H (m s + 1) s (Nat.lt_succ_self _) hs
theorem EvP.whl2 {σ τ ρ : Type} {g : Nat → σ → τ → Option ρ} {P : ρ → Prop} (m : σ → τ → Nat) (inv : σ → τ → Prop)
    (step : ∀ s t, inv s t → (∀ s' t', m s' t' < m s t → inv s' t' → EvP (fun k => g k s' t') P) → EvP (fun k => g (k + 1) s t) P) : ∀ s t, inv s t → EvP (fun k => g k s t) P :=
  fun s t h => EvP.whl1 (g := fun k (x : σ × τ) => g k x.1 x.2) (m := fun x => m x.1 x.2) (inv := fun x => inv x.1 x.2) (fun x hx ih => step x.1 x.2 hx (fun s' t' hm hi => ih (s', t') hm hi)) (s, t) h
theorem EvP.whl3 {σ τ υ ρ : Type} {g : Nat → σ → τ → υ → Option ρ} {P : ρ → Prop} (m : σ → τ → υ → Nat) (inv : σ → τ → υ → Prop)
    (step : ∀ s t u, inv s t u → (∀ s' t' u', m s' t' u' < m s t u → inv s' t' u' → EvP (fun k => g k s' t' u') P) → EvP (fun k => g (k + 1) s t u) P) : ∀ s t u, inv s t u → EvP (fun k => g k s t u) P :=
  fun s t u h => EvP.whl1 (g := fun k (x : σ × τ × υ) => g k x.1 x.2.1 x.2.2) (m := fun x => m x.1 x.2.1 x.2.2) (inv := fun x => inv x.1 x.2.1 x.2.2) (fun x hx ih => step x.1 x.2.1 x.2.2 hx (fun s' t' u' hm hi => ih (s', t', u') hm hi)) (s, t, u) h
theorem EvP.whl4 {σ τ υ φ ρ : Type} {g : Nat → σ → τ → υ → φ → Option ρ} {P : ρ → Prop} (m : σ → τ → υ → φ → Nat) (inv : σ → τ → υ → φ → Prop)
    (step : ∀ s t u v, inv s t u v → (∀ s' t' u' v', m s' t' u' v' < m s t u v → inv s' t' u' v' → EvP (fun k => g k s' t' u' v') P) → EvP (fun k => g (k + 1) s t u v) P) : ∀ s t u v, inv s t u v → EvP (fun k => g k s t u v) P :=
  fun s t u v h => EvP.whl1 (g := fun k (x : σ × τ × υ × φ) => g k x.1 x.2.1 x.2.2.1 x.2.2.2) (m := fun x => m x.1 x.2.1 x.2.2.1 x.2.2.2) (inv := fun x => inv x.1 x.2.1 x.2.2.1 x.2.2.2) (fun x hx ih => step x.1 x.2.1 x.2.2.1 x.2.2.2 hx (fun s' t' u' v' hm hi => ih (s', t', u', v') hm hi)) (s, t, u, v) h
theorem wrap_in {x : Int} (h0 : -9223372036854775808 ≤ x) (h1 : x ≤ 9223372036854775807) : wrap64 x = x := by
  unfold wrap64
  omega
theorem wrap_next {i n : Nat} (h : i < n) (hn : n ≤ 9223372036854775807) : wrap64 ((i : Int) + 1) = ((i + 1 : Nat) : Int) := by
  rw [wrap_in (by omega) (by omega)]
  omega
theorem set_at {xs : List α} {i : Nat} (z : α) (f : Nat → α) (n : Nat) (hxs : xs = (List.range i).map f ++ List.replicate (n - i) z) (hi : i < n) : xs.set i (f i) = (List.range (i + 1)).map f ++ List.replicate (n - (i + 1)) z := by
  subst hxs
  rw [List.set_append_right _ _ (by simp)]
  simp only [List.length_map, List.length_range, Nat.sub_self]
  obtain ⟨m, hm⟩ : ∃ m, n - i = m + 1 := ⟨n - i - 1, by omega⟩
  rw [hm, show n - (i + 1) = m by omega, List.replicate_succ, List.set_cons_zero, List.range_succ]
  simp
theorem map_of_range {xs : List β} (z : β) (c : β → α) : (List.range xs.length).map (fun i => c (xs.getD i z)) = xs.map c := by
  apply List.ext_getElem?
  intro i
  by_cases hi : i < xs.length
  · simp [hi, List.getD]
  · simp [hi]
theorem getD_mem {xs : List α} {i : Nat} (z : α) (h : i < xs.length) : xs.getD i z ∈ xs := by
  rw [List.getD_eq_getElem?_getD, List.getElem?_eq_getElem h]
  exact List.getElem_mem h
end
/-- f and g, with enough rounds, tell two things of which R holds. -/
def Ev2 {α β : Type} (f : Nat → Option α) (g : Nat → Option β) (R : α → β → Prop) : Prop := ∃ a b, Ev f a ∧ Ev g b ∧ R a b
section
variable {α β γ δ : Type}
theorem Ev2.ret {R : α → β → Prop} {a : α} {b : β} (h : R a b) : Ev2 (fun _ => some a) (fun _ => some b) R := ⟨a, b, Ev.now a, Ev.now b, h⟩
theorem Ev2.of {f : Nat → Option α} {g : Nat → Option β} {P : α → Prop} {Q : β → Prop} {R : α → β → Prop} (h : EvP f P) (h' : EvP g Q) (k : ∀ a b, P a → Q b → R a b) : Ev2 f g R := by
  obtain ⟨a, ha, hp⟩ := h
  obtain ⟨b, hb, hq⟩ := h'
  exact ⟨a, b, ha, hb, k a b hp hq⟩
theorem Ev2.ite {c : Prop} [Decidable c] {f f' : Nat → Option α} {g g' : Nat → Option β} {R : α → β → Prop} (h : c → Ev2 f g R) (h' : ¬ c → Ev2 f' g' R) : Ev2 (fun k => if c then f k else f' k) (fun k => if c then g k else g' k) R := by
  by_cases hc : c
  · simp only [if_pos hc]; exact h hc
  · simp only [if_neg hc]; exact h' hc
theorem Ev2.lite {c : Prop} [Decidable c] {f f' : Nat → Option α} {g : Nat → Option β} {R : α → β → Prop} (h : c → Ev2 f g R) (h' : ¬ c → Ev2 f' g R) : Ev2 (fun k => if c then f k else f' k) g R := by
  by_cases hc : c
  · simp only [if_pos hc]; exact h hc
  · simp only [if_neg hc]; exact h' hc
theorem Ev2.rite {c : Prop} [Decidable c] {f : Nat → Option α} {g g' : Nat → Option β} {R : α → β → Prop} (h : c → Ev2 f g R) (h' : ¬ c → Ev2 f g' R) : Ev2 f (fun k => if c then g k else g' k) R := by
  by_cases hc : c
  · simp only [if_pos hc]; exact h hc
  · simp only [if_neg hc]; exact h' hc
theorem Ev2.lpos {c : Prop} [Decidable c] {f f' : Nat → Option α} {g : Nat → Option β} {R : α → β → Prop} (hc : c) (h : Ev2 f g R) : Ev2 (fun k => if c then f k else f' k) g R := Ev2.lite (fun _ => h) (fun n => absurd hc n)
theorem Ev2.lneg {c : Prop} [Decidable c] {f f' : Nat → Option α} {g : Nat → Option β} {R : α → β → Prop} (hc : ¬ c) (h : Ev2 f' g R) : Ev2 (fun k => if c then f k else f' k) g R := Ev2.lite (fun n => absurd n hc) (fun _ => h)
theorem Ev2.rpos {c : Prop} [Decidable c] {f : Nat → Option α} {g g' : Nat → Option β} {R : α → β → Prop} (hc : c) (h : Ev2 f g R) : Ev2 f (fun k => if c then g k else g' k) R := Ev2.rite (fun _ => h) (fun n => absurd hc n)
theorem Ev2.rneg {c : Prop} [Decidable c] {f : Nat → Option α} {g g' : Nat → Option β} {R : α → β → Prop} (hc : ¬ c) (h : Ev2 f g' R) : Ev2 f (fun k => if c then g k else g' k) R := Ev2.rite (fun n => absurd n hc) (fun _ => h)
theorem Ev2.bind {f : Nat → Option α} {g : Nat → Option β} {f' : Nat → α → Option γ} {g' : Nat → β → Option δ} {Q : α → β → Prop} {R : γ → δ → Prop} (h : Ev2 f g Q) (k : ∀ a b, Q a b → Ev2 (fun n => f' n a) (fun n => g' n b) R) : Ev2 (fun n => (f n).bind (f' n)) (fun n => (g n).bind (g' n)) R := by
  obtain ⟨a, b, ha, hb, hq⟩ := h
  obtain ⟨c, d, hc, hd, hr⟩ := k a b hq
  exact ⟨c, d, Ev.bind ha hc, Ev.bind hb hd, hr⟩
theorem Ev2.lbind {f : Nat → Option α} {f' : Nat → α → Option γ} {g : Nat → Option δ} {Q : α → Prop} {R : γ → δ → Prop} (h : EvP f Q) (k : ∀ a, Q a → Ev2 (fun n => f' n a) g R) : Ev2 (fun n => (f n).bind (f' n)) g R := by
  obtain ⟨a, ha, hq⟩ := h
  obtain ⟨c, d, hc, hd, hr⟩ := k a hq
  exact ⟨c, d, Ev.bind ha hc, hd, hr⟩
theorem Ev2.rbind {f : Nat → Option γ} {g : Nat → Option β} {g' : Nat → β → Option δ} {Q : β → Prop} {R : γ → δ → Prop} (h : EvP g Q) (k : ∀ b, Q b → Ev2 f (fun n => g' n b) R) : Ev2 f (fun n => (g n).bind (g' n)) R := by
  obtain ⟨b, hb, hq⟩ := h
  obtain ⟨c, d, hc, hd, hr⟩ := k b hq
  exact ⟨c, d, hc, Ev.bind hb hd, hr⟩
theorem Ev2.mono {f : Nat → Option α} {g : Nat → Option β} {R S : α → β → Prop} (h : Ev2 f g R) (k : ∀ a b, R a b → S a b) : Ev2 f g S := by
  obtain ⟨a, b, ha, hb, hr⟩ := h
  exact ⟨a, b, ha, hb, k a b hr⟩
theorem Ev2.and {f : Nat → Option α} {g : Nat → Option β} {R : α → β → Prop} {P : α → Prop} (h : Ev2 f g R) (h' : EvP f P) : Ev2 f g (fun a b => R a b ∧ P a) := by
  obtain ⟨a, b, ha, hb, hr⟩ := h
  obtain ⟨a', ⟨K', ha'⟩, hp⟩ := h'
  obtain ⟨K, ha0⟩ := ha
  have e : some a = some a' := (ha0 (max K K') (Nat.le_max_left _ _)).symm.trans (ha' (max K K') (Nat.le_max_right _ _))
  cases e
  exact ⟨a, b, ⟨K, ha0⟩, hb, hr, hp⟩
/-- Two loops side by side. -/
theorem Ev2.whl {σ τ : Type} {f : Nat → σ → Option α} {g : Nat → τ → Option β} {R : α → β → Prop} (m : σ → τ → Nat) (inv : σ → τ → Prop)
    (step : ∀ s t, inv s t → (∀ s' t', m s' t' < m s t → inv s' t' → Ev2 (fun k => f k s') (fun k => g k t') R) → Ev2 (fun k => f (k + 1) s) (fun k => g (k + 1) t) R) : ∀ s t, inv s t → Ev2 (fun k => f k s) (fun k => g k t) R := by
  have H : ∀ (n : Nat) (s : σ) (t : τ), m s t < n → inv s t → Ev2 (fun k => f k s) (fun k => g k t) R := by
    intro n
    induction n with
    | zero => intro s t h; exact absurd h (Nat.not_lt_zero _)
    | succ n ih =>
      intro s t hm hs
      obtain ⟨a, b, ha, hb, hr⟩ := step s t hs (fun s' t' h hs' => ih s' t' (by omega) hs')
      exact ⟨a, b, Ev.step (f := fun k => f (k + 1) s) (fun _ => rfl) ha, Ev.step (f := fun k => g (k + 1) t) (fun _ => rfl) hb, hr⟩
  exact fun s t hs => H (m s t + 1) s t (Nat.lt_succ_self _) hs
theorem Ev2.lstep {f : Nat → Option α} {g : Nat → Option β} {R : α → β → Prop} (h : Ev2 (fun k => f (k + 1)) g R) : Ev2 f g R := by
  obtain ⟨a, b, ha, hb, hr⟩ := h
  exact ⟨a, b, Ev.step (f := fun k => f (k + 1)) (fun _ => rfl) ha, hb, hr⟩
theorem Ev2.rstep {f : Nat → Option α} {g : Nat → Option β} {R : α → β → Prop} (h : Ev2 f (fun k => g (k + 1)) R) : Ev2 f g R := by
  obtain ⟨a, b, ha, hb, hr⟩ := h
  exact ⟨a, b, ha, Ev.step (f := fun k => g (k + 1)) (fun _ => rfl) hb, hr⟩
end
def Sm (s : ByteArray) : Prop := s.size ≤ 1048576
def SmA {α : Type} (_ : α) : Prop := True
def SmL {α : Type} (sm : α → Prop) (xs : List α) : Prop := xs.length ≤ 1048576 ∧ ∀ x ∈ xs, sm x
theorem smL_map {α β : Type} {P : α → Prop} {Q : β → Prop} {c : α → β} {l : List α} (h : SmL P l) (hc : ∀ x, P x → Q (c x)) : SmL Q (l.map c) :=
  ⟨by simpa using h.1, fun y hy => by obtain ⟨x, hx, rfl⟩ := List.mem_map.1 hy; exact hc x (h.2 x hx)⟩
def sm70 (x : S70) : Prop := Sm x.f0 ∧ Sm x.f1 ∧ Sm x.f2
def c70 (x : S70) : S71 := ⟨x.f0, x.f1, x.f2⟩
theorem sz70 (x : S70) (hx : wf70 x) (a : Int) (ha : 0 ≤ a) (hb : a ≤ 1048576) : EvP (fun k => laws_szAtom.f x.f0 x.f1 x.f2 a) (fun t => -1 ≤ t ∧ t ≤ a ∧ (0 ≤ t → sm70 x)) := by
  obtain ⟨h0, h1, h2⟩ := hx
  unfold Str at h0
  unfold Str at h1
  unfold Str at h2
  unfold laws_szAtom.f
  rw [show wrap64 (a - (x.f0.size : Int)) = a - x.f0.size from wrap_in (by omega) (by omega)]
  refine EvP.ite (fun _ => EvP.ret ⟨by omega, by omega, fun h => absurd h (by omega)⟩) (fun g0 => ?_)
  rw [show wrap64 ((a - (x.f0.size : Int)) - (x.f1.size : Int)) = (a - (x.f0.size : Int)) - x.f1.size from wrap_in (by omega) (by omega)]
  refine EvP.ite (fun _ => EvP.ret ⟨by omega, by omega, fun h => absurd h (by omega)⟩) (fun g1 => ?_)
  rw [show wrap64 (((a - (x.f0.size : Int)) - (x.f1.size : Int)) - (x.f2.size : Int)) = ((a - (x.f0.size : Int)) - (x.f1.size : Int)) - x.f2.size from wrap_in (by omega) (by omega)]
  refine EvP.ite (fun _ => EvP.ret ⟨by omega, by omega, fun h => absurd h (by omega)⟩) (fun g2 => ?_)
  exact EvP.ret ⟨by omega, by omega, fun _ => ⟨by unfold Sm; omega, by unfold Sm; omega, by unfold Sm; omega⟩⟩
theorem szlAtom (l : List S70) (hl : Lst wf70 l) (a : Int) (ha : 0 ≤ a) (hb : a ≤ 1048576) : EvP (fun k => laws_szAtomS.f k l a) (fun t => -1 ≤ t ∧ t ≤ a ∧ (0 ≤ t → SmL sm70 l)) := by
  obtain ⟨h0, h1⟩ := hl
  unfold laws_szAtomS.f
  rw [show wrap64 (a - (l.length : Int)) = a - l.length from wrap_in (by omega) (by omega)]
  refine EvP.ite (fun _ => EvP.ret ⟨by omega, by omega, fun h => absurd h (by omega)⟩) (fun g => ?_)
  refine EvP.whl2 (g := fun k (s : Int) (i : Int) => laws_szAtomS.l0 k l s i) (m := fun _ i => (l.length - i).toNat) (inv := fun s i => ∃ j : Nat, i = j ∧ j ≤ l.length ∧ 0 ≤ s ∧ s ≤ a ∧ ∀ q, q < j → ∀ y, l[q]? = some y → sm70 y) ?_ _ _ ⟨0, rfl, by omega, by omega, by omega, fun q hq => absurd hq (by omega)⟩
  rintro s i ⟨j, rfl, hj, s0, s1, hs⟩ ih
  simp only [laws_szAtomS.l0]
  refine EvP.ite (fun h => ?_) (fun h => EvP.ret ⟨by omega, by omega, fun _ => ⟨by omega, fun y hy => ?_⟩⟩)
  · have hj' : j < l.length := by omega
    refine EvP.pos (by omega) ?_
    refine EvP.bind (sz70 (rd_T70 l j) (h1 _ (getD_mem _ (by simpa using hj'))) s (by omega) (by omega)) (fun t ht => ?_)
    obtain ⟨p1, q1, r1⟩ := ht
    refine EvP.ite (fun _ => EvP.ret ⟨by omega, by omega, fun h => absurd h (by omega)⟩) (fun g1 => ?_)
    have hlast : sm70 l[j] := by have := r1 (by omega); simpa [rd_T70, List.getD, List.getElem?_eq_getElem hj'] using this
    rw [wrap_next hj' (by omega)]
    refine ih _ _ (by omega) ⟨j + 1, rfl, by omega, by omega, by omega, fun q hq y hy => ?_⟩
    by_cases e : q = j
    · subst e; rw [List.getElem?_eq_getElem hj'] at hy; cases hy; exact hlast
    · exact hs q (by omega) y hy
  · obtain ⟨q, hq, rfl⟩ := List.mem_iff_getElem.1 hy
    exact hs q (by omega) _ (List.getElem?_eq_getElem hq)
theorem to70 (x : S70) (hx : sm70 x) : EvP (fun k => laws_toAtom.f x.f0 x.f1 x.f2) (· = ((c70 x).f0, (c70 x).f1, (c70 x).f2)) := by
  unfold laws_toAtom.f
  obtain ⟨h0, h1, h2⟩ := hx
  exact EvP.ret rfl
theorem tolAtom (l : List S70) (hl : SmL sm70 l) : EvP (fun k => laws_toAtomS.f k l) (· = l.map c70) := by
  obtain ⟨h0, h1⟩ := hl
  unfold laws_toAtomS.f
  refine EvP.pos (by omega) (EvP.pos (by omega) ?_)
  refine EvP.whl2 (g := fun k (s : List S71) (i : Int) => laws_toAtomS.l0 k l s i) (m := fun _ i => (l.length - i).toNat) (inv := fun s i => ∃ j : Nat, i = j ∧ j ≤ l.length ∧ s = (List.range j).map (fun q : Nat => c70 (rd_T70 l (q : Int))) ++ List.replicate (l.length - j) z71) ?_ _ _ ⟨0, rfl, by omega, by simp⟩
  rintro s i ⟨j, rfl, hj, hs⟩ ih
  simp only [laws_toAtomS.l0]
  refine EvP.ite (fun h => ?_) (fun h => EvP.ret ?_)
  · have hj' : j < l.length := by omega
    refine EvP.pos (by omega) ?_
    refine EvP.bind (to70 (rd_T70 l j) (h1 _ (getD_mem _ (by simpa using hj')))) (fun r hr => ?_)
    subst hr
    refine EvP.pos (by rw [hs]; simp; omega) ?_
    rw [wrap_next hj' (by omega)]
    refine ih _ _ (by omega) ⟨j + 1, rfl, hj', ?_⟩
    exact set_at z71 (fun q : Nat => c70 (rd_T70 l (q : Int))) _ hs hj'
  · obtain rfl : j = l.length := by omega
    rw [hs]; simpa [rd_T70] using map_of_range z70 c70 (xs := l)
def le71 (x : S71) : Prop := True
theorem eq71 (x : S71) (hx : le71 x) : EvP (fun k => laws_eqAtom.f x.f0 x.f1 x.f2 x.f0 x.f1 x.f2) (· = true) := by
  unfold laws_eqAtom.f
  refine EvP.pos rfl ?_
  refine EvP.pos rfl ?_
  refine EvP.pos rfl ?_
  exact EvP.ret rfl
theorem eqlAtom (l : List S71) (hl : SmL le71 l) : EvP (fun k => laws_eqAtomS.f k l l) (· = true) := by
  obtain ⟨h0, h1⟩ := hl
  unfold laws_eqAtomS.f
  refine EvP.pos rfl ?_
  refine EvP.whl1 (g := fun k (i : Int) => laws_eqAtomS.l0 k l l i) (m := fun i => (l.length - i).toNat) (inv := fun i => ∃ j : Nat, i = j ∧ j ≤ l.length) ?_ _ ⟨0, rfl, by omega⟩
  rintro i ⟨j, rfl, hj⟩ ih
  simp only [laws_eqAtomS.l0]
  refine EvP.ite (fun h => ?_) (fun h => EvP.ret rfl)
  have hj' : j < l.length := by omega
  refine EvP.pos (by omega) (EvP.pos (by omega) ?_)
  refine EvP.bind (eq71 (rd_T71 l j) (h1 _ (getD_mem _ (by simpa using hj')))) (fun r hr => ?_)
  subst hr
  refine EvP.pos rfl ?_
  rw [wrap_next hj' (by omega)]
  exact ih _ (by omega) ⟨j + 1, rfl, by omega⟩
theorem le_c70 (x : S70) (hx : sm70 x) : le71 (c70 x) := by
  exact trivial
/-! Names and words: plain facts on bytes -/
def joinSp (ws : List (List UInt8)) : List UInt8 := 32 :: ws.flatMap (· ++ [32])
theorem joinSp_cons (w : List UInt8) (ws : List (List UInt8)) : joinSp (w :: ws) = 32 :: (w ++ joinSp ws) := by
  simp [joinSp]
theorem pre_eq : ∀ (t w : List UInt8) (r : List UInt8), 32 ∉ t → 32 ∉ w → (t ++ [32]) <+: (w ++ 32 :: r) → t = w
  | [], [], _, _, _, _ => rfl
  | [], c :: w, r, _, hw, h => by
    obtain ⟨z, hz⟩ := h
    simp at hz
    exact absurd (by simp [hz.1]) hw
  | c :: t, [], r, ht, _, h => by
    obtain ⟨z, hz⟩ := h
    simp at hz
    exact absurd (by simp [hz.1]) ht
  | c :: t, d :: w, r, ht, hw, h => by
    obtain ⟨z, hz⟩ := h
    simp at hz
    have := pre_eq t w r (by simp at ht; exact ht.2) (by simp at hw; exact hw.2) ⟨z, by simp [hz.2]⟩
    rw [this, hz.1]
theorem infix_skip : ∀ (w t r : List UInt8), 32 ∉ w → (32 :: t) <:+: (w ++ r) → (32 :: t) <:+: r
  | [], _, _, _, h => h
  | c :: w, t, r, hw, h => by
    rw [List.cons_append, List.infix_cons_iff] at h
    simp at hw
    rcases h with h | h
    · obtain ⟨z, hz⟩ := h
      simp at hz
      exact absurd hz.1 hw.1
    · exact infix_skip w t r hw.2 h
theorem infix_join : ∀ (ws : List (List UInt8)) (t : List UInt8), t ≠ [] → 32 ∉ t → (∀ w ∈ ws, 32 ∉ w) → ((32 :: (t ++ [32])) <:+: joinSp ws ↔ t ∈ ws)
  | [], t, hne, _, _ => by
    constructor
    · intro h
      have := h.length_le
      simp [joinSp] at this
    · intro h; cases h
  | w :: ws, t, hne, ht, hw => by
    have ih := infix_join ws t hne ht (fun x hx => hw x (List.mem_cons_of_mem _ hx))
    have h0 := hw w (List.mem_cons_self ..)
    rw [joinSp_cons, List.infix_cons_iff, List.mem_cons]
    constructor
    · rintro (h | h)
      · left
        obtain ⟨z, hz⟩ := h
        simp only [List.cons_append, List.cons.injEq, true_and] at hz
        exact pre_eq t w (ws.flatMap (· ++ [32])) ht h0 ⟨z, hz⟩
      · exact Or.inr (ih.1 (infix_skip w _ _ h0 h))
    · rintro (rfl | h)
      · left
        exact ⟨ws.flatMap (· ++ [32]), by simp [joinSp]⟩
      · right
        exact (ih.2 h).trans (List.suffix_append w (joinSp ws)).isInfix
theorem contains_iff (s sub : List UInt8) : Go.Lib.contains s sub = true ↔ sub <:+: s := by
  unfold Go.Lib.contains
  rw [decide_eq_true_iff]
  rcases Go.Lib.index_spec s sub with ⟨h, hn⟩ | ⟨i, h, hi, ho, _⟩
  · rw [h]
    constructor
    · intro h; omega
    · rintro ⟨a, b, hab⟩
      have h1 := hn a.length (by rw [← hab]; simp)
      have h2 : sub.isPrefixOf (sub ++ b) = true := List.isPrefixOf_iff_prefix.2 (List.prefix_append _ _)
      rw [Go.Lib.occAt, ← hab, List.append_assoc, List.drop_left, h2] at h1
      cases h1
  · rw [h]
    constructor
    · intro _
      simp only [Go.Lib.occAt, List.isPrefixOf_iff_prefix] at ho
      obtain ⟨z, hz⟩ := ho
      exact ⟨s.take i, z, by rw [List.append_assoc, hz, List.take_append_drop]⟩
    · intro _; omega

def letU (c : UInt8) : Bool := (decide (97 ≤ c.toNat) && decide (c.toNat ≤ 122)) || (decide (65 ≤ c.toNat) && decide (c.toNat ≤ 90))
def digU (c : UInt8) : Bool := decide (48 ≤ c.toNat) && decide (c.toNat ≤ 57)
def nameU (c : UInt8) : Bool := letU c || digU c || c.toNat == 95
def nameL (l : List UInt8) : Bool := decide (1 ≤ l.length) && decide (l.length ≤ 20) && letU (l.headD 0) && l.all nameU
theorem bt_list (s : ByteArray) (j : Nat) (h : j < s.size) : bt s (j : Int) = ((s.data.toList[j]'(by simpa using h)).toNat : Int) := by
  simp [bt, h]
  rfl
theorem letter_some (c : UInt8) : spec_l01Letter.f (c.toNat : Int) = some (letU c) := by
  unfold spec_l01Letter.f letU
  have e1 : ((c.toNat : Int) ≥ 97) = (97 ≤ c.toNat) := propext (by omega)
  have e2 : ((c.toNat : Int) ≤ 122) = (c.toNat ≤ 122) := propext (by omega)
  have e3 : ((c.toNat : Int) ≥ 65) = (65 ≤ c.toNat) := propext (by omega)
  have e4 : ((c.toNat : Int) ≤ 90) = (c.toNat ≤ 90) := propext (by omega)
  simp only [e1, e2, e3, e4]
  by_cases a1 : 97 ≤ c.toNat <;> by_cases a2 : c.toNat ≤ 122 <;> by_cases a3 : 65 ≤ c.toNat <;> simp [a1, a2, a3]
theorem letter_impl (c : UInt8) : impl_isLetter.f (c.toNat : Int) = some (letU c) := letter_some c
theorem digit_some (c : UInt8) : spec_l01Digit.f (c.toNat : Int) = some (digU c) := by
  unfold spec_l01Digit.f digU
  have e1 : ((c.toNat : Int) ≥ 48) = (48 ≤ c.toNat) := propext (by omega)
  have e2 : ((c.toNat : Int) ≤ 57) = (c.toNat ≤ 57) := propext (by omega)
  simp only [e1, e2]
  by_cases a1 : 48 ≤ c.toNat <;> simp [a1]
theorem nameU_of {c : UInt8} : nameU c = (letU c || digU c || c.toNat == 95) := rfl
theorem digit_impl (c : UInt8) : impl_isDigit.f (c.toNat : Int) = some (digU c) := digit_some c
theorem all_drop {l : List UInt8} {j : Nat} (h : j < l.length) : (l.drop j).all nameU = (nameU l[j] && (l.drop (j + 1)).all nameU) := by
  rw [List.drop_eq_getElem_cons h, List.all_cons]
theorem spec_name_loop (s : ByteArray) (hs : s.size ≤ 20) (j : Nat) (hj : j ≤ s.size) : EvP (fun k => spec_l01Name.l0 k s (j : Int)) (· = (s.data.toList.drop j).all nameU) := by
  refine EvP.whl1 (g := fun k (i : Int) => spec_l01Name.l0 k s i) (m := fun i => (s.size - i).toNat) (inv := fun i => ∃ q : Nat, i = q ∧ q ≤ s.size ∧ (s.data.toList.drop q).all nameU = (s.data.toList.drop j).all nameU) ?_ _ ⟨j, rfl, hj, rfl⟩
  rintro i ⟨q, rfl, hq, hv⟩ ih
  simp only [spec_l01Name.l0]
  have hlen : s.data.toList.length = s.size := by simp
  refine EvP.ite (fun h => ?_) (fun h => EvP.ret ?_)
  · have hq' : q < s.size := by omega
    have hn := ih ((q + 1 : Nat) : Int) (by omega)
    rw [all_drop (by omega)] at hv
    rw [bt_list s q hq', letter_some, digit_some, wrap_next hq' (by omega)]
    generalize s.data.toList[q]'(by omega) = c at hv
    refine EvP.pos (by omega) ?_
    simp only [Option.bind_some]
    refine EvP.ite (fun h1 => hn ⟨q + 1, rfl, hq', by rw [← hv, nameU_of, h1]; rfl⟩) (fun h1 => ?_)
    refine EvP.ite (fun h2 => hn ⟨q + 1, rfl, hq', by rw [← hv, nameU_of, h2, Bool.or_true]; rfl⟩) (fun h2 => ?_)
    refine EvP.ite (fun h3 => hn ⟨q + 1, rfl, hq', ?_⟩) (fun h3 => EvP.ret ?_)
    · rw [← hv, nameU_of, show (c.toNat == 95) = true from by simpa using (by omega : c.toNat = 95), Bool.or_true]; rfl
    · rw [← hv, nameU_of, show (c.toNat == 95) = false from by simpa using (by omega : ¬ c.toNat = 95), show letU c = false from by simpa using h1, show digU c = false from by simpa using h2]; rfl
  · obtain rfl : q = s.size := by omega
    rw [← hv, List.drop_of_length_le (by omega)]; rfl
theorem impl_name_loop (s : ByteArray) (hs : s.size ≤ 20) (j : Nat) (hj : j ≤ s.size) : EvP (fun k => impl_isName.l0 k s (s.size : Int) (j : Int)) (· = (s.data.toList.drop j).all nameU) := by
  refine EvP.whl1 (g := fun k (i : Int) => impl_isName.l0 k s s.size i) (m := fun i => (s.size - i).toNat) (inv := fun i => ∃ q : Nat, i = q ∧ q ≤ s.size ∧ (s.data.toList.drop q).all nameU = (s.data.toList.drop j).all nameU) ?_ _ ⟨j, rfl, hj, rfl⟩
  rintro i ⟨q, rfl, hq, hv⟩ ih
  simp only [impl_isName.l0]
  have hlen : s.data.toList.length = s.size := by simp
  refine EvP.ite (fun h => ?_) (fun h => EvP.ret ?_)
  · have hq' : q < s.size := by omega
    have hn := ih ((q + 1 : Nat) : Int) (by omega)
    rw [all_drop (by omega)] at hv
    rw [bt_list s q hq', letter_impl, digit_impl, wrap_next hq' (by omega)]
    generalize s.data.toList[q]'(by omega) = c at hv
    refine EvP.pos (by omega) (EvP.pos h ?_)
    simp only [Option.bind_some]
    refine EvP.ite (fun h1 => hn ⟨q + 1, rfl, hq', by rw [← hv, nameU_of, h1]; rfl⟩) (fun h1 => ?_)
    refine EvP.ite (fun h2 => hn ⟨q + 1, rfl, hq', by rw [← hv, nameU_of, h2, Bool.or_true]; rfl⟩) (fun h2 => ?_)
    refine EvP.ite (fun h3 => hn ⟨q + 1, rfl, hq', ?_⟩) (fun h3 => EvP.ret ?_)
    · rw [← hv, nameU_of, show (c.toNat == 95) = true from by simpa using (by omega : c.toNat = 95), Bool.or_true]; rfl
    · rw [← hv, nameU_of, show (c.toNat == 95) = false from by simpa using (by omega : ¬ c.toNat = 95), show letU c = false from by simpa using h1, show digU c = false from by simpa using h2]; rfl
  · obtain rfl : q = s.size := by omega
    rw [← hv, List.drop_of_length_le (by omega)]; rfl
theorem head_of : ∀ (l : List UInt8) (h : 0 < l.length), l[0] = l.headD 0
  | [], h => by cases h
  | _ :: _, _ => rfl
theorem head_bt (s : ByteArray) (h : 0 < s.size) : bt s 0 = ((s.data.toList.headD 0).toNat : Int) := by
  have := bt_list s 0 h
  rw [show ((0 : Nat) : Int) = 0 from rfl] at this
  rw [this, head_of]
theorem nameL_no (l : List UInt8) (h : ¬ (1 ≤ l.length ∧ l.length ≤ 20 ∧ letU (l.headD 0) = true)) : nameL l = false := by
  rw [Bool.eq_false_iff]
  intro hh
  simp only [nameL, Bool.and_eq_true, decide_eq_true_eq] at hh
  exact h ⟨hh.1.1.1, hh.1.1.2, hh.1.2⟩
theorem nameL_split (l : List UInt8) (h : letU (l.headD 0) = true) (hl : 1 ≤ l.length) : (l.drop 1).all nameU = l.all nameU := by
  cases l with
  | nil => cases hl
  | cons c r =>
    have hc : letU c = true := by simpa using h
    simp [nameU, hc]
theorem spec_name (s : ByteArray) : EvP (fun k => spec_l01Name.f k s) (· = nameL s.data.toList) := by
  unfold spec_l01Name.f
  have hlen : s.data.toList.length = s.size := by simp
  have no : ¬ (1 ≤ s.size ∧ s.size ≤ 20 ∧ letU (s.data.toList.headD 0) = true) → EvP (fun k => spec_l01Name.j0 k s true) (· = nameL s.data.toList) := by
    intro h
    refine EvP.step (f := fun _ => some false) (fun k => by simp [spec_l01Name.j0]) (EvP.ret ?_)
    exact (nameL_no _ (by rw [hlen]; exact h)).symm
  refine EvP.ite (fun h => no (by omega)) (fun h => EvP.ite (fun h2 => no (by omega)) (fun h2 => EvP.pos (by omega) ?_))
  rw [head_bt s (by omega), letter_some]
  simp only [Option.bind_some]
  by_cases h3 : letU (s.data.toList.headD 0) = true
  · rw [h3]
    refine EvP.step (f := fun k => spec_l01Name.l0 k s 1) (fun k => by simp [spec_l01Name.j0]) ?_
    refine (spec_name_loop s (by omega) 1 (by omega)).mono (fun b hb => ?_)
    rw [hb, nameL_split _ h3 (by omega)]
    unfold nameL
    rw [h3, hlen]
    simp [show 1 ≤ s.size from by omega, show s.size ≤ 20 from by omega]
  · rw [show letU (s.data.toList.headD 0) = false from by simpa using h3]
    exact no (fun hh => h3 hh.2.2)
theorem impl_name (s : ByteArray) : EvP (fun k => impl_isName.f k s) (· = nameL s.data.toList) := by
  unfold impl_isName.f
  have hlen : s.data.toList.length = s.size := by simp
  have no : ¬ (1 ≤ s.size ∧ s.size ≤ 20 ∧ letU (s.data.toList.headD 0) = true) → EvP (fun k => impl_isName.j0 k s true) (· = nameL s.data.toList) := by
    intro h
    refine EvP.step (f := fun _ => some false) (fun k => by simp [impl_isName.j0]) (EvP.ret ?_)
    exact (nameL_no _ (by rw [hlen]; exact h)).symm
  refine EvP.ite (fun h => no (by omega)) (fun h => EvP.ite (fun h2 => no (by omega)) (fun h2 => EvP.pos (by omega) ?_))
  rw [head_bt s (by omega), letter_impl]
  simp only [Option.bind_some]
  by_cases h3 : letU (s.data.toList.headD 0) = true
  · rw [h3]
    refine EvP.step (f := fun k => impl_isName.l0 k s s.size 0) (fun k => by simp [impl_isName.j0]) ?_
    refine (impl_name_loop s (by omega) 0 (by omega)).mono (fun b hb => ?_)
    rw [hb, List.drop_zero]
    unfold nameL
    rw [h3, hlen]
    simp [show 1 ≤ s.size from by omega, show s.size ≤ 20 from by omega]
  · rw [show letU (s.data.toList.headD 0) = false from by simpa using h3]
    exact no (fun hh => h3 hh.2.2)
def wordsW : List (List UInt8) := [[110, 117, 108, 108], [116, 114, 117, 101], [102, 97, 108, 115, 101], [110, 111, 116], [111, 114], [120, 111, 114], [97, 110, 100], [105, 110], [105, 115], [99, 97, 115, 101], [119, 104, 101, 110], [116, 104, 101, 110], [101, 108, 115, 101], [101, 110, 100], [119, 104, 101, 114, 101], [97, 108, 108], [97, 110, 121], [109, 97, 116, 99, 104], [111, 112, 116, 105, 111, 110, 97, 108], [119, 105, 116, 104], [114, 101, 116, 117, 114, 110], [100, 105, 115, 116, 105, 110, 99, 116], [111, 114, 100, 101, 114], [98, 121], [100, 101, 115, 99], [115, 107, 105, 112], [108, 105, 109, 105, 116], [97, 115], [117, 110, 119, 105, 110, 100], [99, 114, 101, 97, 116, 101], [115, 101, 116], [114, 101, 109, 111, 118, 101], [100, 101, 108, 101, 116, 101], [100, 101, 116, 97, 99, 104], [109, 101, 114, 103, 101], [111, 110], [117, 110, 105, 111, 110], [115, 104, 111, 114, 116, 101, 115, 116], [116, 114, 97, 105, 108], [115, 105, 109, 112, 108, 101], [119, 97, 108, 107]]
def freeL (l : List UInt8) : Bool := nameL l && !decide (l ∈ wordsW)
theorem in_texts (l : List ByteArray) (a : ByteArray) (hl : l.length ≤ 1048576) : EvP (fun k => spec_l01InTexts.f k l a) (· = l.any (fun x => decide (x.toList = a.toList))) := by
  unfold spec_l01InTexts.f
  refine EvP.whl1 (g := fun k (i : Int) => spec_l01InTexts.l0 k l a i) (m := fun i => (l.length - i).toNat) (inv := fun i => ∃ q : Nat, i = q ∧ q ≤ l.length ∧ (l.drop q).any (fun x => decide (x.toList = a.toList)) = l.any (fun x => decide (x.toList = a.toList))) ?_ _ ⟨0, rfl, by omega, by simp⟩
  rintro i ⟨q, rfl, hq, hv⟩ ih
  simp only [spec_l01InTexts.l0]
  refine EvP.ite (fun h => ?_) (fun h => EvP.ret ?_)
  · have hq' : q < l.length := by omega
    rw [List.drop_eq_getElem_cons hq', List.any_cons] at hv
    have hr : rdOf ByteArray.empty l (q : Int) = l[q] := by simp [rdOf, List.getD, hq']
    rw [wrap_next hq' (by omega), hr]
    refine EvP.pos (by omega) (EvP.ite (fun h1 => EvP.ret ?_) (fun h1 => ih _ (by omega) ⟨q + 1, rfl, hq', ?_⟩))
    · rw [← hv]; simp [h1]
    · rw [← hv]; simp [h1]
  · obtain rfl : q = l.length := by omega
    rw [← hv, List.drop_of_length_le (by omega)]; rfl
theorem words_join : wordsL = joinSp wordsW := by decide +kernel
theorem words_nosp : ∀ w ∈ wordsW, (32 : UInt8) ∉ w := by decide +kernel
theorem name_nosp {l : List UInt8} (h : nameL l = true) : l ≠ [] ∧ (32 : UInt8) ∉ l ∧ l.length ≤ 20 := by
  unfold nameL at h
  simp only [Bool.and_eq_true, decide_eq_true_eq] at h
  obtain ⟨⟨⟨h1, h2⟩, _⟩, h3⟩ := h
  refine ⟨fun e => (by rw [e] at h1; cases h1), fun hm => ?_, h2⟩
  have := List.all_eq_true.1 h3 _ hm
  exact absurd this (by decide)
theorem word_iff (a : ByteArray) (h : nameL a.data.toList = true) : Go.Lib.contains wordsL ((⟨#[32]⟩ : ByteArray) ++ a ++ (⟨#[32]⟩ : ByteArray)).data.toList = decide (a.data.toList ∈ wordsW) := by
  obtain ⟨h1, h2, _⟩ := name_nosp h
  have e : ((⟨#[32]⟩ : ByteArray) ++ a ++ (⟨#[32]⟩ : ByteArray)).data.toList = 32 :: (a.data.toList ++ [32]) := by simp
  rw [e, words_join, Bool.eq_iff_iff, contains_iff, decide_eq_true_iff]
  exact infix_join wordsW _ h1 h2 words_nosp
theorem impl_free_ev (a : ByteArray) : EvP (fun k => impl_free.f k a) (· = freeL a.data.toList) := by
  unfold impl_free.f
  refine EvP.bind (impl_name a) (fun b hb => ?_)
  subst hb
  refine EvP.ite (fun h => ?_) (fun h => EvP.ret (by unfold freeL; simp [h]))
  have hs : a.size ≤ 1000 := by
    have := (name_nosp h).2.2
    simp at this
    omega
  refine EvP.now (r := !decide (a.data.toList ∈ wordsW)) ?_ (by unfold freeL; simp [h])
  unfold impl_isWord.f
  rw [if_pos hs, word_iff a h]
  rfl
def wordsB : List ByteArray := wordsW.map (fun w => ⟨w.toArray⟩)
theorem words_spec : spec_l06Words.f = some wordsB := by
  unfold spec_l06Words.f wordsB wordsW
  rfl
theorem any_words (a : ByteArray) : wordsB.any (fun x => decide (x.toList = a.toList)) = decide (a.data.toList ∈ wordsW) := by
  rw [Bool.eq_iff_iff, List.any_eq_true, decide_eq_true_iff]
  unfold wordsB
  constructor
  · rintro ⟨x, hx, h⟩
    obtain ⟨w, hw, rfl⟩ := List.mem_map.1 hx
    rw [decide_eq_true_iff] at h
    rw [ByteArray.toList_eq, ByteArray.toList_eq] at h
    rw [← h]; simpa using hw
  · intro h
    refine ⟨⟨a.data.toList.toArray⟩, List.mem_map.2 ⟨_, h, rfl⟩, ?_⟩
    rw [decide_eq_true_iff]
theorem spec_free_ev (a : ByteArray) : EvP (fun k => spec_l06Name.f k a) (· = freeL a.data.toList) := by
  unfold spec_l06Name.f
  refine EvP.bind (spec_name a) (fun b hb => ?_)
  subst hb
  refine EvP.ite (fun h => ?_) (fun h => EvP.ret (by unfold freeL; simp [h]))
  rw [words_spec]
  simp only [Option.bind_some]
  refine EvP.bind (in_texts wordsB a (by decide)) (fun b hb => EvP.ret ?_)
  rw [hb, any_words]
  unfold freeL; simp [h]
def atomB (x : S71) : Bool := nameL x.f0.data.toList && freeL x.f1.data.toList && freeL x.f2.data.toList
def atomsB (l : List S71) : Bool := decide (1 ≤ l.length) && decide (l.length ≤ 6) && l.all atomB
theorem atoms_drop {l : List S71} {j : Nat} (h : j < l.length) : (l.drop j).all atomB = (atomB (rd_T71 l j) && (l.drop (j + 1)).all atomB) := by
  rw [List.drop_eq_getElem_cons h, List.all_cons]
  simp [rd_T71, List.getD, h]
theorem spec_atoms_loop (l : List S71) (hl : l.length ≤ 1048576) : EvP (fun k => spec_AtomsFault.l0 k l 0) (· = if l.all atomB = true then 0 else 1) := by
  refine EvP.whl1 (g := fun k (i : Int) => spec_AtomsFault.l0 k l i) (m := fun i => (l.length - i).toNat) (inv := fun i => ∃ q : Nat, i = q ∧ q ≤ l.length ∧ (l.drop q).all atomB = l.all atomB) ?_ _ ⟨0, rfl, by omega, by simp⟩
  rintro i ⟨q, rfl, hq, hv⟩ ih
  simp only [spec_AtomsFault.l0]
  refine EvP.ite (fun h => ?_) (fun h => EvP.ret ?_)
  · have hq' : q < l.length := by omega
    rw [atoms_drop hq'] at hv
    have hn := ih ((q + 1 : Nat) : Int) (by omega)
    rw [wrap_next hq' (by omega)]
    refine EvP.pos (by omega) (EvP.bind (spec_name _) (fun b1 h1 => EvP.ite (fun g1 => ?_) (fun g1 => EvP.ret ?_)))
    · refine EvP.bind (spec_free_ev _) (fun b2 h2 => EvP.ite (fun g2 => ?_) (fun g2 => EvP.ret ?_))
      · refine EvP.bind (spec_free_ev _) (fun b3 h3 => EvP.ite (fun g3 => hn ⟨q + 1, rfl, hq', ?_⟩) (fun g3 => EvP.ret ?_))
        · rw [← hv]; subst h1 h2 h3; simp [atomB, g1, g2, g3]
        · rw [← hv]; subst h1 h2 h3; simp [atomB, g1, g2, g3]
      · rw [← hv]; subst h1 h2; simp [atomB, g1, g2]
    · rw [← hv]; subst h1; simp [atomB, g1]
  · obtain rfl : q = l.length := by omega
    rw [← hv]; simp
theorem spec_atoms (l : List S71) (hl : l.length ≤ 1048576) : EvP (fun k => spec_AtomsFault.f k l) (· = if atomsB l = true then 0 else 1) := by
  unfold spec_AtomsFault.f
  refine EvP.ite (fun h => ?_) (fun h => ?_)
  · refine EvP.step (f := fun _ => some 1) (fun k => by simp [spec_AtomsFault.j0]) (EvP.ret ?_)
    unfold atomsB; rw [decide_eq_false (by omega)]; simp
  · by_cases h2 : (l.length : Int) > 6
    · rw [decide_eq_true h2]
      refine EvP.step (f := fun _ => some 1) (fun k => by simp [spec_AtomsFault.j0]) (EvP.ret ?_)
      unfold atomsB; rw [decide_eq_true (by omega), decide_eq_false (by omega)]; simp
    · rw [decide_eq_false h2]
      refine EvP.step (f := fun k => spec_AtomsFault.l0 k l 0) (fun k => by simp [spec_AtomsFault.j0]) ?_
      refine (spec_atoms_loop l hl).mono (fun b hb => ?_)
      unfold atomsB; rw [hb, decide_eq_true (by omega), decide_eq_true (by omega)]; simp
theorem impl_atoms_loop (l : List S71) (hl : l.length ≤ 1048576) : EvP (fun k => impl_atomsOk.l0 k l l.length 0) (· = l.all atomB) := by
  refine EvP.whl1 (g := fun k (i : Int) => impl_atomsOk.l0 k l l.length i) (m := fun i => (l.length - i).toNat) (inv := fun i => ∃ q : Nat, i = q ∧ q ≤ l.length ∧ (l.drop q).all atomB = l.all atomB) ?_ _ ⟨0, rfl, by omega, by simp⟩
  rintro i ⟨q, rfl, hq, hv⟩ ih
  simp only [impl_atomsOk.l0]
  refine EvP.ite (fun h => ?_) (fun h => EvP.ret ?_)
  · have hq' : q < l.length := by omega
    rw [atoms_drop hq'] at hv
    have hn := ih ((q + 1 : Nat) : Int) (by omega)
    rw [wrap_next hq' (by omega)]
    refine EvP.pos (by omega) (EvP.pos h (EvP.bind (impl_name _) (fun b1 h1 => EvP.ite (fun g1 => ?_) (fun g1 => EvP.ret ?_))))
    · refine EvP.bind (impl_free_ev _) (fun b2 h2 => EvP.ite (fun g2 => ?_) (fun g2 => EvP.ret ?_))
      · refine EvP.bind (impl_free_ev _) (fun b3 h3 => EvP.ite (fun g3 => hn ⟨q + 1, rfl, hq', ?_⟩) (fun g3 => EvP.ret ?_))
        · rw [← hv]; subst h1 h2 h3; simp [atomB, g1, g2, g3]
        · rw [← hv]; subst h1 h2 h3; simp [atomB, g1, g2, g3]
      · rw [← hv]; subst h1 h2; simp [atomB, g1, g2]
    · rw [← hv]; subst h1; simp [atomB, g1]
  · obtain rfl : q = l.length := by omega
    rw [← hv]; simp
theorem impl_atoms (l : List S71) (hl : l.length ≤ 1048576) : EvP (fun k => impl_atomsOk.f k l) (· = atomsB l) := by
  unfold impl_atomsOk.f
  refine EvP.ite (fun h => ?_) (fun h => ?_)
  · refine EvP.step (f := fun _ => some false) (fun k => by simp [impl_atomsOk.j0]) (EvP.ret ?_)
    unfold atomsB; rw [decide_eq_false (by omega)]; simp
  · by_cases h2 : (l.length : Int) > 6
    · rw [decide_eq_true h2]
      refine EvP.step (f := fun _ => some false) (fun k => by simp [impl_atomsOk.j0]) (EvP.ret ?_)
      unfold atomsB; rw [decide_eq_true (by omega), decide_eq_false (by omega)]; simp
    · rw [decide_eq_false h2]
      refine EvP.step (f := fun k => impl_atomsOk.l0 k l l.length 0) (fun k => by simp [impl_atomsOk.j0]) ?_
      refine (impl_atoms_loop l hl).mono (fun b hb => ?_)
      unfold atomsB; rw [hb, decide_eq_true (by omega), decide_eq_true (by omega)]; simp
theorem FnExactAtomsFault : OFnExactAtomsFault.Said := by
  intro l hl
  refine EvP.rounds (?_ : EvP (fun k => laws_FnExactAtomsFault.f k l) (· = true))
  unfold laws_FnExactAtomsFault.f
  refine EvP.bind (szlAtom l hl 1048576 (by omega) (by omega)) (fun t ht => ?_)
  refine EvP.ite (fun _ => EvP.ret rfl) (fun hn => ?_)
  have hs := ht.2.2 (by omega)
  have hto := tolAtom l hs
  have hl' : (l.map c70).length ≤ 1048576 := by simpa using hs.1
  refine EvP.bind hto (fun x hx => ?_)
  subst hx
  refine EvP.bind (spec_atoms _ hl') (fun w hw => ?_)
  refine EvP.bind hto (fun x hx => ?_)
  subst hx
  refine EvP.bind (Q := (· = if atomsB (l.map c70) = true then 0 else 1)) ?_ (fun g hg => ?_)
  · unfold impl_AtomsFault.f
    refine EvP.bind (impl_atoms _ hl') (fun b hb => ?_)
    subst hb
    exact EvP.ite (fun h => EvP.ret (by rw [if_pos h])) (fun h => EvP.ret (by rw [if_neg h]))
  refine EvP.pos (by rw [hw, hg]) ?_
  refine EvP.bind hto (fun x hx => ?_)
  subst hx
  refine EvP.bind (eqlAtom _ (smL_map hs le_c70)) (fun b hb => ?_)
  exact EvP.pos hb (EvP.ret rfl)
end Go.Proofs.Ytfokinbpepaamaa.Pure
