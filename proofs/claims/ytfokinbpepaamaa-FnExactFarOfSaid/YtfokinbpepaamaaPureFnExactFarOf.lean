/- The program's FarOf and the reference's FarOf tell the same number for all hubs within the law's size bound and all node numbers: both find the two hubs by going through the list, and both take the least sum over the same pairs in the same order. No condition beyond the statement's own. -/
import Derived.Test.YtfokinbpepaamaaOpnFnExactFarOf
namespace Go.Proofs.Ytfokinbpepaamaa.Pure
open Go.RowKit Go.Proofs.Ytfokinbpepaamaa.PFnExactFarOf Go.Proofs.YtfokinbpepaamaaW.PrintWords Go.Proofs.YtfokinbpepaamaaW.PrintLast Go.Proofs.Ytfokinbpepaamaa.OFnExactFarOf
set_option linter.unusedVariables false
/-- With enough rounds g tells something of which P holds. -/
def EvP {α : Type} (g : Nat → Option α) (P : α → Prop) : Prop := ∃ r, Ev g r ∧ P r
section
variable {α β : Type}
theorem EvP.ret {P : α → Prop} {r : α} (h : P r) : EvP (fun _ => some r) P := ⟨r, Ev.now r, h⟩
theorem EvP.now {P : α → Prop} {o : Option α} {r : α} (e : o = some r) (h : P r) : EvP (fun _ => o) P := ⟨r, ⟨0, fun _ _ => e⟩, h⟩
theorem EvP.ite {c : Prop} [Decidable c] {f g : Nat → Option α} {P : α → Prop} (h : c → EvP f P) (h' : ¬ c → EvP g P) : EvP (fun k => if c then f k else g k) P := by
  by_cases hc : c
  · simp only [if_pos hc]; exact h hc
  · simp only [if_neg hc]; exact h' hc
theorem EvP.pos {c : Prop} [Decidable c] {f g : Nat → Option α} {P : α → Prop} (hc : c) (h : EvP f P) : EvP (fun k => if c then f k else g k) P := by
  simp only [if_pos hc]; exact h
theorem EvP.neg {c : Prop} [Decidable c] {f g : Nat → Option α} {P : α → Prop} (hc : ¬ c) (h : EvP g P) : EvP (fun k => if c then f k else g k) P := by
  simp only [if_neg hc]; exact h
theorem EvP.bind {g : Nat → Option α} {f : Nat → α → Option β} {Q : α → Prop} {P : β → Prop} (h : EvP g Q) (k : ∀ a, Q a → EvP (fun n => f n a) P) : EvP (fun n => (g n).bind (f n)) P := by
  obtain ⟨a, ha, hq⟩ := h
  obtain ⟨r, hr, hp⟩ := k a hq
  exact ⟨r, Ev.bind ha hr, hp⟩
theorem EvP.mono {g : Nat → Option α} {P Q : α → Prop} (h : EvP g P) (k : ∀ a, P a → Q a) : EvP g Q := by
  obtain ⟨r, hr, hp⟩ := h
  exact ⟨r, hr, k r hp⟩
theorem EvP.step {g f : Nat → Option α} {P : α → Prop} (h : ∀ k, g (k + 1) = f k) (k : EvP f P) : EvP g P := by
  obtain ⟨r, hr, hp⟩ := k
  exact ⟨r, Ev.step h hr, hp⟩
theorem EvP.rounds {g : Nat → Option α} {r : α} (h : EvP g (· = r)) : ∃ k, g k = some r := by
  obtain ⟨_, hr, rfl⟩ := h
  exact hr.rounds
/-- A loop (or a function that calls itself) with a measure m and an invariant inv; 'ih': what a later round tells. -/
theorem EvP.whl1 {σ ρ : Type} {g : Nat → σ → Option ρ} {P : ρ → Prop} (m : σ → Nat) (inv : σ → Prop)
    (step : ∀ s, inv s → (∀ s', m s' < m s → inv s' → EvP (fun k => g k s') P) → EvP (fun k => g (k + 1) s) P) : ∀ s, inv s → EvP (fun k => g k s) P := by
  have H : ∀ (n : Nat) (s : σ), m s < n → inv s → EvP (fun k => g k s) P := by
    intro n
    induction n with
    | zero => intro s h; exact absurd h (Nat.not_lt_zero _)
    | succ n ih =>
      intro s hm hs
      exact EvP.step (f := fun k => g (k + 1) s) (fun _ => rfl) (step s hs (fun s' h hs' => ih s' (by omega) hs'))
  exact fun s hs => H (m s + 1) s (Nat.lt_succ_self _) hs
theorem EvP.whl2 {σ τ ρ : Type} {g : Nat → σ → τ → Option ρ} {P : ρ → Prop} (m : σ → τ → Nat) (inv : σ → τ → Prop)
    (step : ∀ s t, inv s t → (∀ s' t', m s' t' < m s t → inv s' t' → EvP (fun k => g k s' t') P) → EvP (fun k => g (k + 1) s t) P) : ∀ s t, inv s t → EvP (fun k => g k s t) P :=
  fun s t h => EvP.whl1 (g := fun k (x : σ × τ) => g k x.1 x.2) (m := fun x => m x.1 x.2) (inv := fun x => inv x.1 x.2) (fun x hx ih => step x.1 x.2 hx (fun s' t' hm hi => ih (s', t') hm hi)) (s, t) h
theorem EvP.whl3 {σ τ υ ρ : Type} {g : Nat → σ → τ → υ → Option ρ} {P : ρ → Prop} (m : σ → τ → υ → Nat) (inv : σ → τ → υ → Prop)
    (step : ∀ s t u, inv s t u → (∀ s' t' u', m s' t' u' < m s t u → inv s' t' u' → EvP (fun k => g k s' t' u') P) → EvP (fun k => g (k + 1) s t u) P) : ∀ s t u, inv s t u → EvP (fun k => g k s t u) P :=
  fun s t u h => EvP.whl1 (g := fun k (x : σ × τ × υ) => g k x.1 x.2.1 x.2.2) (m := fun x => m x.1 x.2.1 x.2.2) (inv := fun x => inv x.1 x.2.1 x.2.2) (fun x hx ih => step x.1 x.2.1 x.2.2 hx (fun s' t' u' hm hi => ih (s', t', u') hm hi)) (s, t, u) h
theorem EvP.whl4 {σ τ υ φ ρ : Type} {g : Nat → σ → τ → υ → φ → Option ρ} {P : ρ → Prop} (m : σ → τ → υ → φ → Nat) (inv : σ → τ → υ → φ → Prop)
    (step : ∀ s t u v, inv s t u v → (∀ s' t' u' v', m s' t' u' v' < m s t u v → inv s' t' u' v' → EvP (fun k => g k s' t' u' v') P) → EvP (fun k => g (k + 1) s t u v) P) : ∀ s t u v, inv s t u v → EvP (fun k => g k s t u v) P :=
  fun s t u v h => EvP.whl1 (g := fun k (x : σ × τ × υ × φ) => g k x.1 x.2.1 x.2.2.1 x.2.2.2) (m := fun x => m x.1 x.2.1 x.2.2.1 x.2.2.2) (inv := fun x => inv x.1 x.2.1 x.2.2.1 x.2.2.2) (fun x hx ih => step x.1 x.2.1 x.2.2.1 x.2.2.2 hx (fun s' t' u' v' hm hi => ih (s', t', u', v') hm hi)) (s, t, u, v) h
theorem wrap_in {x : Int} (h0 : -9223372036854775808 ≤ x) (h1 : x ≤ 9223372036854775807) : wrap64 x = x := by
  unfold wrap64
  omega
theorem wrap_next {i n : Nat} (h : i < n) (hn : n ≤ 9223372036854775807) : wrap64 ((i : Int) + 1) = ((i + 1 : Nat) : Int) := by
  rw [wrap_in (by omega) (by omega)]
  omega
theorem set_at {xs : List α} {i : Nat} (z : α) (f : Nat → α) (n : Nat) (hxs : xs = (List.range i).map f ++ List.replicate (n - i) z) (hi : i < n) : xs.set i (f i) = (List.range (i + 1)).map f ++ List.replicate (n - (i + 1)) z := by
  subst hxs
  rw [List.set_append_right _ _ (by simp)]
  simp only [List.length_map, List.length_range, Nat.sub_self]
  obtain ⟨m, hm⟩ : ∃ m, n - i = m + 1 := ⟨n - i - 1, by omega⟩
  rw [hm, show n - (i + 1) = m by omega, List.replicate_succ, List.set_cons_zero, List.range_succ]
  simp
theorem map_of_range {xs : List β} (z : β) (c : β → α) : (List.range xs.length).map (fun i => c (xs.getD i z)) = xs.map c := by
  apply List.ext_getElem?
  intro i
  by_cases hi : i < xs.length
  · simp [hi, List.getD]
  · simp [hi]
theorem getD_mem {xs : List α} {i : Nat} (z : α) (h : i < xs.length) : xs.getD i z ∈ xs := by
  rw [List.getD_eq_getElem?_getD, List.getElem?_eq_getElem h]
  exact List.getElem_mem h
end
/-- f and g, with enough rounds, tell two things of which R holds. -/
def Ev2 {α β : Type} (f : Nat → Option α) (g : Nat → Option β) (R : α → β → Prop) : Prop := ∃ a b, Ev f a ∧ Ev g b ∧ R a b
section
variable {α β γ δ : Type}
theorem Ev2.ret {R : α → β → Prop} {a : α} {b : β} (h : R a b) : Ev2 (fun _ => some a) (fun _ => some b) R := ⟨a, b, Ev.now a, Ev.now b, h⟩
theorem Ev2.of {f : Nat → Option α} {g : Nat → Option β} {P : α → Prop} {Q : β → Prop} {R : α → β → Prop} (h : EvP f P) (h' : EvP g Q) (k : ∀ a b, P a → Q b → R a b) : Ev2 f g R := by
  obtain ⟨a, ha, hp⟩ := h
  obtain ⟨b, hb, hq⟩ := h'
  exact ⟨a, b, ha, hb, k a b hp hq⟩
theorem Ev2.ite {c : Prop} [Decidable c] {f f' : Nat → Option α} {g g' : Nat → Option β} {R : α → β → Prop} (h : c → Ev2 f g R) (h' : ¬ c → Ev2 f' g' R) : Ev2 (fun k => if c then f k else f' k) (fun k => if c then g k else g' k) R := by
  by_cases hc : c
  · simp only [if_pos hc]; exact h hc
  · simp only [if_neg hc]; exact h' hc
theorem Ev2.lite {c : Prop} [Decidable c] {f f' : Nat → Option α} {g : Nat → Option β} {R : α → β → Prop} (h : c → Ev2 f g R) (h' : ¬ c → Ev2 f' g R) : Ev2 (fun k => if c then f k else f' k) g R := by
  by_cases hc : c
  · simp only [if_pos hc]; exact h hc
  · simp only [if_neg hc]; exact h' hc
theorem Ev2.rite {c : Prop} [Decidable c] {f : Nat → Option α} {g g' : Nat → Option β} {R : α → β → Prop} (h : c → Ev2 f g R) (h' : ¬ c → Ev2 f g' R) : Ev2 f (fun k => if c then g k else g' k) R := by
  by_cases hc : c
  · simp only [if_pos hc]; exact h hc
  · simp only [if_neg hc]; exact h' hc
theorem Ev2.lpos {c : Prop} [Decidable c] {f f' : Nat → Option α} {g : Nat → Option β} {R : α → β → Prop} (hc : c) (h : Ev2 f g R) : Ev2 (fun k => if c then f k else f' k) g R := Ev2.lite (fun _ => h) (fun n => absurd hc n)
theorem Ev2.lneg {c : Prop} [Decidable c] {f f' : Nat → Option α} {g : Nat → Option β} {R : α → β → Prop} (hc : ¬ c) (h : Ev2 f' g R) : Ev2 (fun k => if c then f k else f' k) g R := Ev2.lite (fun n => absurd n hc) (fun _ => h)
theorem Ev2.rpos {c : Prop} [Decidable c] {f : Nat → Option α} {g g' : Nat → Option β} {R : α → β → Prop} (hc : c) (h : Ev2 f g R) : Ev2 f (fun k => if c then g k else g' k) R := Ev2.rite (fun _ => h) (fun n => absurd hc n)
theorem Ev2.rneg {c : Prop} [Decidable c] {f : Nat → Option α} {g g' : Nat → Option β} {R : α → β → Prop} (hc : ¬ c) (h : Ev2 f g' R) : Ev2 f (fun k => if c then g k else g' k) R := Ev2.rite (fun n => absurd n hc) (fun _ => h)
theorem Ev2.bind {f : Nat → Option α} {g : Nat → Option β} {f' : Nat → α → Option γ} {g' : Nat → β → Option δ} {Q : α → β → Prop} {R : γ → δ → Prop} (h : Ev2 f g Q) (k : ∀ a b, Q a b → Ev2 (fun n => f' n a) (fun n => g' n b) R) : Ev2 (fun n => (f n).bind (f' n)) (fun n => (g n).bind (g' n)) R := by
  obtain ⟨a, b, ha, hb, hq⟩ := h
  obtain ⟨c, d, hc, hd, hr⟩ := k a b hq
  exact ⟨c, d, Ev.bind ha hc, Ev.bind hb hd, hr⟩
theorem Ev2.lbind {f : Nat → Option α} {f' : Nat → α → Option γ} {g : Nat → Option δ} {Q : α → Prop} {R : γ → δ → Prop} (h : EvP f Q) (k : ∀ a, Q a → Ev2 (fun n => f' n a) g R) : Ev2 (fun n => (f n).bind (f' n)) g R := by
  obtain ⟨a, ha, hq⟩ := h
  obtain ⟨c, d, hc, hd, hr⟩ := k a hq
  exact ⟨c, d, Ev.bind ha hc, hd, hr⟩
theorem Ev2.rbind {f : Nat → Option γ} {g : Nat → Option β} {g' : Nat → β → Option δ} {Q : β → Prop} {R : γ → δ → Prop} (h : EvP g Q) (k : ∀ b, Q b → Ev2 f (fun n => g' n b) R) : Ev2 f (fun n => (g n).bind (g' n)) R := by
  obtain ⟨b, hb, hq⟩ := h
  obtain ⟨c, d, hc, hd, hr⟩ := k b hq
  exact ⟨c, d, hc, Ev.bind hb hd, hr⟩
theorem Ev2.mono {f : Nat → Option α} {g : Nat → Option β} {R S : α → β → Prop} (h : Ev2 f g R) (k : ∀ a b, R a b → S a b) : Ev2 f g S := by
  obtain ⟨a, b, ha, hb, hr⟩ := h
  exact ⟨a, b, ha, hb, k a b hr⟩
theorem Ev2.and {f : Nat → Option α} {g : Nat → Option β} {R : α → β → Prop} {P : α → Prop} (h : Ev2 f g R) (h' : EvP f P) : Ev2 f g (fun a b => R a b ∧ P a) := by
  obtain ⟨a, b, ha, hb, hr⟩ := h
  obtain ⟨a', ⟨K', ha'⟩, hp⟩ := h'
  obtain ⟨K, ha0⟩ := ha
  have e : some a = some a' := (ha0 (max K K') (Nat.le_max_left _ _)).symm.trans (ha' (max K K') (Nat.le_max_right _ _))
  cases e
  exact ⟨a, b, ⟨K, ha0⟩, hb, hr, hp⟩
/-- Two loops side by side. -/
theorem Ev2.whl {σ τ : Type} {f : Nat → σ → Option α} {g : Nat → τ → Option β} {R : α → β → Prop} (m : σ → τ → Nat) (inv : σ → τ → Prop)
    (step : ∀ s t, inv s t → (∀ s' t', m s' t' < m s t → inv s' t' → Ev2 (fun k => f k s') (fun k => g k t') R) → Ev2 (fun k => f (k + 1) s) (fun k => g (k + 1) t) R) : ∀ s t, inv s t → Ev2 (fun k => f k s) (fun k => g k t) R := by
  have H : ∀ (n : Nat) (s : σ) (t : τ), m s t < n → inv s t → Ev2 (fun k => f k s) (fun k => g k t) R := by
    intro n
    induction n with
    | zero => intro s t h; exact absurd h (Nat.not_lt_zero _)
    | succ n ih =>
      intro s t hm hs
      obtain ⟨a, b, ha, hb, hr⟩ := step s t hs (fun s' t' h hs' => ih s' t' (by omega) hs')
      exact ⟨a, b, Ev.step (f := fun k => f (k + 1) s) (fun _ => rfl) ha, Ev.step (f := fun k => g (k + 1) t) (fun _ => rfl) hb, hr⟩
  exact fun s t hs => H (m s t + 1) s t (Nat.lt_succ_self _) hs
theorem Ev2.lstep {f : Nat → Option α} {g : Nat → Option β} {R : α → β → Prop} (h : Ev2 (fun k => f (k + 1)) g R) : Ev2 f g R := by
  obtain ⟨a, b, ha, hb, hr⟩ := h
  exact ⟨a, b, Ev.step (f := fun k => f (k + 1)) (fun _ => rfl) ha, hb, hr⟩
theorem Ev2.rstep {f : Nat → Option α} {g : Nat → Option β} {R : α → β → Prop} (h : Ev2 f (fun k => g (k + 1)) R) : Ev2 f g R := by
  obtain ⟨a, b, ha, hb, hr⟩ := h
  exact ⟨a, b, ha, Ev.step (f := fun k => g (k + 1)) (fun _ => rfl) hb, hr⟩
end
def Sm (s : ByteArray) : Prop := s.size ≤ 1048576
def SmA {α : Type} (_ : α) : Prop := True
def SmL {α : Type} (sm : α → Prop) (xs : List α) : Prop := xs.length ≤ 1048576 ∧ ∀ x ∈ xs, sm x
theorem smL_map {α β : Type} {P : α → Prop} {Q : β → Prop} {c : α → β} {l : List α} (h : SmL P l) (hc : ∀ x, P x → Q (c x)) : SmL Q (l.map c) :=
  ⟨by simpa using h.1, fun y hy => by obtain ⟨x, hx, rfl⟩ := List.mem_map.1 hy; exact hc x (h.2 x hx)⟩
def sm87 (x : S87) : Prop := True
def c87 (x : S87) : S77 := ⟨x.f0, x.f1⟩
theorem szlHubEntry (l : List S87) (hl : Lst wf87 l) (a : Int) (ha : 0 ≤ a) (hb : a ≤ 1048576) : EvP (fun k => laws_szHubEntryS.f l a) (fun t => -1 ≤ t ∧ t ≤ a ∧ (0 ≤ t → SmL sm87 l)) := by
  obtain ⟨h0, h1⟩ := hl
  unfold laws_szHubEntryS.f
  rw [show wrap64 (a - (l.length : Int)) = a - l.length from wrap_in (by omega) (by omega)]
  exact EvP.ite (fun _ => EvP.ret ⟨by omega, by omega, fun h => absurd h (by omega)⟩) (fun g => EvP.ret ⟨by omega, by omega, fun _ => ⟨by omega, fun _ _ => trivial⟩⟩)
theorem to87 (x : S87) (hx : sm87 x) : EvP (fun k => laws_toHubEntry.f x.f0 x.f1) (· = ((c87 x).f0, (c87 x).f1)) := by
  unfold laws_toHubEntry.f
  exact EvP.ret rfl
theorem tolHubEntry (l : List S87) (hl : SmL sm87 l) : EvP (fun k => laws_toHubEntryS.f k l) (· = l.map c87) := by
  obtain ⟨h0, h1⟩ := hl
  unfold laws_toHubEntryS.f
  refine EvP.pos (by omega) (EvP.pos (by omega) ?_)
  refine EvP.whl2 (g := fun k (s : List S77) (i : Int) => laws_toHubEntryS.l0 k l s i) (m := fun _ i => (l.length - i).toNat) (inv := fun s i => ∃ j : Nat, i = j ∧ j ≤ l.length ∧ s = (List.range j).map (fun q : Nat => c87 (rd_T87 l (q : Int))) ++ List.replicate (l.length - j) z77) ?_ _ _ ⟨0, rfl, by omega, by simp⟩
  rintro s i ⟨j, rfl, hj, hs⟩ ih
  simp only [laws_toHubEntryS.l0]
  refine EvP.ite (fun h => ?_) (fun h => EvP.ret ?_)
  · have hj' : j < l.length := by omega
    refine EvP.pos (by omega) ?_
    refine EvP.bind (to87 (rd_T87 l j) (h1 _ (getD_mem _ (by simpa using hj')))) (fun r hr => ?_)
    subst hr
    refine EvP.pos (by rw [hs]; simp; omega) ?_
    rw [wrap_next hj' (by omega)]
    refine ih _ _ (by omega) ⟨j + 1, rfl, hj', ?_⟩
    exact set_at z77 (fun q : Nat => c87 (rd_T87 l (q : Int))) _ hs hj'
  · obtain rfl : j = l.length := by omega
    rw [hs]; simpa [rd_T87] using map_of_range z87 c87 (xs := l)
def sm57 (x : S57) : Prop := SmL sm87 x.f1 ∧ SmL sm87 x.f2
def c57 (x : S57) : S60 := ⟨x.f0, (x.f1.map c87), (x.f2.map c87)⟩
theorem sz57 (x : S57) (hx : wf57 x) (a : Int) (ha : 0 ≤ a) (hb : a ≤ 1048576) : EvP (fun k => laws_szHub.f x.f0 x.f1 x.f2 a) (fun t => -1 ≤ t ∧ t ≤ a ∧ (0 ≤ t → sm57 x)) := by
  obtain ⟨h0, h1, h2⟩ := hx
  unfold laws_szHub.f
  refine EvP.bind (szlHubEntry x.f1 h1 a (by omega) (by omega)) (fun t1 ht1 => ?_)
  obtain ⟨p1, q1, r1⟩ := ht1
  refine EvP.ite (fun _ => EvP.ret ⟨by omega, by omega, fun h => absurd h (by omega)⟩) (fun g1 => ?_)
  refine EvP.bind (szlHubEntry x.f2 h2 t1 (by omega) (by omega)) (fun t2 ht2 => ?_)
  obtain ⟨p2, q2, r2⟩ := ht2
  refine EvP.ite (fun _ => EvP.ret ⟨by omega, by omega, fun h => absurd h (by omega)⟩) (fun g2 => ?_)
  exact EvP.ret ⟨by omega, by omega, fun _ => ⟨r1 (by omega), r2 (by omega)⟩⟩
theorem szlHub (l : List S57) (hl : Lst wf57 l) (a : Int) (ha : 0 ≤ a) (hb : a ≤ 1048576) : EvP (fun k => laws_szHubS.f k l a) (fun t => -1 ≤ t ∧ t ≤ a ∧ (0 ≤ t → SmL sm57 l)) := by
  obtain ⟨h0, h1⟩ := hl
  unfold laws_szHubS.f
  rw [show wrap64 (a - (l.length : Int)) = a - l.length from wrap_in (by omega) (by omega)]
  refine EvP.ite (fun _ => EvP.ret ⟨by omega, by omega, fun h => absurd h (by omega)⟩) (fun g => ?_)
  refine EvP.whl2 (g := fun k (s : Int) (i : Int) => laws_szHubS.l0 k l s i) (m := fun _ i => (l.length - i).toNat) (inv := fun s i => ∃ j : Nat, i = j ∧ j ≤ l.length ∧ 0 ≤ s ∧ s ≤ a ∧ ∀ q, q < j → ∀ y, l[q]? = some y → sm57 y) ?_ _ _ ⟨0, rfl, by omega, by omega, by omega, fun q hq => absurd hq (by omega)⟩
  rintro s i ⟨j, rfl, hj, s0, s1, hs⟩ ih
  simp only [laws_szHubS.l0]
  refine EvP.ite (fun h => ?_) (fun h => EvP.ret ⟨by omega, by omega, fun _ => ⟨by omega, fun y hy => ?_⟩⟩)
  · have hj' : j < l.length := by omega
    refine EvP.pos (by omega) ?_
    refine EvP.bind (sz57 (rd_T57 l j) (h1 _ (getD_mem _ (by simpa using hj'))) s (by omega) (by omega)) (fun t ht => ?_)
    obtain ⟨p1, q1, r1⟩ := ht
    refine EvP.ite (fun _ => EvP.ret ⟨by omega, by omega, fun h => absurd h (by omega)⟩) (fun g1 => ?_)
    have hlast : sm57 l[j] := by have := r1 (by omega); simpa [rd_T57, List.getD, List.getElem?_eq_getElem hj'] using this
    rw [wrap_next hj' (by omega)]
    refine ih _ _ (by omega) ⟨j + 1, rfl, by omega, by omega, by omega, fun q hq y hy => ?_⟩
    by_cases e : q = j
    · subst e; rw [List.getElem?_eq_getElem hj'] at hy; cases hy; exact hlast
    · exact hs q (by omega) y hy
  · obtain ⟨q, hq, rfl⟩ := List.mem_iff_getElem.1 hy
    exact hs q (by omega) _ (List.getElem?_eq_getElem hq)
theorem to57 (x : S57) (hx : sm57 x) : EvP (fun k => laws_toHub.f k x.f0 x.f1 x.f2) (· = ((c57 x).f0, (c57 x).f1, (c57 x).f2)) := by
  unfold laws_toHub.f
  obtain ⟨h1, h2⟩ := hx
  refine EvP.bind (tolHubEntry x.f1 h1) (fun r1 hr1 => ?_)
  subst hr1
  refine EvP.bind (tolHubEntry x.f2 h2) (fun r2 hr2 => ?_)
  subst hr2
  exact EvP.ret rfl
theorem tolHub (l : List S57) (hl : SmL sm57 l) : EvP (fun k => laws_toHubS.f k l) (· = l.map c57) := by
  obtain ⟨h0, h1⟩ := hl
  unfold laws_toHubS.f
  refine EvP.pos (by omega) (EvP.pos (by omega) ?_)
  refine EvP.whl2 (g := fun k (s : List S60) (i : Int) => laws_toHubS.l0 k l s i) (m := fun _ i => (l.length - i).toNat) (inv := fun s i => ∃ j : Nat, i = j ∧ j ≤ l.length ∧ s = (List.range j).map (fun q : Nat => c57 (rd_T57 l (q : Int))) ++ List.replicate (l.length - j) z60) ?_ _ _ ⟨0, rfl, by omega, by simp⟩
  rintro s i ⟨j, rfl, hj, hs⟩ ih
  simp only [laws_toHubS.l0]
  refine EvP.ite (fun h => ?_) (fun h => EvP.ret ?_)
  · have hj' : j < l.length := by omega
    refine EvP.pos (by omega) ?_
    refine EvP.bind (to57 (rd_T57 l j) (h1 _ (getD_mem _ (by simpa using hj')))) (fun r hr => ?_)
    subst hr
    refine EvP.pos (by rw [hs]; simp; omega) ?_
    rw [wrap_next hj' (by omega)]
    refine ih _ _ (by omega) ⟨j + 1, rfl, hj', ?_⟩
    exact set_at z60 (fun q : Nat => c57 (rd_T57 l (q : Int))) _ hs hj'
  · obtain rfl : j = l.length := by omega
    rw [hs]; simpa [rd_T57] using map_of_range z57 c57 (xs := l)
def le77 (x : S77) : Prop := True
theorem eq77 (x : S77) (hx : le77 x) : EvP (fun k => laws_eqHubEntry.f x.f0 x.f1 x.f0 x.f1) (· = true) := by
  unfold laws_eqHubEntry.f
  refine EvP.pos rfl ?_
  refine EvP.pos rfl ?_
  exact EvP.ret rfl
theorem eqlHubEntry (l : List S77) (hl : SmL le77 l) : EvP (fun k => laws_eqHubEntryS.f k l l) (· = true) := by
  obtain ⟨h0, h1⟩ := hl
  unfold laws_eqHubEntryS.f
  refine EvP.pos rfl ?_
  refine EvP.whl1 (g := fun k (i : Int) => laws_eqHubEntryS.l0 k l l i) (m := fun i => (l.length - i).toNat) (inv := fun i => ∃ j : Nat, i = j ∧ j ≤ l.length) ?_ _ ⟨0, rfl, by omega⟩
  rintro i ⟨j, rfl, hj⟩ ih
  simp only [laws_eqHubEntryS.l0]
  refine EvP.ite (fun h => ?_) (fun h => EvP.ret rfl)
  have hj' : j < l.length := by omega
  refine EvP.pos (by omega) (EvP.pos (by omega) ?_)
  refine EvP.bind (eq77 (rd_T77 l j) (h1 _ (getD_mem _ (by simpa using hj')))) (fun r hr => ?_)
  subst hr
  refine EvP.pos rfl ?_
  rw [wrap_next hj' (by omega)]
  exact ih _ (by omega) ⟨j + 1, rfl, by omega⟩
def le60 (x : S60) : Prop := SmL le77 x.f1 ∧ SmL le77 x.f2
theorem eq60 (x : S60) (hx : le60 x) : EvP (fun k => laws_eqHub.f k x.f0 x.f1 x.f2 x.f0 x.f1 x.f2) (· = true) := by
  unfold laws_eqHub.f
  obtain ⟨h1, h2⟩ := hx
  refine EvP.pos rfl ?_
  refine EvP.bind (eqlHubEntry x.f1 h1) (fun r1 hr1 => ?_)
  subst hr1
  refine EvP.pos rfl ?_
  refine EvP.bind (eqlHubEntry x.f2 h2) (fun r2 hr2 => ?_)
  subst hr2
  refine EvP.pos rfl ?_
  exact EvP.ret rfl
theorem eqlHub (l : List S60) (hl : SmL le60 l) : EvP (fun k => laws_eqHubS.f k l l) (· = true) := by
  obtain ⟨h0, h1⟩ := hl
  unfold laws_eqHubS.f
  refine EvP.pos rfl ?_
  refine EvP.whl1 (g := fun k (i : Int) => laws_eqHubS.l0 k l l i) (m := fun i => (l.length - i).toNat) (inv := fun i => ∃ j : Nat, i = j ∧ j ≤ l.length) ?_ _ ⟨0, rfl, by omega⟩
  rintro i ⟨j, rfl, hj⟩ ih
  simp only [laws_eqHubS.l0]
  refine EvP.ite (fun h => ?_) (fun h => EvP.ret rfl)
  have hj' : j < l.length := by omega
  refine EvP.pos (by omega) (EvP.pos (by omega) ?_)
  refine EvP.bind (eq60 (rd_T60 l j) (h1 _ (getD_mem _ (by simpa using hj')))) (fun r hr => ?_)
  subst hr
  refine EvP.pos rfl ?_
  rw [wrap_next hj' (by omega)]
  exact ih _ (by omega) ⟨j + 1, rfl, by omega⟩
theorem le_c87 (x : S87) (hx : sm87 x) : le77 (c87 x) := by
  exact trivial
theorem le_c57 (x : S57) (hx : sm57 x) : le60 (c57 x) := by
  obtain ⟨h1, h2⟩ := hx
  exact ⟨smL_map h1 le_c87, smL_map h2 le_c87⟩
theorem entries2 (l : List S77) (hl : l.length ≤ 1048576) : Ev2 (fun k => spec_l15Entries.f k l) (fun k => impl_entriesOk.f k l) (· = ·) := by
  unfold spec_l15Entries.f impl_entriesOk.f
  refine Ev2.ite (fun _ => Ev2.ret rfl) (fun _ => ?_)
  refine Ev2.whl (f := fun k (i : Int) => spec_l15Entries.l0 k l i) (g := fun k (i : Int) => impl_entriesOk.l0 k l l l.length i) (m := fun i _ => (l.length - i).toNat) (inv := fun i i' => ∃ j : Nat, i = j ∧ i' = j ∧ j ≤ l.length) ?_ _ _ ⟨0, rfl, rfl, by omega⟩
  rintro i i' ⟨j, rfl, rfl, hj⟩ ih
  simp only [spec_l15Entries.l0, impl_entriesOk.l0]
  refine Ev2.ite (fun h => ?_) (fun _ => Ev2.ret rfl)
  have hj' : j < l.length := by omega
  have hn := wrap_next hj' (by omega)
  have hi := ih ((j + 1 : Nat) : Int) ((j + 1 : Nat) : Int) (by omega) ⟨j + 1, rfl, rfl, hj'⟩
  rw [hn]
  refine Ev2.rpos (by omega) (Ev2.rpos h ?_)
  refine Ev2.ite (fun h0 => ?_) (fun h0 => ?_)
  · have hp : wrap64 ((j : Int) - 1) = j - 1 := wrap_in (by omega) (by omega)
    rw [hp]
    refine Ev2.lpos (by omega) (Ev2.lpos (by omega) (Ev2.lpos (by omega) (Ev2.rpos (by omega) (Ev2.rpos (by omega) ?_))))
    exact Ev2.ite (fun _ => Ev2.ret rfl) (fun _ => Ev2.ite (fun _ => Ev2.ret rfl) (fun _ => Ev2.ite (fun _ => Ev2.ret rfl) (fun _ => hi)))
  · refine Ev2.lpos (by omega) ?_
    exact Ev2.ite (fun _ => Ev2.ret rfl) (fun _ => Ev2.ite (fun _ => Ev2.ret rfl) (fun _ => hi))
theorem hubs_code (l : List S60) (hl : SmL le60 l) : Ev2 (fun k => spec_HubsFault.f k l) (fun k => impl_hubsOk.f k l) (fun c b => c = if b = true then 0 else 1) := by
  obtain ⟨hl0, hl1⟩ := hl
  unfold spec_HubsFault.f impl_hubsOk.f
  refine Ev2.ite (fun _ => Ev2.ret rfl) (fun _ => ?_)
  refine Ev2.whl (f := fun k (i : Int) => spec_HubsFault.l0 k l i) (g := fun k (i : Int) => impl_hubsOk.l0 k l l l.length i) (m := fun i _ => (l.length - i).toNat) (inv := fun i i' => ∃ j : Nat, i = j ∧ i' = j ∧ j ≤ l.length) ?_ _ _ ⟨0, rfl, rfl, by omega⟩
  rintro i i' ⟨j, rfl, rfl, hj⟩ ih
  simp only [spec_HubsFault.l0, impl_hubsOk.l0]
  refine Ev2.ite (fun h => ?_) (fun _ => Ev2.ret rfl)
  have hj' : j < l.length := by omega
  have hn := wrap_next hj' (by omega)
  have hi := ih ((j + 1 : Nat) : Int) ((j + 1 : Nat) : Int) (by omega) ⟨j + 1, rfl, rfl, hj'⟩
  have hm : le60 (rd_T60 l j) := hl1 _ (getD_mem _ (by simpa using hj'))
  have e1 := entries2 (rd_T60 l j).f1 hm.1.1
  have e2 := entries2 (rd_T60 l j).f2 hm.2.1
  rw [hn]
  refine Ev2.rpos (by omega) (Ev2.rpos h ?_)
  have tail : Ev2 (fun k => (spec_l15Entries.f k (rd_T60 l j).f1).bind fun t => if t = true then (spec_l15Entries.f k (rd_T60 l j).f2).bind fun t => if t = true then spec_HubsFault.l0 k l ((j + 1 : Nat) : Int) else some 1 else some 1)
      (fun k => (impl_entriesOk.f k (rd_T60 l j).f1).bind fun t => if t = true then (impl_entriesOk.f k (rd_T60 l j).f2).bind fun t => if t = true then impl_hubsOk.l0 k l l l.length ((j + 1 : Nat) : Int) else some false else some false) (fun c b => c = if b = true then 0 else 1) := by
    refine Ev2.bind e1 (fun a b hab => ?_)
    subst hab
    refine Ev2.ite (fun _ => ?_) (fun _ => Ev2.ret rfl)
    refine Ev2.bind e2 (fun a b hab => ?_)
    subst hab
    exact Ev2.ite (fun _ => hi) (fun _ => Ev2.ret rfl)
  refine Ev2.ite (fun h0 => ?_) (fun h0 => ?_)
  · have hp : wrap64 ((j : Int) - 1) = j - 1 := wrap_in (by omega) (by omega)
    rw [hp]
    refine Ev2.lpos (by omega) (Ev2.lpos (by omega) (Ev2.lpos (by omega) (Ev2.rpos (by omega) (Ev2.rpos (by omega) ?_))))
    exact Ev2.ite (fun _ => Ev2.ret rfl) (fun _ => tail)
  · exact Ev2.lpos (by omega) tail
theorem hubs_ok (l : List S60) (hl : SmL le60 l) : Ev2 (fun k => spec_HubsFault.f k l) (fun k => impl_hubsOk.f k l) (fun c b => c = if b = true then 0 else 1) := hubs_code l hl
theorem at2 (l : List S60) (a : Int) (hl : l.length ≤ 1048576) : Ev2 (fun k => spec_l15At.f k l a) (fun k => impl_hubAt.f k l a) (fun x y => x = y ∧ -1 ≤ x ∧ x < l.length) := by
  unfold spec_l15At.f impl_hubAt.f
  refine Ev2.whl (f := fun k (i : Int) => spec_l15At.l0 k l a i) (g := fun k (i : Int) => impl_hubAt.l0 k l a i) (m := fun i _ => (l.length - i).toNat) (inv := fun i i' => ∃ j : Nat, i = j ∧ i' = j ∧ j ≤ l.length) ?_ _ _ ⟨0, rfl, rfl, by omega⟩
  rintro i i' ⟨j, rfl, rfl, hj⟩ ih
  simp only [spec_l15At.l0, impl_hubAt.l0]
  refine Ev2.ite (fun h => ?_) (fun _ => Ev2.ret ⟨rfl, by omega, by omega⟩)
  have hj' : j < l.length := by omega
  rw [wrap_next hj' (by omega)]
  refine Ev2.ite (fun _ => Ev2.ite (fun _ => Ev2.ret ⟨rfl, by omega, by omega⟩) (fun _ => ih _ _ (by omega) ⟨j + 1, rfl, rfl, hj'⟩)) (fun hn => absurd (by omega) hn)
theorem far2 (a b o1 o2 : List S77) (n1 n2 : Int) (ha : a.length ≤ 1048576) (hb : b.length ≤ 1048576) : Ev2 (fun k => spec_l15Between.f k n1 a o1 n2 o2 b) (fun k => impl_farBetween.f k a b) (· = ·) := by
  unfold spec_l15Between.f impl_farBetween.f
  refine Ev2.whl (f := fun k (s : Int × Int) => spec_l15Between.l0 k s.1 s.2 n1 a o1 n2 o2 b) (g := fun k (s : Int × Int) => impl_farBetween.l0 k b s.1 a a.length s.2) (m := fun s _ => (a.length - s.2).toNat) (inv := fun s t => s = t ∧ ∃ j : Nat, s.2 = j ∧ j ≤ a.length) ?_ (-1, 0) (-1, 0) ⟨rfl, 0, rfl, by omega⟩
  rintro ⟨best, i⟩ ⟨_, _⟩ ⟨e, j, hi, hj⟩ ih
  cases e
  obtain rfl : i = j := hi
  simp only [spec_l15Between.l0, impl_farBetween.l0]
  refine Ev2.ite (fun h => ?_) (fun _ => Ev2.ret rfl)
  have hj' : j < a.length := by omega
  refine Ev2.rpos (by omega) (Ev2.rpos h ?_)
  have inner : ∀ (s t : Int × Int), (s = t ∧ ∃ q : Nat, s.2 = q ∧ q ≤ b.length) → Ev2 (fun k => spec_l15Between.l1 k s.1 j s.2 n1 a o1 n2 o2 b) (fun k => impl_farBetween.l1 k b t.1 a a.length j b b.length t.2 (rd_T77 a j).f0 (rd_T77 a j).f1) (· = ·) := by
    refine Ev2.whl (f := fun k (s : Int × Int) => spec_l15Between.l1 k s.1 j s.2 n1 a o1 n2 o2 b) (g := fun k (t : Int × Int) => impl_farBetween.l1 k b t.1 a a.length j b b.length t.2 (rd_T77 a j).f0 (rd_T77 a j).f1) (m := fun s _ => (b.length - s.2).toNat) (inv := fun s t => s = t ∧ ∃ q : Nat, s.2 = q ∧ q ≤ b.length) ?_
    rintro ⟨best, i⟩ ⟨_, _⟩ ⟨e, q, hi, hq⟩ ih2
    cases e
    obtain rfl : i = q := hi
    simp only [spec_l15Between.l1, impl_farBetween.l1]
    refine Ev2.ite (fun h2 => ?_) (fun _ => ?_)
    · have hq' : q < b.length := by omega
      rw [wrap_next hq' (by omega)]
      have hn : ∀ x : Int, Ev2 (fun k => spec_l15Between.l1 k x j ((q + 1 : Nat) : Int) n1 a o1 n2 o2 b) (fun k => impl_farBetween.l1 k b x a a.length j b b.length ((q + 1 : Nat) : Int) (rd_T77 a j).f0 (rd_T77 a j).f1) (· = ·) := fun x => ih2 (x, ((q + 1 : Nat) : Int)) (x, ((q + 1 : Nat) : Int)) (by simp only []; omega) ⟨rfl, q + 1, rfl, hq'⟩
      refine Ev2.lpos (by omega) (Ev2.lpos h (Ev2.lpos (by omega) (Ev2.rpos (by omega) (Ev2.rpos h2 ?_))))
      exact Ev2.ite (fun _ => Ev2.ite (fun _ => hn _) (fun _ => Ev2.ite (fun _ => hn _) (fun _ => hn _))) (fun _ => hn _)
    · rw [wrap_next hj' (by omega)]
      exact ih (best, ((j + 1 : Nat) : Int)) (best, ((j + 1 : Nat) : Int)) (by simp only []; omega) ⟨rfl, j + 1, rfl, hj'⟩
  exact inner (best, 0) (best, 0) ⟨rfl, 0, rfl, by omega⟩
theorem farOf2 (l : List S60) (a b : Int) (hl : SmL le60 l) : Ev2 (fun k => spec_FarOf.f k l a b) (fun k => impl_FarOf.f k l a b) (· = ·) := by
  unfold spec_FarOf.f impl_FarOf.f
  obtain ⟨x, x', hx, hx', rfl, x1, x2⟩ := at2 l a hl.1
  obtain ⟨y, y', hy, hy', rfl, y1, y2⟩ := at2 l b hl.1
  obtain ⟨c, d, hc, hd, hcd⟩ := hubs_ok l hl
  refine Ev2.lbind ⟨x, hx, rfl⟩ (fun _ e => ?_)
  subst e
  refine Ev2.lbind ⟨y, hy, rfl⟩ (fun _ e => ?_)
  subst e
  refine Ev2.lbind ⟨c, hc, rfl⟩ (fun _ e => ?_)
  subst e
  refine Ev2.rbind ⟨d, hd, rfl⟩ (fun _ e => ?_)
  subst e
  cases d with
  | false => exact Ev2.lneg (by rw [hcd]; simp) (Ev2.rneg (by simp) (Ev2.ret rfl))
  | true =>
    refine Ev2.lpos (by rw [hcd]; simp) (Ev2.rpos rfl ?_)
    refine Ev2.rbind ⟨x, hx', rfl⟩ (fun _ e => ?_)
    subst e
    refine Ev2.rbind ⟨y, hy', rfl⟩ (fun _ e => ?_)
    subst e
    refine Ev2.ite (fun _ => Ev2.ret rfl) (fun g1 => Ev2.ite (fun _ => Ev2.ret rfl) (fun g2 => ?_))
    refine Ev2.ite (fun _ => Ev2.ite (fun _ => Ev2.ite (fun _ => Ev2.ite (fun _ => ?_) (fun h => absurd y2 h)) (fun h => absurd (by omega) h)) (fun h => absurd x2 h)) (fun h => absurd (by omega) h)
    have mem : ∀ z : Int, 0 ≤ z → z < l.length → le60 (rd_T60 l z) := fun z h0 h1 => hl.2 _ (getD_mem _ (by omega))
    refine Ev2.bind (far2 _ _ _ _ _ _ (mem x (by omega) x2).1.1 (mem y (by omega) y2).2.1) (fun p q e => Ev2.ret e)
theorem FnExactFarOf : OFnExactFarOf.Said := by
  intro l a b hl ha hb
  refine EvP.rounds (?_ : EvP (fun k => laws_FnExactFarOf.f k l a b) (· = true))
  unfold laws_FnExactFarOf.f
  refine EvP.bind (szlHub l hl 1048576 (by omega) (by omega)) (fun t ht => ?_)
  refine EvP.ite (fun _ => EvP.ret rfl) (fun hn => ?_)
  have hs := ht.2.2 (by omega)
  have hto := tolHub l hs
  refine EvP.bind hto (fun x hx => ?_)
  subst hx
  obtain ⟨w, g, hw, hg, hwg⟩ := farOf2 (l.map c57) a b (smL_map hs le_c57)
  refine EvP.bind ⟨w, hw, rfl⟩ (fun w' hw' => ?_)
  subst hw'
  refine EvP.bind hto (fun x hx => ?_)
  subst hx
  refine EvP.bind ⟨g, hg, rfl⟩ (fun g' hg' => ?_)
  subst hg'
  refine EvP.pos hwg.symm ?_
  refine EvP.bind hto (fun x hx => ?_)
  subst hx
  refine EvP.bind (eqlHub _ (smL_map hs le_c57)) (fun b hb => ?_)
  exact EvP.pos hb (EvP.ret rfl)
end Go.Proofs.Ytfokinbpepaamaa.Pure
