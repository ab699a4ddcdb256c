/- The program's ShowSteps and the reference's ShowSteps tell the same text for all lists of steps within the law's size bound: both read the steps as one tree and tell its text from the root on, with the same brackets. No condition beyond the statement's own. -/
import Derived.Test.YtmecapnpgedcnaaOpnFnExactShowSteps
namespace Go.Proofs.Ytmecapnpgedcnaa.Pure
open Go.RowKit Go.Proofs.Ytmecapnpgedcnaa.PFnExactShowSteps Go.Proofs.YtmecapnpgedcnaaW.PrintWords Go.Proofs.YtmecapnpgedcnaaW.PrintLast Go.Proofs.Ytmecapnpgedcnaa.OFnExactShowSteps
set_option linter.unusedVariables false
/-- With enough rounds g tells something of which P holds. -/
def EvP {α : Type} (g : Nat → Option α) (P : α → Prop) : Prop := ∃ r, Ev g r ∧ P r
section
variable {α β : Type}
theorem EvP.ret {P : α → Prop} {r : α} (h : P r) : EvP (fun _ => some r) P := ⟨r, Ev.now r, h⟩
theorem EvP.now {P : α → Prop} {o : Option α} {r : α} (e : o = some r) (h : P r) : EvP (fun _ => o) P := ⟨r, ⟨0, fun _ _ => e⟩, h⟩
theorem EvP.ite {c : Prop} [Decidable c] {f g : Nat → Option α} {P : α → Prop} (h : c → EvP f P) (h' : ¬ c → EvP g P) : EvP (fun k => if c then f k else g k) P := by
  by_cases hc : c
  · simp only [if_pos hc]; exact h hc
  · simp only [if_neg hc]; exact h' hc
theorem EvP.pos {c : Prop} [Decidable c] {f g : Nat → Option α} {P : α → Prop} (hc : c) (h : EvP f P) : EvP (fun k => if c then f k else g k) P := by
  simp only [if_pos hc]; exact h
theorem EvP.neg {c : Prop} [Decidable c] {f g : Nat → Option α} {P : α → Prop} (hc : ¬ c) (h : EvP g P) : EvP (fun k => if c then f k else g k) P := by
  simp only [if_neg hc]; exact h
theorem EvP.bind {g : Nat → Option α} {f : Nat → α → Option β} {Q : α → Prop} {P : β → Prop} (h : EvP g Q) (k : ∀ a, Q a → EvP (fun n => f n a) P) : EvP (fun n => (g n).bind (f n)) P := by
  obtain ⟨a, ha, hq⟩ := h
  obtain ⟨r, hr, hp⟩ := k a hq
  exact ⟨r, Ev.bind ha hr, hp⟩
theorem EvP.mono {g : Nat → Option α} {P Q : α → Prop} (h : EvP g P) (k : ∀ a, P a → Q a) : EvP g Q := by
  obtain ⟨r, hr, hp⟩ := h
  exact ⟨r, hr, k r hp⟩
theorem EvP.step {g f : Nat → Option α} {P : α → Prop} (h : ∀ k, g (k + 1) = f k) (k : EvP f P) : EvP g P := by
  obtain ⟨r, hr, hp⟩ := k
  exact ⟨r, Ev.step h hr, hp⟩
theorem EvP.rounds {g : Nat → Option α} {r : α} (h : EvP g (· = r)) : ∃ k, g k = some r := by
  obtain ⟨_, hr, rfl⟩ := h
  exact hr.rounds
/-- A loop (or a function that calls itself) with a measure m and an invariant inv; 'ih': what a later round tells. -/
theorem EvP.whl1 {σ ρ : Type} {g : Nat → σ → Option ρ} {P : ρ → Prop} (m : σ → Nat) (inv : σ → Prop)
    (step : ∀ s, inv s → (∀ s', m s' < m s → inv s' → EvP (fun k => g k s') P) → EvP (fun k => g (k + 1) s) P) : ∀ s, inv s → EvP (fun k => g k s) P := by
  have H : ∀ (n : Nat) (s : σ), m s < n → inv s → EvP (fun k => g k s) P := by
    intro n
    induction n with
    | zero => intro s h; exact absurd h (Nat.not_lt_zero _)
    | succ n ih =>
      intro s hm hs
      exact EvP.step (f := fun k => g (k + 1) s) (fun _ => rfl) (step s hs (fun s' h hs' => ih s' (by omega) hs'))
  exact fun s hs => H (m s + 1) s (Nat.lt_succ_self _) hs
theorem EvP.whl2 {σ τ ρ : Type} {g : Nat → σ → τ → Option ρ} {P : ρ → Prop} (m : σ → τ → Nat) (inv : σ → τ → Prop)
    (step : ∀ s t, inv s t → (∀ s' t', m s' t' < m s t → inv s' t' → EvP (fun k => g k s' t') P) → EvP (fun k => g (k + 1) s t) P) : ∀ s t, inv s t → EvP (fun k => g k s t) P :=
  fun s t h => EvP.whl1 (g := fun k (x : σ × τ) => g k x.1 x.2) (m := fun x => m x.1 x.2) (inv := fun x => inv x.1 x.2) (fun x hx ih => step x.1 x.2 hx (fun s' t' hm hi => ih (s', t') hm hi)) (s, t) h
theorem wrap_in {x : Int} (h0 : -9223372036854775808 ≤ x) (h1 : x ≤ 9223372036854775807) : wrap64 x = x := by
  unfold wrap64
  omega
theorem wrap_next {i n : Nat} (h : i < n) (hn : n ≤ 9223372036854775807) : wrap64 ((i : Int) + 1) = ((i + 1 : Nat) : Int) := by
  rw [wrap_in (by omega) (by omega)]
  omega
theorem set_at {xs : List α} {i : Nat} (z : α) (f : Nat → α) (n : Nat) (hxs : xs = (List.range i).map f ++ List.replicate (n - i) z) (hi : i < n) : xs.set i (f i) = (List.range (i + 1)).map f ++ List.replicate (n - (i + 1)) z := by
  subst hxs
  rw [List.set_append_right _ _ (by simp)]
  simp only [List.length_map, List.length_range, Nat.sub_self]
  obtain ⟨m, hm⟩ : ∃ m, n - i = m + 1 := ⟨n - i - 1, by omega⟩
  rw [hm, show n - (i + 1) = m by omega, List.replicate_succ, List.set_cons_zero, List.range_succ]
  simp
theorem map_of_range {xs : List β} (z : β) (c : β → α) : (List.range xs.length).map (fun i => c (xs.getD i z)) = xs.map c := by
  apply List.ext_getElem?
  intro i
  by_cases hi : i < xs.length
  · simp [hi, List.getD]
  · simp [hi]
theorem getD_mem {xs : List α} {i : Nat} (z : α) (h : i < xs.length) : xs.getD i z ∈ xs := by
  rw [List.getD_eq_getElem?_getD, List.getElem?_eq_getElem h]
  exact List.getElem_mem h
end
/-- f and g, with enough rounds, tell two things of which R holds. -/
def Ev2 {α β : Type} (f : Nat → Option α) (g : Nat → Option β) (R : α → β → Prop) : Prop := ∃ a b, Ev f a ∧ Ev g b ∧ R a b
section
variable {α β γ δ : Type}
theorem Ev2.ret {R : α → β → Prop} {a : α} {b : β} (h : R a b) : Ev2 (fun _ => some a) (fun _ => some b) R := ⟨a, b, Ev.now a, Ev.now b, h⟩
theorem Ev2.of {f : Nat → Option α} {g : Nat → Option β} {P : α → Prop} {Q : β → Prop} {R : α → β → Prop} (h : EvP f P) (h' : EvP g Q) (k : ∀ a b, P a → Q b → R a b) : Ev2 f g R := by
  obtain ⟨a, ha, hp⟩ := h
  obtain ⟨b, hb, hq⟩ := h'
  exact ⟨a, b, ha, hb, k a b hp hq⟩
theorem Ev2.ite {c : Prop} [Decidable c] {f f' : Nat → Option α} {g g' : Nat → Option β} {R : α → β → Prop} (h : c → Ev2 f g R) (h' : ¬ c → Ev2 f' g' R) : Ev2 (fun k => if c then f k else f' k) (fun k => if c then g k else g' k) R := by
  by_cases hc : c
  · simp only [if_pos hc]; exact h hc
  · simp only [if_neg hc]; exact h' hc
theorem Ev2.lite {c : Prop} [Decidable c] {f f' : Nat → Option α} {g : Nat → Option β} {R : α → β → Prop} (h : c → Ev2 f g R) (h' : ¬ c → Ev2 f' g R) : Ev2 (fun k => if c then f k else f' k) g R := by
  by_cases hc : c
  · simp only [if_pos hc]; exact h hc
  · simp only [if_neg hc]; exact h' hc
theorem Ev2.rite {c : Prop} [Decidable c] {f : Nat → Option α} {g g' : Nat → Option β} {R : α → β → Prop} (h : c → Ev2 f g R) (h' : ¬ c → Ev2 f g' R) : Ev2 f (fun k => if c then g k else g' k) R := by
  by_cases hc : c
  · simp only [if_pos hc]; exact h hc
  · simp only [if_neg hc]; exact h' hc
theorem Ev2.lpos {c : Prop} [Decidable c] {f f' : Nat → Option α} {g : Nat → Option β} {R : α → β → Prop} (hc : c) (h : Ev2 f g R) : Ev2 (fun k => if c then f k else f' k) g R := Ev2.lite (fun _ => h) (fun n => absurd hc n)
theorem Ev2.lneg {c : Prop} [Decidable c] {f f' : Nat → Option α} {g : Nat → Option β} {R : α → β → Prop} (hc : ¬ c) (h : Ev2 f' g R) : Ev2 (fun k => if c then f k else f' k) g R := Ev2.lite (fun n => absurd n hc) (fun _ => h)
theorem Ev2.rpos {c : Prop} [Decidable c] {f : Nat → Option α} {g g' : Nat → Option β} {R : α → β → Prop} (hc : c) (h : Ev2 f g R) : Ev2 f (fun k => if c then g k else g' k) R := Ev2.rite (fun _ => h) (fun n => absurd hc n)
theorem Ev2.rneg {c : Prop} [Decidable c] {f : Nat → Option α} {g g' : Nat → Option β} {R : α → β → Prop} (hc : ¬ c) (h : Ev2 f g' R) : Ev2 f (fun k => if c then g k else g' k) R := Ev2.rite (fun n => absurd n hc) (fun _ => h)
theorem Ev2.bind {f : Nat → Option α} {g : Nat → Option β} {f' : Nat → α → Option γ} {g' : Nat → β → Option δ} {Q : α → β → Prop} {R : γ → δ → Prop} (h : Ev2 f g Q) (k : ∀ a b, Q a b → Ev2 (fun n => f' n a) (fun n => g' n b) R) : Ev2 (fun n => (f n).bind (f' n)) (fun n => (g n).bind (g' n)) R := by
  obtain ⟨a, b, ha, hb, hq⟩ := h
  obtain ⟨c, d, hc, hd, hr⟩ := k a b hq
  exact ⟨c, d, Ev.bind ha hc, Ev.bind hb hd, hr⟩
theorem Ev2.rbind {f : Nat → Option γ} {g : Nat → Option β} {g' : Nat → β → Option δ} {Q : β → Prop} {R : γ → δ → Prop} (h : EvP g Q) (k : ∀ b, Q b → Ev2 f (fun n => g' n b) R) : Ev2 f (fun n => (g n).bind (g' n)) R := by
  obtain ⟨b, hb, hq⟩ := h
  obtain ⟨c, d, hc, hd, hr⟩ := k b hq
  exact ⟨c, d, hc, Ev.bind hb hd, hr⟩
theorem Ev2.mono {f : Nat → Option α} {g : Nat → Option β} {R S : α → β → Prop} (h : Ev2 f g R) (k : ∀ a b, R a b → S a b) : Ev2 f g S := by
  obtain ⟨a, b, ha, hb, hr⟩ := h
  exact ⟨a, b, ha, hb, k a b hr⟩
theorem Ev2.and {f : Nat → Option α} {g : Nat → Option β} {R : α → β → Prop} {P : α → Prop} (h : Ev2 f g R) (h' : EvP f P) : Ev2 f g (fun a b => R a b ∧ P a) := by
  obtain ⟨a, b, ha, hb, hr⟩ := h
  obtain ⟨a', ⟨K', ha'⟩, hp⟩ := h'
  obtain ⟨K, ha0⟩ := ha
  have e : some a = some a' := (ha0 (max K K') (Nat.le_max_left _ _)).symm.trans (ha' (max K K') (Nat.le_max_right _ _))
  cases e
  exact ⟨a, b, ⟨K, ha0⟩, hb, hr, hp⟩
theorem Ev2.lstep {f : Nat → Option α} {g : Nat → Option β} {R : α → β → Prop} (h : Ev2 (fun k => f (k + 1)) g R) : Ev2 f g R := by
  obtain ⟨a, b, ha, hb, hr⟩ := h
  exact ⟨a, b, Ev.step (f := fun k => f (k + 1)) (fun _ => rfl) ha, hb, hr⟩
theorem Ev2.rstep {f : Nat → Option α} {g : Nat → Option β} {R : α → β → Prop} (h : Ev2 f (fun k => g (k + 1)) R) : Ev2 f g R := by
  obtain ⟨a, b, ha, hb, hr⟩ := h
  exact ⟨a, b, ha, Ev.step (f := fun k => g (k + 1)) (fun _ => rfl) hb, hr⟩
end
def Sm (s : ByteArray) : Prop := s.size ≤ 1048576
def SmL {α : Type} (sm : α → Prop) (xs : List α) : Prop := xs.length ≤ 1048576 ∧ ∀ x ∈ xs, sm x
theorem smL_map {α β : Type} {P : α → Prop} {Q : β → Prop} {c : α → β} {l : List α} (h : SmL P l) (hc : ∀ x, P x → Q (c x)) : SmL Q (l.map c) :=
  ⟨by simpa using h.1, fun y hy => by obtain ⟨x, hx, rfl⟩ := List.mem_map.1 hy; exact hc x (h.2 x hx)⟩
def sm64 (x : S64) : Prop := Sm x.f1
def c64 (x : S64) : S66 := ⟨x.f0, x.f1, x.f2⟩
theorem sz64 (x : S64) (hx : wf64 x) (a : Int) (ha : 0 ≤ a) (hb : a ≤ 1048576) : EvP (fun k => laws_szPathStep.f x.f0 x.f1 x.f2 a) (fun t => -1 ≤ t ∧ t ≤ a ∧ (0 ≤ t → sm64 x)) := by
  obtain ⟨h0, h1, h2⟩ := hx
  unfold Str at h1
  unfold laws_szPathStep.f
  rw [show wrap64 (a - (x.f1.size : Int)) = a - x.f1.size from wrap_in (by omega) (by omega)]
  refine EvP.ite (fun _ => EvP.ret ⟨by omega, by omega, fun h => absurd h (by omega)⟩) (fun g1 => ?_)
  exact EvP.ret ⟨by omega, by omega, fun _ => by show (_ : Nat) ≤ _; omega⟩
theorem szlPathStep (l : List S64) (hl : Lst wf64 l) (a : Int) (ha : 0 ≤ a) (hb : a ≤ 1048576) : EvP (fun k => laws_szPathStepS.f k l a) (fun t => -1 ≤ t ∧ t ≤ a ∧ (0 ≤ t → SmL sm64 l)) := by
  obtain ⟨h0, h1⟩ := hl
  unfold laws_szPathStepS.f
  rw [show wrap64 (a - (l.length : Int)) = a - l.length from wrap_in (by omega) (by omega)]
  refine EvP.ite (fun _ => EvP.ret ⟨by omega, by omega, fun h => absurd h (by omega)⟩) (fun g => ?_)
  refine EvP.whl2 (g := fun k (s : Int) (i : Int) => laws_szPathStepS.l0 k l s i) (m := fun _ i => (l.length - i).toNat) (inv := fun s i => ∃ j : Nat, i = j ∧ j ≤ l.length ∧ 0 ≤ s ∧ s ≤ a ∧ ∀ q, q < j → ∀ y, l[q]? = some y → sm64 y) ?_ _ _ ⟨0, rfl, by omega, by omega, by omega, fun q hq => absurd hq (by omega)⟩
  rintro s i ⟨j, rfl, hj, s0, s1, hs⟩ ih
  simp only [laws_szPathStepS.l0]
  refine EvP.ite (fun h => ?_) (fun h => EvP.ret ⟨by omega, by omega, fun _ => ⟨by omega, fun y hy => ?_⟩⟩)
  · have hj' : j < l.length := by omega
    refine EvP.pos (by omega) ?_
    refine EvP.bind (sz64 (rd_T64 l j) (h1 _ (getD_mem _ (by simpa using hj'))) s (by omega) (by omega)) (fun t ht => ?_)
    obtain ⟨p1, q1, r1⟩ := ht
    refine EvP.ite (fun _ => EvP.ret ⟨by omega, by omega, fun h => absurd h (by omega)⟩) (fun g1 => ?_)
    have hlast : sm64 l[j] := by have := r1 (by omega); simpa [rd_T64, List.getD, List.getElem?_eq_getElem hj'] using this
    rw [wrap_next hj' (by omega)]
    refine ih _ _ (by omega) ⟨j + 1, rfl, by omega, by omega, by omega, fun q hq y hy => ?_⟩
    by_cases e : q = j
    · subst e; rw [List.getElem?_eq_getElem hj'] at hy; cases hy; exact hlast
    · exact hs q (by omega) y hy
  · obtain ⟨q, hq, rfl⟩ := List.mem_iff_getElem.1 hy
    exact hs q (by omega) _ (List.getElem?_eq_getElem hq)
theorem to64 (x : S64) (hx : sm64 x) : EvP (fun k => laws_toPathStep.f x.f0 x.f1 x.f2) (· = ((c64 x).f0, (c64 x).f1, (c64 x).f2)) := by
  unfold laws_toPathStep.f
  obtain h1 := hx
  exact EvP.ret rfl
theorem tolPathStep (l : List S64) (hl : SmL sm64 l) : EvP (fun k => laws_toPathStepS.f k l) (· = l.map c64) := by
  obtain ⟨h0, h1⟩ := hl
  unfold laws_toPathStepS.f
  refine EvP.pos (by omega) (EvP.pos (by omega) ?_)
  refine EvP.whl2 (g := fun k (s : List S66) (i : Int) => laws_toPathStepS.l0 k l s i) (m := fun _ i => (l.length - i).toNat) (inv := fun s i => ∃ j : Nat, i = j ∧ j ≤ l.length ∧ s = (List.range j).map (fun q : Nat => c64 (rd_T64 l (q : Int))) ++ List.replicate (l.length - j) z66) ?_ _ _ ⟨0, rfl, by omega, by simp⟩
  rintro s i ⟨j, rfl, hj, hs⟩ ih
  simp only [laws_toPathStepS.l0]
  refine EvP.ite (fun h => ?_) (fun h => EvP.ret ?_)
  · have hj' : j < l.length := by omega
    refine EvP.pos (by omega) ?_
    refine EvP.bind (to64 (rd_T64 l j) (h1 _ (getD_mem _ (by simpa using hj')))) (fun r hr => ?_)
    subst hr
    refine EvP.pos (by rw [hs]; simp; omega) ?_
    rw [wrap_next hj' (by omega)]
    refine ih _ _ (by omega) ⟨j + 1, rfl, hj', ?_⟩
    exact set_at z66 (fun q : Nat => c64 (rd_T64 l (q : Int))) _ hs hj'
  · obtain rfl : j = l.length := by omega
    rw [hs]; simpa [rd_T64] using map_of_range z64 c64 (xs := l)
def le66 (x : S66) : Prop := True
theorem eq66 (x : S66) (hx : le66 x) : EvP (fun k => laws_eqPathStep.f x.f0 x.f1 x.f2 x.f0 x.f1 x.f2) (· = true) := by
  unfold laws_eqPathStep.f
  refine EvP.pos rfl ?_
  refine EvP.pos rfl ?_
  refine EvP.pos rfl ?_
  exact EvP.ret rfl
theorem eqlPathStep (l : List S66) (hl : SmL le66 l) : EvP (fun k => laws_eqPathStepS.f k l l) (· = true) := by
  obtain ⟨h0, h1⟩ := hl
  unfold laws_eqPathStepS.f
  refine EvP.pos rfl ?_
  refine EvP.whl1 (g := fun k (i : Int) => laws_eqPathStepS.l0 k l l i) (m := fun i => (l.length - i).toNat) (inv := fun i => ∃ j : Nat, i = j ∧ j ≤ l.length) ?_ _ ⟨0, rfl, by omega⟩
  rintro i ⟨j, rfl, hj⟩ ih
  simp only [laws_eqPathStepS.l0]
  refine EvP.ite (fun h => ?_) (fun h => EvP.ret rfl)
  have hj' : j < l.length := by omega
  refine EvP.pos (by omega) (EvP.pos (by omega) ?_)
  refine EvP.bind (eq66 (rd_T66 l j) (h1 _ (getD_mem _ (by simpa using hj')))) (fun r hr => ?_)
  subst hr
  refine EvP.pos rfl ?_
  rw [wrap_next hj' (by omega)]
  exact ih _ (by omega) ⟨j + 1, rfl, by omega⟩
theorem le_c64 (x : S64) (hx : sm64 x) : le66 (c64 x) := by
  exact trivial
/-- φ grows beyond every bound. -/
def Tends (φ : Nat → Nat) : Prop := ∀ M, ∃ K, ∀ k, K ≤ k → M ≤ φ k
theorem Tends.succ {φ : Nat → Nat} (h : Tends φ) : Tends (fun k => φ (k + 1)) := fun M => by
  obtain ⟨K, hK⟩ := h M
  exact ⟨K, fun k hk => hK (k + 1) (by omega)⟩
theorem Tends.id : Tends (fun k => k) := fun M => ⟨M, fun _ h => h⟩
theorem Ev.at_ {α : Type} {X : Nat → Option α} {r : α} {φ : Nat → Nat} (hφ : Tends φ) (h : Ev X r) : Ev (fun k => X (φ k)) r := by
  obtain ⟨M, hM⟩ := h
  obtain ⟨K, hK⟩ := hφ M
  exact ⟨K, fun k hk => hM _ (hK k hk)⟩
theorem EvP.at_ {α : Type} {X : Nat → Option α} {P : α → Prop} {φ : Nat → Nat} (hφ : Tends φ) (h : EvP X P) : EvP (fun k => X (φ k)) P := by
  obtain ⟨r, hr, hp⟩ := h
  exact ⟨r, Ev.at_ hφ hr, hp⟩
theorem Ev2.at_ {α β : Type} {X : Nat → Option α} {Y : Nat → Option β} {R : α → β → Prop} {φ ψ : Nat → Nat} (hφ : Tends φ) (hψ : Tends ψ) (h : Ev2 X Y R) : Ev2 (fun k => X (φ k)) (fun k => Y (ψ k)) R := by
  obtain ⟨a, b, ha, hb, hr⟩ := h
  exact ⟨a, b, Ev.at_ hφ ha, Ev.at_ hψ hb, hr⟩
theorem Ev2.lmap {α β : Type} {f f' : Nat → Option α} {g : Nat → Option β} {R : α → β → Prop} (h : Ev2 f g R) (k : ∀ a, Ev f a → Ev f' a) : Ev2 f' g R := by
  obtain ⟨a, b, ha, hb, hr⟩ := h
  exact ⟨a, b, k a ha, hb, hr⟩
theorem Ev2.rmap {α β : Type} {f : Nat → Option α} {g g' : Nat → Option β} {R : α → β → Prop} (h : Ev2 f g R) (k : ∀ b, Ev g b → Ev g' b) : Ev2 f g' R := by
  obtain ⟨a, b, ha, hb, hr⟩ := h
  exact ⟨a, b, ha, k b hb, hr⟩
theorem Ev2.and_right {α β : Type} {f : Nat → Option α} {g : Nat → Option β} {R : α → β → Prop} {P : β → Prop} (h : Ev2 f g R) (h' : EvP g P) : Ev2 f g (fun a b => R a b ∧ P b) := by
  obtain ⟨a, b, ha, hb, hr⟩ := h
  obtain ⟨b', ⟨K', hb'⟩, hp⟩ := h'
  obtain ⟨K, hb0⟩ := hb
  have e : some b = some b' := (hb0 (max K K') (Nat.le_max_left _ _)).symm.trans (hb' (max K K') (Nat.le_max_right _ _))
  cases e
  exact ⟨a, b, ha, ⟨K, hb0⟩, hr, hp⟩
/-! Names and words: plain facts on bytes -/
def letU (c : UInt8) : Bool := (decide (97 ≤ c.toNat) && decide (c.toNat ≤ 122)) || (decide (65 ≤ c.toNat) && decide (c.toNat ≤ 90))
def digU (c : UInt8) : Bool := decide (48 ≤ c.toNat) && decide (c.toNat ≤ 57)
def nameU (c : UInt8) : Bool := letU c || digU c || c.toNat == 95
def nameL (l : List UInt8) : Bool := decide (1 ≤ l.length) && decide (l.length ≤ 20) && letU (l.headD 0) && l.all nameU
theorem bt_list (s : ByteArray) (j : Nat) (h : j < s.size) : bt s (j : Int) = ((s.data.toList[j]'(by simpa using h)).toNat : Int) := by
  simp [bt, h]
  rfl
theorem letter_some (c : UInt8) : spec_l01Letter.f (c.toNat : Int) = some (letU c) := by
  unfold spec_l01Letter.f letU
  have e1 : ((c.toNat : Int) ≥ 97) = (97 ≤ c.toNat) := propext (by omega)
  have e2 : ((c.toNat : Int) ≤ 122) = (c.toNat ≤ 122) := propext (by omega)
  have e3 : ((c.toNat : Int) ≥ 65) = (65 ≤ c.toNat) := propext (by omega)
  have e4 : ((c.toNat : Int) ≤ 90) = (c.toNat ≤ 90) := propext (by omega)
  simp only [e1, e2, e3, e4]
  by_cases a1 : 97 ≤ c.toNat <;> by_cases a2 : c.toNat ≤ 122 <;> by_cases a3 : 65 ≤ c.toNat <;> simp [a1, a2, a3]
theorem letter_impl (c : UInt8) : impl_isLetter.f (c.toNat : Int) = some (letU c) := letter_some c
theorem digit_some (c : UInt8) : spec_l01Digit.f (c.toNat : Int) = some (digU c) := by
  unfold spec_l01Digit.f digU
  have e1 : ((c.toNat : Int) ≥ 48) = (48 ≤ c.toNat) := propext (by omega)
  have e2 : ((c.toNat : Int) ≤ 57) = (c.toNat ≤ 57) := propext (by omega)
  simp only [e1, e2]
  by_cases a1 : 48 ≤ c.toNat <;> simp [a1]
theorem nameU_of {c : UInt8} : nameU c = (letU c || digU c || c.toNat == 95) := rfl
theorem digit_impl (c : UInt8) : impl_isDigit.f (c.toNat : Int) = some (digU c) := digit_some c
theorem all_drop {l : List UInt8} {j : Nat} (h : j < l.length) : (l.drop j).all nameU = (nameU l[j] && (l.drop (j + 1)).all nameU) := by
  rw [List.drop_eq_getElem_cons h, List.all_cons]
theorem spec_name_loop (s : ByteArray) (hs : s.size ≤ 20) (j : Nat) (hj : j ≤ s.size) : EvP (fun k => spec_l01Name.l0 k s (j : Int)) (· = (s.data.toList.drop j).all nameU) := by
  refine EvP.whl1 (g := fun k (i : Int) => spec_l01Name.l0 k s i) (m := fun i => (s.size - i).toNat) (inv := fun i => ∃ q : Nat, i = q ∧ q ≤ s.size ∧ (s.data.toList.drop q).all nameU = (s.data.toList.drop j).all nameU) ?_ _ ⟨j, rfl, hj, rfl⟩
  rintro i ⟨q, rfl, hq, hv⟩ ih
  simp only [spec_l01Name.l0]
  have hlen : s.data.toList.length = s.size := by simp
  refine EvP.ite (fun h => ?_) (fun h => EvP.ret ?_)
  · have hq' : q < s.size := by omega
    have hn := ih ((q + 1 : Nat) : Int) (by omega)
    rw [all_drop (by omega)] at hv
    rw [bt_list s q hq', letter_some, digit_some, wrap_next hq' (by omega)]
    generalize s.data.toList[q]'(by omega) = c at hv
    refine EvP.pos (by omega) ?_
    simp only [Option.bind_some]
    refine EvP.ite (fun h1 => hn ⟨q + 1, rfl, hq', by rw [← hv, nameU_of, h1]; rfl⟩) (fun h1 => ?_)
    refine EvP.ite (fun h2 => hn ⟨q + 1, rfl, hq', by rw [← hv, nameU_of, h2, Bool.or_true]; rfl⟩) (fun h2 => ?_)
    refine EvP.ite (fun h3 => hn ⟨q + 1, rfl, hq', ?_⟩) (fun h3 => EvP.ret ?_)
    · rw [← hv, nameU_of, show (c.toNat == 95) = true from by simpa using (by omega : c.toNat = 95), Bool.or_true]; rfl
    · rw [← hv, nameU_of, show (c.toNat == 95) = false from by simpa using (by omega : ¬ c.toNat = 95), show letU c = false from by simpa using h1, show digU c = false from by simpa using h2]; rfl
  · obtain rfl : q = s.size := by omega
    rw [← hv, List.drop_of_length_le (by omega)]; rfl
theorem impl_name_loop (s : ByteArray) (hs : s.size ≤ 20) (j : Nat) (hj : j ≤ s.size) : EvP (fun k => impl_isName.l0 k s (s.size : Int) (j : Int)) (· = (s.data.toList.drop j).all nameU) := by
  refine EvP.whl1 (g := fun k (i : Int) => impl_isName.l0 k s s.size i) (m := fun i => (s.size - i).toNat) (inv := fun i => ∃ q : Nat, i = q ∧ q ≤ s.size ∧ (s.data.toList.drop q).all nameU = (s.data.toList.drop j).all nameU) ?_ _ ⟨j, rfl, hj, rfl⟩
  rintro i ⟨q, rfl, hq, hv⟩ ih
  simp only [impl_isName.l0]
  have hlen : s.data.toList.length = s.size := by simp
  refine EvP.ite (fun h => ?_) (fun h => EvP.ret ?_)
  · have hq' : q < s.size := by omega
    have hn := ih ((q + 1 : Nat) : Int) (by omega)
    rw [all_drop (by omega)] at hv
    rw [bt_list s q hq', letter_impl, digit_impl, wrap_next hq' (by omega)]
    generalize s.data.toList[q]'(by omega) = c at hv
    refine EvP.pos (by omega) (EvP.pos h ?_)
    simp only [Option.bind_some]
    refine EvP.ite (fun h1 => hn ⟨q + 1, rfl, hq', by rw [← hv, nameU_of, h1]; rfl⟩) (fun h1 => ?_)
    refine EvP.ite (fun h2 => hn ⟨q + 1, rfl, hq', by rw [← hv, nameU_of, h2, Bool.or_true]; rfl⟩) (fun h2 => ?_)
    refine EvP.ite (fun h3 => hn ⟨q + 1, rfl, hq', ?_⟩) (fun h3 => EvP.ret ?_)
    · rw [← hv, nameU_of, show (c.toNat == 95) = true from by simpa using (by omega : c.toNat = 95), Bool.or_true]; rfl
    · rw [← hv, nameU_of, show (c.toNat == 95) = false from by simpa using (by omega : ¬ c.toNat = 95), show letU c = false from by simpa using h1, show digU c = false from by simpa using h2]; rfl
  · obtain rfl : q = s.size := by omega
    rw [← hv, List.drop_of_length_le (by omega)]; rfl
theorem head_of : ∀ (l : List UInt8) (h : 0 < l.length), l[0] = l.headD 0
  | [], h => by cases h
  | _ :: _, _ => rfl
theorem head_bt (s : ByteArray) (h : 0 < s.size) : bt s 0 = ((s.data.toList.headD 0).toNat : Int) := by
  have := bt_list s 0 h
  rw [show ((0 : Nat) : Int) = 0 from rfl] at this
  rw [this, head_of]
theorem nameL_no (l : List UInt8) (h : ¬ (1 ≤ l.length ∧ l.length ≤ 20 ∧ letU (l.headD 0) = true)) : nameL l = false := by
  rw [Bool.eq_false_iff]
  intro hh
  simp only [nameL, Bool.and_eq_true, decide_eq_true_eq] at hh
  exact h ⟨hh.1.1.1, hh.1.1.2, hh.1.2⟩
theorem nameL_split (l : List UInt8) (h : letU (l.headD 0) = true) (hl : 1 ≤ l.length) : (l.drop 1).all nameU = l.all nameU := by
  cases l with
  | nil => cases hl
  | cons c r =>
    have hc : letU c = true := by simpa using h
    simp [nameU, hc]
theorem spec_name (s : ByteArray) : EvP (fun k => spec_l01Name.f k s) (· = nameL s.data.toList) := by
  unfold spec_l01Name.f
  have hlen : s.data.toList.length = s.size := by simp
  have no : ¬ (1 ≤ s.size ∧ s.size ≤ 20 ∧ letU (s.data.toList.headD 0) = true) → EvP (fun k => spec_l01Name.j0 k s true) (· = nameL s.data.toList) := by
    intro h
    refine EvP.step (f := fun _ => some false) (fun k => by simp [spec_l01Name.j0]) (EvP.ret ?_)
    exact (nameL_no _ (by rw [hlen]; exact h)).symm
  refine EvP.ite (fun h => no (by omega)) (fun h => EvP.ite (fun h2 => no (by omega)) (fun h2 => EvP.pos (by omega) ?_))
  rw [head_bt s (by omega), letter_some]
  simp only [Option.bind_some]
  by_cases h3 : letU (s.data.toList.headD 0) = true
  · rw [h3]
    refine EvP.step (f := fun k => spec_l01Name.l0 k s 1) (fun k => by simp [spec_l01Name.j0]) ?_
    refine (spec_name_loop s (by omega) 1 (by omega)).mono (fun b hb => ?_)
    rw [hb, nameL_split _ h3 (by omega)]
    unfold nameL
    rw [h3, hlen]
    simp [show 1 ≤ s.size from by omega, show s.size ≤ 20 from by omega]
  · rw [show letU (s.data.toList.headD 0) = false from by simpa using h3]
    exact no (fun hh => h3 hh.2.2)
theorem impl_name (s : ByteArray) : EvP (fun k => impl_isName.f k s) (· = nameL s.data.toList) := by
  unfold impl_isName.f
  have hlen : s.data.toList.length = s.size := by simp
  have no : ¬ (1 ≤ s.size ∧ s.size ≤ 20 ∧ letU (s.data.toList.headD 0) = true) → EvP (fun k => impl_isName.j0 k s true) (· = nameL s.data.toList) := by
    intro h
    refine EvP.step (f := fun _ => some false) (fun k => by simp [impl_isName.j0]) (EvP.ret ?_)
    exact (nameL_no _ (by rw [hlen]; exact h)).symm
  refine EvP.ite (fun h => no (by omega)) (fun h => EvP.ite (fun h2 => no (by omega)) (fun h2 => EvP.pos (by omega) ?_))
  rw [head_bt s (by omega), letter_impl]
  simp only [Option.bind_some]
  by_cases h3 : letU (s.data.toList.headD 0) = true
  · rw [h3]
    refine EvP.step (f := fun k => impl_isName.l0 k s s.size 0) (fun k => by simp [impl_isName.j0]) ?_
    refine (impl_name_loop s (by omega) 0 (by omega)).mono (fun b hb => ?_)
    rw [hb, List.drop_zero]
    unfold nameL
    rw [h3, hlen]
    simp [show 1 ≤ s.size from by omega, show s.size ≤ 20 from by omega]
  · rw [show letU (s.data.toList.headD 0) = false from by simpa using h3]
    exact no (fun hh => h3 hh.2.2)
theorem in_texts (l : List ByteArray) (a : ByteArray) (hl : l.length ≤ 1048576) : EvP (fun k => spec_l01InTexts.f k l a) (· = l.any (fun x => decide (x.toList = a.toList))) := by
  unfold spec_l01InTexts.f
  refine EvP.whl1 (g := fun k (i : Int) => spec_l01InTexts.l0 k l a i) (m := fun i => (l.length - i).toNat) (inv := fun i => ∃ q : Nat, i = q ∧ q ≤ l.length ∧ (l.drop q).any (fun x => decide (x.toList = a.toList)) = l.any (fun x => decide (x.toList = a.toList))) ?_ _ ⟨0, rfl, by omega, by simp⟩
  rintro i ⟨q, rfl, hq, hv⟩ ih
  simp only [spec_l01InTexts.l0]
  refine EvP.ite (fun h => ?_) (fun h => EvP.ret ?_)
  · have hq' : q < l.length := by omega
    rw [List.drop_eq_getElem_cons hq', List.any_cons] at hv
    have hr : rdOf ByteArray.empty l (q : Int) = l[q] := by simp [rdOf, List.getD, hq']
    rw [wrap_next hq' (by omega), hr]
    refine EvP.pos (by omega) (EvP.ite (fun h1 => EvP.ret ?_) (fun h1 => ih _ (by omega) ⟨q + 1, rfl, hq', ?_⟩))
    · rw [← hv]; simp [h1]
    · rw [← hv]; simp [h1]
  · obtain rfl : q = l.length := by omega
    rw [← hv, List.drop_of_length_le (by omega)]; rfl
abbrev Kid := ByteArray × Int × Bool × ByteArray × Int × Int × Bool
abbrev Tst := Int × ByteArray × List S133 × ByteArray × Int × Int × Bool
def inn (s : ByteArray) (l L : Int) : ByteArray := if l < L then ((⟨#[40]⟩ : ByteArray) ++ s) ++ (⟨#[41]⟩ : ByteArray) else s
theorem one_size (c : UInt8) : (⟨#[c]⟩ : ByteArray).size = 1 := rfl
theorem inn_size (s : ByteArray) (l L : Int) : s.size ≤ (inn s l L).size ∧ (inn s l L).size ≤ s.size + 2 := by
  unfold inn
  split
  · simp only [ByteArray.size_append, one_size]; omega
  · omega
theorem l08In_eq (s : ByteArray) (l : Int) (b : Bool) (L : Int) (h : s.size ≤ 1000000000) : spec_l08In.f s l b L = some (inn s l L) := by
  unfold spec_l08In.f inn
  by_cases c : l < L
  · rw [if_pos c, if_pos c, if_pos (by omega), if_pos (by rw [ByteArray.size_append, one_size]; omega)]
  · rw [if_neg c, if_neg c]
theorem takes_yes {t : ByteArray} {i : Nat} {d c : Int} (hi : i < t.size) (hs : t.size ≤ 1048576) (hc : bt t i = c) : spec_l08Test_takes.f t i d false c = some (true, t, ((i + 1 : Nat) : Int), d, false) := by
  unfold spec_l08Test_takes.f
  rw [if_neg (by decide), if_pos (by omega), if_pos (by omega), if_pos hc, wrap_next hi (by omega)]
theorem takes_no {t : ByteArray} {i : Nat} {d c : Int} (h : ¬ (i < t.size ∧ bt t i = c)) : spec_l08Test_takes.f t i d false c = some (false, t, (i : Int), d, false) := by
  unfold spec_l08Test_takes.f
  rw [if_neg (by decide)]
  by_cases hi : i < t.size
  · rw [if_pos (by omega), if_pos (by omega), if_neg (fun e => h ⟨hi, e⟩)]
  · rw [if_neg (by omega)]
theorem takes_bad {t : ByteArray} {i d c : Int} : spec_l08Test_takes.f t i d true c = some (false, t, i, d, true) := by
  unfold spec_l08Test_takes.f
  rw [if_pos rfl]
/-- Where a word that begins at i ends. -/
def stopW (t : ByteArray) (i : Nat) : Nat := i + ((t.data.toList.drop i).takeWhile nameU).length
theorem stopW_le {t : ByteArray} {i : Nat} (h : i ≤ t.size) : stopW t i ≤ t.size := by
  unfold stopW
  have h1 := (List.takeWhile_prefix (p := nameU) (l := t.data.toList.drop i)).length_le
  have h2 : t.data.toList.length = t.size := by simp
  rw [List.length_drop] at h1
  omega
theorem stopW_go {t : ByteArray} {i : Nat} (h : i < t.size) (hc : nameU (t.data.toList[i]'(by simpa using h)) = true) : stopW t (i + 1) = stopW t i := by
  unfold stopW
  have e := List.drop_eq_getElem_cons (show i < t.data.toList.length by simpa using h)
  rw [e, List.takeWhile_cons_of_pos hc, List.length_cons]
  omega
theorem stopW_end {t : ByteArray} {i : Nat} (h : i < t.size) (hc : ¬ nameU (t.data.toList[i]'(by simpa using h)) = true) : stopW t i = i := by
  unfold stopW
  rw [List.drop_eq_getElem_cons (by simpa using h), List.takeWhile_cons_of_neg hc]
  rfl
theorem stopW_all {t : ByteArray} {i : Nat} (h : ¬ i < t.size) : stopW t i = i := by
  unfold stopW
  rw [List.drop_of_length_le (by simp; omega)]
  rfl
theorem word_impl (c : UInt8) : impl_wordByte.f (c.toNat : Int) = some (nameU c) := by
  unfold impl_wordByte.f
  rw [letter_impl, digit_impl, nameU_of]
  simp only [Option.bind_some]
  cases letU c <;> cases digU c <;> try rfl
  show some ((c.toNat : Int) == 95) = some (c.toNat == 95)
  by_cases h : c.toNat = 95
  · rw [h]; rfl
  · rw [beq_eq_false_iff_ne.mpr h, beq_eq_false_iff_ne.mpr (show ¬ (c.toNat : Int) = 95 by omega)]
def wordT (t : ByteArray) (i : Nat) : ByteArray := t.extract i (stopW t i)
theorem wordT_size (t : ByteArray) {i : Nat} (h : i ≤ t.size) : (wordT t i).size = stopW t i - i := by
  unfold wordT
  rw [ByteArray.size_extract]
  have := stopW_le h
  omega
def anyT (ls : List ByteArray) (a : ByteArray) : Bool := ls.any (fun x => decide (x.toList = a.toList))
/-- What the reference's reader tells of a name. -/
def spName (ls : List ByteArray) (t : ByteArray) (i : Nat) (d : Int) : Kid := if nameL (wordT t i).data.toList = true then (wordT t i, 3, anyT ls (wordT t i), t, (stopW t i : Int), d, false) else (wordT t i, 3, anyT ls (wordT t i), t, (i : Int), d, true)
theorem read1_any (C C' : spec_l08Test_read.C) : ∀ k, (∀ ls x t i d b, @spec_l08Test_read1.l0 C k ls x t i d b = @spec_l08Test_read1.l0 C' k ls x t i d b) ∧ (∀ ls x t i d b, @spec_l08Test_read1.j1 C k ls x t i d b = @spec_l08Test_read1.j1 C' k ls x t i d b)
  | 0 => ⟨fun _ _ _ _ _ _ => by simp only [spec_l08Test_read1.l0], fun _ _ _ _ _ _ => by simp only [spec_l08Test_read1.j1]⟩
  | k + 1 => by
    obtain ⟨h1, h2⟩ := read1_any C C' k
    exact ⟨fun _ _ _ _ _ _ => by simp only [spec_l08Test_read1.l0, h1, h2], fun _ _ _ _ _ _ => by simp only [spec_l08Test_read1.j1]⟩
theorem not_any (C C' : impl_testReader_or.C) : ∀ k x t i d b, @impl_testReader_not.l0 C k x t i d b = @impl_testReader_not.l0 C' k x t i d b
  | 0, _, _, _, _, _ => by simp only [impl_testReader_not.l0]
  | k + 1, _, _, _, _, _ => by simp only [impl_testReader_not.l0, not_any C C' k]
theorem spec_word0 [C : spec_l08Test_read.C] (ls : List ByteArray) (hl : ls.length ≤ 1048576) (t : ByteArray) (ht : t.size ≤ 1048576) (i : Nat) (hi : i ≤ t.size) (d : Int) : EvP (fun k => spec_l08Test_read1.l0 k ls i t i d false) (· = spName ls t i d) := by
  have fin : EvP (fun k => spec_l08Test_read1.j1 k ls i t (stopW t i : Nat) d false) (· = spName ls t i d) := by
    refine EvP.step (f := fun k => spec_l08Test_read1.j1 (k + 1) ls i t (stopW t i : Nat) d false) (fun _ => rfl) ?_
    simp only [spec_l08Test_read1.j1, Int.toNat_natCast]
    have h1 := stopW_le hi
    have h2 : i ≤ stopW t i := by unfold stopW; omega
    refine EvP.pos (by omega) (EvP.pos (by omega) (EvP.pos (by omega) ?_))
    refine EvP.bind (spec_name _) (fun b hb => ?_)
    subst hb
    refine EvP.ite (fun h => ?_) (fun h => ?_)
    · refine EvP.bind (in_texts ls _ hl) (fun f hf => EvP.ret ?_)
      subst hf
      exact (if_pos (show nameL (wordT t i).data.toList = true from h)).symm
    · refine EvP.bind (in_texts ls _ hl) (fun f hf => EvP.ret ?_)
      subst hf
      exact (if_neg (show ¬ nameL (wordT t i).data.toList = true from h)).symm
  refine EvP.whl1 (g := fun k (q : Int) => spec_l08Test_read1.l0 k ls i t q d false) (m := fun q => (t.size - q).toNat) (inv := fun q => ∃ j : Nat, q = j ∧ j ≤ t.size ∧ stopW t j = stopW t i) ?_ _ ⟨i, rfl, hi, rfl⟩
  rintro q ⟨j, rfl, hj, hs⟩ ih
  simp only [spec_l08Test_read1.l0]
  refine EvP.ite (fun h => ?_) (fun h => ?_)
  · have hj' : j < t.size := by omega
    have hn := ih ((j + 1 : Nat) : Int) (by omega)
    rw [bt_list t j hj', letter_some, digit_some, wrap_next hj' (by omega)]
    have hgo := fun hc => stopW_go (t := t) hj' hc
    have hen := fun hc => stopW_end (t := t) hj' hc
    generalize t.data.toList[j]'(by simpa using hj') = c at hgo hen
    refine EvP.pos (by omega) ?_
    simp only [Option.bind_some]
    refine EvP.ite (fun h1 => hn ⟨j + 1, rfl, hj', by rw [hgo (by rw [nameU_of, h1]; rfl), hs]⟩) (fun h1 => ?_)
    refine EvP.ite (fun h2 => hn ⟨j + 1, rfl, hj', by rw [hgo (by rw [nameU_of, h2, Bool.or_true]; rfl), hs]⟩) (fun h2 => ?_)
    refine EvP.ite (fun h3 => hn ⟨j + 1, rfl, hj', ?_⟩) (fun h3 => ?_)
    · rw [hgo (by rw [nameU_of, show (c.toNat == 95) = true from by simpa using (by omega : c.toNat = 95), Bool.or_true]), hs]
    · have hx : nameU c = false := by rw [nameU_of, show (c.toNat == 95) = false from by simpa using (by omega : ¬ c.toNat = 95), show letU c = false from by simpa using h1, show digU c = false from by simpa using h2]; rfl
      rw [hen (by rw [hx]; decide)] at hs
      rw [hs]
      exact fin
  · rw [stopW_all (by omega)] at hs
    rw [hs]
    exact fin
theorem spec_word (c : Nat → spec_l08Test_read.C) (ls : List ByteArray) (hl : ls.length ≤ 1048576) (t : ByteArray) (ht : t.size ≤ 1048576) (i : Nat) (hi : i ≤ t.size) (d : Int) : EvP (fun k => @spec_l08Test_read1.l0 (c k) k ls i t i d false) (· = spName ls t i d) := by
  have e : (fun k => @spec_l08Test_read1.l0 (c k) k ls i t i d false) = fun k => @spec_l08Test_read1.l0 (c 0) k ls i t i d false := funext fun k => (read1_any (c k) (c 0) k).1 _ _ _ _ _ _
  rw [e]
  exact @spec_word0 (c 0) ls hl t ht i hi d
def imName (t : ByteArray) (i : Nat) (d : Int) : Tst := if nameL (wordT t i).data.toList = true then (0, wordT t i, [], t, (stopW t i : Int), d, false) else (0, wordT t i, [], t, (stopW t i : Int), d, true)
theorem impl_word0 [C : impl_testReader_or.C] (t : ByteArray) (ht : t.size ≤ 1048576) (i : Nat) (hi : i ≤ t.size) (d : Int) : EvP (fun k => impl_testReader_not.l0 k i t i d false) (· = imName t i d) := by
  have h1 := stopW_le hi
  have h2 : i ≤ stopW t i := by unfold stopW; omega
  have fin : ∀ b, b = nameL (wordT t i).data.toList → EvP (fun _ => if b = true then some ((0 : Int), wordT t i, ([] : List S133), t, (stopW t i : Int), d, false) else some (0, wordT t i, [], t, (stopW t i : Int), d, true)) (· = imName t i d) := fun b hb => by
    subst hb
    refine EvP.ite (fun h => EvP.ret ?_) (fun h => EvP.ret ?_)
    · unfold imName; rw [if_pos h]
    · unfold imName; rw [if_neg h]
  refine EvP.whl1 (g := fun k (q : Int) => impl_testReader_not.l0 k i t q d false) (m := fun q => (t.size - q).toNat) (inv := fun q => ∃ j : Nat, q = j ∧ j ≤ t.size ∧ stopW t j = stopW t i) ?_ _ ⟨i, rfl, hi, rfl⟩
  rintro q ⟨j, rfl, hj, hs⟩ ih
  simp only [impl_testReader_not.l0, Int.toNat_natCast]
  refine EvP.ite (fun h => ?_) (fun h => ?_)
  · have hj' : j < t.size := by omega
    have hn := ih ((j + 1 : Nat) : Int) (by omega)
    rw [bt_list t j hj', word_impl, wrap_next hj' (by omega)]
    have hgo := fun hc => stopW_go (t := t) hj' hc
    have hen := fun hc => stopW_end (t := t) hj' hc
    generalize t.data.toList[j]'(by simpa using hj') = c at hgo hen
    refine EvP.pos (by omega) ?_
    simp only [Option.bind_some]
    refine EvP.ite (fun h1 => hn ⟨j + 1, rfl, hj', by rw [hgo h1, hs]⟩) (fun h1 => ?_)
    rw [hen h1] at hs
    rw [hs]
    refine EvP.pos (by omega) (EvP.pos (by omega) (EvP.pos (by omega) ?_))
    exact EvP.bind (impl_name _) fin
  · rw [stopW_all (by omega)] at hs
    rw [hs]
    refine EvP.pos (by omega) (EvP.pos (by omega) (EvP.pos (by omega) ?_))
    exact EvP.bind (impl_name _) fin
theorem impl_word (c : Nat → impl_testReader_or.C) (t : ByteArray) (ht : t.size ≤ 1048576) (i : Nat) (hi : i ≤ t.size) (d : Int) : EvP (fun k => @impl_testReader_not.l0 (c k) k i t i d false) (· = imName t i d) := by
  have e : (fun k => @impl_testReader_not.l0 (c k) k i t i d false) = fun k => @impl_testReader_not.l0 (c 0) k i t i d false := funext fun k => not_any (c k) (c 0) k _ _ _ _ _
  rw [e]
  exact @impl_word0 (c 0) t ht i hi d
/-- The reference's reading from i on at level L, from a state that is not bad. -/
def SR (t : ByteArray) (L : Int) (i : Nat) (d : Int) : Kid → Prop
  | (s, l, _, t', i', d', b') => t' = t ∧ d' = d ∧ ∃ i2 p : Nat, i' = (i2 : Int) ∧ i ≤ i2 ∧ i2 ≤ p ∧ p ≤ t.size ∧ (inn s l L).size ≤ 3 * (p - i) + 2 ∧ (b' = false → i2 = p ∧ i < i2)
theorem spec_class {φ : Nat → Nat} (hφ : Tends φ) {t : ByteArray} {i d : Int} {b : Bool} {L : Int} {ls : List ByteArray} {r : Kid} (h : Ev (fun k => @spec_l08Test_read1.f (spec_l08Test_read2.I k).c k t i d b L ls) r) : Ev (fun k => @spec_l08Test_read.f (spec_l08Test_read2.I (φ k)).c t i d b L ls) r :=
  Ev.at_ hφ (Ev.step (g := fun n => spec_l08Test_read2.f n t i d b L ls) (f := fun k => @spec_l08Test_read1.f (spec_l08Test_read2.I k).c k t i d b L ls) (fun _ => rfl) h)
theorem sgs_size (sg : Int) : (strOfNums [sg]).size = 1 := rfl
/-- A row's loop, from a state and what was read so far. -/
theorem rowA_loop {ls : List ByteArray} {t : ByteArray} (ht : t.size ≤ 1048576) {i : Nat} {d lv sg : Int} (hlv : lv = 1 ∨ lv = 2)
    (hyp : ∀ (j : Nat) (φ : Nat → Nat), Tends φ → i < j → j ≤ t.size → EvP (fun k => @spec_l08Test_read.f (spec_l08Test_read2.I (φ k)).c t (j : Int) d false (lv + 1) ls) (SR t (lv + 1) j d)) :
    ∀ (m j : Nat) (b : Bool) (φ : Nat → Nat) (s : ByteArray) (l : Int) (f : Bool), Tends φ → t.size - j < m → i ≤ j → j ≤ t.size → (b = false → i < j) → (∃ p, j ≤ p ∧ p ≤ t.size ∧ (inn s l lv).size ≤ 3 * (p - i) + 2 ∧ (b = false → p = j)) →
      EvP (fun k => @spec_l08Test_row.l0 (spec_l08Test_read2.I (φ k)).c k lv sg ls t (j : Int) d b s l f) (SR t lv i d)
  | 0, _, _, _, _, _, _, _, h, _, _, _, _ => absurd h (Nat.not_lt_zero _)
  | m + 1, j, b, φ, s, l, f, hφ, hm, hij, hj, hb, ⟨p, hp1, hp2, hp3, hp4⟩ => by
    refine EvP.step (f := fun k => @spec_l08Test_row.l0 (spec_l08Test_read2.I (φ (k + 1))).c (k + 1) lv sg ls t (j : Int) d b s l f) (fun _ => rfl) ?_
    simp only [spec_l08Test_row.l0]
    cases b with
    | true =>
      rw [takes_bad]
      simp only [Option.bind_some]
      exact EvP.neg (by decide) (EvP.ret ⟨rfl, rfl, j, p, rfl, hij, hp1, hp2, hp3, fun h => Bool.noConfusion h⟩)
    | false =>
      obtain rfl := hp4 rfl
      by_cases hc : p < t.size ∧ bt t p = sg
      · rw [takes_yes hc.1 ht hc.2]
        simp only [Option.bind_some]
        refine EvP.pos trivial ?_
        rw [show wrap64 (lv + 1) = lv + 1 from wrap_in (by omega) (by omega)]
        refine EvP.bind (hyp (p + 1) _ hφ.succ (by omega) (by omega)) (fun r hr => ?_)
        obtain ⟨s2, l2, f2, t2, i2, d2, b2⟩ := r
        obtain ⟨rfl, rfl, i2, p2, rfl, h1, h2, h3, h4, h5⟩ := hr
        have hs1 := inn_size s l lv
        have hs2 := inn_size s2 l2 lv
        have hs3 : (inn s2 l2 lv).size ≤ (inn s2 l2 (lv + 1)).size := by
          unfold inn
          by_cases h : l2 < lv
          · rw [if_pos h, if_pos (by omega)]; omega
          · rw [if_neg h]
            split
            · simp only [ByteArray.size_append, one_size]; omega
            · omega
        have nx : ∀ (f' : Bool) (φ' : Nat → Nat), Tends φ' → EvP (fun k => @spec_l08Test_row.l0 (spec_l08Test_read2.I (φ' k)).c k lv sg ls t2 (i2 : Int) d2 b2 ((inn s l lv ++ strOfNums [sg]) ++ inn s2 l2 lv) lv f') (SR t2 lv i d2) := fun f' φ' hφ' => by
          refine rowA_loop ht hlv hyp m i2 b2 φ' _ _ _ hφ' (by omega) (by omega) (by omega) (fun h => by omega) ⟨p2, h2, h3, ?_, fun h => ((h5 h).1).symm⟩
          unfold inn
          rw [if_neg (by omega)]
          simp only [ByteArray.size_append, sgs_size]
          unfold inn at hp3 hs3 h4 
          omega
        have go : ∀ (x : Bool) (φ' : Nat → Nat), Tends φ' → EvP (fun k => @spec_l08Test_row.j1 (spec_l08Test_read2.I (φ' k)).c k lv sg ls x t2 (i2 : Int) d2 b2 s l f s2 l2 f2) (SR t2 lv i d2) := fun x φ' hφ' => by
          refine EvP.step (f := fun k => @spec_l08Test_row.j1 (spec_l08Test_read2.I (φ' (k + 1))).c (k + 1) lv sg ls x t2 (i2 : Int) d2 b2 s l f s2 l2 f2) (fun _ => rfl) ?_
          simp only [spec_l08Test_row.j1]
          rw [l08In_eq s l f lv (by omega), l08In_eq s2 l2 f2 lv (by omega)]
          simp only [Option.bind_some]
          have e1 : (inn s l lv).size + (strOfNums [sg]).size ≤ 9223372036854775807 := by rw [sgs_size]; omega
          have e2 : (inn s l lv ++ strOfNums [sg]).size + (inn s2 l2 lv).size ≤ 9223372036854775807 := by rw [ByteArray.size_append, sgs_size]; omega
          exact EvP.ite (fun _ => EvP.ite (fun _ => EvP.pos e1 (EvP.pos e2 (nx _ _ hφ'.succ))) (fun _ => EvP.pos e1 (EvP.pos e2 (nx _ _ hφ'.succ)))) (fun _ => EvP.pos e1 (EvP.pos e2 (nx _ _ hφ'.succ)))
        exact EvP.ite (fun _ => go _ _ hφ.succ) (fun _ => go _ _ hφ.succ)
      · rw [takes_no hc]
        simp only [Option.bind_some]
        exact EvP.neg (by decide) (EvP.ret ⟨rfl, rfl, p, p, rfl, hij, Nat.le_refl _, hj, hp3, fun _ => ⟨rfl, hb rfl⟩⟩)
theorem inn_le {s : ByteArray} {l L : Int} : (inn s l L).size ≤ (inn s l (L + 1)).size := by
  unfold inn
  by_cases h : l < L
  · rw [if_pos h, if_pos (by omega)]; omega
  · rw [if_neg h]
    split
    · simp only [ByteArray.size_append, one_size]; omega
    · omega
theorem rowA {ls : List ByteArray} {t : ByteArray} (ht : t.size ≤ 1048576) {i : Nat} {d lv sg : Int} (hlv : lv = 1 ∨ lv = 2)
    (hyp : ∀ (j : Nat) (φ : Nat → Nat), Tends φ → i ≤ j → j ≤ t.size → EvP (fun k => @spec_l08Test_read.f (spec_l08Test_read2.I (φ k)).c t (j : Int) d false (lv + 1) ls) (SR t (lv + 1) j d)) (hi : i ≤ t.size) (φ : Nat → Nat) (hφ : Tends φ) :
    EvP (fun k => @spec_l08Test_row.f (spec_l08Test_read2.I (φ k)).c k t (i : Int) d false lv sg ls) (SR t lv i d) := by
  simp only [spec_l08Test_row.f]
  rw [show wrap64 (lv + 1) = lv + 1 from wrap_in (by omega) (by omega)]
  refine EvP.bind (hyp i φ hφ (Nat.le_refl _) hi) (fun r hr => ?_)
  obtain ⟨s2, l2, f2, t2, i2, d2, b2⟩ := r
  obtain ⟨rfl, rfl, i2, p2, rfl, h1, h2, h3, h4, h5⟩ := hr
  exact rowA_loop ht hlv (fun j φ hφ h h' => hyp j φ hφ (by omega) h') (t2.size + 1) i2 b2 φ s2 l2 f2 hφ (by omega) h1 (by omega) (fun h => (h5 h).2) ⟨p2, h2, h3, Nat.le_trans inn_le h4, fun h => (h5 h).1.symm⟩
/-- The reference's reader comes to an end, whatever the text. -/
theorem specR (ls : List ByteArray) (hl : ls.length ≤ 1048576) (t : ByteArray) (ht : t.size ≤ 1048576) : ∀ (n L i : Nat) (d : Int) (φ : Nat → Nat), Tends φ → 1 ≤ L → L ≤ 3 → i ≤ t.size → 0 ≤ d → d + (t.size - i : Nat) ≤ 2097152 → 4 * (t.size - i) + (3 - L) < n →
    EvP (fun k => @spec_l08Test_read1.f (spec_l08Test_read2.I (φ k)).c k t (i : Int) d false (L : Int) ls) (SR t L i d)
  | 0, _, _, _, _, _, _, _, _, _, _, h => absurd h (Nat.not_lt_zero _)
  | n + 1, L, i, d, φ, hφ, hL1, hL3, hi, hd, hd2, hn => by
    have rc : ∀ (L j : Nat) (d : Int) (φ : Nat → Nat), Tends φ → 1 ≤ L → L ≤ 3 → j ≤ t.size → 0 ≤ d → d + (t.size - j : Nat) ≤ 2097152 → 4 * (t.size - j) + (3 - L) < n → EvP (fun k => @spec_l08Test_read.f (spec_l08Test_read2.I (φ k)).c t (j : Int) d false (L : Int) ls) (SR t L j d) := fun L j d φ hφ h1 h2 h3 h4 h5 h6 => by
      obtain ⟨r, hr, hp⟩ := specR ls hl t ht n L j d (fun k => k) Tends.id h1 h2 h3 h4 h5 h6
      exact ⟨r, spec_class hφ hr, hp⟩
    refine EvP.step (f := fun k => @spec_l08Test_read1.f (spec_l08Test_read2.I (φ (k + 1))).c (k + 1) t (i : Int) d false (L : Int) ls) (fun _ => rfl) ?_
    simp only [spec_l08Test_read1.f]
    refine EvP.neg (by decide) ?_
    have hL : L = 1 ∨ L = 2 ∨ L = 3 := by omega
    rcases hL with rfl | rfl | rfl
    · refine EvP.pos rfl (EvP.bind (rowA (lv := 1) ht (.inl rfl) (fun j φ hφ h h' => rc 2 j d φ hφ (by omega) (by omega) h' hd (by omega) (by omega)) hi _ hφ.succ) (fun r hr => EvP.ret ?_))
      obtain ⟨s2, l2, f2, t2, i2, d2, b2⟩ := r
      exact hr
    · refine EvP.neg (by decide) (EvP.pos rfl (EvP.bind (rowA (lv := 2) ht (.inr rfl) (fun j φ hφ h h' => rc 3 j d φ hφ (by omega) (by omega) h' hd (by omega) (by omega)) hi _ hφ.succ) (fun r hr => EvP.ret ?_)))
      obtain ⟨s2, l2, f2, t2, i2, d2, b2⟩ := r
      exact hr
    · refine EvP.neg (by decide) (EvP.neg (by decide) ?_)
      by_cases c1 : i < t.size ∧ bt t i = 33
      · rw [takes_yes c1.1 ht c1.2]
        simp only [Option.bind_some]
        refine EvP.pos trivial (EvP.bind (specR ls hl t ht n 3 (i + 1) d _ hφ.succ (by omega) (by omega) (by omega) hd (by omega) (by omega)) (fun r hr => ?_))
        obtain ⟨s2, l2, f2, t2, i2, d2, b2⟩ := r
        obtain ⟨rfl, rfl, i2, p2, rfl, h1, h2, h3, h4, h5⟩ := hr
        have hs := inn_size s2 l2 3
        have h4' : (inn s2 l2 3).size ≤ 3 * (p2 - (i + 1)) + 2 := h4
        rw [l08In_eq s2 l2 f2 3 (by omega)]
        simp only [Option.bind_some]
        refine EvP.pos (by omega) (EvP.ret ⟨rfl, rfl, i2, p2, rfl, by omega, h2, h3, ?_, fun h => ⟨(h5 h).1, by omega⟩⟩)
        show (inn _ 3 3).size ≤ _
        have e : inn ((⟨#[33]⟩ : ByteArray) ++ inn s2 l2 3) 3 3 = (⟨#[33]⟩ : ByteArray) ++ inn s2 l2 3 := by
          rw [inn, if_neg (by omega)]
        rw [e, ByteArray.size_append, one_size]
        omega
      · rw [takes_no c1]
        simp only [Option.bind_some]
        refine EvP.neg (by decide) ?_
        by_cases c2 : i < t.size ∧ bt t i = 40
        · rw [takes_yes c2.1 ht c2.2]
          simp only [Option.bind_some]
          rw [show wrap64 (d + 1) = d + 1 from wrap_in (by omega) (by omega)]
          refine EvP.pos trivial (EvP.bind (specR ls hl t ht n 1 (i + 1) (d + 1) _ hφ.succ (by omega) (by omega) (by omega) (by omega) (by omega) (by omega)) (fun r hr => ?_))
          obtain ⟨s2, l2, f2, t2, i2, d2, b2⟩ := r
          obtain ⟨rfl, rfl, i2, p2, rfl, h1, h2, h3, h4, h5⟩ := hr
          have h4' : (inn s2 l2 1).size ≤ 3 * (p2 - (i + 1)) + 2 := h4
          have hs := inn_size s2 l2 1
          have hs' : (inn s2 l2 3).size ≤ 3 * (p2 - i) + 2 := by
            have := inn_size s2 l2 3
            omega
          have ew : wrap64 (d + 1 - 1) = d := by rw [show d + 1 - 1 = d by omega]; exact wrap_in (by omega) (by omega)
          cases b2 with
          | true =>
            rw [takes_bad]
            simp only [Option.bind_some]
            rw [ew]
            exact EvP.neg (by decide) (EvP.ret ⟨rfl, rfl, i2, p2, rfl, by omega, h2, h3, hs', fun h => Bool.noConfusion h⟩)
          | false =>
            obtain ⟨rfl, _⟩ := h5 rfl
            by_cases c3 : i2 < t2.size ∧ bt t2 i2 = 41
            · rw [takes_yes c3.1 ht c3.2]
              simp only [Option.bind_some]
              rw [ew]
              have hs2 : (inn s2 l2 3).size ≤ 3 * (i2 + 1 - i) + 2 := by omega
              exact EvP.pos trivial (EvP.ite (fun _ => EvP.ret ⟨rfl, rfl, i2 + 1, i2 + 1, rfl, by omega, Nat.le_refl _, by omega, hs2, fun h => ⟨rfl, by omega⟩⟩) (fun _ => EvP.ret ⟨rfl, rfl, i2 + 1, i2 + 1, rfl, by omega, Nat.le_refl _, by omega, hs2, fun h => ⟨rfl, by omega⟩⟩))
            · rw [takes_no c3]
              simp only [Option.bind_some]
              rw [ew]
              exact EvP.neg (by decide) (EvP.ret ⟨rfl, rfl, i2, i2, rfl, by omega, h2, h3, hs', fun h => Bool.noConfusion h⟩)
        · rw [takes_no c2]
          simp only [Option.bind_some]
          refine EvP.neg (by decide) ((spec_word (fun k => (spec_l08Test_read2.I (φ (k + 1))).c) ls hl t ht i hi d).mono (fun r hr => ?_))
          subst hr
          have h1 := stopW_le hi
          have h2 : i ≤ stopW t i := by unfold stopW; omega
          have h3 := wordT_size t hi
          have h4 : (inn (wordT t i) 3 3).size ≤ 3 * (stopW t i - i) + 2 := by rw [inn, if_neg (by omega)]; omega
          unfold spName
          by_cases c : nameL (wordT t i).data.toList = true
          · rw [if_pos c]
            refine ⟨rfl, rfl, stopW t i, stopW t i, rfl, h2, Nat.le_refl _, h1, h4, fun _ => ⟨rfl, ?_⟩⟩
            have : 1 ≤ (wordT t i).data.toList.length := by
              unfold nameL at c
              simp only [Bool.and_eq_true, decide_eq_true_eq] at c
              exact c.1.1.1
            have e : (wordT t i).data.toList.length = (wordT t i).size := by simp
            omega
          · rw [if_neg c]
            exact ⟨rfl, rfl, i, stopW t i, rfl, Nat.le_refl _, h2, h1, h4, fun h => Bool.noConfusion h⟩
def joinN (sg : UInt8) (h : Nat → ByteArray) : Nat → ByteArray
  | 0 => ⟨#[]⟩
  | 1 => h 0
  | n + 2 => (joinN sg h (n + 1) ++ ⟨#[sg]⟩) ++ h (n + 1)
theorem joinN_next (sg : UInt8) (h : Nat → ByteArray) {n : Nat} (hn : 1 ≤ n) : joinN sg h (n + 1) = (joinN sg h n ++ ⟨#[sg]⟩) ++ h n := by
  obtain ⟨m, rfl⟩ : ∃ m, n = m + 1 := ⟨n - 1, by omega⟩
  rfl
theorem joinN_congr (sg : UInt8) {h h' : Nat → ByteArray} : ∀ n, (∀ i, i < n → h i = h' i) → joinN sg h n = joinN sg h' n
  | 0, _ => rfl
  | 1, e => e 0 (by omega)
  | n + 2, e => by simp only [joinN]; rw [joinN_congr sg (n + 1) (fun i hi => e i (by omega)), e (n + 1) (by omega)]
def foldF (lv : Int) (h : Nat → Bool) : Nat → Bool
  | 0 => false
  | 1 => h 0
  | n + 2 => if lv = 2 then (foldF lv h (n + 1) && h (n + 1)) else (foldF lv h (n + 1) || h (n + 1))
theorem foldF_next (lv : Int) (h : Nat → Bool) {n : Nat} (hn : 1 ≤ n) : foldF lv h (n + 1) = if lv = 2 then (foldF lv h n && h n) else (foldF lv h n || h n) := by
  obtain ⟨m, rfl⟩ : ∃ m, n = m + 1 := ⟨n - 1, by omega⟩
  rfl
theorem foldF_congr (lv : Int) {h h' : Nat → Bool} : ∀ n, (∀ i, i < n → h i = h' i) → foldF lv h n = foldF lv h' n
  | 0, _ => rfl
  | 1, e => e 0 (by omega)
  | n + 2, e => by simp only [foldF]; rw [foldF_congr lv (n + 1) (fun i hi => e i (by omega)), e (n + 1) (by omega)]
/-- A test, its text, its level, and whether it fits the labels. -/
inductive Shw (ls : List ByteArray) : S133 → ByteArray → Int → Bool → Prop
  | name (n : ByteArray) : Shw ls ⟨0, n, []⟩ n 3 (anyT ls n)
  | bang {T : S133} {s : ByteArray} {l : Int} {f : Bool} (h : Shw ls T s l f) : Shw ls ⟨33, ⟨#[]⟩, [T]⟩ ((⟨#[33]⟩ : ByteArray) ++ inn s l 3) 3 (!f)
  | row {sg : UInt8} {lv : Int} {ks : List S133} (fs : Nat → ByteArray) (gs : Nat → Int) (hs : Nat → Bool) (hsg : (sg = 124 ∧ lv = 1) ∨ (sg = 38 ∧ lv = 2)) (h2 : 2 ≤ ks.length)
      (h : ∀ i, i < ks.length → Shw ls (ks.getD i z133) (fs i) (gs i) (hs i)) : Shw ls ⟨(sg.toNat : Int), ⟨#[]⟩, ks⟩ (joinN sg (fun i => inn (fs i) (gs i) lv) ks.length) lv (foldF lv hs ks.length)
def pk (t : ByteArray) (i : Nat) : Int := if i < t.size then bt t i else 0
theorem peek_at (t : ByteArray) (i : Nat) (d : Int) (b : Bool) : impl_testReader_peek.f t i d b = some (pk t i, t, (i : Int), d, b) := by
  unfold impl_testReader_peek.f pk
  by_cases h : i < t.size
  · rw [if_pos (by omega), if_pos (by omega), if_pos h]
  · rw [if_neg (by omega), if_neg h]
theorem pk_is {t : ByteArray} {i : Nat} {c : Int} (hc : c ≠ 0) : pk t i = c ↔ (i < t.size ∧ bt t i = c) := by
  unfold pk
  by_cases h : i < t.size
  · rw [if_pos h]; exact ⟨fun e => ⟨h, e⟩, fun e => e.2⟩
  · rw [if_neg h]; exact ⟨fun e => absurd e.symm hc, fun e => absurd e.1 h⟩
theorem eta_test (T : S133) : (⟨T.f0, T.f1, T.f2⟩ : S133) = T := by
  cases T; rfl
def rowTree (sg : Int) (ks : List S133) : S133 := if ks.length = 1 then ks.getD 0 z133 else ⟨sg, ⟨#[]⟩, ks⟩
theorem end_eq {ks : List S133} (h : 1 ≤ ks.length) (sg : Int) (t : ByteArray) (i d : Int) (b : Bool) : (if (ks.length : Int) = 1 then (if 0 < (ks.length : Int) then some ((rd_T133 ks 0).f0, (rd_T133 ks 0).f1, (rd_T133 ks 0).f2, t, i, d, b) else none) else some (sg, (⟨#[]⟩ : ByteArray), ks, t, i, d, b)) = some ((rowTree sg ks).f0, (rowTree sg ks).f1, (rowTree sg ks).f2, t, i, d, b) := by
  unfold rowTree
  by_cases h1 : ks.length = 1
  · rw [if_pos (by omega), if_pos (by omega), if_pos h1]; rfl
  · rw [if_neg (by omega), if_neg h1]
def rowL (nx : Nat → ByteArray → Int → Int → Bool → Option Tst) : Nat → Int → ByteArray → Int → Int → Bool → Int → ByteArray → List S133 → Option Tst
  | 0, _, _, _, _, _, _, _, _ => none
  | k + 1, x1, x1000, x1001, x1002, x1003, x269000, x269001, x269002 => if x1003 = true then (if (x269002.length : Int) = 1 then (if 0 < (x269002.length : Int) then (some ((rd_T133 x269002 0).f0, (rd_T133 x269002 0).f1, (rd_T133 x269002 0).f2, x1000, x1001, x1002, x1003)) else (none)) else (some (x269000, x269001, x269002, x1000, x1001, x1002, x1003))) else ((impl_testReader_peek.f x1000 x1001 x1002 x1003).bind fun bt270 => (if bt270.1 = x1 then ((nx k bt270.2.1 (wrap64 (bt270.2.2.1 + 1)) bt270.2.2.2.1 bt270.2.2.2.2).bind fun bt275 => (if x269002.length < 2932031007402 then (rowL nx k x1 bt275.2.2.2.1 bt275.2.2.2.2.1 bt275.2.2.2.2.2.1 bt275.2.2.2.2.2.2 x269000 x269001 (x269002 ++ [(⟨bt275.1, bt275.2.1, bt275.2.2.1⟩ : S133)])) else (none))) else (if (x269002.length : Int) = 1 then (if 0 < (x269002.length : Int) then (some ((rd_T133 x269002 0).f0, (rd_T133 x269002 0).f1, (rd_T133 x269002 0).f2, bt270.2.1, bt270.2.2.1, bt270.2.2.2.1, bt270.2.2.2.2)) else (none)) else (some (x269000, x269001, x269002, bt270.2.1, bt270.2.2.1, bt270.2.2.2.1, bt270.2.2.2.2)))))
theorem nx_not (C : impl_testReader_or.C) : @impl_testReader_row.NX.f (@impl_testReader_not.nx C) = @impl_testReader_not.f C := rfl
theorem nx_and (C : impl_testReader_or.C) : @impl_testReader_row.NX.f (@impl_testReader_and.nx C) = @impl_testReader_and.f C := rfl
theorem row_eq (C : impl_testReader_or.C) : ∀ k a b c d e f g h, @impl_testReader_row.l0 (@impl_testReader_not.nx C) k a b c d e f g h = rowL (@impl_testReader_not.f C) k a b c d e f g h
  | 0, _, _, _, _, _, _, _, _ => by simp only [impl_testReader_row.l0, rowL]
  | k + 1, _, _, _, _, _, _, _, _ => by simp only [impl_testReader_row.l0, rowL, row_eq C k, nx_not]
theorem rowO_eq (C : impl_testReader_or.C) : ∀ k a b c d e f g h, @impl_testReader_row.l0 (@impl_testReader_and.nx C) k a b c d e f g h = rowL (@impl_testReader_and.f C) k a b c d e f g h
  | 0, _, _, _, _, _, _, _, _ => by simp only [impl_testReader_row.l0, rowL]
  | k + 1, _, _, _, _, _, _, _, _ => by simp only [impl_testReader_row.l0, rowL, rowO_eq C k, nx_and]
/-- The program's reading and the reference's, from one place on. -/
def JR (ls : List ByteArray) (t : ByteArray) (d : Int) : Tst → Kid → Prop
  | (g, n, ks, t1, i1, d1, b1), (s, l, f, _, i2, _, b2) => t1 = t ∧ b1 = b2 ∧ (∃ q : Nat, i1 = (q : Int) ∧ q ≤ t.size) ∧ (b1 = false → i1 = i2 ∧ d1 = d ∧ Shw ls ⟨g, n, ks⟩ s l f)
theorem rowB_bad {ls : List ByteArray} {t : ByteArray} {d lv sg e1 e2 : Int} {nx : Nat → Nat → ByteArray → Int → Int → Bool → Option Tst} {q : Nat} (hq : q ≤ t.size) {ks : List S133} (hk : 1 ≤ ks.length) {j d2 : Int} {s : ByteArray} {l : Int} {f : Bool} (φ ψ : Nat → Nat) :
    Ev2 (fun k => rowL (nx (φ k)) k sg t (q : Int) e2 true e1 ⟨#[]⟩ ks) (fun k => @spec_l08Test_row.l0 (spec_l08Test_read2.I (ψ k)).c k lv sg ls t j d2 true s l f) (JR ls t d) := by
  refine Ev2.lstep (f := fun k => rowL (nx (φ k)) k sg t (q : Int) e2 true e1 ⟨#[]⟩ ks) ?_
  refine Ev2.rstep (g := fun k => @spec_l08Test_row.l0 (spec_l08Test_read2.I (ψ k)).c k lv sg ls t j d2 true s l f) ?_
  simp only [rowL, spec_l08Test_row.l0]
  rw [takes_bad]
  simp only [Option.bind_some]
  refine Ev2.lpos trivial (Ev2.rneg (by decide) ?_)
  rw [end_eq hk]
  exact Ev2.ret ⟨rfl, rfl, ⟨q, rfl, hq⟩, fun h => Bool.noConfusion h⟩
theorem getD_snoc {ks : List S133} {T : S133} {j : Nat} (h : j < ks.length) : (ks ++ [T]).getD j z133 = ks.getD j z133 := by
  simp only [List.getD_eq_getElem?_getD, List.getElem?_append_left h]
theorem getD_last {ks : List S133} {T : S133} : (ks ++ [T]).getD ks.length z133 = T := by
  simp
theorem rowB_loop {ls : List ByteArray} {t : ByteArray} (ht : t.size ≤ 1048576) {i : Nat} {d lv sg : Int} (sgU : UInt8) (hsg : (sgU = 124 ∧ lv = 1) ∨ (sgU = 38 ∧ lv = 2)) (hsU : sg = (sgU.toNat : Int)) (nx : Nat → Nat → ByteArray → Int → Int → Bool → Option Tst)
    (hyp : ∀ (j : Nat) (φ ψ : Nat → Nat), Tends φ → Tends ψ → i < j → j ≤ t.size → Ev2 (fun k => nx (φ k) k t (j : Int) d false) (fun k => @spec_l08Test_read.f (spec_l08Test_read2.I (ψ k)).c t (j : Int) d false (lv + 1) ls) (fun a b => JR ls t d a b ∧ SR t (lv + 1) j d b)) :
    ∀ (m p : Nat) (φ ψ : Nat → Nat) (ks : List S133) (fs : Nat → ByteArray) (gs : Nat → Int) (hs : Nat → Bool) (s : ByteArray) (l : Int) (f : Bool), Tends φ → Tends ψ → t.size - p < m → i < p → p ≤ t.size → 1 ≤ ks.length → ks.length ≤ p → (∀ j, j < ks.length → Shw ls (ks.getD j z133) (fs j) (gs j) (hs j)) →
      inn s l lv = joinN sgU (fun j => inn (fs j) (gs j) lv) ks.length → (ks.length = 1 → s = fs 0 ∧ l = gs 0) → (2 ≤ ks.length → l = lv) → f = foldF lv hs ks.length → (inn s l lv).size ≤ 3 * (p - i) + 2 →
      Ev2 (fun k => rowL (nx (φ k)) k sg t (p : Int) d false sg ⟨#[]⟩ ks) (fun k => @spec_l08Test_row.l0 (spec_l08Test_read2.I (ψ k)).c k lv sg ls t (p : Int) d false s l f) (JR ls t d)
  | 0, _, _, _, _, _, _, _, _, _, _, _, _, h, _, _, _, _, _, _, _, _, _, _ => absurd h (Nat.not_lt_zero _)
  | m + 1, p, φ, ψ, ks, fs, gs, hs, s, l, f, hφ, hψ, hm, hip, hp, hk, hkp, hS, hj, h1, h2, hf, hz => by
    refine Ev2.lstep (f := fun k => rowL (nx (φ k)) k sg t (p : Int) d false sg ⟨#[]⟩ ks) ?_
    refine Ev2.rstep (g := fun k => @spec_l08Test_row.l0 (spec_l08Test_read2.I (ψ k)).c k lv sg ls t (p : Int) d false s l f) ?_
    simp only [rowL, spec_l08Test_row.l0]
    rw [peek_at]
    simp only [Option.bind_some]
    refine Ev2.lneg (by decide) ?_
    have hsg0 : sg ≠ 0 := by rcases hsg with ⟨rfl, _⟩ | ⟨rfl, _⟩ <;> (rw [hsU]; decide)
    by_cases hc : p < t.size ∧ bt t p = sg
    · rw [takes_yes hc.1 ht hc.2]
      simp only [Option.bind_some]
      have hlv : wrap64 (lv + 1) = lv + 1 := wrap_in (by omega) (by omega)
      rw [hlv, wrap_next hc.1 (by omega)]
      refine Ev2.lpos ((pk_is hsg0).2 hc) (Ev2.rpos trivial ?_)
      refine Ev2.bind (hyp (p + 1) _ _ hφ.succ hψ.succ (by omega) (by omega)) (fun a b hab => ?_)
      obtain ⟨g2, n2, ks2, t1, i1, d1, b1⟩ := a
      obtain ⟨s2, l2, f2, t2, i2, d2, b2⟩ := b
      obtain ⟨⟨rfl, rfl, ⟨q, rfl, hq⟩, hgood⟩, rfl, rfl, i2, p2, rfl, h3, h4, h5, h6, h7⟩ := hab
      refine Ev2.lpos (by omega) ?_
      have hs1 := inn_size s l lv
      have hs2 := inn_size s2 l2 lv
      have hs3 : (inn s2 l2 lv).size ≤ (inn s2 l2 (lv + 1)).size := inn_le
      have e1 : (inn s l lv).size + (strOfNums [sg]).size ≤ 9223372036854775807 := by rw [sgs_size]; omega
      have e2 : (inn s l lv ++ strOfNums [sg]).size + (inn s2 l2 lv).size ≤ 9223372036854775807 := by rw [ByteArray.size_append, sgs_size]; omega
      have hstr : strOfNums [sg] = (⟨#[sgU]⟩ : ByteArray) := by rcases hsg with ⟨rfl, _⟩ | ⟨rfl, _⟩ <;> (rw [hsU]; rfl)
      have hlen : (ks ++ [(⟨g2, n2, ks2⟩ : S133)]).length = ks.length + 1 := by simp
      have nx' : ∀ (f' : Bool) (φ' ψ' : Nat → Nat), Tends φ' → Tends ψ' → f' = (if lv = 2 then (f && f2) else (f || f2)) →
          Ev2 (fun k => rowL (nx (φ' k)) k sg t2 (q : Int) d1 b1 sg ⟨#[]⟩ (ks ++ [(⟨g2, n2, ks2⟩ : S133)])) (fun k => @spec_l08Test_row.l0 (spec_l08Test_read2.I (ψ' k)).c k lv sg ls t2 (i2 : Int) d2 b1 ((inn s l lv ++ strOfNums [sg]) ++ inn s2 l2 lv) lv f') (JR ls t2 d2) := fun f' φ' ψ' hφ' hψ' hf' => by
        cases b1 with
        | true => exact rowB_bad hq (by omega) φ' ψ'
        | false =>
          obtain ⟨e3, rfl, hsh⟩ := hgood rfl
          have e3' : q = i2 := by omega
          subst e3'
          obtain ⟨rfl, h8⟩ := h7 rfl
          have hold : ∀ j, j < ks.length → Shw ls ((ks ++ [(⟨g2, n2, ks2⟩ : S133)]).getD j z133) ((fun j => if j = ks.length then s2 else fs j) j) ((fun j => if j = ks.length then l2 else gs j) j) ((fun j => if j = ks.length then f2 else hs j) j) := fun j hj' => by
            rw [getD_snoc hj']
            simp only [if_neg (show ¬ j = ks.length by omega)]
            exact hS j hj'
          refine rowB_loop ht sgU hsg hsU nx hyp m q φ' ψ' _ (fun j => if j = ks.length then s2 else fs j) (fun j => if j = ks.length then l2 else gs j) (fun j => if j = ks.length then f2 else hs j) _ _ _ hφ' hψ' (by omega) (by omega) hq (by omega) (by omega) (fun j hj' => ?_) ?_ (fun h => absurd h (by omega)) (fun _ => rfl) ?_ ?_
          · rcases Nat.lt_or_ge j ks.length with h | h
            · exact hold j h
            · have : j = ks.length := by omega
              subst this
              rw [getD_last]
              simp only [if_pos]
              exact hsh
          · rw [hlen, joinN_next _ _ hk, inn, if_neg (by omega), hj, hstr]
            simp only [if_pos]
            rw [joinN_congr sgU ks.length (h' := fun j => inn (if j = ks.length then s2 else fs j) (if j = ks.length then l2 else gs j) lv) (fun j hj' => by simp only [if_neg (show ¬ j = ks.length by omega)])]
          · rw [hlen, foldF_next _ _ hk, hf', hf]
            simp only [if_pos]
            rw [foldF_congr lv ks.length (h' := fun j => if j = ks.length then f2 else hs j) (fun j hj' => by simp only [if_neg (show ¬ j = ks.length by omega)])]
          · rw [inn, if_neg (by omega)]
            simp only [ByteArray.size_append, sgs_size]
            omega
      have go : ∀ (x : Bool) (φ' ψ' : Nat → Nat), Tends φ' → Tends ψ' → x = (f || f2) → Ev2 (fun k => rowL (nx (φ' k)) k sg t2 (q : Int) d1 b1 sg ⟨#[]⟩ (ks ++ [(⟨g2, n2, ks2⟩ : S133)])) (fun k => @spec_l08Test_row.j1 (spec_l08Test_read2.I (ψ' k)).c k lv sg ls x t2 (i2 : Int) d2 b1 s l f s2 l2 f2) (JR ls t2 d2) := fun x φ' ψ' hφ' hψ' hx => by
        refine Ev2.rstep (g := fun k => @spec_l08Test_row.j1 (spec_l08Test_read2.I (ψ' k)).c k lv sg ls x t2 (i2 : Int) d2 b1 s l f s2 l2 f2) ?_
        simp only [spec_l08Test_row.j1]
        rw [l08In_eq s l f lv (by omega), l08In_eq s2 l2 f2 lv (by omega)]
        simp only [Option.bind_some]
        refine Ev2.rite (fun hl2 => Ev2.rite (fun hft => Ev2.rpos e1 (Ev2.rpos e2 (nx' _ _ _ hφ' hψ'.succ ?_))) (fun hff => Ev2.rpos e1 (Ev2.rpos e2 (nx' _ _ _ hφ' hψ'.succ ?_)))) (fun hl2 => Ev2.rpos e1 (Ev2.rpos e2 (nx' _ _ _ hφ' hψ'.succ ?_)))
        · rw [if_pos hl2, hft]; rfl
        · rw [if_pos hl2, show f = false from by simpa using hff]; rfl
        · rw [if_neg hl2, hx]
      refine Ev2.rite (fun hft => go _ _ _ hφ.succ hψ.succ (by rw [hft, Bool.true_or])) (fun hff => go _ _ _ hφ.succ hψ.succ (by rw [show f = false from by simpa using hff, Bool.false_or]))
    · rw [takes_no hc]
      simp only [Option.bind_some]
      refine Ev2.lneg (fun e => hc ((pk_is hsg0).1 e)) (Ev2.rneg (by decide) ?_)
      rw [end_eq hk]
      refine Ev2.ret ⟨rfl, rfl, ⟨p, rfl, hp⟩, fun _ => ⟨rfl, rfl, ?_⟩⟩
      rw [eta_test]
      unfold rowTree
      by_cases h : ks.length = 1
      · rw [if_pos h]
        obtain ⟨rfl, rfl⟩ := h1 h
        rw [hf, h]
        exact hS 0 (by omega)
      · rw [if_neg h, hf, hsU]
        have hl := h2 (by omega)
        subst hl
        have e : s = joinN sgU (fun j => inn (fs j) (gs j) l) ks.length := by
          rw [← hj, inn, if_neg (by omega)]
        rw [e]
        exact Shw.row fs gs hs hsg (by omega) hS
theorem rowB {ls : List ByteArray} {t : ByteArray} (ht : t.size ≤ 1048576) {i : Nat} (hi : i ≤ t.size) {d lv sg : Int} (sgU : UInt8) (hsg : (sgU = 124 ∧ lv = 1) ∨ (sgU = 38 ∧ lv = 2)) (hsU : sg = (sgU.toNat : Int)) (nx : Nat → Nat → ByteArray → Int → Int → Bool → Option Tst)
    (hyp : ∀ (j : Nat) (φ ψ : Nat → Nat), Tends φ → Tends ψ → i ≤ j → j ≤ t.size → Ev2 (fun k => nx (φ k) k t (j : Int) d false) (fun k => @spec_l08Test_read.f (spec_l08Test_read2.I (ψ k)).c t (j : Int) d false (lv + 1) ls) (fun a b => JR ls t d a b ∧ SR t (lv + 1) j d b)) (φ ψ : Nat → Nat) (hφ : Tends φ) (hψ : Tends ψ) :
    Ev2 (fun k => (nx (φ k) k t (i : Int) d false).bind fun r => rowL (nx (φ k)) k sg r.2.2.2.1 r.2.2.2.2.1 r.2.2.2.2.2.1 r.2.2.2.2.2.2 sg ⟨#[]⟩ [(⟨r.1, r.2.1, r.2.2.1⟩ : S133)]) (fun k => @spec_l08Test_row.f (spec_l08Test_read2.I (ψ k)).c k t (i : Int) d false lv sg ls) (JR ls t d) := by
  simp only [spec_l08Test_row.f]
  rw [show wrap64 (lv + 1) = lv + 1 from wrap_in (by omega) (by omega)]
  refine Ev2.bind (hyp i φ ψ hφ hψ (Nat.le_refl _) hi) (fun a b hab => ?_)
  obtain ⟨g2, n2, ks2, t1, i1, d1, b1⟩ := a
  obtain ⟨s2, l2, f2, t2, i2, d2, b2⟩ := b
  obtain ⟨⟨rfl, rfl, ⟨q, rfl, hq⟩, hgood⟩, rfl, rfl, i2, p2, rfl, h3, h4, h5, h6, h7⟩ := hab
  cases b1 with
  | true => exact rowB_bad hq (by simp) φ ψ
  | false =>
    obtain ⟨e3, rfl, hsh⟩ := hgood rfl
    have e3' : q = i2 := by omega
    subst e3'
    obtain ⟨rfl, h8⟩ := h7 rfl
    exact rowB_loop ht sgU hsg hsU nx (fun j φ ψ hφ hψ h h' => hyp j φ ψ hφ hψ (by omega) h') (t2.size + 1) q φ ψ [⟨g2, n2, ks2⟩] (fun _ => s2) (fun _ => l2) (fun _ => f2) s2 l2 f2 hφ hψ (by omega) h8 hq (by simp) (by simp; omega) (fun j hj => by obtain rfl : j = 0 := (by simpa using hj); exact hsh) rfl (fun _ => ⟨rfl, rfl⟩) (fun h => absurd h (by simp)) rfl (Nat.le_trans inn_le h6)
theorem or_class {φ : Nat → Nat} (hφ : Tends φ) {t : ByteArray} {i d : Int} {b : Bool} {r : Tst} (h : Ev (fun k => @impl_testReader_or1.f (impl_testReader_or2.I k).c k t i d b) r) : Ev (fun k => @impl_testReader_or.f (impl_testReader_or2.I (φ k)).c t i d b) r :=
  Ev.at_ hφ (Ev.step (g := fun n => impl_testReader_or2.f n t i d b) (f := fun k => @impl_testReader_or1.f (impl_testReader_or2.I k).c k t i d b) (fun _ => rfl) h)
def implF (c : Nat) : Nat → Nat → ByteArray → Int → Int → Bool → Option Tst
  | 1 => @impl_testReader_or1.f (impl_testReader_or2.I c).c
  | 2 => @impl_testReader_and.f (impl_testReader_or2.I c).c
  | _ => @impl_testReader_not.f (impl_testReader_or2.I c).c
theorem eta_tst (o : Option Tst) : (o.bind fun r => some (r.1, r.2.1, r.2.2.1, r.2.2.2.1, r.2.2.2.2.1, r.2.2.2.2.2.1, r.2.2.2.2.2.2)) = o := by
  cases o <;> rfl
theorem eta_kid (o : Option Kid) : (o.bind fun r => some (r.1, r.2.1, r.2.2.1, r.2.2.2.1, r.2.2.2.2.1, r.2.2.2.2.2.1, r.2.2.2.2.2.2)) = o := by
  cases o <;> rfl
theorem readB (ls : List ByteArray) (hl : ls.length ≤ 1048576) (t : ByteArray) (ht : t.size ≤ 1048576) : ∀ (n L i : Nat) (d : Int) (φ ψ : Nat → Nat), Tends φ → Tends ψ → 1 ≤ L → L ≤ 3 → i ≤ t.size → 0 ≤ d → d ≤ 10 → 4 * (t.size - i) + (3 - L) < n →
    Ev2 (fun k => implF (φ k) L k t (i : Int) d false) (fun k => @spec_l08Test_read1.f (spec_l08Test_read2.I (ψ k)).c k t (i : Int) d false (L : Int) ls) (JR ls t d)
  | 0, _, _, _, _, _, _, _, _, _, _, _, _, h => absurd h (Nat.not_lt_zero _)
  | n + 1, L, i, d, φ, ψ, hφ, hψ, hL1, hL3, hi, hd, hd2, hn => by
    have rc : ∀ (L j : Nat) (φ ψ : Nat → Nat), Tends φ → Tends ψ → 1 ≤ L → L ≤ 3 → j ≤ t.size → 4 * (t.size - j) + (3 - L) < n → Ev2 (fun k => implF (φ k) L k t (j : Int) d false) (fun k => @spec_l08Test_read.f (spec_l08Test_read2.I (ψ k)).c t (j : Int) d false (L : Int) ls) (fun a b => JR ls t d a b ∧ SR t L j d b) := fun L j φ ψ hφ hψ h1 h2 h3 h6 => by
      have h := (readB ls hl t ht n L j d φ (fun k => k) hφ Tends.id h1 h2 h3 hd hd2 h6).and_right (specR ls hl t ht n L j d (fun k => k) Tends.id h1 h2 h3 hd (by omega) h6)
      exact h.rmap (fun b hb => spec_class hψ hb)
    have hL : L = 1 ∨ L = 2 ∨ L = 3 := by omega
    rcases hL with rfl | rfl | rfl
    · refine Ev2.rstep (g := fun k => @spec_l08Test_read1.f (spec_l08Test_read2.I (ψ k)).c k t (i : Int) d false ((1 : Nat) : Int) ls) ?_
      simp only [spec_l08Test_read1.f, implF, impl_testReader_or1.f, impl_testReader_row.f, nx_and, eta_tst, eta_kid]
      refine Ev2.rneg (by decide) (Ev2.rpos rfl ?_)
      simp only [rowO_eq]
      exact rowB ht hi (lv := 1) (sg := 124) 124 (.inl ⟨rfl, rfl⟩) rfl (fun c => @impl_testReader_and.f (impl_testReader_or2.I c).c) (fun j φ ψ hφ hψ h h' => rc 2 j φ ψ hφ hψ (by omega) (by omega) h' (by omega)) φ _ hφ hψ.succ
    · refine Ev2.rstep (g := fun k => @spec_l08Test_read1.f (spec_l08Test_read2.I (ψ k)).c k t (i : Int) d false ((2 : Nat) : Int) ls) ?_
      simp only [spec_l08Test_read1.f, implF, impl_testReader_and.f, impl_testReader_row.f, nx_not, eta_tst, eta_kid]
      refine Ev2.rneg (by decide) (Ev2.rneg (by decide) (Ev2.rpos rfl ?_))
      simp only [row_eq]
      exact rowB ht hi (lv := 2) (sg := 38) 38 (.inr ⟨rfl, rfl⟩) rfl (fun c => @impl_testReader_not.f (impl_testReader_or2.I c).c) (fun j φ ψ hφ hψ h h' => rc 3 j φ ψ hφ hψ (by omega) (by omega) h' (by omega)) φ _ hφ hψ.succ
    · refine Ev2.rstep (g := fun k => @spec_l08Test_read1.f (spec_l08Test_read2.I (ψ k)).c k t (i : Int) d false ((3 : Nat) : Int) ls) ?_
      refine Ev2.lstep (f := fun k => @impl_testReader_not.f (impl_testReader_or2.I (φ k)).c k t (i : Int) d false) ?_
      simp only [spec_l08Test_read1.f, impl_testReader_not.f]
      rw [peek_at]
      simp only [Option.bind_some]
      refine Ev2.rneg (by decide) (Ev2.rneg (by decide) (Ev2.rneg (by decide) ?_))
      by_cases c1 : i < t.size ∧ bt t i = 33
      · rw [takes_yes c1.1 ht c1.2]
        simp only [Option.bind_some]
        rw [wrap_next c1.1 (by omega)]
        refine Ev2.lpos ((pk_is (by decide)).2 c1) (Ev2.rpos trivial ?_)
        refine Ev2.bind ((readB ls hl t ht n 3 (i + 1) d _ _ hφ.succ hψ.succ (by omega) (by omega) (by omega) hd hd2 (by omega)).and_right (specR ls hl t ht n 3 (i + 1) d _ hψ.succ (by omega) (by omega) (by omega) hd (by omega) (by omega))) (fun a b hab => ?_)
        obtain ⟨g2, n2, ks2, t1, i1, d1, b1⟩ := a
        obtain ⟨s2, l2, f2, t2, i2, d2, b2⟩ := b
        obtain ⟨⟨rfl, rfl, ⟨q, rfl, hq⟩, hgood⟩, rfl, rfl, i2, p2, rfl, h3, h4, h5, h6, h7⟩ := hab
        have hs := inn_size s2 l2 3
        have h6' : (inn s2 l2 3).size ≤ 3 * (p2 - (i + 1)) + 2 := h6
        rw [l08In_eq s2 l2 f2 3 (by omega)]
        simp only [Option.bind_some]
        refine Ev2.rpos (by omega) (Ev2.ret ⟨rfl, rfl, ⟨q, rfl, hq⟩, fun h => ?_⟩)
        obtain ⟨e1, e2, hsh⟩ := hgood h
        exact ⟨e1, e2, Shw.bang hsh⟩
      · rw [takes_no c1]
        simp only [Option.bind_some]
        refine Ev2.lneg (fun e => c1 ((pk_is (by decide)).1 e)) (Ev2.rneg (by decide) ?_)
        by_cases c2 : i < t.size ∧ bt t i = 40
        · rw [takes_yes c2.1 ht c2.2]
          simp only [Option.bind_some]
          rw [show wrap64 (d + 1) = d + 1 from wrap_in (by omega) (by omega), wrap_next c2.1 (by omega)]
          refine Ev2.lpos ((pk_is (by decide)).2 c2) (Ev2.rpos trivial ?_)
          have ew : wrap64 (d + 1 - 1) = d := by rw [show d + 1 - 1 = d by omega]; exact wrap_in (by omega) (by omega)
          have hS := specR ls hl t ht n 1 (i + 1) (d + 1) _ hψ.succ (by omega) (by omega) (by omega) (by omega) (by omega) (by omega)
          refine Ev2.lite (fun h10 => ?_) (fun h10 => ?_)
          · refine Ev2.rbind hS (fun r hr => ?_)
            obtain ⟨s2, l2, f2, t2, i2, d2, b2⟩ := r
            obtain ⟨rfl, rfl, i2, p2, rfl, h3, h4, h5, h6, h7⟩ := hr
            have done : ∀ (x : ByteArray) (y : Int) (z : Bool) (u v : Int), JR ls t2 d ((0 : Int), (⟨#[]⟩ : ByteArray), ([] : List S133), t2, ((i + 1 : Nat) : Int), d + 1, true) (x, y, z, t2, u, v, true) := fun x y z u v => ⟨rfl, rfl, ⟨i + 1, rfl, by omega⟩, fun h => Bool.noConfusion h⟩
            cases b2 with
            | true =>
              rw [takes_bad]
              simp only [Option.bind_some]
              exact Ev2.rneg (by decide) (Ev2.ret (done _ _ _ _ _))
            | false =>
              by_cases c3 : i2 < t2.size ∧ bt t2 i2 = 41
              · rw [takes_yes c3.1 ht c3.2]
                simp only [Option.bind_some]
                exact Ev2.rpos trivial (Ev2.rpos h10 (Ev2.ret (done _ _ _ _ _)))
              · rw [takes_no c3]
                simp only [Option.bind_some]
                exact Ev2.rneg (by decide) (Ev2.ret (done _ _ _ _ _))
          · have hB := ((readB ls hl t ht n 1 (i + 1) (d + 1) (fun k => k) _ Tends.id hψ.succ (by omega) (by omega) (by omega) (by omega) (by omega) (by omega)).and_right hS).lmap (fun a ha => or_class hφ.succ ha)
            refine Ev2.bind hB (fun a b hab => ?_)
            obtain ⟨g2, n2, ks2, t1, i1, d1, b1⟩ := a
            obtain ⟨s2, l2, f2, t2, i2, d2, b2⟩ := b
            obtain ⟨⟨rfl, rfl, ⟨q, rfl, hq⟩, hgood⟩, rfl, rfl, i2, p2, rfl, h3, h4, h5, h6, h7⟩ := hab
            rw [peek_at]
            simp only [Option.bind_some]
            cases b1 with
            | true =>
              rw [takes_bad]
              simp only [Option.bind_some]
              refine Ev2.rneg (by decide) (Ev2.lite (fun h41 => ?_) (fun h41 => Ev2.ret ⟨rfl, rfl, ⟨q, rfl, hq⟩, fun h => Bool.noConfusion h⟩))
              have h41' := (pk_is (by decide)).1 h41
              rw [wrap_next h41'.1 (by omega)]
              exact Ev2.ret ⟨rfl, rfl, ⟨q + 1, rfl, by omega⟩, fun h => Bool.noConfusion h⟩
            | false =>
              obtain ⟨e1, rfl, hsh⟩ := hgood rfl
              have e1' : q = i2 := by omega
              subst e1'
              by_cases c3 : q < t2.size ∧ bt t2 q = 41
              · rw [takes_yes c3.1 ht c3.2, wrap_next c3.1 (by omega)]
                simp only [Option.bind_some]
                rw [ew]
                refine Ev2.lpos ((pk_is (by decide)).2 c3) (Ev2.rpos trivial (Ev2.rneg h10 (Ev2.ret ⟨rfl, rfl, ⟨q + 1, rfl, by omega⟩, fun _ => ⟨rfl, rfl, hsh⟩⟩)))
              · rw [takes_no c3]
                simp only [Option.bind_some]
                exact Ev2.lneg (fun e => c3 ((pk_is (by decide)).1 e)) (Ev2.rneg (by decide) (Ev2.ret ⟨rfl, rfl, ⟨q, rfl, hq⟩, fun h => Bool.noConfusion h⟩))
        · rw [takes_no c2]
          simp only [Option.bind_some]
          refine Ev2.lneg (fun e => c2 ((pk_is (by decide)).1 e)) (Ev2.rneg (by decide) ?_)
          refine Ev2.of (impl_word (fun k => (impl_testReader_or2.I (φ (k + 1))).c) t ht i hi d) (spec_word (fun k => (spec_l08Test_read2.I (ψ (k + 1))).c) ls hl t ht i hi d) (fun a b ha hb => ?_)
          subst ha hb
          have h1 := stopW_le hi
          unfold imName spName
          by_cases c : nameL (wordT t i).data.toList = true
          · rw [if_pos c, if_pos c]
            exact ⟨rfl, rfl, ⟨_, rfl, h1⟩, fun _ => ⟨rfl, rfl, Shw.name _⟩⟩
          · rw [if_neg c, if_neg c]
            exact ⟨rfl, rfl, ⟨_, rfl, h1⟩, fun h => Bool.noConfusion h⟩
/-! Telling a test again -/
theorem ba_eq {a b : ByteArray} (h : a.data.toList = b.data.toList) : a = b := by
  cases a; cases b
  simp only [ByteArray.mk.injEq]
  exact Array.toList_inj.mp h
theorem join_snoc (sep : List UInt8) (y : List UInt8) : ∀ xs : List (List UInt8), xs ≠ [] → Lib.join (xs ++ [y]) sep = Lib.join xs sep ++ sep ++ y
  | [], h => absurd rfl h
  | x :: r, _ => by
    rw [List.cons_append, Lib.join_cons, Lib.join_cons]
    simp [Lib.joinTail]
theorem joinN_join (sg : UInt8) (h : Nat → ByteArray) : ∀ n, 1 ≤ n → (joinN sg h n).data.toList = Lib.join ((List.range n).map (fun i => (h i).data.toList)) [sg]
  | 0, hn => absurd hn (by omega)
  | 1, _ => by simp [joinN, Lib.join_one]
  | n + 2, _ => by
    have ih := joinN_join sg h (n + 1) (by omega)
    rw [List.range_succ, List.map_append, List.map_cons, List.map_nil, join_snoc _ _ _ (by simp), ← ih]
    simp [joinN]
theorem joinN_size (sg : UInt8) (h : Nat → ByteArray) : ∀ n i, i < n → (h i).size ≤ (joinN sg h n).size
  | 0, _, hi => absurd hi (Nat.not_lt_zero _)
  | 1, i, hi => by obtain rfl : i = 0 := by omega
                   exact Nat.le_refl _
  | n + 2, i, hi => by
    simp only [joinN, ByteArray.size_append, one_size]
    rcases Nat.lt_or_ge i (n + 1) with h1 | h1
    · have := joinN_size sg h (n + 1) i h1
      omega
    · obtain rfl : i = n + 1 := by omega
      omega
theorem show_class {φ : Nat → Nat} (hφ : Tends φ) {T : S133} {r : ByteArray} (h : Ev (fun k => @impl_test_show1.f (impl_test_show2.I k).c k T.f0 T.f1 T.f2) r) : Ev (fun k => @impl_test_show.f (impl_test_show2.I (φ k)).c T.f0 T.f1 T.f2) r :=
  Ev.at_ hφ (Ev.step (g := fun n => impl_test_show2.f n T.f0 T.f1 T.f2) (f := fun k => @impl_test_show1.f (impl_test_show2.I k).c k T.f0 T.f1 T.f2) (fun _ => rfl) h)
theorem within_ev {T : S133} {s : ByteArray} {l : Int} (hr : impl_test_rank.f T.f0 T.f1 T.f2 = some l) (hs : s.size ≤ 10000000) (h : EvP (fun k => @impl_test_show1.f (impl_test_show2.I k).c k T.f0 T.f1 T.f2) (· = s)) (L : Int) (φ : Nat → Nat) (hφ : Tends φ) :
    EvP (fun k => @impl_test_within.f (impl_test_show2.I (φ k)).c T.f0 T.f1 T.f2 L) (· = inn s l L) := by
  have hc : EvP (fun k => @impl_test_show.f (impl_test_show2.I (φ k)).c T.f0 T.f1 T.f2) (· = s) := by
    obtain ⟨x, hE, hx⟩ := h
    exact ⟨x, show_class hφ hE, hx⟩
  simp only [impl_test_within.f]
  rw [hr]
  simp only [Option.bind_some]
  refine EvP.ite (fun h1 => EvP.bind hc (fun x hx => EvP.ret ?_)) (fun h1 => EvP.bind hc (fun x hx => ?_))
  · rw [hx, inn, if_neg (by omega)]
  · subst hx
    refine EvP.pos (by omega) (EvP.pos ?_ (EvP.ret ?_))
    · rw [ByteArray.size_append, one_size]; omega
    · rw [inn, if_pos (by omega)]
theorem rd_test {ks : List S133} {j : Nat} : rd_T133 ks (j : Int) = ks.getD j z133 := by simp [rd_T133]
theorem Shw.tells {ls : List ByteArray} {T : S133} {s : ByteArray} {l : Int} {f : Bool} (h : Shw ls T s l f) : s.size ≤ 10000000 → impl_test_rank.f T.f0 T.f1 T.f2 = some l ∧ ∀ φ, Tends φ → EvP (fun k => @impl_test_show1.f (impl_test_show2.I (φ k)).c k T.f0 T.f1 T.f2) (· = s) := by
  induction h with
  | name n =>
    intro _
    refine ⟨rfl, fun φ hφ => ?_⟩
    simp only [impl_test_show1.f]
    exact EvP.pos trivial (EvP.ret rfl)
  | @bang T s l f h ih =>
    intro hs
    rw [ByteArray.size_append, one_size] at hs
    have hi := inn_size s l 3
    obtain ⟨hr, he⟩ := ih (by omega)
    refine ⟨rfl, fun φ hφ => ?_⟩
    simp only [impl_test_show1.f]
    refine EvP.neg (by decide) (EvP.pos trivial (EvP.pos (by simp) ?_))
    refine EvP.bind (within_ev hr (by omega) (he _ Tends.id) 3 φ hφ) (fun x hx => ?_)
    subst hx
    exact EvP.pos (by omega) (EvP.ret rfl)
  | @row sg lv ks fs gs hs hsg h2 h ih =>
    intro hz
    have hsz : ∀ i, i < ks.length → (inn (fs i) (gs i) lv).size ≤ 10000000 := fun i hi => Nat.le_trans (joinN_size sg (fun i => inn (fs i) (gs i) lv) ks.length i hi) hz
    have hk : ks.length ≤ 10000001 := by
      have e : ∀ n, 1 ≤ n → n ≤ (joinN sg (fun i => inn (fs i) (gs i) lv) n).size + 1 := fun n => by
        induction n with
        | zero => intro h; omega
        | succ n ihn =>
          intro _
          rcases Nat.eq_zero_or_pos n with rfl | hp
          · omega
          · have := ihn hp
            rw [joinN_next _ _ hp, ByteArray.size_append, ByteArray.size_append, one_size]
            omega
      have := e ks.length (by omega)
      omega
    have hsg' : (sg.toNat : Int) ≠ 0 ∧ (sg.toNat : Int) ≠ 33 ∧ impl_test_rank.f (sg.toNat : Int) ⟨#[]⟩ ks = some lv ∧ Utf8.encode (wrap32 (sg.toNat : Int)) = ⟨#[sg]⟩ := by
      rcases hsg with ⟨rfl, rfl⟩ | ⟨rfl, rfl⟩
      · exact ⟨by decide, by decide, rfl, by decide +kernel⟩
      · exact ⟨by decide, by decide, rfl, by decide +kernel⟩
    obtain ⟨h0, h33, hrank, henc⟩ := hsg'
    refine ⟨hrank, fun φ hφ => ?_⟩
    simp only [impl_test_show1.f]
    refine EvP.neg h0 (EvP.neg h33 ?_)
    have loop : ∀ (m j : Nat) (φ : Nat → Nat), Tends φ → ks.length - j < m → j ≤ ks.length → EvP (fun k => @impl_test_show1.l0 (impl_test_show2.I (φ k)).c k ((List.range j).map (fun i => inn (fs i) (gs i) lv)) ks (ks.length : Int) (j : Int) (sg.toNat : Int) ⟨#[]⟩ ks) (· = joinN sg (fun i => inn (fs i) (gs i) lv) ks.length) := by
      intro m
      induction m with
      | zero => intro j φ _ h; omega
      | succ m ihm =>
        intro j φ hφ hm hj
        refine EvP.step (f := fun k => @impl_test_show1.l0 (impl_test_show2.I (φ (k + 1))).c (k + 1) ((List.range j).map (fun i => inn (fs i) (gs i) lv)) ks (ks.length : Int) (j : Int) (sg.toNat : Int) ⟨#[]⟩ ks) (fun _ => rfl) ?_
        simp only [impl_test_show1.l0]
        rw [hrank, henc]
        simp only [Option.bind_some]
        refine EvP.ite (fun hlt => ?_) (fun hge => ?_)
        · have hj' : j < ks.length := by omega
          refine EvP.pos (by omega) (EvP.pos hlt ?_)
          rw [rd_test, wrap_next hj' (by omega)]
          have hi := inn_size (fs j) (gs j) lv
          have hz' := hsz j hj'
          obtain ⟨hr, he⟩ := ih j hj' (by omega)
          refine EvP.bind (within_ev hr (by omega) (he _ Tends.id) lv _ hφ.succ) (fun x hx => ?_)
          subst hx
          refine EvP.pos (by simp; omega) ?_
          have := ihm (j + 1) _ hφ.succ (by omega) (by omega)
          rw [List.range_succ, List.map_append] at this
          exact this
        · obtain rfl : j = ks.length := by omega
          have e1 : ((List.range ks.length).map (fun i => inn (fs i) (gs i) lv)).map (fun x => x.data.toList) = (List.range ks.length).map (fun i => (inn (fs i) (gs i) lv).data.toList) := by simp
          have e2 := joinN_join sg (fun i => inn (fs i) (gs i) lv) ks.length (by omega)
          have e3 : strings_Join.f ((List.range ks.length).map (fun i => inn (fs i) (gs i) lv)) ⟨#[sg]⟩ = some (joinN sg (fun i => inn (fs i) (gs i) lv) ks.length) := by
            unfold strings_Join.f
            rw [e1]
            have e4 : (⟨#[sg]⟩ : ByteArray).data.toList = [sg] := rfl
            rw [e4, ← e2]
            have e5 : (joinN sg (fun i => inn (fs i) (gs i) lv) ks.length).data.toList.length = (joinN sg (fun i => inn (fs i) (gs i) lv) ks.length).size := by simp
            rw [if_pos ⟨by simp; omega, by omega⟩]
          rw [e3]
          simp only [Option.bind_some]
          exact EvP.ret rfl
    have := loop (ks.length + 1) 0 φ hφ (by omega) (by omega)
    simpa using this
/-- Both tell of one text whether it is a test. -/
theorem labels_two (t : ByteArray) : Ev2 (fun k => (impl_readTest.f k t).bind fun r => if r.2.2.2 = true then some (0 : Int) else some 1) (fun k => spec_LabelsFault.f k t) (fun a b => a = b) := by
  unfold spec_LabelsFault.f impl_readTest.f spec_l08Labels.f
  by_cases h2 : (t.size : Int) > 200
  · refine Ev2.rpos h2 ?_
    simp only [if_pos h2, Option.bind_some]
    exact Ev2.lneg (by decide) (Ev2.ret rfl)
  · have hj := (readB [] (by simp) t (by omega) (4 * t.size + 3) 1 0 0 (fun k => k) (fun k => k) Tends.id Tends.id (by omega) (by omega) (by omega) (by omega) (by omega) (by omega)).and_right (specR [] (by simp) t (by omega) (4 * t.size + 3) 1 0 0 (fun k => k) Tends.id (by omega) (by omega) (by omega) (by omega) (by omega) (by omega))
    have hj2 : Ev2 (fun k => impl_testReader_or2.f k t 0 0 false) (fun k => spec_l08Test_read2.f k t 0 0 false 1 []) (fun a b => JR [] t 0 a b ∧ SR t 1 0 0 b) := (hj.lmap (fun a ha => or_class Tends.id ha)).rmap (fun b hb => spec_class Tends.id hb)
    simp only [if_neg h2]
    obtain ⟨a, b, ha, hb, hR, hS⟩ := hj2
    obtain ⟨g2, n2, ks2, t1, i1, d1, b1⟩ := a
    obtain ⟨s2, l2, f2, t2, i2, d2, b2⟩ := b
    obtain ⟨rfl, rfl, ⟨q, rfl, hq⟩, hgood⟩ := hR
    obtain ⟨rfl, rfl, i2, p2, rfl, h3, h4, h5, h6, h7⟩ := hS
    cases b1 with
    | true =>
      refine Ev2.of (P := (· = 1)) (Q := (· = 1)) ?_ ?_ (fun a b h h' => h.trans h'.symm)
      · refine EvP.bind (Q := fun x => x.2.2.2 = false) (EvP.bind ⟨_, ha, rfl⟩ (fun x hx => ?_)) (fun x hx => EvP.neg (by rw [hx]; decide) (EvP.ret rfl))
        subst hx
        exact EvP.pos rfl (EvP.ret rfl)
      · refine EvP.bind (Q := fun x => x.2.2.2.2 = false) (EvP.bind ⟨_, hb, rfl⟩ (fun x hx => ?_)) (fun x hx => EvP.neg (by rw [hx]; decide) (EvP.ret rfl))
        subst hx
        exact EvP.pos rfl (EvP.ret rfl)
    | false =>
      obtain ⟨e1, _, hsh⟩ := hgood rfl
      have e1' : q = i2 := by omega
      subst e1'
      obtain ⟨rfl, _⟩ := h7 rfl
      have hsz : s2.size ≤ 10000000 := by
        have := inn_size s2 l2 1
        omega
      have hshow := (hsh.tells hsz).2 _ Tends.id
      refine Ev2.of (P := (· = if q = t2.size ∧ s2 = t2 then 0 else 1)) (Q := (· = if q = t2.size ∧ s2 = t2 then 0 else 1)) ?_ ?_ (fun a b h h' => h.trans h'.symm)
      · refine EvP.bind (Q := fun x => x.2.2.2 = decide (q = t2.size ∧ s2 = t2)) (EvP.bind ⟨_, ha, rfl⟩ (fun x hx => ?_)) (fun x hx => ?_)
        · subst hx
          refine EvP.neg (fun z => absurd (show false = true from z) (by decide)) (EvP.ite (fun (h8 : (q : Int) = t2.size) => ?_) (fun (h8 : ¬ (q : Int) = t2.size) => EvP.ret ?_))
          · have hsE : EvP (fun k => impl_test_show2.f k g2 n2 ks2) (· = s2) := by
              obtain ⟨_, hE, rfl⟩ := hshow
              exact ⟨_, show_class (T := ⟨g2, n2, ks2⟩) Tends.id hE, rfl⟩
            refine EvP.bind hsE (fun y hy => ?_)
            subst hy
            refine EvP.ite (fun h9 => EvP.ret ?_) (fun h9 => EvP.ret ?_)
            · have e9 : y = t2 := ba_eq (by rw [ByteArray.toList_eq, ByteArray.toList_eq] at h9; exact h9)
              show true = _
              rw [decide_eq_true ⟨by omega, e9⟩]
            · show false = _
              rw [decide_eq_false (fun z => h9 (by rw [z.2]))]
          · show false = _
            rw [decide_eq_false (fun z => h8 (by omega))]
        · by_cases h8 : q = t2.size ∧ s2 = t2
          · rw [if_pos h8]
            exact EvP.pos (by rw [hx, decide_eq_true h8]) (EvP.ret rfl)
          · rw [if_neg h8]
            exact EvP.neg (by rw [hx, decide_eq_false h8]; decide) (EvP.ret rfl)
      · refine EvP.bind (Q := fun x => x.2.2.2.1 = (q : Int) ∧ x.2.2.2.2 = (decide (s2.toList = (t2.extract 0 q).toList) && decide ((s2.size : Int) ≤ 200))) (EvP.bind ⟨_, hb, rfl⟩ (fun x hx => ?_)) (fun x hx => ?_)
        · subst hx
          refine EvP.neg (fun z => absurd (show false = true from z) (by decide)) (EvP.pos (by decide) (EvP.pos (show (0 : Int) ≤ (q : Int) by omega) (EvP.pos (show (q : Int) ≤ (t2.size : Int) by omega) (EvP.ite (fun h8 => EvP.ret ⟨rfl, ?_⟩) (fun h8 => EvP.ret ⟨rfl, ?_⟩)))))
          · have h8' : s2.toList = (t2.extract 0 q).toList := h8
            show decide ((s2.size : Int) ≤ 200) = _
            rw [decide_eq_true h8', Bool.true_and]
          · have h8' : ¬ s2.toList = (t2.extract 0 q).toList := h8
            show false = _
            rw [decide_eq_false h8', Bool.false_and]
        · obtain ⟨hx1, hx2⟩ := hx
          rw [hx1, hx2]
          by_cases h8 : q = t2.size ∧ s2 = t2
          · rw [if_pos h8]
            obtain ⟨rfl, rfl⟩ := h8
            have e : s2.extract 0 s2.size = s2 := by simp
            rw [e]
            exact EvP.pos (by simp; omega) (EvP.pos rfl (EvP.ret rfl))
          · rw [if_neg h8]
            refine EvP.ite (fun h9 => EvP.neg (fun z => h8 ?_) (EvP.ret rfl)) (fun _ => EvP.ret rfl)
            have e0 : q = t2.size := by omega
            subst e0
            have e : t2.extract 0 t2.size = t2 := by simp
            rw [e] at h9
            simp only [Bool.and_eq_true, decide_eq_true_eq] at h9
            exact ⟨rfl, ba_eq (by have h9 := h9.1; rw [ByteArray.toList_eq, ByteArray.toList_eq] at h9; exact h9)⟩
abbrev stp (l : List S66) (a : Nat) : S66 := rd_T66 l (a : Int)
/-- Is a thing right by itself; v: what its text's test of labels comes to. -/
def nodeB (x : S66) (v : Int) : Bool :=
  if x.f0 = 1 then nameL x.f1.data.toList && decide (x.f2 = 0) else if x.f0 = 2 then nameL x.f1.data.toList && decide (x.f2 = 0) else if x.f0 = 3 then decide (v = 0) && decide (x.f2 = 0)
  else if x.f0 = 4 then decide (x.f1.toList = []) && decide (x.f2 = 2) else if x.f0 = 5 then decide (x.f1.toList = []) && decide (x.f2 = 2)
  else if x.f0 = 6 then decide (x.f1.toList = []) && decide (x.f2 = 1) else if x.f0 = 7 then decide (x.f1.toList = []) && decide (x.f2 = 1) else if x.f0 = 8 then decide (x.f1.toList = []) && decide (x.f2 = 1) else false
def semL (f : Nat → Option (Nat × Bool)) : Nat → Nat → Bool → Option (Nat × Bool)
  | 0, a, b => some (a, b)
  | c + 1, a, b => match f a with
    | none => none
    | some (e, b') => semL f c e (b && b')
def sem (l : List S66) (v : Nat → Int) : Nat → Nat → Int → Option (Nat × Bool)
  | 0, _, _ => none
  | n + 1, a, d => if l.length ≤ a ∨ d > 20 ∨ (stp l a).f2 < 0 then none else semL (fun q => sem l v n q (d + 1)) (stp l a).f2.toNat (a + 1) (nodeB (stp l a) (v a))
theorem semL_false (f : Nat → Option (Nat × Bool)) : ∀ c a e b, semL f c a false = some (e, b) → b = false
  | 0, a, e, b, h => by simp only [semL, Option.some.injEq, Prod.mk.injEq] at h; exact h.2.symm
  | c + 1, a, e, b, h => by
    simp only [semL] at h
    cases hf : f a with
    | none => rw [hf] at h; cases h
    | some p => obtain ⟨e', b'⟩ := p; rw [hf] at h; simp only [Bool.false_and] at h; exact semL_false f c e' e b h
/-- What the reference's end says of what was read. -/
def endOf : Option (Nat × Bool) → Int
  | some (e, true) => (e : Int)
  | _ => -1
theorem spec_thing (x : S66) (v : Int) (hv : Ev (fun k => spec_LabelsFault.f k x.f1) v) : EvP (fun k => spec_l09Thing.f k x.f0 x.f1 x.f2) (· = nodeB x v) := by
  have j1 : ∀ b, b = (decide (x.f0 = 4) || decide (x.f0 = 5)) → ¬ x.f0 = 1 → ¬ x.f0 = 2 → ¬ x.f0 = 3 → EvP (fun k => spec_l09Thing.j1 k x.f0 b x.f0 x.f1 x.f2) (· = nodeB x v) := fun b hb h1 h2 h3 => by
    refine EvP.step (f := fun k => spec_l09Thing.j1 (k + 1) x.f0 b x.f0 x.f1 x.f2) (fun _ => rfl) ?_
    simp only [spec_l09Thing.j1]
    have e : ∀ n : Int, (x.f2 == n) = decide (x.f2 = n) := fun n => by by_cases h : x.f2 = n <;> simp [h]
    simp only [e]
    subst hb
    unfold nodeB
    rw [if_neg h1, if_neg h2, if_neg h3]
    by_cases h4 : x.f0 = 4
    · rw [if_pos h4]
      exact EvP.pos (by simp [h4]) (EvP.ite (fun h => EvP.ret (by simp [h])) (fun h => EvP.ret (by simp [h])))
    · rw [if_neg h4]
      by_cases h5 : x.f0 = 5
      · rw [if_pos h5]
        exact EvP.pos (by simp [h5]) (EvP.ite (fun h => EvP.ret (by simp [h])) (fun h => EvP.ret (by simp [h])))
      · rw [if_neg h5]
        refine EvP.neg (by simp [h4, h5]) (EvP.ite (fun h6 => ?_) (fun h6 => EvP.ite (fun h7 => ?_) (fun h7 => EvP.ite (fun h8 => ?_) (fun h8 => EvP.ret ?_))))
        · rw [if_pos h6]
          exact EvP.ite (fun h => EvP.ret (by simp [h])) (fun h => EvP.ret (by simp [h]))
        · rw [if_neg h6, if_pos h7]
          exact EvP.ite (fun h => EvP.ret (by simp [h])) (fun h => EvP.ret (by simp [h]))
        · rw [if_neg h6, if_neg h7, if_pos h8]
          exact EvP.ite (fun h => EvP.ret (by simp [h])) (fun h => EvP.ret (by simp [h]))
        · rw [if_neg h6, if_neg h7, if_neg h8]
  have j0 : ∀ b, b = (decide (x.f0 = 1) || decide (x.f0 = 2)) → EvP (fun k => spec_l09Thing.j0 k x.f0 b x.f0 x.f1 x.f2) (· = nodeB x v) := fun b hb => by
    refine EvP.step (f := fun k => spec_l09Thing.j0 (k + 1) x.f0 b x.f0 x.f1 x.f2) (fun _ => rfl) ?_
    simp only [spec_l09Thing.j0]
    have e : ∀ n : Int, (x.f2 == n) = decide (x.f2 = n) := fun n => by by_cases h : x.f2 = n <;> simp [h]
    simp only [e]
    subst hb
    by_cases h1 : x.f0 = 1
    · refine EvP.pos (by simp [h1]) (EvP.bind (spec_name _) (fun t ht => ?_))
      subst ht
      unfold nodeB
      rw [if_pos h1]
      exact EvP.ite (fun h => EvP.ret (by simp [h])) (fun h => EvP.ret (by simp [h]))
    · by_cases h2 : x.f0 = 2
      · refine EvP.pos (by simp [h2]) (EvP.bind (spec_name _) (fun t ht => ?_))
        subst ht
        unfold nodeB
        rw [if_neg h1, if_pos h2]
        exact EvP.ite (fun h => EvP.ret (by simp [h])) (fun h => EvP.ret (by simp [h]))
      · refine EvP.neg (by simp [h1, h2]) (EvP.ite (fun h3 => EvP.bind ⟨v, hv, rfl⟩ (fun t ht => ?_)) (fun h3 => EvP.ite (fun h4 => j1 _ (by simp [h4]) h1 h2 h3) (fun h4 => j1 _ (by by_cases h5 : x.f0 = 5 <;> simp [h4, h5]) h1 h2 h3)))
        subst ht
        unfold nodeB
        rw [if_neg h1, if_neg h2, if_pos h3]
        exact EvP.ite (fun h => EvP.ret (by simp [h])) (fun h => EvP.ret (by simp [h]))
  unfold spec_l09Thing.f
  exact EvP.ite (fun h => j0 _ (by simp [h])) (fun h => j0 _ (by by_cases h2 : x.f0 = 2 <;> simp [h, h2]))
theorem spec_steps (l : List S66) (hl : l.length ≤ 1048576) (v : Nat → Int) (hv : ∀ a, Ev (fun k => spec_LabelsFault.f k (stp l a).f1) (v a)) : ∀ (n a : Nat) (d : Int), l.length - a < n → 0 ≤ d → d ≤ 1000 → EvP (fun k => spec_l09End.f k l (a : Int) d) (fun r => r = endOf (sem l v n a d) ∧ (0 ≤ r → (a : Int) < r ∧ r ≤ l.length))
  | 0, _, _, h, _, _ => absurd h (Nat.not_lt_zero _)
  | n + 1, a, d, h, hd0, hd => by
    refine EvP.step (f := fun k => spec_l09End.f (k + 1) l (a : Int) d) (fun _ => rfl) ?_
    simp only [spec_l09End.f]
    have bad : ∀ P : Int → Prop, P (-1) → EvP (fun k => spec_l09End.j0 k l (a : Int) d true) P := fun P hP => by
      refine EvP.step (f := fun k => spec_l09End.j0 (k + 1) l (a : Int) d true) (fun _ => rfl) ?_
      simp only [spec_l09End.j0]
      exact EvP.pos trivial (EvP.ret hP)
    refine EvP.ite (fun h1 => bad _ ⟨?_, fun h => absurd h (by decide)⟩) (fun h1 => EvP.ite (fun h2 => bad _ ⟨?_, fun h => absurd h (by decide)⟩) (fun h2 => EvP.pos (by omega) (EvP.pos (by omega) (EvP.bind (spec_thing (stp l a) (v a) (hv a)) (fun t ht => ?_)))))
    · simp only [sem]; rw [if_pos (.inl (by omega))]; rfl
    · simp only [sem]; rw [if_pos (.inr (.inl h2))]; rfl
    have ha : a < l.length := by omega
    by_cases hneg : (stp l a).f2 < 0
    · have hnb : nodeB (stp l a) (v a) = false := by
        unfold nodeB
        repeat' split
        all_goals (first | rfl | (simp only [Bool.and_eq_false_iff, decide_eq_false_iff_not]; right; omega))
      rw [ht, hnb]
      refine bad _ ⟨?_, fun h => absurd h (by decide)⟩
      simp only [sem]; rw [if_pos (.inr (.inr hneg))]; rfl
    have hsem : sem l v (n + 1) a d = semL (fun q => sem l v n q (d + 1)) (stp l a).f2.toNat (a + 1) (nodeB (stp l a) (v a)) := by
      simp only [sem]
      rw [if_neg (by rintro (h | h | h) <;> omega)]
    rw [hsem]
    by_cases hnb : nodeB (stp l a) (v a) = true
    · rw [ht, hnb]
      refine EvP.step (f := fun k => spec_l09End.j0 (k + 1) l (a : Int) d (!true)) (fun _ => rfl) ?_
      simp only [spec_l09End.j0]
      refine EvP.neg (by decide) ?_
      rw [wrap_next ha (by omega)]
      have loop : ∀ (m q c : Nat) (i : Int), l.length - q < m → a < q → q ≤ l.length → 0 ≤ i → i + c = (stp l a).f2 → (stp l a).f2 ≤ 2 → EvP (fun k => spec_l09End.l0 k l (a : Int) d (q : Int) i) (fun r => r = endOf (semL (fun q => sem l v n q (d + 1)) c q true) ∧ (0 ≤ r → (a : Int) < r ∧ r ≤ l.length)) := by
        intro m
        induction m with
        | zero => intro q c i h; omega
        | succ m ihm =>
          intro q c i hm haq hq hi hc hle
          refine EvP.step (f := fun k => spec_l09End.l0 (k + 1) l (a : Int) d (q : Int) i) (fun _ => rfl) ?_
          simp only [spec_l09End.l0]
          refine EvP.pos (by omega) (EvP.pos (by omega) (EvP.ite (fun (hlt : i < (stp l a).f2) => ?_) (fun (hge : ¬ i < (stp l a).f2) => EvP.ret ?_)))
          · obtain ⟨c', rfl⟩ : ∃ c', c = c' + 1 := ⟨c - 1, by omega⟩
            rw [show wrap64 (d + 1) = d + 1 from wrap_in (by omega) (by omega), show wrap64 (i + 1) = i + 1 from wrap_in (by omega) (by omega)]
            refine EvP.bind (spec_steps l hl v hv n q (d + 1) (by omega) (by omega) (by omega)) (fun t ht => ?_)
            obtain ⟨ht1, ht2⟩ := ht
            simp only [semL]
            refine EvP.ite (fun hn => EvP.ret ⟨?_, fun h => absurd h (by decide)⟩) (fun hn => ?_)
            · rw [ht1] at hn
              cases hs : sem l v n q (d + 1) with
              | none => rfl
              | some p =>
                obtain ⟨e, b⟩ := p
                rw [hs] at hn
                cases b with
                | true => exact absurd hn (by simp [endOf])
                | false =>
                  simp only [Bool.true_and]
                  cases hs2 : semL (fun q => sem l v n q (d + 1)) c' e false with
                  | none => rfl
                  | some p =>
                    obtain ⟨e2, b2⟩ := p
                    rw [semL_false _ _ _ _ _ hs2]; rfl
            · cases hs : sem l v n q (d + 1) with
              | none => rw [ht1, hs] at hn; exact absurd (by decide : (-1 : Int) < 0) hn
              | some p =>
                obtain ⟨e, b⟩ := p
                cases b with
                | false => rw [ht1, hs] at hn; exact absurd (by decide : (-1 : Int) < 0) hn
                | true =>
                  have hte : t = (e : Int) := by rw [ht1, hs]; rfl
                  subst hte
                  have h5 := ht2 (by omega)
                  simp only [Bool.true_and]
                  exact ihm e c' (i + 1) (by omega) (by omega) (by omega) (by omega) (by omega) hle
          · obtain rfl : c = 0 := by omega
            exact ⟨rfl, fun _ => ⟨by omega, by omega⟩⟩
      have hle2 : (stp l a).f2 ≤ 2 := by
        unfold nodeB at hnb
        repeat' split at hnb
        all_goals (first | (simp only [Bool.and_eq_true, decide_eq_true_eq] at hnb; omega) | cases hnb)
      exact loop (l.length + 1) (a + 1) (stp l a).f2.toNat 0 (by omega) (by omega) (by omega) (by omega) (by omega) hle2
    · have hnb' : nodeB (stp l a) (v a) = false := by simpa using hnb
      rw [ht, hnb']
      refine bad _ ⟨?_, fun h => absurd h (by decide)⟩
      cases hs2 : semL (fun q => sem l v n q (d + 1)) (stp l a).f2.toNat (a + 1) false with
      | none => rfl
      | some p =>
        obtain ⟨e2, b2⟩ := p
        rw [semL_false _ _ _ _ _ hs2]; rfl
def okT (T : S70) (b : Bool) : Prop := EvP (fun k => impl_walkTree_ok.f k T.f0.f0 T.f0.f1 T.f0.f2 T.f1) (· = b)
def allB (bs : Nat → Bool) : Nat → Bool
  | 0 => true
  | n + 1 => allB bs n && bs n
theorem allB_congr {bs bs' : Nat → Bool} : ∀ n, (∀ i, i < n → bs i = bs' i) → allB bs n = allB bs' n
  | 0, _ => rfl
  | n + 1, h => by simp only [allB]; rw [allB_congr n (fun i hi => h i (by omega)), h n (by omega)]
theorem allB_false {bs : Nat → Bool} {j : Nat} (hb : bs j = false) : ∀ n, j < n → allB bs n = false
  | 0, h => absurd h (Nat.not_lt_zero _)
  | n + 1, h => by
    simp only [allB]
    rcases Nat.lt_succ_iff_lt_or_eq.mp h with h1 | rfl
    · rw [allB_false hb n h1]; rfl
    · rw [hb]; simp
theorem allB_true {bs : Nat → Bool} : ∀ n, (∀ i, i < n → bs i = true) → allB bs n = true
  | 0, _ => rfl
  | n + 1, h => by simp only [allB]; rw [allB_true n (fun i hi => h i (by omega)), h n (by omega)]; rfl
theorem rd_tree {ks : List S70} {j : Nat} : rd_T70 ks (j : Int) = ks.getD j z70 := by simp [rd_T70]
theorem impl_node (x : S66) (ks : List S70) (hk : (ks.length : Int) = x.f2) (v : Int) (hv : Ev (fun k => impl_LabelsFault.f k x.f1) v) (hl : ks.length ≤ 1048576) : EvP (fun k => impl_walkTree_ok.l0 k ks (ks.length : Int) (ks.length : Int) x.f0 x.f1 x.f2 ks) (· = nodeB x v) := by
  have j2 : ∀ b, b = (decide (x.f0 = 4) || decide (x.f0 = 5)) → ¬ x.f0 = 1 → ¬ x.f0 = 2 → ¬ x.f0 = 3 → EvP (fun k => impl_walkTree_ok.j2 k x.f2 x.f0 b x.f0 x.f1 x.f2 ks) (· = nodeB x v) := fun b hb h1 h2 h3 => by
    refine EvP.step (f := fun k => impl_walkTree_ok.j2 (k + 1) x.f2 x.f0 b x.f0 x.f1 x.f2 ks) (fun _ => rfl) ?_
    simp only [impl_walkTree_ok.j2]
    have e : (x.f1.toList == ([] : List UInt8)) = decide (x.f1.toList = []) := by by_cases h : x.f1.toList = [] <;> simp [h]
    rw [e]
    subst hb
    unfold nodeB
    rw [if_neg h1, if_neg h2, if_neg h3]
    by_cases h4 : x.f0 = 4
    · rw [if_pos h4]
      exact EvP.pos (by simp [h4]) (EvP.ite (fun h => EvP.ret (by simp [h])) (fun h => EvP.ret (by simp [h])))
    · rw [if_neg h4]
      by_cases h5 : x.f0 = 5
      · rw [if_pos h5]
        exact EvP.pos (by simp [h5]) (EvP.ite (fun h => EvP.ret (by simp [h])) (fun h => EvP.ret (by simp [h])))
      · rw [if_neg h5]
        refine EvP.neg (by simp [h4, h5]) (EvP.ite (fun h6 => ?_) (fun h6 => EvP.ite (fun h7 => ?_) (fun h7 => EvP.ite (fun h8 => ?_) (fun h8 => EvP.ret ?_))))
        · rw [if_pos h6]
          exact EvP.ite (fun h => EvP.ret (by simp [h])) (fun h => EvP.ret (by simp [h]))
        · rw [if_neg h6, if_pos h7]
          exact EvP.ite (fun h => EvP.ret (by simp [h])) (fun h => EvP.ret (by simp [h]))
        · rw [if_neg h6, if_neg h7, if_pos h8]
          exact EvP.ite (fun h => EvP.ret (by simp [h])) (fun h => EvP.ret (by simp [h]))
        · rw [if_neg h6, if_neg h7, if_neg h8]
  have j1 : ∀ b, b = (decide (x.f0 = 1) || decide (x.f0 = 2)) → EvP (fun k => impl_walkTree_ok.j1 k x.f2 x.f0 b x.f0 x.f1 x.f2 ks) (· = nodeB x v) := fun b hb => by
    refine EvP.step (f := fun k => impl_walkTree_ok.j1 (k + 1) x.f2 x.f0 b x.f0 x.f1 x.f2 ks) (fun _ => rfl) ?_
    simp only [impl_walkTree_ok.j1]
    subst hb
    by_cases h1 : x.f0 = 1
    · refine EvP.pos (by simp [h1]) ?_
      unfold nodeB
      rw [if_pos h1]
      exact EvP.ite (fun h => EvP.bind (impl_name _) (fun t ht => EvP.ret (by rw [ht]; simp [h]))) (fun h => EvP.ret (by simp [h]))
    · by_cases h2 : x.f0 = 2
      · refine EvP.pos (by simp [h2]) ?_
        unfold nodeB
        rw [if_neg h1, if_pos h2]
        exact EvP.ite (fun h => EvP.bind (impl_name _) (fun t ht => EvP.ret (by rw [ht]; simp [h]))) (fun h => EvP.ret (by simp [h]))
      · refine EvP.neg (by simp [h1, h2]) (EvP.ite (fun h3 => ?_) (fun h3 => EvP.ite (fun h4 => j2 _ (by simp [h4]) h1 h2 h3) (fun h4 => j2 _ (by by_cases h5 : x.f0 = 5 <;> simp [h4, h5]) h1 h2 h3)))
        unfold nodeB
        rw [if_neg h1, if_neg h2, if_pos h3]
        refine EvP.ite (fun h => EvP.bind ⟨v, hv, rfl⟩ (fun t ht => EvP.ret ?_)) (fun h => EvP.ret (by simp [h]))
        subst ht
        by_cases h5 : v = 0 <;> simp [h, h5]
  refine EvP.step (f := fun k => impl_walkTree_ok.l0 (k + 1) ks (ks.length : Int) (ks.length : Int) x.f0 x.f1 x.f2 ks) (fun _ => rfl) ?_
  simp only [impl_walkTree_ok.l0]
  rw [hk]
  exact EvP.neg (by omega) (EvP.ite (fun h => j1 _ (by simp [h])) (fun h => j1 _ (by by_cases h2 : x.f0 = 2 <;> simp [h, h2])))
theorem okT_node (x : S66) (ks : List S70) (hk : (ks.length : Int) = x.f2) (v : Int) (hv : Ev (fun k => impl_LabelsFault.f k x.f1) v) (hl : ks.length ≤ 1048576) (bs : Nat → Bool) (hb : ∀ i, i < ks.length → okT (ks.getD i z70) (bs i)) : okT ⟨x, ks⟩ (nodeB x v && allB bs ks.length) := by
  unfold okT
  refine EvP.step (f := fun k => impl_walkTree_ok.f (k + 1) x.f0 x.f1 x.f2 ks) (fun _ => rfl) ?_
  simp only [impl_walkTree_ok.f]
  have loop : ∀ (m j : Nat), ks.length - j < m → j ≤ ks.length → (∀ i, i < j → bs i = true) → EvP (fun k => impl_walkTree_ok.l0 k ks (ks.length : Int) (j : Int) x.f0 x.f1 x.f2 ks) (· = (nodeB x v && allB bs ks.length)) := by
    intro m
    induction m with
    | zero => intro j h; omega
    | succ m ihm =>
      intro j hm hj hall
      by_cases hlt : j < ks.length
      · refine EvP.step (f := fun k => impl_walkTree_ok.l0 (k + 1) ks (ks.length : Int) (j : Int) x.f0 x.f1 x.f2 ks) (fun _ => rfl) ?_
        simp only [impl_walkTree_ok.l0]
        refine EvP.pos (by omega) (EvP.pos (by omega) (EvP.pos (by omega) ?_))
        rw [rd_tree, wrap_next hlt (by omega)]
        refine EvP.bind (hb j hlt) (fun t ht => ?_)
        subst ht
        refine EvP.ite (fun h => ihm (j + 1) (by omega) (by omega) (fun i hi => ?_)) (fun h => EvP.ret ?_)
        · rcases Nat.lt_succ_iff_lt_or_eq.mp hi with h1 | rfl
          · exact hall i h1
          · exact h
        · rw [allB_false (by simpa using h) ks.length hlt]; simp
      · obtain rfl : j = ks.length := by omega
        rw [allB_true ks.length hall, Bool.and_true]
        exact impl_node x ks hk v hv hl
  exact loop (ks.length + 1) 0 (by omega) (by omega) (fun i hi => absurd hi (Nat.not_lt_zero _))
abbrev Grw := Int × ByteArray × Int × List S70 × Int × Bool
/-- KidsS read one behind the other, each with what K says of it. -/
inductive KidsS (K : Nat → Nat → Bool → S70 → Prop) : List S70 → Nat → Nat → Bool → Prop
  | nil (p : Nat) : KidsS K [] p p true
  | snoc {ks : List S70} {p q e : Nat} {bb b : Bool} {T : S70} : KidsS K ks p q bb → K q e b T → KidsS K (ks ++ [T]) p e (bb && b)
/-- What is known of a kid: its place, that it is read, and Q. -/
def KidS (l : List S66) (v : Nat → Int) (Q : Nat → Nat → Bool → S70 → Prop) (q e : Nat) (b : Bool) (T : S70) : Prop :=
  q < e ∧ e ≤ l.length ∧ (∃ (n : Nat) (d : Int), l.length - q < n ∧ 1 ≤ d ∧ sem l v n q d = some (e, b)) ∧ Q q e b T
def GRs (l : List S66) (Q : Nat → Nat → Bool → S70 → Prop) (a : Nat) : Option (Nat × Bool) → Grw → Prop
  | none, r => r.2.2.2.2.2 = false
  | some (e, b), r => r.2.2.2.2.2 = true ∧ r.2.2.2.2.1 = (e : Int) ∧ a < e ∧ e ≤ l.length ∧ okT ⟨⟨r.1, r.2.1, r.2.2.1⟩, r.2.2.2.1⟩ b ∧ Q a e b ⟨⟨r.1, r.2.1, r.2.2.1⟩, r.2.2.2.1⟩
theorem impl_steps (l : List S66) (hl : l.length ≤ 1048576) (v : Nat → Int) (hv : ∀ a, Ev (fun k => impl_LabelsFault.f k (stp l a).f1) (v a)) (Q : Nat → Nat → Bool → S70 → Prop)
    (hQ : ∀ (a e : Nat) (bb : Bool) (ks : List S70), a < l.length → (ks.length : Int) = (stp l a).f2 → KidsS (KidS l v Q) ks (a + 1) e bb → Q a e (nodeB (stp l a) (v a) && bb) ⟨stp l a, ks⟩) :
    ∀ (n a : Nat) (d : Int), l.length - a < n → 0 ≤ d → d ≤ 1000 → EvP (fun k => impl_growSteps.f k l (a : Int) d) (GRs l Q a (sem l v n a d))
  | 0, _, _, h, _, _ => absurd h (Nat.not_lt_zero _)
  | n + 1, a, d, h, hd0, hd => by
    refine EvP.step (f := fun k => impl_growSteps.f (k + 1) l (a : Int) d) (fun _ => rfl) ?_
    simp only [impl_growSteps.f]
    have bad : ∀ P : Grw → Prop, P (0, (⟨#[]⟩ : ByteArray), 0, [], (a : Int), false) → EvP (fun k => impl_growSteps.j0 k l (a : Int) d true) P := fun P hP => by
      refine EvP.step (f := fun k => impl_growSteps.j0 (k + 1) l (a : Int) d true) (fun _ => rfl) ?_
      simp only [impl_growSteps.j0]
      exact EvP.pos trivial (EvP.ret hP)
    refine EvP.ite (fun h1 => bad _ ?_) (fun h1 => EvP.ite (fun h2 => bad _ ?_) (fun h2 => EvP.pos (by omega) (EvP.pos (by omega) ?_)))
    · simp only [sem]; rw [if_pos (.inl (by omega))]; rfl
    · simp only [sem]; rw [if_pos (.inr (.inl h2))]; rfl
    have ha : a < l.length := by omega
    by_cases hneg : (stp l a).f2 < 0
    · rw [decide_eq_true hneg]
      refine bad _ ?_
      simp only [sem]; rw [if_pos (.inr (.inr hneg))]; rfl
    have hsem : sem l v (n + 1) a d = semL (fun q => sem l v n q (d + 1)) (stp l a).f2.toNat (a + 1) (nodeB (stp l a) (v a)) := by
      simp only [sem]
      rw [if_neg (by rintro (h | h | h) <;> omega)]
    rw [hsem, decide_eq_false hneg]
    refine EvP.step (f := fun k => impl_growSteps.j0 (k + 1) l (a : Int) d false) (fun _ => rfl) ?_
    simp only [impl_growSteps.j0]
    refine EvP.neg (by decide) (EvP.pos (by omega) (EvP.pos (by omega) ?_))
    rw [wrap_next ha (by omega)]
    have loop : ∀ (m q c : Nat) (ks : List S70) (bs : Nat → Bool), l.length - q < m → a < q → q ≤ l.length → ks.length ≤ q → (ks.length : Int) + c = (stp l a).f2 → (∀ i, i < ks.length → okT (ks.getD i z70) (bs i)) → KidsS (KidS l v Q) ks (a + 1) q (allB bs ks.length) →
        EvP (fun k => impl_growSteps.l0 k l (q : Int) d (ks.length : Int) (stp l a).f0 (stp l a).f1 (stp l a).f2 ks) (GRs l Q a (semL (fun q => sem l v n q (d + 1)) c q (nodeB (stp l a) (v a) && allB bs ks.length))) := by
      intro m
      induction m with
      | zero => intro q c ks bs h; omega
      | succ m ihm =>
        intro q c ks bs hm haq hq hkq hc hok hkid
        refine EvP.step (f := fun k => impl_growSteps.l0 (k + 1) l (q : Int) d (ks.length : Int) (stp l a).f0 (stp l a).f1 (stp l a).f2 ks) (fun _ => rfl) ?_
        simp only [impl_growSteps.l0]
        refine EvP.ite (fun (hlt : (ks.length : Int) < (stp l a).f2) => ?_) (fun (hge : ¬ (ks.length : Int) < (stp l a).f2) => EvP.ret ?_)
        · obtain ⟨c', rfl⟩ : ∃ c', c = c' + 1 := ⟨c - 1, by omega⟩
          rw [show wrap64 (d + 1) = d + 1 from wrap_in (by omega) (by omega), show wrap64 ((ks.length : Int) + 1) = ((ks.length + 1 : Nat) : Int) from (wrap_in (by omega) (by omega)).trans (by omega)]
          refine EvP.bind (impl_steps l hl v hv Q hQ n q (d + 1) (by omega) (by omega) (by omega)) (fun r hr => ?_)
          simp only [semL]
          cases hs : sem l v n q (d + 1) with
          | none =>
            rw [hs] at hr
            have hr' : r.2.2.2.2.2 = false := hr
            exact EvP.neg (by rw [hr']; decide) (EvP.ret rfl)
          | some p =>
            obtain ⟨e, b⟩ := p
            rw [hs] at hr
            obtain ⟨h3, h4, h5, h6, h7, h9⟩ : r.2.2.2.2.2 = true ∧ r.2.2.2.2.1 = (e : Int) ∧ q < e ∧ e ≤ l.length ∧ okT ⟨⟨r.1, r.2.1, r.2.2.1⟩, r.2.2.2.1⟩ b ∧ Q q e b ⟨⟨r.1, r.2.1, r.2.2.1⟩, r.2.2.2.1⟩ := hr
            refine EvP.pos h3 (EvP.pos (by omega) ?_)
            rw [h4]
            have hlen : (ks ++ [(⟨(⟨r.1, r.2.1, r.2.2.1⟩ : S66), r.2.2.2.1⟩ : S70)]).length = ks.length + 1 := by simp
            have ih := ihm e c' (ks ++ [(⟨(⟨r.1, r.2.1, r.2.2.1⟩ : S66), r.2.2.2.1⟩ : S70)]) (fun j => if j = ks.length then b else bs j) (by omega) (by omega) h6 (by omega) (by omega) (fun i hi => ?_) ?_
            · rw [hlen] at ih
              simp only [allB] at ih
              rw [if_pos trivial, allB_congr ks.length (bs' := bs) (fun i hi => by simp only [if_neg (show ¬ i = ks.length by omega)]), ← Bool.and_assoc] at ih
              exact ih
            · by_cases h8 : i < ks.length
              · rw [if_neg (by omega), List.getD_eq_getElem?_getD, List.getElem?_append_left h8, ← List.getD_eq_getElem?_getD]
                exact hok i h8
              · obtain rfl : i = ks.length := by omega
                rw [if_pos rfl]
                simpa using h7
            · have hk2 := KidsS.snoc hkid (⟨h5, h6, ⟨n, d + 1, by omega, by omega, hs⟩, h9⟩ : KidS l v Q q e b _)
              rw [hlen]
              simp only [allB]
              rw [if_pos trivial, allB_congr ks.length (bs' := bs) (fun i hi => by simp only [if_neg (show ¬ i = ks.length by omega)])]
              exact hk2
        · obtain rfl : c = 0 := by omega
          exact ⟨rfl, rfl, haq, hq, okT_node (stp l a) ks (by omega) (v a) (hv a) (by omega) bs hok, hQ a q _ ks ha (by omega) hkid⟩
    have := loop (l.length + 1) (a + 1) (stp l a).f2.toNat [] (fun _ => true) (by omega) (by omega) (by omega) (by simp) (by simp; omega) (fun i hi => absurd hi (by simp)) (.nil _)
    simpa [allB] using this
theorem semL_mono {f g : Nat → Option (Nat × Bool)} (hfg : ∀ q p, f q = some p → g q = some p) : ∀ c a b p, semL f c a b = some p → semL g c a b = some p
  | 0, _, _, _, h => h
  | c + 1, a, b, p, h => by
    simp only [semL] at h ⊢
    cases hf : f a with
    | none => rw [hf] at h; cases h
    | some x => rw [hf] at h; rw [hfg a x hf]; exact semL_mono hfg c _ _ p h
/-- What is read at a depth is read the same at a lesser one. -/
theorem sem_up (l : List S66) (v : Nat → Int) : ∀ (n a : Nat) (d d' : Int) (p : Nat × Bool), d' ≤ d → sem l v n a d = some p → sem l v n a d' = some p
  | 0, _, _, _, _, _, h => h
  | n + 1, a, d, d', p, hd, h => by
    simp only [sem] at h ⊢
    by_cases hc : l.length ≤ a ∨ d > 20 ∨ (stp l a).f2 < 0
    · rw [if_pos hc] at h; cases h
    · rw [if_neg hc] at h
      rw [if_neg (fun hd2 => hc (hd2.imp id (Or.imp (fun h1 => (by omega : d > 20)) id)))]
      exact semL_mono (fun q p hq => sem_up l v n q _ _ p (by omega) hq) _ _ _ _ h
/-- The reference's place behind a kid, told from depth 1. -/
theorem end_one (l : List S66) (hl : l.length ≤ 1048576) (v : Nat → Int) (hv : ∀ a, Ev (fun k => spec_LabelsFault.f k (stp l a).f1) (v a)) {q e : Nat} (h : ∃ (n : Nat) (d : Int), l.length - q < n ∧ 1 ≤ d ∧ sem l v n q d = some (e, true)) : EvP (fun k => spec_l09End.f k l (q : Int) 1) (· = (e : Int)) := by
  obtain ⟨n, d, h1, h2, h3⟩ := h
  refine (spec_steps l hl v hv n q 1 h1 (by omega) (by omega)).mono (fun r hr => ?_)
  rw [hr.1, sem_up l v n q d 1 _ h2 h3]; rfl
/-- What both trees of steps tell: no tree on both sides, or the program's tree with Q. -/
theorem steps_tree (l : List S66) (hl : l.length ≤ 1048576) (v : Nat → Int) (hv : ∀ a, Ev (fun k => impl_LabelsFault.f k (stp l a).f1) (v a) ∧ Ev (fun k => spec_LabelsFault.f k (stp l a).f1) (v a)) (Q : Nat → Nat → Bool → S70 → Prop)
    (hQ : ∀ (a e : Nat) (bb : Bool) (ks : List S70), a < l.length → (ks.length : Int) = (stp l a).f2 → KidsS (KidS l v Q) ks (a + 1) e bb → Q a e (nodeB (stp l a) (v a) && bb) ⟨stp l a, ks⟩) :
    (EvP (fun k => spec_StepsFault.f k l) (· = 1) ∧ EvP (fun k => impl_stepsTree.f k l) (fun r => r.2.2.2.2 = false)) ∨
    (EvP (fun k => spec_StepsFault.f k l) (· = 0) ∧ EvP (fun k => impl_stepsTree.f k l) (fun r => r.2.2.2.2 = true ∧ Q 0 l.length true ⟨⟨r.1, r.2.1, r.2.2.1⟩, r.2.2.2.1⟩)) := by
  unfold impl_stepsTree.f spec_StepsFault.f
  by_cases h : (l.length : Int) > 100
  · exact .inl ⟨EvP.pos h (EvP.ret rfl), EvP.pos h (EvP.ret rfl)⟩
  · have hS := spec_steps l hl v (fun a => (hv a).2) (l.length + 1) 0 1 (by omega) (by omega) (by omega)
    have hI := impl_steps l hl v (fun a => (hv a).1) Q hQ (l.length + 1) 0 1 (by omega) (by omega) (by omega)
    generalize sem l v (l.length + 1) 0 1 = s at hS hI
    by_cases hs : s = some (l.length, true)
    · subst hs
      refine .inr ⟨EvP.neg h (EvP.bind hS (fun t ht => ?_)), EvP.neg h (EvP.bind hI (fun r hr => ?_))⟩
      · rw [ht.1]
        exact EvP.pos rfl (EvP.ret rfl)
      · obtain ⟨h3, h4, h5, h6, h7, h8⟩ : r.2.2.2.2.2 = true ∧ r.2.2.2.2.1 = (l.length : Int) ∧ 0 < l.length ∧ l.length ≤ l.length ∧ okT ⟨⟨r.1, r.2.1, r.2.2.1⟩, r.2.2.2.1⟩ true ∧ Q 0 l.length true ⟨⟨r.1, r.2.1, r.2.2.1⟩, r.2.2.2.1⟩ := hr
        refine EvP.pos h3 (EvP.pos h4 (EvP.bind h7 (fun t ht => EvP.ret ?_)))
        exact ⟨ht, h8⟩
    · refine .inl ⟨EvP.neg h (EvP.bind hS (fun t ht => ?_)), EvP.neg h (EvP.bind hI (fun r hr => ?_))⟩
      · rw [ht.1]
        refine EvP.neg (fun he => hs ?_) (EvP.ret rfl)
        cases s with
        | none => exact absurd he (by simp [endOf] <;> omega)
        | some p =>
          obtain ⟨e, b⟩ := p
          cases b with
          | true => simp only [endOf] at he; rw [show e = l.length by omega]
          | false => exact absurd he (by simp [endOf] <;> omega)
      · cases s with
        | none =>
          have hr' : r.2.2.2.2.2 = false := hr
          exact EvP.neg (by rw [hr']; decide) (EvP.ret rfl)
        | some p =>
          obtain ⟨e, b⟩ := p
          obtain ⟨h3, h4, h5, h6, h7, h8⟩ : r.2.2.2.2.2 = true ∧ r.2.2.2.2.1 = (e : Int) ∧ 0 < e ∧ e ≤ l.length ∧ okT ⟨⟨r.1, r.2.1, r.2.2.1⟩, r.2.2.2.1⟩ b ∧ Q 0 e b ⟨⟨r.1, r.2.1, r.2.2.1⟩, r.2.2.2.1⟩ := hr
          refine EvP.pos h3 ?_
          rw [h4]
          refine EvP.ite (fun h8 => EvP.bind h7 (fun t ht => EvP.ret ?_)) (fun h8 => EvP.ret rfl)
          cases b with
          | true => exact absurd (by rw [show e = l.length by omega]) hs
          | false => exact ht
/-- How tight a thing binds. -/
def lvl (x : S66) : Int := if x.f0 = 5 then 1 else if x.f0 = 4 then 2 else if x.f0 = 6 then 3 else if x.f0 = 7 then 3 else if x.f0 = 8 then 3 else 4
def wr (x : S66) (n : Int) (s : ByteArray) : ByteArray := if lvl x < n then (((⟨#[40]⟩ : ByteArray) ++ s) ++ (⟨#[41]⟩ : ByteArray)) else s
theorem wr_size (x : S66) (n : Int) (s : ByteArray) : (wr x n s).size ≤ s.size + 2 := by
  unfold wr
  split
  · simp only [ByteArray.size_append]
    show 1 + s.size + 1 ≤ _
    omega
  · omega
def SpS (l : List S66) (a : Nat) (s : ByteArray) : Prop := EvP (fun k => spec_l09Show2.f k l (a : Int)) (· = s)
def ImS (T : S70) (s : ByteArray) : Prop := EvP (fun k => impl_walkTree_show2.f k T.f0.f0 T.f0.f1 T.f0.f2 T.f1) (· = s)
theorem spec_lvl (x : S66) : EvP (fun k => spec_l09Level.f x.f0 x.f1 x.f2) (· = lvl x) := by
  unfold spec_l09Level.f lvl
  repeat' first
  | exact EvP.ret rfl
  | refine EvP.ite (fun h => ?_) (fun h => ?_) <;> (first | rw [if_pos h] | rw [if_neg h])
theorem impl_lvl (x : S66) (ks : List S70) : EvP (fun k => impl_walkTree_rank.f x.f0 x.f1 x.f2 ks) (· = lvl x) := by
  unfold impl_walkTree_rank.f lvl
  repeat' first
  | exact EvP.ret rfl
  | refine EvP.ite (fun h => ?_) (fun h => ?_) <;> (first | rw [if_pos h] | rw [if_neg h])
theorem spec_in (l : List S66) {q : Nat} (hq : q < l.length) {s : ByteArray} (hs : SpS l q s) (hz : s.size < 9223372036854775800) (n : Int) : EvP (fun k => @spec_l09In.f (spec_l09Show2.I k).c l (q : Int) n) (· = wr (stp l q) n s) := by
  unfold spec_l09In.f
  refine EvP.bind (show EvP (fun k => @spec_l09Show.f (spec_l09Show2.I k).c l (q : Int)) (· = s) from hs) (fun t ht => EvP.pos (by omega) (EvP.pos (by omega) (EvP.bind (spec_lvl (stp l q)) (fun m hm => ?_))))
  subst ht; subst hm
  unfold wr
  refine EvP.ite (fun h => EvP.pos (by omega) (EvP.pos ?_ (EvP.ret (by rw [if_pos h])))) (fun h => EvP.ret (by rw [if_neg h]))
  simp only [ByteArray.size_append]
  show 1 + t.size + 1 ≤ _
  omega
theorem impl_in (T : S70) {s : ByteArray} (hs : ImS T s) (hz : s.size < 9223372036854775800) (n : Int) : EvP (fun k => @impl_walkTree_within.f (impl_walkTree_show2.I k).c T.f0.f0 T.f0.f1 T.f0.f2 T.f1 n) (· = wr T.f0 n s) := by
  unfold impl_walkTree_within.f
  refine EvP.bind (impl_lvl T.f0 T.f1) (fun m hm => ?_)
  subst hm
  unfold wr
  have hs' : EvP (fun k => @impl_walkTree_show.f (impl_walkTree_show2.I k).c T.f0.f0 T.f0.f1 T.f0.f2 T.f1) (· = s) := hs
  refine EvP.ite (fun h => EvP.bind hs' (fun t ht => EvP.ret (by rw [if_neg (by omega)]; exact ht))) (fun h => EvP.bind hs' (fun t ht => EvP.pos ?_ (EvP.pos ?_ (EvP.ret (by rw [if_pos (by omega), ht])))))
  · subst ht; omega
  · subst ht
    simp only [ByteArray.size_append]
    show 1 + t.size + 1 ≤ _
    omega
/-- A node's text, of its kids' nodes and texts. -/
def nodeS (x y z : S66) (s t : ByteArray) : ByteArray :=
  if x.f0 = 2 then (⟨#[94]⟩ : ByteArray) ++ x.f1 else if x.f0 = 3 then ((⟨#[91]⟩ : ByteArray) ++ x.f1) ++ (⟨#[93]⟩ : ByteArray)
  else if x.f0 = 4 then (wr y 2 s ++ (⟨#[47]⟩ : ByteArray)) ++ wr z 3 t else if x.f0 = 5 then (wr y 1 s ++ (⟨#[124]⟩ : ByteArray)) ++ wr z 2 t
  else if x.f0 = 6 then wr y 3 s ++ (⟨#[42]⟩ : ByteArray) else if x.f0 = 7 then wr y 3 s ++ (⟨#[43]⟩ : ByteArray) else if x.f0 = 8 then wr y 3 s ++ (⟨#[63]⟩ : ByteArray) else x.f1
def ShQ (l : List S66) (a e : Nat) (b : Bool) (T : S70) : Prop :=
  T.f0 = stp l a ∧ (b = true → ∃ s : ByteArray, s.size + 2000000 * a ≤ 2000000 * e ∧ SpS l a s ∧ ImS T s)
/-- How many kids a right node has. -/
theorem node_kids {x : S66} {v : Int} (h : nodeB x v = true) : (x.f0 = 4 ∨ x.f0 = 5 → x.f2 = 2) ∧ (x.f0 = 6 ∨ x.f0 = 7 ∨ x.f0 = 8 → x.f2 = 1) ∧ (¬ x.f0 = 4 → ¬ x.f0 = 5 → ¬ x.f0 = 6 → ¬ x.f0 = 7 → ¬ x.f0 = 8 → x.f2 = 0) := by
  unfold nodeB at h
  repeat' split at h
  all_goals (first | cases h | (simp only [Bool.and_eq_true, decide_eq_true_eq] at h; omega))
theorem kids_nil {K : Nat → Nat → Bool → S70 → Prop} {ks : List S70} {p e : Nat} {bb : Bool} (h : KidsS K ks p e bb) (hl : ks.length = 0) : ks = [] ∧ e = p ∧ bb = true := by
  cases h with
  | nil => exact ⟨rfl, rfl, rfl⟩
  | snoc h1 h2 => exact absurd hl (by simp)
theorem kids_one {K : Nat → Nat → Bool → S70 → Prop} {ks : List S70} {p e : Nat} {bb : Bool} (h : KidsS K ks p e bb) (hl : ks.length = 1) : ∃ T, ks = [T] ∧ K p e bb T := by
  cases h with
  | nil => exact absurd hl (by simp)
  | snoc h1 h2 =>
    obtain ⟨rfl, rfl, rfl⟩ := kids_nil h1 (by simpa using hl)
    exact ⟨_, rfl, by simpa using h2⟩
theorem kids_two {K : Nat → Nat → Bool → S70 → Prop} {ks : List S70} {p e : Nat} {bb : Bool} (h : KidsS K ks p e bb) (hl : ks.length = 2) : ∃ T U q b c, ks = [T, U] ∧ K p q b T ∧ K q e c U ∧ bb = (b && c) := by
  cases h with
  | nil => exact absurd hl (by simp)
  | snoc h1 h2 =>
    obtain ⟨T, rfl, h3⟩ := kids_one h1 (by simpa using hl)
    exact ⟨T, _, _, _, _, rfl, h3, h2, rfl⟩
theorem spec_node (l : List S66) (hl : l.length ≤ 1048576) {a q : Nat} (ha : a < l.length) (y z : S66) (s t : ByteArray) (hz : (stp l a).f1.size ≤ 1048576) (hs : s.size ≤ 4503599627370496) (ht : t.size ≤ 4503599627370496)
    (h1 : 4 ≤ (stp l a).f0 → (stp l a).f0 ≤ 8 → ∀ n, EvP (fun k => @spec_l09In.f (spec_l09Show2.I k).c l ((a + 1 : Nat) : Int) n) (· = wr y n s))
    (h2 : (stp l a).f0 = 4 ∨ (stp l a).f0 = 5 → EvP (fun k => spec_l09End.f k l ((a + 1 : Nat) : Int) 1) (· = (q : Int)) ∧ ∀ n, EvP (fun k => @spec_l09In.f (spec_l09Show2.I k).c l (q : Int) n) (· = wr z n t)) : SpS l a (nodeS (stp l a) y z s t) := by
  refine EvP.step (f := fun k => @spec_l09Show1.f (spec_l09Show2.I k).c k l (a : Int)) (fun _ => rfl) ?_
  unfold spec_l09Show1.f nodeS
  refine EvP.pos (by omega) (EvP.pos (by omega) ?_)
  rw [wrap_next ha (by omega)]
  have sec : (stp l a).f0 = 4 ∨ (stp l a).f0 = 5 → EvP (fun k => spec_l09Second.f k l (a : Int)) (· = (q : Int)) := fun h => by
    unfold spec_l09Second.f
    rw [wrap_next ha (by omega)]
    exact EvP.bind (h2 h).1 (fun t ht => EvP.ret ht)
  have w1 : ∀ n, (wr y n s).size ≤ 4503599627370498 := fun n => Nat.le_trans (wr_size y n s) (by omega)
  have w2 : ∀ n, (wr z n t).size ≤ 4503599627370498 := fun n => Nat.le_trans (wr_size z n t) (by omega)
  have two : ∀ (c m n : Int) (b : UInt8), (stp l a).f0 = c → c = 4 ∨ c = 5 → EvP (fun k => (@spec_l09In.f (spec_l09Show2.I k).c l ((a + 1 : Nat) : Int) m).bind fun t1 => (if t1.size + 1 ≤ 9223372036854775807 then ((spec_l09Second.f k l (a : Int)).bind fun t2 => ((@spec_l09In.f (spec_l09Show2.I k).c l t2 n).bind fun t3 => (if (t1 ++ (⟨#[b]⟩ : ByteArray)).size + t3.size ≤ 9223372036854775807 then (some ((t1 ++ (⟨#[b]⟩ : ByteArray)) ++ t3)) else (none)))) else (none))) (· = (wr y m s ++ (⟨#[b]⟩ : ByteArray)) ++ wr z n t) := fun c m n b hc hcc => by
    have q1 := w1 m
    have q2 := w2 n
    refine EvP.bind (h1 (by omega) (by omega) m) (fun t1 e1 => ?_)
    subst e1
    refine EvP.pos (by omega) (EvP.bind (sec (by omega)) (fun t2 e2 => ?_))
    subst e2
    refine EvP.bind ((h2 (by omega)).2 n) (fun t3 e3 => ?_)
    subst e3
    refine EvP.pos ?_ (EvP.ret rfl)
    rw [ByteArray.size_append]
    show (wr y m s).size + 1 + _ ≤ _
    omega
  have one : ∀ (c : Int) (b : UInt8), (stp l a).f0 = c → c = 6 ∨ c = 7 ∨ c = 8 → EvP (fun k => (@spec_l09In.f (spec_l09Show2.I k).c l ((a + 1 : Nat) : Int) 3).bind fun t1 => (if t1.size + 1 ≤ 9223372036854775807 then (some (t1 ++ (⟨#[b]⟩ : ByteArray))) else (none))) (· = wr y 3 s ++ (⟨#[b]⟩ : ByteArray)) := fun c b hc hcc => by
    have q1 := w1 3
    refine EvP.bind (h1 (by omega) (by omega) 3) (fun t1 e1 => ?_)
    subst e1
    exact EvP.pos (by omega) (EvP.ret rfl)
  refine EvP.ite (fun h => ?_) (fun n2 => ?_)
  · rw [if_pos h]; exact EvP.pos (by show 1 + (stp l a).f1.size ≤ _; omega) (EvP.ret rfl)
  rw [if_neg n2]
  refine EvP.ite (fun h => ?_) (fun n3 => ?_)
  · rw [if_pos h]
    refine EvP.pos (by show 1 + (stp l a).f1.size ≤ _; omega) (EvP.pos ?_ (EvP.ret rfl))
    rw [ByteArray.size_append]
    show 1 + (stp l a).f1.size + 1 ≤ _
    omega
  rw [if_neg n3]
  refine EvP.ite (fun h => ?_) (fun n4 => ?_)
  · rw [if_pos h]; exact two 4 2 3 47 h (.inl rfl)
  rw [if_neg n4]
  refine EvP.ite (fun h => ?_) (fun n5 => ?_)
  · rw [if_pos h]; exact two 5 1 2 124 h (.inr rfl)
  rw [if_neg n5]
  refine EvP.ite (fun h => ?_) (fun n6 => ?_)
  · rw [if_pos h]; exact one 6 42 h (.inl rfl)
  rw [if_neg n6]
  refine EvP.ite (fun h => ?_) (fun n7 => ?_)
  · rw [if_pos h]; exact one 7 43 h (.inr (.inl rfl))
  rw [if_neg n7]
  refine EvP.ite (fun h => ?_) (fun n8 => ?_)
  · rw [if_pos h]; exact one 8 63 h (.inr (.inr rfl))
  rw [if_neg n8]
  exact EvP.ret rfl
theorem impl_nodeS (x : S66) (ks : List S70) (y z : S66) (s t : ByteArray) (hz : x.f1.size ≤ 1048576) (hs : s.size ≤ 4503599627370496) (ht : t.size ≤ 4503599627370496)
    (h1 : 4 ≤ x.f0 → x.f0 ≤ 8 → 0 < ks.length ∧ ∀ n, EvP (fun k => @impl_walkTree_within.f (impl_walkTree_show2.I k).c ((rd_T70 ks 0).f0.f0) ((rd_T70 ks 0).f0.f1) ((rd_T70 ks 0).f0.f2) ((rd_T70 ks 0).f1) n) (· = wr y n s))
    (h2 : x.f0 = 4 ∨ x.f0 = 5 → 1 < ks.length ∧ ∀ n, EvP (fun k => @impl_walkTree_within.f (impl_walkTree_show2.I k).c ((rd_T70 ks 1).f0.f0) ((rd_T70 ks 1).f0.f1) ((rd_T70 ks 1).f0.f2) ((rd_T70 ks 1).f1) n) (· = wr z n t)) : ImS ⟨x, ks⟩ (nodeS x y z s t) := by
  refine EvP.step (f := fun k => @impl_walkTree_show1.f (impl_walkTree_show2.I k).c x.f0 x.f1 x.f2 ks) (fun _ => rfl) ?_
  unfold impl_walkTree_show1.f nodeS
  have w1 : ∀ n, (wr y n s).size ≤ 4503599627370498 := fun n => Nat.le_trans (wr_size y n s) (by omega)
  have w2 : ∀ n, (wr z n t).size ≤ 4503599627370498 := fun n => Nat.le_trans (wr_size z n t) (by omega)
  have two : ∀ (c m n : Int) (b : UInt8), x.f0 = c → c = 4 ∨ c = 5 → EvP (fun k => if 0 < (ks.length : Int) then ((@impl_walkTree_within.f (impl_walkTree_show2.I k).c ((rd_T70 ks 0).f0.f0) ((rd_T70 ks 0).f0.f1) ((rd_T70 ks 0).f0.f2) ((rd_T70 ks 0).f1) m).bind fun t1 => (if t1.size + 1 ≤ 9223372036854775807 then (if 1 < (ks.length : Int) then ((@impl_walkTree_within.f (impl_walkTree_show2.I k).c ((rd_T70 ks 1).f0.f0) ((rd_T70 ks 1).f0.f1) ((rd_T70 ks 1).f0.f2) ((rd_T70 ks 1).f1) n).bind fun t3 => (if (t1 ++ (⟨#[b]⟩ : ByteArray)).size + t3.size ≤ 9223372036854775807 then (some ((t1 ++ (⟨#[b]⟩ : ByteArray)) ++ t3)) else (none))) else (none)) else (none))) else (none)) (· = (wr y m s ++ (⟨#[b]⟩ : ByteArray)) ++ wr z n t) := fun c m n b hc hcc => by
    have q1 := w1 m
    have q2 := w2 n
    have k1 := (h1 (by omega) (by omega)).1
    have k2 := (h2 (by omega)).1
    refine EvP.pos (by omega) (EvP.bind ((h1 (by omega) (by omega)).2 m) (fun t1 e1 => ?_))
    subst e1
    refine EvP.pos (by omega) (EvP.pos (by omega) (EvP.bind ((h2 (by omega)).2 n) (fun t3 e3 => ?_)))
    subst e3
    refine EvP.pos ?_ (EvP.ret rfl)
    rw [ByteArray.size_append]
    show (wr y m s).size + 1 + _ ≤ _
    omega
  have one : ∀ (c : Int) (b : UInt8), x.f0 = c → c = 6 ∨ c = 7 ∨ c = 8 → EvP (fun k => if 0 < (ks.length : Int) then ((@impl_walkTree_within.f (impl_walkTree_show2.I k).c ((rd_T70 ks 0).f0.f0) ((rd_T70 ks 0).f0.f1) ((rd_T70 ks 0).f0.f2) ((rd_T70 ks 0).f1) 3).bind fun t1 => (if t1.size + 1 ≤ 9223372036854775807 then (some (t1 ++ (⟨#[b]⟩ : ByteArray))) else (none))) else (none)) (· = wr y 3 s ++ (⟨#[b]⟩ : ByteArray)) := fun c b hc hcc => by
    have q1 := w1 3
    have k1 := (h1 (by omega) (by omega)).1
    refine EvP.pos (by omega) (EvP.bind ((h1 (by omega) (by omega)).2 3) (fun t1 e1 => ?_))
    subst e1
    exact EvP.pos (by omega) (EvP.ret rfl)
  refine EvP.ite (fun h => ?_) (fun n2 => ?_)
  · rw [if_pos h]; exact EvP.pos (by omega) (EvP.ret rfl)
  rw [if_neg n2]
  refine EvP.ite (fun h => ?_) (fun n3 => ?_)
  · rw [if_pos h]
    refine EvP.pos (by omega) (EvP.pos ?_ (EvP.ret rfl))
    rw [ByteArray.size_append]
    show 1 + x.f1.size + 1 ≤ _
    omega
  rw [if_neg n3]
  refine EvP.ite (fun h => ?_) (fun n4 => ?_)
  · rw [if_pos h]; exact two 4 2 3 47 h (.inl rfl)
  rw [if_neg n4]
  refine EvP.ite (fun h => ?_) (fun n5 => ?_)
  · rw [if_pos h]; exact two 5 1 2 124 h (.inr rfl)
  rw [if_neg n5]
  refine EvP.ite (fun h => ?_) (fun n6 => ?_)
  · rw [if_pos h]; exact one 6 42 h (.inl rfl)
  rw [if_neg n6]
  refine EvP.ite (fun h => ?_) (fun n7 => ?_)
  · rw [if_pos h]; exact one 7 43 h (.inr (.inl rfl))
  rw [if_neg n7]
  refine EvP.ite (fun h => ?_) (fun n8 => ?_)
  · rw [if_pos h]; exact one 8 63 h (.inr (.inr rfl))
  rw [if_neg n8]
  exact EvP.ret rfl
theorem nodeS_size (x y z : S66) (s t : ByteArray) (hz : x.f1.size ≤ 1048576) : (nodeS x y z s t).size ≤ s.size + t.size + 1048586 := by
  have a1 := wr_size y 2 s
  have a2 := wr_size y 1 s
  have a3 := wr_size y 3 s
  have a4 := wr_size z 3 t
  have a5 := wr_size z 2 t
  have e : ∀ b : UInt8, (⟨#[b]⟩ : ByteArray).size = 1 := fun _ => rfl
  unfold nodeS
  repeat' split
  all_goals ((try simp only [ByteArray.size_append, e]); omega)
theorem show_step (l : List S66) (hl : l.length ≤ 1048576) (hz : ∀ a, a < l.length → (stp l a).f1.size ≤ 1048576) (v : Nat → Int) (hv : ∀ a, Ev (fun k => spec_LabelsFault.f k (stp l a).f1) (v a))
    (a e : Nat) (bb : Bool) (ks : List S70) (ha : a < l.length) (hk : (ks.length : Int) = (stp l a).f2) (hkid : KidsS (KidS l v (ShQ l)) ks (a + 1) e bb) : ShQ l a e (nodeB (stp l a) (v a) && bb) ⟨stp l a, ks⟩ := by
  refine ⟨rfl, fun hb => ?_⟩
  obtain ⟨hn, rfl⟩ := (Bool.and_eq_true _ _).mp hb
  obtain ⟨n2, n1, n0⟩ := node_kids hn
  have z := hz a ha
  by_cases h45 : (stp l a).f0 = 4 ∨ (stp l a).f0 = 5
  · obtain ⟨T, U, q, b, c, rfl, ⟨k1, k2, k3, k4, k5⟩, ⟨m1, m2, m3, m4, m5⟩, hbc⟩ := kids_two hkid (by have := n2 h45; omega)
    obtain ⟨rfl, rfl⟩ := (Bool.and_eq_true _ _).mp hbc.symm
    obtain ⟨s, s1, s2, s3⟩ := k5 rfl
    obtain ⟨t, t1, t2, t3⟩ := m5 rfl
    have hsz := nodeS_size (stp l a) (stp l (a + 1)) (stp l q) s t z
    refine ⟨nodeS (stp l a) (stp l (a + 1)) (stp l q) s t, by omega, ?_, ?_⟩
    · exact spec_node l hl ha _ _ s t z (by omega) (by omega) (fun _ _ n => spec_in l (by omega) s2 (by omega) n) (fun _ => ⟨end_one l hl v hv k3, fun n => spec_in l (by omega) t2 (by omega) n⟩)
    · exact impl_nodeS _ _ _ _ s t z (by omega) (by omega) (fun _ _ => ⟨by simp, fun n => by rw [← k4]; exact impl_in T s3 (by omega) n⟩) (fun _ => ⟨by simp, fun n => by rw [← m4]; exact impl_in U t3 (by omega) n⟩)
  · by_cases h678 : (stp l a).f0 = 6 ∨ (stp l a).f0 = 7 ∨ (stp l a).f0 = 8
    · obtain ⟨T, rfl, ⟨k1, k2, k3, k4, k5⟩⟩ := kids_one hkid (by have := n1 h678; omega)
      obtain ⟨s, s1, s2, s3⟩ := k5 rfl
      have hsz := nodeS_size (stp l a) (stp l (a + 1)) (stp l a) s ByteArray.empty z
      have e0 : ByteArray.empty.size = 0 := rfl
      refine ⟨nodeS (stp l a) (stp l (a + 1)) (stp l a) s ByteArray.empty, by omega, ?_, ?_⟩
      · exact spec_node l hl (q := 0) ha _ _ s _ z (by omega) (by omega) (fun _ _ n => spec_in l (by omega) s2 (by omega) n) (fun h => absurd h h45)
      · exact impl_nodeS _ _ _ _ s _ z (by omega) (by omega) (fun _ _ => ⟨by simp, fun n => by rw [← k4]; exact impl_in T s3 (by omega) n⟩) (fun h => absurd h h45)
    · obtain ⟨rfl, rfl, _⟩ := kids_nil hkid (by have := n0 (by omega) (by omega) (by omega) (by omega) (by omega); omega)
      have hsz := nodeS_size (stp l a) (stp l a) (stp l a) ByteArray.empty ByteArray.empty z
      have e0 : ByteArray.empty.size = 0 := rfl
      refine ⟨nodeS (stp l a) (stp l a) (stp l a) ByteArray.empty ByteArray.empty, by omega, ?_, ?_⟩
      · exact spec_node l hl (q := 0) ha _ _ _ _ z (by omega) (by omega) (fun h h' => absurd h (by omega)) (fun h => absurd h h45)
      · exact impl_nodeS _ _ _ _ _ _ z (by omega) (by omega) (fun h h' => absurd h (by omega)) (fun h => absurd h h45)
theorem show_two (l : List S66) (hl : l.length ≤ 1048576) (hz : ∀ a, a < l.length → (stp l a).f1.size ≤ 1048576) : ∃ s, EvP (fun k => spec_ShowSteps.f k l) (· = s) ∧ EvP (fun k => impl_ShowSteps.f k l) (· = s) := by
  have hx : ∀ a : Nat, ∃ v, Ev (fun k => impl_LabelsFault.f k (stp l a).f1) v ∧ Ev (fun k => spec_LabelsFault.f k (stp l a).f1) v := fun a => by
    obtain ⟨x, y, h1, h2, rfl⟩ := labels_two (stp l a).f1
    exact ⟨x, h1, h2⟩
  obtain ⟨v, hv⟩ : ∃ v : Nat → Int, ∀ a, Ev (fun k => impl_LabelsFault.f k (stp l a).f1) (v a) ∧ Ev (fun k => spec_LabelsFault.f k (stp l a).f1) (v a) := ⟨fun a => Classical.choose (hx a), fun a => Classical.choose_spec (hx a)⟩
  unfold spec_ShowSteps.f impl_ShowSteps.f
  rcases steps_tree l hl v hv (ShQ l) (fun a e bb ks => show_step l hl hz v (fun a => (hv a).2) a e bb ks) with ⟨h1, h2⟩ | ⟨h1, h2⟩
  · refine ⟨(⟨#[]⟩ : ByteArray), EvP.bind h1 (fun t ht => EvP.neg (by rw [ht]; decide) (EvP.ret rfl)), EvP.bind h2 (fun r hr => EvP.neg (by rw [hr]; decide) (EvP.ret rfl))⟩
  · obtain ⟨r0, hr0, hr1, hr2, hr3⟩ := h2
    obtain ⟨s, s1, s2, s3⟩ := hr3 rfl
    refine ⟨if (s.size : Int) > 500 then (⟨#[]⟩ : ByteArray) else s, EvP.bind h1 (fun t ht => EvP.pos ht (EvP.bind s2 (fun t ht => ?_))), EvP.bind (Q := (· = r0)) ⟨r0, hr0, rfl⟩ (fun r hr => ?_)⟩
    · subst ht
      exact EvP.ite (fun h => EvP.ret (by rw [if_pos h])) (fun h => EvP.ret (by rw [if_neg h]))
    · subst hr
      refine EvP.pos hr1 (EvP.bind s3 (fun t ht => ?_))
      subst ht
      exact EvP.ite (fun h => EvP.ret (by rw [if_pos h])) (fun h => EvP.ret (by rw [if_neg h]))
theorem FnExactShowSteps : OFnExactShowSteps.Said := by
  intro l hl
  refine EvP.rounds (?_ : EvP (fun k => laws_FnExactShowSteps.f k l) (· = true))
  unfold laws_FnExactShowSteps.f
  refine EvP.bind (szlPathStep l hl 1048576 (by omega) (by omega)) (fun t ht => ?_)
  refine EvP.ite (fun _ => EvP.ret rfl) (fun hn => ?_)
  have hs := ht.2.2 (by omega)
  have hto := tolPathStep l hs
  have hl' : (l.map c64).length ≤ 1048576 := by simpa using hs.1
  have hz : ∀ a, a < (l.map c64).length → (stp (l.map c64) a).f1.size ≤ 1048576 := fun a ha => by
    have ha' : a < l.length := by simpa using ha
    have h1 := hs.2 _ (List.getElem_mem ha')
    have h2 : stp (l.map c64) a = c64 l[a] := by simp [rd_T66, ha']
    rw [h2]
    exact h1
  obtain ⟨s, hx, hy⟩ := show_two _ hl' hz
  refine EvP.bind hto (fun z hz => ?_)
  subst hz
  refine EvP.bind hx (fun w hw => ?_)
  refine EvP.bind hto (fun z hz => ?_)
  subst hz
  refine EvP.bind hy (fun g hg => ?_)
  refine EvP.pos (by rw [hw, hg]) ?_
  refine EvP.bind hto (fun z hz => ?_)
  subst hz
  refine EvP.bind (eqlPathStep _ (smL_map hs le_c64)) (fun b hb => ?_)
  exact EvP.pos hb (EvP.ret rfl)
end Go.Proofs.Ytmecapnpgedcnaa.Pure
