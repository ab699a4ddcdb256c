/- The program's FieldOf and the reference's FieldOf tell the same text for all fields and every name within the law's size bound: both look for the first field of that name and tell the null value if there is none. No condition beyond the statement's own. -/
import Derived.Test.YtfokinbpepaamaaOpnFnExactFieldOf
namespace Go.Proofs.Ytfokinbpepaamaa.Pure
open Go.RowKit Go.Proofs.Ytfokinbpepaamaa.PFnExactFieldOf Go.Proofs.YtfokinbpepaamaaW.PrintWords Go.Proofs.YtfokinbpepaamaaW.PrintLast Go.Proofs.Ytfokinbpepaamaa.OFnExactFieldOf
set_option linter.unusedVariables false
/-- With enough rounds g tells something of which P holds. -/
def EvP {α : Type} (g : Nat → Option α) (P : α → Prop) : Prop := ∃ r, Ev g r ∧ P r
section
variable {α β : Type}
theorem EvP.ret {P : α → Prop} {r : α} (h : P r) : EvP (fun _ => some r) P := ⟨r, Ev.now r, h⟩
theorem EvP.now {P : α → Prop} {o : Option α} {r : α} (e : o = some r) (h : P r) : EvP (fun _ => o) P := ⟨r, ⟨0, fun _ _ => e⟩, h⟩
theorem EvP.ite {c : Prop} [Decidable c] {f g : Nat → Option α} {P : α → Prop} (h : c → EvP f P) (h' : ¬ c → EvP g P) : EvP (fun k => if c then f k else g k) P := by
  by_cases hc : c
  · simp only [if_pos hc]; exact h hc
  · simp only [if_neg hc]; exact h' hc
theorem EvP.pos {c : Prop} [Decidable c] {f g : Nat → Option α} {P : α → Prop} (hc : c) (h : EvP f P) : EvP (fun k => if c then f k else g k) P := by
  simp only [if_pos hc]; exact h
theorem EvP.neg {c : Prop} [Decidable c] {f g : Nat → Option α} {P : α → Prop} (hc : ¬ c) (h : EvP g P) : EvP (fun k => if c then f k else g k) P := by
  simp only [if_neg hc]; exact h
theorem EvP.bind {g : Nat → Option α} {f : Nat → α → Option β} {Q : α → Prop} {P : β → Prop} (h : EvP g Q) (k : ∀ a, Q a → EvP (fun n => f n a) P) : EvP (fun n => (g n).bind (f n)) P := by
  obtain ⟨a, ha, hq⟩ := h
  obtain ⟨r, hr, hp⟩ := k a hq
  exact ⟨r, Ev.bind ha hr, hp⟩
theorem EvP.mono {g : Nat → Option α} {P Q : α → Prop} (h : EvP g P) (k : ∀ a, P a → Q a) : EvP g Q := by
  obtain ⟨r, hr, hp⟩ := h
  exact ⟨r, hr, k r hp⟩
theorem EvP.step {g f : Nat → Option α} {P : α → Prop} (h : ∀ k, g (k + 1) = f k) (k : EvP f P) : EvP g P := by
  obtain ⟨r, hr, hp⟩ := k
  exact ⟨r, Ev.step h hr, hp⟩
theorem EvP.rounds {g : Nat → Option α} {r : α} (h : EvP g (· = r)) : ∃ k, g k = some r := by
  obtain ⟨_, hr, rfl⟩ := h
  exact hr.rounds
/-- A loop (or a function that calls itself) with a measure m and an invariant inv; 'ih': what a later round tells. -/
theorem EvP.whl1 {σ ρ : Type} {g : Nat → σ → Option ρ} {P : ρ → Prop} (m : σ → Nat) (inv : σ → Prop)
    (step : ∀ s, inv s → (∀ s', m s' < m s → inv s' → EvP (fun k => g k s') P) → EvP (fun k => g (k + 1) s) P) : ∀ s, inv s → EvP (fun k => g k s) P := by
  have H : ∀ (n : Nat) (s : σ), m s < n → inv s → EvP (fun k => g k s) P := by
    intro n
    induction n with
    | zero => intro s h; exact absurd h (Nat.not_lt_zero _)
    | succ n ih =>
      intro s hm hs
      exact EvP.step (f := fun k => g (k + 1) s) (fun _ => rfl) (step s hs (fun s' h hs' => ih s' (by omega) hs'))
  exact fun s hs => H (m s + 1) s (Nat.lt_succ_self _) hs
theorem EvP.whl2 {σ τ ρ : Type} {g : Nat → σ → τ → Option ρ} {P : ρ → Prop} (m : σ → τ → Nat) (inv : σ → τ → Prop)
    (step : ∀ s t, inv s t → (∀ s' t', m s' t' < m s t → inv s' t' → EvP (fun k => g k s' t') P) → EvP (fun k => g (k + 1) s t) P) : ∀ s t, inv s t → EvP (fun k => g k s t) P :=
  fun s t h => EvP.whl1 (g := fun k (x : σ × τ) => g k x.1 x.2) (m := fun x => m x.1 x.2) (inv := fun x => inv x.1 x.2) (fun x hx ih => step x.1 x.2 hx (fun s' t' hm hi => ih (s', t') hm hi)) (s, t) h
theorem EvP.whl3 {σ τ υ ρ : Type} {g : Nat → σ → τ → υ → Option ρ} {P : ρ → Prop} (m : σ → τ → υ → Nat) (inv : σ → τ → υ → Prop)
    (step : ∀ s t u, inv s t u → (∀ s' t' u', m s' t' u' < m s t u → inv s' t' u' → EvP (fun k => g k s' t' u') P) → EvP (fun k => g (k + 1) s t u) P) : ∀ s t u, inv s t u → EvP (fun k => g k s t u) P :=
  fun s t u h => EvP.whl1 (g := fun k (x : σ × τ × υ) => g k x.1 x.2.1 x.2.2) (m := fun x => m x.1 x.2.1 x.2.2) (inv := fun x => inv x.1 x.2.1 x.2.2) (fun x hx ih => step x.1 x.2.1 x.2.2 hx (fun s' t' u' hm hi => ih (s', t', u') hm hi)) (s, t, u) h
theorem EvP.whl4 {σ τ υ φ ρ : Type} {g : Nat → σ → τ → υ → φ → Option ρ} {P : ρ → Prop} (m : σ → τ → υ → φ → Nat) (inv : σ → τ → υ → φ → Prop)
    (step : ∀ s t u v, inv s t u v → (∀ s' t' u' v', m s' t' u' v' < m s t u v → inv s' t' u' v' → EvP (fun k => g k s' t' u' v') P) → EvP (fun k => g (k + 1) s t u v) P) : ∀ s t u v, inv s t u v → EvP (fun k => g k s t u v) P :=
  fun s t u v h => EvP.whl1 (g := fun k (x : σ × τ × υ × φ) => g k x.1 x.2.1 x.2.2.1 x.2.2.2) (m := fun x => m x.1 x.2.1 x.2.2.1 x.2.2.2) (inv := fun x => inv x.1 x.2.1 x.2.2.1 x.2.2.2) (fun x hx ih => step x.1 x.2.1 x.2.2.1 x.2.2.2 hx (fun s' t' u' v' hm hi => ih (s', t', u', v') hm hi)) (s, t, u, v) h
theorem wrap_in {x : Int} (h0 : -9223372036854775808 ≤ x) (h1 : x ≤ 9223372036854775807) : wrap64 x = x := by
  unfold wrap64
  omega
theorem wrap_next {i n : Nat} (h : i < n) (hn : n ≤ 9223372036854775807) : wrap64 ((i : Int) + 1) = ((i + 1 : Nat) : Int) := by
  rw [wrap_in (by omega) (by omega)]
  omega
theorem set_at {xs : List α} {i : Nat} (z : α) (f : Nat → α) (n : Nat) (hxs : xs = (List.range i).map f ++ List.replicate (n - i) z) (hi : i < n) : xs.set i (f i) = (List.range (i + 1)).map f ++ List.replicate (n - (i + 1)) z := by
  subst hxs
  rw [List.set_append_right _ _ (by simp)]
  simp only [List.length_map, List.length_range, Nat.sub_self]
  obtain ⟨m, hm⟩ : ∃ m, n - i = m + 1 := ⟨n - i - 1, by omega⟩
  rw [hm, show n - (i + 1) = m by omega, List.replicate_succ, List.set_cons_zero, List.range_succ]
  simp
theorem map_of_range {xs : List β} (z : β) (c : β → α) : (List.range xs.length).map (fun i => c (xs.getD i z)) = xs.map c := by
  apply List.ext_getElem?
  intro i
  by_cases hi : i < xs.length
  · simp [hi, List.getD]
  · simp [hi]
theorem getD_mem {xs : List α} {i : Nat} (z : α) (h : i < xs.length) : xs.getD i z ∈ xs := by
  rw [List.getD_eq_getElem?_getD, List.getElem?_eq_getElem h]
  exact List.getElem_mem h
end
def Sm (s : ByteArray) : Prop := s.size ≤ 1048576
def SmA {α : Type} (_ : α) : Prop := True
def SmL {α : Type} (sm : α → Prop) (xs : List α) : Prop := xs.length ≤ 1048576 ∧ ∀ x ∈ xs, sm x
theorem smL_map {α β : Type} {P : α → Prop} {Q : β → Prop} {c : α → β} {l : List α} (h : SmL P l) (hc : ∀ x, P x → Q (c x)) : SmL Q (l.map c) :=
  ⟨by simpa using h.1, fun y hy => by obtain ⟨x, hx, rfl⟩ := List.mem_map.1 hy; exact hc x (h.2 x hx)⟩
def sm50 (x : S50) : Prop := Sm x.f0 ∧ Sm x.f1
def c50 (x : S50) : S51 := ⟨x.f0, x.f1⟩
theorem sz50 (x : S50) (hx : wf50 x) (a : Int) (ha : 0 ≤ a) (hb : a ≤ 1048576) : EvP (fun k => laws_szField.f x.f0 x.f1 a) (fun t => -1 ≤ t ∧ t ≤ a ∧ (0 ≤ t → sm50 x)) := by
  obtain ⟨h0, h1⟩ := hx
  unfold Str at h0
  unfold Str at h1
  unfold laws_szField.f
  rw [show wrap64 (a - (x.f0.size : Int)) = a - x.f0.size from wrap_in (by omega) (by omega)]
  refine EvP.ite (fun _ => EvP.ret ⟨by omega, by omega, fun h => absurd h (by omega)⟩) (fun g0 => ?_)
  rw [show wrap64 ((a - (x.f0.size : Int)) - (x.f1.size : Int)) = (a - (x.f0.size : Int)) - x.f1.size from wrap_in (by omega) (by omega)]
  refine EvP.ite (fun _ => EvP.ret ⟨by omega, by omega, fun h => absurd h (by omega)⟩) (fun g1 => ?_)
  exact EvP.ret ⟨by omega, by omega, fun _ => ⟨by unfold Sm; omega, by unfold Sm; omega⟩⟩
theorem szlField (l : List S50) (hl : Lst wf50 l) (a : Int) (ha : 0 ≤ a) (hb : a ≤ 1048576) : EvP (fun k => laws_szFieldS.f k l a) (fun t => -1 ≤ t ∧ t ≤ a ∧ (0 ≤ t → SmL sm50 l)) := by
  obtain ⟨h0, h1⟩ := hl
  unfold laws_szFieldS.f
  rw [show wrap64 (a - (l.length : Int)) = a - l.length from wrap_in (by omega) (by omega)]
  refine EvP.ite (fun _ => EvP.ret ⟨by omega, by omega, fun h => absurd h (by omega)⟩) (fun g => ?_)
  refine EvP.whl2 (g := fun k (s : Int) (i : Int) => laws_szFieldS.l0 k l s i) (m := fun _ i => (l.length - i).toNat) (inv := fun s i => ∃ j : Nat, i = j ∧ j ≤ l.length ∧ 0 ≤ s ∧ s ≤ a ∧ ∀ q, q < j → ∀ y, l[q]? = some y → sm50 y) ?_ _ _ ⟨0, rfl, by omega, by omega, by omega, fun q hq => absurd hq (by omega)⟩
  rintro s i ⟨j, rfl, hj, s0, s1, hs⟩ ih
  simp only [laws_szFieldS.l0]
  refine EvP.ite (fun h => ?_) (fun h => EvP.ret ⟨by omega, by omega, fun _ => ⟨by omega, fun y hy => ?_⟩⟩)
  · have hj' : j < l.length := by omega
    refine EvP.pos (by omega) ?_
    refine EvP.bind (sz50 (rd_T50 l j) (h1 _ (getD_mem _ (by simpa using hj'))) s (by omega) (by omega)) (fun t ht => ?_)
    obtain ⟨p1, q1, r1⟩ := ht
    refine EvP.ite (fun _ => EvP.ret ⟨by omega, by omega, fun h => absurd h (by omega)⟩) (fun g1 => ?_)
    have hlast : sm50 l[j] := by have := r1 (by omega); simpa [rd_T50, List.getD, List.getElem?_eq_getElem hj'] using this
    rw [wrap_next hj' (by omega)]
    refine ih _ _ (by omega) ⟨j + 1, rfl, by omega, by omega, by omega, fun q hq y hy => ?_⟩
    by_cases e : q = j
    · subst e; rw [List.getElem?_eq_getElem hj'] at hy; cases hy; exact hlast
    · exact hs q (by omega) y hy
  · obtain ⟨q, hq, rfl⟩ := List.mem_iff_getElem.1 hy
    exact hs q (by omega) _ (List.getElem?_eq_getElem hq)
theorem to50 (x : S50) (hx : sm50 x) : EvP (fun k => laws_toField.f x.f0 x.f1) (· = ((c50 x).f0, (c50 x).f1)) := by
  unfold laws_toField.f
  obtain ⟨h0, h1⟩ := hx
  exact EvP.ret rfl
theorem tolField (l : List S50) (hl : SmL sm50 l) : EvP (fun k => laws_toFieldS.f k l) (· = l.map c50) := by
  obtain ⟨h0, h1⟩ := hl
  unfold laws_toFieldS.f
  refine EvP.pos (by omega) (EvP.pos (by omega) ?_)
  refine EvP.whl2 (g := fun k (s : List S51) (i : Int) => laws_toFieldS.l0 k l s i) (m := fun _ i => (l.length - i).toNat) (inv := fun s i => ∃ j : Nat, i = j ∧ j ≤ l.length ∧ s = (List.range j).map (fun q : Nat => c50 (rd_T50 l (q : Int))) ++ List.replicate (l.length - j) z51) ?_ _ _ ⟨0, rfl, by omega, by simp⟩
  rintro s i ⟨j, rfl, hj, hs⟩ ih
  simp only [laws_toFieldS.l0]
  refine EvP.ite (fun h => ?_) (fun h => EvP.ret ?_)
  · have hj' : j < l.length := by omega
    refine EvP.pos (by omega) ?_
    refine EvP.bind (to50 (rd_T50 l j) (h1 _ (getD_mem _ (by simpa using hj')))) (fun r hr => ?_)
    subst hr
    refine EvP.pos (by rw [hs]; simp; omega) ?_
    rw [wrap_next hj' (by omega)]
    refine ih _ _ (by omega) ⟨j + 1, rfl, hj', ?_⟩
    exact set_at z51 (fun q : Nat => c50 (rd_T50 l (q : Int))) _ hs hj'
  · obtain rfl : j = l.length := by omega
    rw [hs]; simpa [rd_T50] using map_of_range z50 c50 (xs := l)
def le51 (x : S51) : Prop := True
theorem eq51 (x : S51) (hx : le51 x) : EvP (fun k => laws_eqField.f x.f0 x.f1 x.f0 x.f1) (· = true) := by
  unfold laws_eqField.f
  refine EvP.pos rfl ?_
  refine EvP.pos rfl ?_
  exact EvP.ret rfl
theorem eqlField (l : List S51) (hl : SmL le51 l) : EvP (fun k => laws_eqFieldS.f k l l) (· = true) := by
  obtain ⟨h0, h1⟩ := hl
  unfold laws_eqFieldS.f
  refine EvP.pos rfl ?_
  refine EvP.whl1 (g := fun k (i : Int) => laws_eqFieldS.l0 k l l i) (m := fun i => (l.length - i).toNat) (inv := fun i => ∃ j : Nat, i = j ∧ j ≤ l.length) ?_ _ ⟨0, rfl, by omega⟩
  rintro i ⟨j, rfl, hj⟩ ih
  simp only [laws_eqFieldS.l0]
  refine EvP.ite (fun h => ?_) (fun h => EvP.ret rfl)
  have hj' : j < l.length := by omega
  refine EvP.pos (by omega) (EvP.pos (by omega) ?_)
  refine EvP.bind (eq51 (rd_T51 l j) (h1 _ (getD_mem _ (by simpa using hj')))) (fun r hr => ?_)
  subst hr
  refine EvP.pos rfl ?_
  rw [wrap_next hj' (by omega)]
  exact ih _ (by omega) ⟨j + 1, rfl, by omega⟩
theorem le_c50 (x : S50) (hx : sm50 x) : le51 (c50 x) := by
  exact trivial
def fldv : List S51 → ByteArray → ByteArray
  | [], _ => (⟨#[110, 117, 108, 108]⟩ : ByteArray)
  | x :: r, a => if x.f0.toList = a.toList then x.f1 else fldv r a
theorem rdField {l : List S51} {j : Nat} (h : j < l.length) : l.drop j = rd_T51 l j :: l.drop (j + 1) := by
  rw [List.drop_eq_getElem_cons h]
  simp [rd_T51, List.getD, h]
theorem spec_fld (l : List S51) (a : ByteArray) (hl : l.length ≤ 1048576) : EvP (fun k => spec_l02Field.f k l a) (· = fldv l a) := by
  unfold spec_l02Field.f
  refine EvP.whl1 (g := fun k (i : Int) => spec_l02Field.l0 k l a i) (m := fun i => (l.length - i).toNat) (inv := fun i => ∃ j : Nat, i = j ∧ j ≤ l.length ∧ fldv (l.drop j) a = fldv l a) ?_ _ ⟨0, rfl, by omega, rfl⟩
  rintro i ⟨j, rfl, hj, hv⟩ ih
  simp only [spec_l02Field.l0]
  refine EvP.ite (fun h => ?_) (fun h => EvP.ret ?_)
  · have hj' : j < l.length := by omega
    rw [rdField hj'] at hv
    refine EvP.pos (by omega) (EvP.ite (fun e => EvP.ret ?_) (fun e => ?_))
    · rw [← hv, fldv, if_pos e]
    · rw [wrap_next hj' (by omega)]
      refine ih _ (by omega) ⟨j + 1, rfl, by omega, ?_⟩
      rw [← hv, fldv, if_neg e]
  · obtain rfl : j = l.length := by omega
    rw [← hv, List.drop_length]; rfl
theorem impl_fld (l : List S51) (a : ByteArray) (hl : l.length ≤ 1048576) : EvP (fun k => impl_fieldOf.f k l a) (· = fldv l a) := by
  unfold impl_fieldOf.f
  refine EvP.whl1 (g := fun k (i : Int) => impl_fieldOf.l0 k a l l.length i) (m := fun i => (l.length - i).toNat) (inv := fun i => ∃ j : Nat, i = j ∧ j ≤ l.length ∧ fldv (l.drop j) a = fldv l a) ?_ _ ⟨0, rfl, by omega, rfl⟩
  rintro i ⟨j, rfl, hj, hv⟩ ih
  simp only [impl_fieldOf.l0]
  refine EvP.ite (fun h => ?_) (fun h => EvP.ret ?_)
  · have hj' : j < l.length := by omega
    rw [rdField hj'] at hv
    refine EvP.pos (by omega) (EvP.pos h (EvP.ite (fun e => EvP.ret ?_) (fun e => ?_)))
    · rw [← hv, fldv, if_pos e]
    · rw [wrap_next hj' (by omega)]
      refine ih _ (by omega) ⟨j + 1, rfl, by omega, ?_⟩
      rw [← hv, fldv, if_neg e]
  · obtain rfl : j = l.length := by omega
    rw [← hv, List.drop_length]; rfl
theorem FnExactFieldOf : OFnExactFieldOf.Said := by
  intro l a hl ha
  refine EvP.rounds (?_ : EvP (fun k => laws_FnExactFieldOf.f k l a) (· = true))
  unfold laws_FnExactFieldOf.f
  refine EvP.ite (fun _ => EvP.ret rfl) (fun hb => ?_)
  refine EvP.bind (szlField l hl 1048576 (by omega) (by omega)) (fun t ht => ?_)
  refine EvP.ite (fun _ => EvP.ret rfl) (fun hn => ?_)
  have hs := ht.2.2 (by omega)
  have hto := tolField l hs
  have hl' : (l.map c50).length ≤ 1048576 := by simpa using hs.1
  refine EvP.bind hto (fun x hx => ?_)
  subst hx
  refine EvP.bind (Q := fun r => r = if (l.map c50).length > 1000 then (⟨#[]⟩ : ByteArray) else if a.size > 65536 then (⟨#[]⟩ : ByteArray) else fldv (l.map c50) a) ?_ (fun w hw => ?_)
  · unfold spec_FieldOf.f
    refine EvP.ite (fun h => EvP.ret (by rw [if_pos (by omega)])) (fun h => EvP.ite (fun h2 => EvP.ret (by rw [if_neg (by omega), if_pos (by omega)])) (fun h2 => ?_))
    refine EvP.bind (spec_fld _ a hl') (fun r hr => EvP.ret ?_)
    rw [if_neg (by omega), if_neg (by omega), hr]
  refine EvP.bind hto (fun x hx => ?_)
  subst hx
  refine EvP.bind (Q := fun r => r = if (l.map c50).length > 1000 then (⟨#[]⟩ : ByteArray) else if a.size > 65536 then (⟨#[]⟩ : ByteArray) else fldv (l.map c50) a) ?_ (fun w' hw' => ?_)
  · unfold impl_FieldOf.f
    refine EvP.ite (fun h => EvP.ret (by rw [if_pos (by omega)])) (fun h => EvP.ite (fun h2 => EvP.ret (by rw [if_neg (by omega), if_pos (by omega)])) (fun h2 => ?_))
    refine EvP.bind (impl_fld _ a hl') (fun r hr => EvP.ret ?_)
    rw [if_neg (by omega), if_neg (by omega), hr]
  refine EvP.pos (by rw [hw, hw']) ?_
  refine EvP.bind hto (fun x hx => ?_)
  subst hx
  refine EvP.bind (eqlField _ (smL_map hs le_c50)) (fun b hb => ?_)
  exact EvP.pos hb (EvP.ret rfl)
end Go.Proofs.Ytfokinbpepaamaa.Pure
