/- Schemas, part 2: a type's line. No condition. -/
import Derived.Test.YtaddedbombndlaaAbN1
namespace Go.Ab
open Go.Proofs
set_option linter.unusedVariables false
set_option linter.unusedSimpArgs false
def kn (N : List S96) (a : ByteArray) : Bool := (N.find? (isAt a)).isSome
def par (N : List S96) (a : ByteArray) : List ByteArray := match N.find? (isAt a) with | some t => t.f1 | none => []
inductive Reach (N : List S96) (a : ByteArray) : ByteArray → Prop
 | refl : kn N a = true → Reach N a a
 | step (x p : ByteArray) : Reach N a x → p ∈ par N x → kn N p = true → Reach N a p
theorem Reach.kn {N : List S96} {a x : ByteArray} (h : Reach N a x) : kn N x = true := by cases h <;> assumption
theorem Reach.first {N : List S96} {a x : ByteArray} (h : Reach N a x) : Go.Ab.kn N a = true := by
  induction h with
  | refl h => exact h
  | step _ _ _ _ _ ih => exact ih
theorem Reach.trans {N : List S96} {a b x : ByteArray} (h1 : Reach N a b) (h : Reach N b x) : Reach N a x := by
  induction h with
  | refl _ => exact h1
  | step y p _ h2 h3 ih => exact .step y p ih h2 h3
theorem kn_lab {N : List S96} {a : ByteArray} (h : kn N a = true) : a ∈ N.map (·.f0) := by
  unfold kn at h
  cases hf : N.find? (isAt a) with
  | none => rw [hf] at h; cases h
  | some t =>
    have h1 := List.mem_of_find?_eq_some hf
    have h2 := List.find?_some hf
    unfold isAt at h2
    simp only [decide_eq_true_eq] at h2
    exact List.mem_map.2 ⟨t, h1, h2⟩
theorem nodup_le : ∀ (l m : List ByteArray), l.Nodup → (∀ x ∈ l, x ∈ m) → l.length ≤ m.length
 | [], m, _, _ => Nat.zero_le _
 | a :: l, m, hn, hs => by
  have h1 := List.nodup_cons.1 hn
  have h2 := nodup_le l (m.filter fun x => !decide (x = a)) h1.2 fun x hx => by
    rw [List.mem_filter]
    refine ⟨hs x (List.mem_cons_of_mem _ hx), ?_⟩
    have : x ≠ a := fun e => h1.1 (e ▸ hx)
    simp [this]
  have h3 : (m.filter fun x => !decide (x = a)).length < m.length := by
    have hm : a ∈ m := hs a (List.mem_cons_self ..)
    have := List.length_filter_lt_length_iff_exists (l := m) (p := fun x => !decide (x = a))
    exact this.2 ⟨a, hm, by simp⟩
  simp only [List.length_cons]
  omega
/-! Depth first -/
def unv (N : List S96) (o : List ByteArray) : Nat := (N.filter fun t => !has o t.f0).length
theorem unv_mono {N : List S96} {o o' : List ByteArray} (h : ∀ x ∈ o, x ∈ o') : unv N o' ≤ unv N o := by
  unfold unv
  rw [← List.countP_eq_length_filter, ← List.countP_eq_length_filter]
  refine List.countP_mono_left fun t _ ht => ?_
  simp only [Bool.not_eq_true', has_no] at ht ⊢
  exact fun hx => ht (h _ hx)
theorem unv_lt {N : List S96} {o o' : List ByteArray} (h : ∀ x ∈ o, x ∈ o') {a : ByteArray} (ha : a ∈ o') (hn : a ∉ o) (hk : a ∈ N.map (·.f0)) : unv N o' < unv N o := by
  obtain ⟨t, ht, rfl⟩ := List.mem_map.1 hk
  unfold unv
  have h1 : (N.filter fun t => !has o' t.f0) = ((N.filter fun t => !has o t.f0).filter fun t => !has o' t.f0) := by
    rw [List.filter_filter]
    congr 1
    funext u
    cases h1 : has o' u.f0 with
    | true => rfl
    | false =>
      have : has o u.f0 = false := has_no.2 fun hx => has_no.1 h1 (h _ hx)
      simp [this]
  rw [h1]
  refine (List.length_filter_lt_length_iff_exists ..).2 ⟨t, List.mem_filter.2 ⟨ht, by simp [has_no.2 hn]⟩, ?_⟩
  simp [has_iff.2 ha]
/-- What a stretch of the descent from some labels makes of the labels that it had. -/
structure DF (N : List S96) (ps out r : List ByteArray) : Prop where
 sub : ∀ x ∈ out, x ∈ r
 old : ∀ x ∈ r, x ∈ out ∨ ∃ p ∈ ps, Reach N p x
 clo : ∀ x ∈ r, x ∉ out → ∀ p ∈ par N x, kn N p = true → p ∈ r
 all : ∀ p ∈ ps, kn N p = true → p ∈ r
 len : r.length + unv N r ≤ out.length + unv N out
 rs : Bv.RsN out → Bv.RsN r
theorem DF.nil (N : List S96) (ps out : List ByteArray) (h : ∀ p ∈ ps, kn N p = true → p ∈ out) : DF N ps out out := ⟨fun x h => h, fun x h => .inl h, fun x h h' => absurd h h', h, Nat.le_refl _, id⟩
theorem DF.cons {N : List S96} {p : ByteArray} {ps out m r : List ByteArray} (h : DF N [p] out m) (h' : DF N ps m r) : DF N (p :: ps) out r where
 sub x hx := h'.sub x (h.sub x hx)
 old x hx := by
  rcases h'.old x hx with hx | ⟨q, hq, hr⟩
  · rcases h.old x hx with hx | ⟨q, hq, hr⟩
    · exact .inl hx
    · exact .inr ⟨q, List.mem_cons.2 (.inl (List.mem_singleton.1 hq)), hr⟩
  · exact .inr ⟨q, List.mem_cons_of_mem _ hq, hr⟩
 clo x hx ho q hq hk := by
  by_cases hm : x ∈ m
  · exact h'.sub _ (h.clo x hm ho q hq hk)
  · exact h'.clo x hx hm q hq hk
 all q hq hk := by
  rcases List.mem_cons.1 hq with rfl | hq
  · exact h'.sub _ (h.all _ (List.mem_singleton.2 rfl) hk)
  · exact h'.all q hq hk
 len := Nat.le_trans h'.len h.len
 rs hr := h'.rs (h.rs hr)
section
variable {N : List S96} {E : List S99} {K : List S92} {c : Bool}
theorem line_1 (hN : N.length ≤ 2000000) (hp : ∀ t ∈ N, t.f1.length ≤ 2000000) : ∀ (n : Nat) (a : ByteArray) (out : List ByteArray), unv N out ≤ n → out.length + unv N out ≤ 1000000000 →
    ∃ r, Ev (fun k => impl_line_1.f k a ⟨N, E, K, c⟩ out) (⟨N, E, K, c⟩, r) ∧ DF N [a] out r := by
  intro n
  induction n with
  | zero =>
    intro a out hu hl
    refine ⟨out, Ev.step ?_, DF.nil N _ _ fun p hp hk => ?_⟩
    · simp only [impl_line_1.f]
      refine Ev.bind (itype (s := ⟨N, E, K, c⟩) (by simpa using (by omega)) a) ?_
      rcases fnd_cases (isAt a) N with ⟨e1, _⟩ | ⟨j, hj, e1, e2, e3⟩
      · simp only [e1, show decide ((-1 : Int) < 0) = true from rfl, cond_true]
        exact Ev.ret _
      · simp only [e1, show decide ((j : Int) < 0) = false by simp, cond_false]
        refine Ev.bind (imem_b (by omega) a) ?_
        have : has out a = true := by
          cases hh : has out a with
          | true => rfl
          | false =>
            exfalso
            have h1 : N[j] ∈ N.filter fun t => !has out t.f0 := List.mem_filter.2 ⟨List.getElem_mem hj, by
              unfold isAt at e3; simp only [decide_eq_true_eq] at e3; rw [e3, hh]; rfl⟩
            unfold unv at hu
            have := List.length_pos_of_mem h1
            omega
        simp only [this, cond_true]
        exact Ev.ret _
    · rw [List.mem_singleton.1 hp] at hk ⊢
      rcases Classical.em (a ∈ out) with h | h
      · exact h
      · exfalso
        have := unv_lt (N := N) (o := out) (o' := a :: out) (fun x hx => List.mem_cons_of_mem _ hx) (List.mem_cons_self ..) h (kn_lab hk)
        omega
  | succ n ih =>
    intro a out hu hl
    rcases fnd_cases (isAt a) N with ⟨e1, e2, _⟩ | ⟨j, hj, e1, e2, e3⟩
    · refine ⟨out, Ev.step ?_, DF.nil N _ _ fun p hp hk => ?_⟩
      · simp only [impl_line_1.f]
        refine Ev.bind (itype (s := ⟨N, E, K, c⟩) (by simpa using (by omega)) a) ?_
        simp only [e1, show decide ((-1 : Int) < 0) = true from rfl, cond_true]
        exact Ev.ret _
      · rw [List.mem_singleton.1 hp] at hk
        unfold kn at hk
        rw [e2] at hk; cases hk
    · have hka : kn N a = true := by unfold kn; rw [e2]; rfl
      have hpar : par N a = N[j].f1 := by unfold par; rw [e2]
      cases hh : has out a with
      | true =>
        refine ⟨out, Ev.step ?_, DF.nil N _ _ fun p hp hk => by rw [List.mem_singleton.1 hp]; exact has_iff.1 hh⟩
        simp only [impl_line_1.f]
        refine Ev.bind (itype (s := ⟨N, E, K, c⟩) (by simpa using (by omega)) a) ?_
        simp only [e1, show decide ((j : Int) < 0) = false by simp, cond_false]
        refine Ev.bind (imem_b (by omega) a) ?_
        simp only [hh, cond_true]
        exact Ev.ret _
      | false =>
        obtain ⟨o1, g1, g2, g3, g4⟩ := Bv.insert_2 (o := out) a (by omega)
        have hsub : ∀ x ∈ out, x ∈ o1 := fun x hx => (g2 x).2 (.inl hx)
        have hlt := unv_lt (N := N) hsub ((g2 a).2 (.inr rfl)) (has_no.1 hh) (kn_lab hka)
        have L : ∀ (m i : Nat) (o : List ByteArray), N[j].f1.length - i ≤ m → unv N o ≤ n → o.length + unv N o ≤ 1000000000 →
            ∃ r, Ev (fun k => impl_line_1.l0 k N[j] (i : Int) N E K c o) (⟨N, E, K, c⟩, r) ∧ DF N (N[j].f1.drop i) o r := by
          intro m
          have fin : ∀ (i : Nat) (o : List ByteArray), ¬ i < N[j].f1.length → ∃ r, Ev (fun k => impl_line_1.l0 k N[j] (i : Int) N E K c o) (⟨N, E, K, c⟩, r) ∧ DF N (N[j].f1.drop i) o r := fun i o hi => by
            refine ⟨o, Ev.step ?_, ?_⟩
            · simp only [impl_line_1.l0, ltn hi, cond_false]
              exact Ev.ret _
            · rw [List.drop_of_length_le (by omega)]
              exact DF.nil N _ _ fun p hp => by cases hp
          induction m with
          | zero => intro i o h _ _; exact fin i o (by omega)
          | succ m ihm =>
            intro i o h hu' hl'
            by_cases hi : i < N[j].f1.length
            case neg => exact fin i o hi
            obtain ⟨r1, q1, q2⟩ := ih (N[j].f1[i]) o hu' hl'
            obtain ⟨r2, q3, q4⟩ := ihm (i + 1) r1 (by omega) (Nat.le_trans (unv_mono q2.sub) hu') (Nat.le_trans q2.len hl')
            refine ⟨r2, Ev.step ?_, ?_⟩
            · simp only [impl_line_1.l0, ltd hi, cond_true, ixg hi, Option.bind_some]
              refine Ev.bind q1 ?_
              simp only [wup hi (hp _ (List.getElem_mem hj))]
              exact q3
            · rw [List.drop_eq_getElem_cons hi]
              exact q2.cons q4
        obtain ⟨r, q1, q2⟩ := L _ 0 o1 (Nat.le_refl _) (by omega) (by omega)
        rw [List.drop_zero] at q2
        refine ⟨r, Ev.step ?_, ?_⟩
        · simp only [impl_line_1.f]
          refine Ev.bind (itype (s := ⟨N, E, K, c⟩) (by simpa using (by omega)) a) ?_
          simp only [e1, show decide ((j : Int) < 0) = false by simp, cond_false]
          refine Ev.bind (imem_b (by omega) a) ?_
          simp only [hh, cond_false]
          refine Ev.bind g1 ?_
          simp only [ixg hj, Option.bind_some]
          exact q1
        · refine ⟨fun x hx => q2.sub x (hsub x hx), fun x hx => ?_, fun x hx ho p hp hk => ?_, fun p hp hk => ?_, by have := q2.len; omega, fun hr => q2.rs (g4 hr (has_no.1 hh))⟩
          · rcases q2.old x hx with hx | ⟨p, hp, hr⟩
            · rcases (g2 x).1 hx with hx | rfl
              · exact .inl hx
              · exact .inr ⟨x, List.mem_singleton.2 rfl, .refl hka⟩
            · exact .inr ⟨a, List.mem_singleton.2 rfl, Reach.trans (.step a p (.refl hka) (hpar ▸ hp) hr.first) hr⟩
          · by_cases hx1 : x ∈ o1
            · rcases (g2 x).1 hx1 with hx1 | rfl
              · exact absurd hx1 ho
              · exact q2.all p (hpar ▸ hp) hk
            · exact q2.clo x hx hx1 p hp hk
          · rw [List.mem_singleton.1 hp]
            exact q2.sub _ ((g2 a).2 (.inr rfl))
theorem iline (hN : N.length ≤ 2000000) (hp : ∀ t ∈ N, t.f1.length ≤ 2000000) (a : ByteArray) : ∃ r, Ev (fun k => impl_line.f k ⟨N, E, K, c⟩ a) r ∧ (∀ x, x ∈ r ↔ Reach N a x) ∧ r.length ≤ N.length ∧ Bv.RsN r := by
  have hu : unv N [] ≤ N.length := by unfold unv; exact List.length_filter_le ..
  obtain ⟨r, h1, h2⟩ := line_1 (E := E) (K := K) (c := c) hN hp _ a [] (Nat.le_refl _) (by simp only [List.length_nil]; omega)
  refine ⟨r, ?_, fun x => ⟨fun h => ?_, fun h => ?_⟩, by have := h2.len; simp only [List.length_nil] at this; omega, h2.rs List.Pairwise.nil⟩
  · simp only [impl_line.f]
    exact Ev.bind h1 (Ev.ret _)
  · rcases h2.old x h with h | ⟨p, hp, hr⟩
    · cases h
    · rwa [List.mem_singleton.1 hp] at hr
  · induction h with
    | refl hk => exact h2.all a (List.mem_singleton.2 rfl) hk
    | step y p _ hp hk ih => exact h2.clo y ih (by simp) p hp hk
/-! Breadth first -/
def Ok (N : List S96) : Prop := N.length ≤ 20 ∧ ∀ t ∈ N, ∀ p ∈ t.f1, kn N p = true
structure Inv (N : List S96) (a : ByteArray) (o : List ByteArray) (i : Nat) : Prop where
 ok : Ok N → ∀ x ∈ o, Reach N a x
 clo : ∀ (j : Nat) (h : j < o.length), j < i → ∀ p ∈ par N o[j], p ∈ o
 nd : o.Nodup
 fst : a ∈ o
theorem bfs_l1 {o : List ByteArray} {i j : Nat} (hj : j < N.length) (ho : o.length ≤ 1000000000) (hi : i < o.length) (hp : N[j].f1.length ≤ 2000000) : ∀ (n q : Nat) (e : List ByteArray), N[j].f1.length - q ≤ n → e.length ≤ q → (o ++ e).Nodup → (∀ x ∈ e, x ∈ N[j].f1) →
    ∃ e', (o ++ e').Nodup ∧ (∀ x ∈ e', x ∈ N[j].f1) ∧ (∀ x ∈ e, x ∈ e') ∧ (∀ x ∈ N[j].f1.drop q, x ∈ o ++ e') ∧ e'.length ≤ 2000000 ∧
     ∀ r, Ev (fun k => spec_l03Line.l0 k (o ++ e') ((i + 1 : Nat) : Int) ⟨N, E, K, c⟩) r → Ev (fun k => spec_l03Line.l1 k (o ++ e) (i : Int) (j : Int) (q : Int) ⟨N, E, K, c⟩) r := by
  intro n
  have fin : ∀ (q : Nat) (e : List ByteArray), ¬ q < N[j].f1.length → e.length ≤ 2000000 → (o ++ e).Nodup → (∀ x ∈ e, x ∈ N[j].f1) →
    ∃ e', (o ++ e').Nodup ∧ (∀ x ∈ e', x ∈ N[j].f1) ∧ (∀ x ∈ e, x ∈ e') ∧ (∀ x ∈ N[j].f1.drop q, x ∈ o ++ e') ∧ e'.length ≤ 2000000 ∧
     ∀ r, Ev (fun k => spec_l03Line.l0 k (o ++ e') ((i + 1 : Nat) : Int) ⟨N, E, K, c⟩) r → Ev (fun k => spec_l03Line.l1 k (o ++ e) (i : Int) (j : Int) (q : Int) ⟨N, E, K, c⟩) r := fun q e hq he hn hm => by
    refine ⟨e, hn, hm, fun x h => h, by rw [List.drop_of_length_le (by omega)]; simp, he, fun r hr => Ev.step ?_⟩
    simp only [spec_l03Line.l1, ixg hj, Option.bind_some, ltn hq, cond_false, w1b hi (show o.length ≤ 60000000000 by omega)]
    exact hr
  have hlen : ∀ e : List ByteArray, (o ++ e).Nodup → (∀ x ∈ e, x ∈ N[j].f1) → e.length ≤ 2000000 := fun e hn hm => Nat.le_trans (nodup_le e _ (List.nodup_append.1 hn).2.1 hm) hp
  induction n with
  | zero => intro q e h he hn hm; exact fin q e (by omega) (hlen e hn hm) hn hm
  | succ n ih =>
    intro q e h he hn hm
    by_cases hq : q < N[j].f1.length
    case neg => exact fin q e hq (hlen e hn hm) hn hm
    have he2 := hlen e hn hm
    cases hh : has (o ++ e) N[j].f1[q] with
    | true =>
      obtain ⟨e', h1, h2, h3, h4, h5, h6⟩ := ih (q + 1) e (by omega) (by omega) hn hm
      refine ⟨e', h1, h2, h3, fun x hx => ?_, h5, fun r hr => Ev.step ?_⟩
      · rw [List.drop_eq_getElem_cons hq] at hx
        rcases List.mem_cons.1 hx with rfl | hx
        · rcases List.mem_append.1 (has_iff.1 hh) with hx | hx
          · exact List.mem_append.2 (.inl hx)
          · exact List.mem_append.2 (.inr (h3 _ hx))
        · exact h4 x hx
      · simp only [spec_l03Line.l1, ixg hj, Option.bind_some, ltd hq, cond_true, ixg hq]
        refine Ev.bind (smem (by simp; omega) _) ?_
        simp only [hh, cond_true, wup hq hp]
        exact h6 r hr
    | false =>
      have hno := has_no.1 hh
      have hn' : (o ++ (e ++ [N[j].f1[q]])).Nodup := by
        rw [← List.append_assoc, List.nodup_append]
        refine ⟨hn, by simp, fun x hx y hy e => hno ?_⟩
        rw [List.mem_singleton.1 hy] at e
        exact e ▸ hx
      obtain ⟨e', h1, h2, h3, h4, h5, h6⟩ := ih (q + 1) (e ++ [N[j].f1[q]]) (by omega) (by simp; omega) hn' (fun x hx => by
        rcases List.mem_append.1 hx with hx | hx
        · exact hm x hx
        · rw [List.mem_singleton.1 hx]; exact List.getElem_mem hq)
      refine ⟨e', h1, h2, fun x hx => h3 x (List.mem_append.2 (.inl hx)), fun x hx => ?_, h5, fun r hr => Ev.step ?_⟩
      · rw [List.drop_eq_getElem_cons hq] at hx
        rcases List.mem_cons.1 hx with rfl | hx
        · exact List.mem_append.2 (.inr (h3 _ (List.mem_append.2 (.inr (List.mem_singleton.2 rfl)))))
        · exact h4 x hx
      · simp only [spec_l03Line.l1, ixg hj, Option.bind_some, ltd hq, cond_true, ixg hq]
        refine Ev.bind (smem (by simp; omega) _) ?_
        simp only [hh, cond_false]
        rw [app_b (by simp; omega)]
        simp only [Option.bind_some, wup hq hp]
        have := h6 r hr
        rw [← List.append_assoc] at this
        exact this
theorem bfs_l0 (hN : N.length ≤ 2000000) (hp : ∀ t ∈ N, t.f1.length ≤ 2000000) (a : ByteArray) : ∀ (n i : Nat) (o : List ByteArray), 21 - i ≤ n → i ≤ o.length → i ≤ 21 → o.length ≤ 1 + i * 2000000 → Inv N a o i →
    ∃ q i', Inv N a q i' ∧ i' ≤ q.length ∧ (q.length ≤ i' ∨ 20 < i') ∧ q.length ≤ 42000001 ∧ ∀ r, Ev (fun k => spec_l03Line.j0 k q) r → Ev (fun k => spec_l03Line.l0 k o (i : Int) ⟨N, E, K, c⟩) r := by
  intro n
  have stop : ∀ (i : Nat) (o : List ByteArray), i ≤ o.length → i ≤ 21 → o.length ≤ 1 + i * 2000000 → Inv N a o i → (¬ i < o.length ∨ 20 < i) → ∃ q i', Inv N a q i' ∧ i' ≤ q.length ∧ (q.length ≤ i' ∨ 20 < i') ∧ q.length ≤ 42000001 ∧ ∀ r, Ev (fun k => spec_l03Line.j0 k q) r → Ev (fun k => spec_l03Line.l0 k o (i : Int) ⟨N, E, K, c⟩) r := fun i o hi h21 hl hv hs => by
    refine ⟨o, i, hv, hi, by omega, by omega, fun r hr => Ev.step ?_⟩
    by_cases h : i < o.length
    · have : decide ((i : Int) ≤ 20) = false := by simp; omega
      simp only [spec_l03Line.l0, ltd h, cond_true, this, cond_false]
      exact hr
    · simp only [spec_l03Line.l0, ltn h, cond_false]
      exact hr
  induction n with
  | zero => intro i o h hi h21 hl hv; exact stop i o hi h21 hl hv (by omega)
  | succ n ih =>
    intro i o h hi h21 hl hv
    by_cases hs : ¬ i < o.length ∨ 20 < i
    · exact stop i o hi h21 hl hv hs
    have hlt : i < o.length := by omega
    have hm1 : (i + 1) * 2000000 = i * 2000000 + 2000000 := Nat.succ_mul i 2000000
    have hl1 : o.length ≤ 1 + (i + 1) * 2000000 := Nat.le_trans hl (Nat.add_le_add_left (Nat.mul_le_mul_right _ (Nat.le_succ i)) 1)
    have h20 : decide ((i : Int) ≤ 20) = true := by simp; omega
    rcases fnd_cases (isAt o[i]) N with ⟨e1, e2, _⟩ | ⟨j, hj, e1, e2, e3⟩
    · have hpar : par N o[i] = [] := by unfold par; rw [e2]
      obtain ⟨q, i', g1, g2, g3, g4, g5⟩ := ih (i + 1) o (by omega) (by omega) (by omega) hl1 ⟨hv.ok, fun j' hj' hlt' p hp => by
        by_cases hji : j' = i
        · subst hji; rw [hpar] at hp; cases hp
        · exact hv.clo j' hj' (by omega) p hp, hv.nd, hv.fst⟩
      refine ⟨q, i', g1, g2, g3, g4, fun r hr => Ev.step ?_⟩
      simp only [spec_l03Line.l0, ltd hlt, cond_true, h20, ixg hlt, Option.bind_some]
      refine Ev.bind (stype (s := ⟨N, E, K, c⟩) (by simpa using (by omega)) _) ?_
      simp only [e1, show decide ((-1 : Int) < 0) = true from rfl, cond_true, w1b hlt (show o.length ≤ 60000000000 by omega)]
      exact g5 r hr
    · have hpar : par N o[i] = N[j].f1 := by unfold par; rw [e2]
      obtain ⟨e, h1, h2, _, h4, h5, h6⟩ := bfs_l1 (E := E) (K := K) (c := c) hj (by omega) hlt (hp _ (List.getElem_mem hj)) _ 0 [] (Nat.le_refl _) (by simp) (by simpa using hv.nd) (by simp)
      rw [List.drop_zero] at h4
      obtain ⟨q, i', g1, g2, g3, g4, g5⟩ := ih (i + 1) (o ++ e) (by omega) (by rw [List.length_append]; omega) (by omega) (by rw [List.length_append, hm1]; omega) ⟨fun hok x hx => by
          rcases List.mem_append.1 hx with hx | hx
          · exact hv.ok hok x hx
          · exact .step o[i] x (hv.ok hok _ (List.getElem_mem hlt)) (hpar ▸ h2 x hx) (hok.2 _ (List.getElem_mem hj) x (h2 x hx)), fun j' hj' hlt' p hp => by
          have hjo : j' < o.length := by omega
          rw [List.getElem_append_left hjo] at hp
          by_cases hji : j' = i
          · subst hji; rw [hpar] at hp; exact h4 p hp
          · exact List.mem_append.2 (.inl (hv.clo j' hjo (by omega) p hp)), h1, List.mem_append.2 (.inl hv.fst)⟩
      refine ⟨q, i', g1, g2, g3, g4, fun r hr => Ev.step ?_⟩
      simp only [spec_l03Line.l0, ltd hlt, cond_true, h20, ixg hlt, Option.bind_some]
      refine Ev.bind (stype (s := ⟨N, E, K, c⟩) (by simpa using (by omega)) _) ?_
      simp only [e1, show decide ((j : Int) < 0) = false by simp, cond_false]
      have := h6 r (g5 r hr)
      rw [List.append_nil] at this
      exact this
theorem sline (hN : N.length ≤ 2000000) (hp : ∀ t ∈ N, t.f1.length ≤ 2000000) (a : ByteArray) : ∃ r, Ev (fun k => spec_l03Line.f k ⟨N, E, K, c⟩ a) r ∧ r.length ≤ 42000001 ∧ (Ok N → (∀ x, x ∈ r ↔ Reach N a x) ∧ r.length ≤ 20) := by
  rcases fnd_cases (isAt a) N with ⟨e1, e2, _⟩ | ⟨j, hj, e1, e2, e3⟩
  · refine ⟨[], Ev.step ?_, Nat.zero_le _, fun _ => ⟨fun x => ⟨by simp, fun h => ?_⟩, by simp⟩⟩
    · simp only [spec_l03Line.f]
      refine Ev.bind (stype (s := ⟨N, E, K, c⟩) (by simpa using (by omega)) _) ?_
      simp only [e1, show decide ((-1 : Int) < 0) = true from rfl, cond_true]
      exact Ev.ret _
    · have := h.first
      unfold kn at this
      rw [e2] at this; cases this
  · have hka : kn N a = true := by unfold kn; rw [e2]; rfl
    obtain ⟨q, i', g1, g2, g3, g4, g5⟩ := bfs_l0 (E := E) (K := K) (c := c) hN hp a _ 0 [a] (Nat.le_refl _) (by simp) (by omega) (by simp) ⟨fun _ x hx => by rw [List.mem_singleton.1 hx]; exact .refl hka, fun _ _ h => absurd h (Nat.not_lt_zero _), by simp, by simp⟩
    obtain ⟨r, s1, s2, s3⟩ := sort_ (l := q) (by omega)
    have hr : Ev (fun k => spec_l03Line.j0 k q) r := Ev.step (by simp only [spec_l03Line.j0]; exact Ev.bind s1 (Ev.ret _))
    refine ⟨r, Ev.step ?_, by omega, fun hok => ?_⟩
    · simp only [spec_l03Line.f]
      refine Ev.bind (stype (s := ⟨N, E, K, c⟩) (by simpa using (by omega)) _) ?_
      simp only [e1, show decide ((j : Int) < 0) = false by simp, cond_false]
      rw [app_b (by simp)]
      exact g5 r hr
    · have hq : q.length ≤ N.length := by
        have := nodup_le q (N.map (·.f0)) g1.nd fun x hx => kn_lab (g1.ok hok x hx).kn
        simpa using this
      have h20 := hok.1
      have hi' : i' = q.length := by omega
      refine ⟨fun x => ⟨fun h => g1.ok hok x ((s2 x).1 h), fun h => (s2 x).2 ?_⟩, by omega⟩
      induction h with
      | refl _ => exact g1.fst
      | step y p _ hpp hk ih =>
        obtain ⟨m, hm, rfl⟩ := List.getElem_of_mem ih
        exact g1.clo m hm (by omega) p hpp
end
end Go.Ab
namespace Go.Ab
open Go.Proofs
set_option linter.unusedVariables false
set_option linter.unusedSimpArgs false
section
variable {N : List S96} {E : List S99} {K : List S92} {c : Bool}
theorem bfs_l1o {o : List ByteArray} {i j : Nat} (hj : j < N.length) (ho : o.length ≤ 1000000000) (hi : i < o.length) (hp : N[j].f1.length ≤ 2000000) : ∀ (n q : Nat) (e : List ByteArray), N[j].f1.length - q ≤ n → e.length ≤ q → (o ++ e).Nodup → (∀ x ∈ e, x ∈ N[j].f1) →
    ∃ e', (o ++ e').Nodup ∧ (∀ x ∈ e', x ∈ N[j].f1) ∧ (∀ x ∈ e, x ∈ e') ∧ (∀ x ∈ N[j].f1.drop q, x ∈ o ++ e') ∧ e'.length ≤ 2000000 ∧
     ∀ r, Ev (fun k => spec_l03Line_O.l0 k (o ++ e') ((i + 1 : Nat) : Int) ⟨N, E, K, c⟩) r → Ev (fun k => spec_l03Line_O.l1 k (o ++ e) (i : Int) (j : Int) (q : Int) ⟨N, E, K, c⟩) r := by
  intro n
  have fin : ∀ (q : Nat) (e : List ByteArray), ¬ q < N[j].f1.length → e.length ≤ 2000000 → (o ++ e).Nodup → (∀ x ∈ e, x ∈ N[j].f1) →
    ∃ e', (o ++ e').Nodup ∧ (∀ x ∈ e', x ∈ N[j].f1) ∧ (∀ x ∈ e, x ∈ e') ∧ (∀ x ∈ N[j].f1.drop q, x ∈ o ++ e') ∧ e'.length ≤ 2000000 ∧
     ∀ r, Ev (fun k => spec_l03Line_O.l0 k (o ++ e') ((i + 1 : Nat) : Int) ⟨N, E, K, c⟩) r → Ev (fun k => spec_l03Line_O.l1 k (o ++ e) (i : Int) (j : Int) (q : Int) ⟨N, E, K, c⟩) r := fun q e hq he hn hm => by
    refine ⟨e, hn, hm, fun x h => h, by rw [List.drop_of_length_le (by omega)]; simp, he, fun r hr => Ev.step ?_⟩
    simp only [spec_l03Line_O.l1, ixg hj, Option.bind_some, ltn hq, cond_false, w1b hi (show o.length ≤ 60000000000 by omega)]
    exact hr
  have hlen : ∀ e : List ByteArray, (o ++ e).Nodup → (∀ x ∈ e, x ∈ N[j].f1) → e.length ≤ 2000000 := fun e hn hm => Nat.le_trans (nodup_le e _ (List.nodup_append.1 hn).2.1 hm) hp
  induction n with
  | zero => intro q e h he hn hm; exact fin q e (by omega) (hlen e hn hm) hn hm
  | succ n ih =>
    intro q e h he hn hm
    by_cases hq : q < N[j].f1.length
    case neg => exact fin q e hq (hlen e hn hm) hn hm
    have he2 := hlen e hn hm
    cases hh : has (o ++ e) N[j].f1[q] with
    | true =>
      obtain ⟨e', h1, h2, h3, h4, h5, h6⟩ := ih (q + 1) e (by omega) (by omega) hn hm
      refine ⟨e', h1, h2, h3, fun x hx => ?_, h5, fun r hr => Ev.step ?_⟩
      · rw [List.drop_eq_getElem_cons hq] at hx
        rcases List.mem_cons.1 hx with rfl | hx
        · rcases List.mem_append.1 (has_iff.1 hh) with hx | hx
          · exact List.mem_append.2 (.inl hx)
          · exact List.mem_append.2 (.inr (h3 _ hx))
        · exact h4 x hx
      · simp only [spec_l03Line_O.l1, ixg hj, Option.bind_some, ltd hq, cond_true, ixg hq]
        refine Ev.bind (smem_b (by simp; omega) _) ?_
        simp only [hh, cond_true, wup hq hp]
        exact h6 r hr
    | false =>
      have hno := has_no.1 hh
      have hn' : (o ++ (e ++ [N[j].f1[q]])).Nodup := by
        rw [← List.append_assoc, List.nodup_append]
        refine ⟨hn, by simp, fun x hx y hy e => hno ?_⟩
        rw [List.mem_singleton.1 hy] at e
        exact e ▸ hx
      obtain ⟨e', h1, h2, h3, h4, h5, h6⟩ := ih (q + 1) (e ++ [N[j].f1[q]]) (by omega) (by simp; omega) hn' (fun x hx => by
        rcases List.mem_append.1 hx with hx | hx
        · exact hm x hx
        · rw [List.mem_singleton.1 hx]; exact List.getElem_mem hq)
      refine ⟨e', h1, h2, fun x hx => h3 x (List.mem_append.2 (.inl hx)), fun x hx => ?_, h5, fun r hr => Ev.step ?_⟩
      · rw [List.drop_eq_getElem_cons hq] at hx
        rcases List.mem_cons.1 hx with rfl | hx
        · exact List.mem_append.2 (.inr (h3 _ (List.mem_append.2 (.inr (List.mem_singleton.2 rfl)))))
        · exact h4 x hx
      · simp only [spec_l03Line_O.l1, ixg hj, Option.bind_some, ltd hq, cond_true, ixg hq]
        refine Ev.bind (smem_b (by simp; omega) _) ?_
        simp only [hh, cond_false]
        rw [app_b (by simp; omega)]
        simp only [Option.bind_some, wup hq hp]
        have := h6 r hr
        rw [← List.append_assoc] at this
        exact this
theorem bfs_l0o (hN : N.length ≤ 2000000) (hp : ∀ t ∈ N, t.f1.length ≤ 2000000) (a : ByteArray) : ∀ (n i : Nat) (o : List ByteArray), 21 - i ≤ n → i ≤ o.length → i ≤ 21 → o.length ≤ 1 + i * 2000000 → Inv N a o i →
    ∃ q i', Inv N a q i' ∧ i' ≤ q.length ∧ (q.length ≤ i' ∨ 20 < i') ∧ q.length ≤ 42000001 ∧ ∀ r, Ev (fun k => spec_l03Line_O.j0 k q) r → Ev (fun k => spec_l03Line_O.l0 k o (i : Int) ⟨N, E, K, c⟩) r := by
  intro n
  have stop : ∀ (i : Nat) (o : List ByteArray), i ≤ o.length → i ≤ 21 → o.length ≤ 1 + i * 2000000 → Inv N a o i → (¬ i < o.length ∨ 20 < i) → ∃ q i', Inv N a q i' ∧ i' ≤ q.length ∧ (q.length ≤ i' ∨ 20 < i') ∧ q.length ≤ 42000001 ∧ ∀ r, Ev (fun k => spec_l03Line_O.j0 k q) r → Ev (fun k => spec_l03Line_O.l0 k o (i : Int) ⟨N, E, K, c⟩) r := fun i o hi h21 hl hv hs => by
    refine ⟨o, i, hv, hi, by omega, by omega, fun r hr => Ev.step ?_⟩
    by_cases h : i < o.length
    · have : decide ((i : Int) ≤ 20) = false := by simp; omega
      simp only [spec_l03Line_O.l0, ltd h, cond_true, this, cond_false]
      exact hr
    · simp only [spec_l03Line_O.l0, ltn h, cond_false]
      exact hr
  induction n with
  | zero => intro i o h hi h21 hl hv; exact stop i o hi h21 hl hv (by omega)
  | succ n ih =>
    intro i o h hi h21 hl hv
    by_cases hs : ¬ i < o.length ∨ 20 < i
    · exact stop i o hi h21 hl hv hs
    have hlt : i < o.length := by omega
    have hm1 : (i + 1) * 2000000 = i * 2000000 + 2000000 := Nat.succ_mul i 2000000
    have hl1 : o.length ≤ 1 + (i + 1) * 2000000 := Nat.le_trans hl (Nat.add_le_add_left (Nat.mul_le_mul_right _ (Nat.le_succ i)) 1)
    have h20 : decide ((i : Int) ≤ 20) = true := by simp; omega
    rcases fnd_cases (isAt o[i]) N with ⟨e1, e2, _⟩ | ⟨j, hj, e1, e2, e3⟩
    · have hpar : par N o[i] = [] := by unfold par; rw [e2]
      obtain ⟨q, i', g1, g2, g3, g4, g5⟩ := ih (i + 1) o (by omega) (by omega) (by omega) hl1 ⟨hv.ok, fun j' hj' hlt' p hp => by
        by_cases hji : j' = i
        · subst hji; rw [hpar] at hp; cases hp
        · exact hv.clo j' hj' (by omega) p hp, hv.nd, hv.fst⟩
      refine ⟨q, i', g1, g2, g3, g4, fun r hr => Ev.step ?_⟩
      simp only [spec_l03Line_O.l0, ltd hlt, cond_true, h20, inr_ hlt, Int.toNat_natCast, List.getElem?_eq_getElem hlt, Option.bind_some]
      refine Ev.bind (stype (s := ⟨N, E, K, c⟩) (by simpa using (by omega)) _) ?_
      simp only [e1, show decide ((-1 : Int) < 0) = true from rfl, cond_true, w1b hlt (show o.length ≤ 60000000000 by omega)]
      exact g5 r hr
    · have hpar : par N o[i] = N[j].f1 := by unfold par; rw [e2]
      obtain ⟨e, h1, h2, _, h4, h5, h6⟩ := bfs_l1o (E := E) (K := K) (c := c) hj (by omega) hlt (hp _ (List.getElem_mem hj)) _ 0 [] (Nat.le_refl _) (by simp) (by simpa using hv.nd) (by simp)
      rw [List.drop_zero] at h4
      obtain ⟨q, i', g1, g2, g3, g4, g5⟩ := ih (i + 1) (o ++ e) (by omega) (by rw [List.length_append]; omega) (by omega) (by rw [List.length_append, hm1]; omega) ⟨fun hok x hx => by
          rcases List.mem_append.1 hx with hx | hx
          · exact hv.ok hok x hx
          · exact .step o[i] x (hv.ok hok _ (List.getElem_mem hlt)) (hpar ▸ h2 x hx) (hok.2 _ (List.getElem_mem hj) x (h2 x hx)), fun j' hj' hlt' p hp => by
          have hjo : j' < o.length := by omega
          rw [List.getElem_append_left hjo] at hp
          by_cases hji : j' = i
          · subst hji; rw [hpar] at hp; exact h4 p hp
          · exact List.mem_append.2 (.inl (hv.clo j' hjo (by omega) p hp)), h1, List.mem_append.2 (.inl hv.fst)⟩
      refine ⟨q, i', g1, g2, g3, g4, fun r hr => Ev.step ?_⟩
      simp only [spec_l03Line_O.l0, ltd hlt, cond_true, h20, inr_ hlt, Int.toNat_natCast, List.getElem?_eq_getElem hlt, Option.bind_some]
      refine Ev.bind (stype (s := ⟨N, E, K, c⟩) (by simpa using (by omega)) _) ?_
      simp only [e1, show decide ((j : Int) < 0) = false by simp, cond_false]
      have := h6 r (g5 r hr)
      rw [List.append_nil] at this
      exact this
theorem slineo (hN : N.length ≤ 2000000) (hp : ∀ t ∈ N, t.f1.length ≤ 2000000) (a : ByteArray) : ∃ r, Ev (fun k => spec_l03Line_O.f k ⟨N, E, K, c⟩ a) r ∧ r.length ≤ 42000001 ∧ (Ok N → (∀ x, x ∈ r ↔ Reach N a x) ∧ r.length ≤ 20 ∧ Bv.RsN r) := by
  rcases fnd_cases (isAt a) N with ⟨e1, e2, _⟩ | ⟨j, hj, e1, e2, e3⟩
  · refine ⟨[], Ev.step ?_, Nat.zero_le _, fun _ => ⟨fun x => ⟨by simp, fun h => ?_⟩, by simp, List.Pairwise.nil⟩⟩
    · simp only [spec_l03Line_O.f]
      refine Ev.bind (stype (s := ⟨N, E, K, c⟩) (by simpa using (by omega)) _) ?_
      simp only [e1, show decide ((-1 : Int) < 0) = true from rfl, cond_true]
      exact Ev.ret _
    · have := h.first
      unfold kn at this
      rw [e2] at this; cases this
  · have hka : kn N a = true := by unfold kn; rw [e2]; rfl
    obtain ⟨q, i', g1, g2, g3, g4, g5⟩ := bfs_l0o (E := E) (K := K) (c := c) hN hp a _ 0 [a] (Nat.le_refl _) (by simp) (by omega) (by simp) ⟨fun _ x hx => by rw [List.mem_singleton.1 hx]; exact .refl hka, fun _ _ h => absurd h (Nat.not_lt_zero _), by simp, by simp⟩
    obtain ⟨r, s1, s2, s3, s4⟩ := Bv.sortR (l := q) (by omega)
    have hr : Ev (fun k => spec_l03Line_O.j0 k q) r := Ev.step (by simp only [spec_l03Line_O.j0]; exact Ev.bind s1 (Ev.ret _))
    refine ⟨r, Ev.step ?_, by omega, fun hok => ?_⟩
    · simp only [spec_l03Line_O.f]
      refine Ev.bind (stype (s := ⟨N, E, K, c⟩) (by simpa using (by omega)) _) ?_
      simp only [e1, show decide ((j : Int) < 0) = false by simp, cond_false]
      rw [app_b (by simp)]
      exact g5 r hr
    · have hq : q.length ≤ N.length := by
        have := nodup_le q (N.map (·.f0)) g1.nd fun x hx => kn_lab (g1.ok hok x hx).kn
        simpa using this
      have h20 := hok.1
      have hi' : i' = q.length := by omega
      refine ⟨fun x => ⟨fun h => g1.ok hok x ((s2 x).1 h), fun h => (s2 x).2 ?_⟩, by omega, s4⟩
      induction h with
      | refl _ => exact g1.fst
      | step y p _ hpp hk ih =>
        obtain ⟨m, hm, rfl⟩ := List.getElem_of_mem ih
        exact g1.clo m hm (by omega) p hpp
end
end Go.Ab
