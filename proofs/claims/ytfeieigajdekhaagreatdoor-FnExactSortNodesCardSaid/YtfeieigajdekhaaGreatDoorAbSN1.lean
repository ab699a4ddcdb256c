/- What a graph without a fault is: ids that rise and are above 0, edges between nodes. No condition. -/
import Derived.Test.YtfeieigajdekhaaGreatDoorAbG1
namespace Go.Ab
open Go.Proofs
set_option linter.unusedVariables false
set_option linter.unusedSimpArgs false
theorem ge_ok {g : S31} (h0 : g.f0.length ≤ 2000000) (hl : g.f1.length ≤ 2000000) : ∀ (n i : Nat), g.f1.length - i ≤ n → Ev (fun k => spec_GraphFault.l1 k (i : Int) g) 0 → ∀ e ∈ g.f1.drop i, e.f2 ∈ g.f0.map (·.f0) ∧ e.f3 ∈ g.f0.map (·.f0) := by
  intro n
  induction n with
  | zero => intro i h _ x hx; rw [List.drop_of_length_le (by omega)] at hx; cases hx
  | succ n ih =>
    intro i hle hE e he
    by_cases hi : i < g.f1.length
    case neg => rw [List.drop_of_length_le (by omega)] at he; cases he
    obtain ⟨c, ⟨K1, q1⟩, _⟩ := edge2 g.f1[i]
    obtain ⟨x, ⟨K2, q2⟩, hx⟩ := nodeAt_ g g.f1[i].f2 h0
    obtain ⟨y, ⟨K3, q3⟩, hy⟩ := nodeAt_ g g.f1[i].f3 h0
    obtain ⟨K, q⟩ := hE
    have main : ∀ k, max (max K1 K2) (max K3 K) ≤ k → 0 ≤ x ∧ 0 ≤ y ∧ spec_GraphFault.l1 k ((i + 1 : Nat) : Int) g = some 0 := fun k hk => by
      have hq : spec_GraphFault.l1 (k + 1) (i : Int) g = some 0 := q (k + 1) (by omega)
      have r1 : spec_l02IsEdge.f k g.f1[i] = some c := q1 k (by omega)
      have r2 : spec_l02Node.f k g g.f1[i].f2 = some x := q2 k (by omega)
      have r3 : spec_l02Node.f k g g.f1[i].f3 = some y := q3 k (by omega)
      simp only [spec_GraphFault.l1, ltd hi, cond_true, ixg hi, Option.bind_some, r1, r2, r3, wup hi hl] at hq
      have fin : (bif decide (x < 0) then some (1 : Int) else bif decide (y < 0) then some 1 else spec_GraphFault.l1 k ((i + 1 : Nat) : Int) g) = some 0 → 0 ≤ x ∧ 0 ≤ y ∧ spec_GraphFault.l1 k ((i + 1 : Nat) : Int) g = some 0 := fun h => by
        by_cases hx0 : x < 0
        · rw [decide_eq_true hx0] at h; cases h
        · by_cases hy0 : y < 0
          · rw [decide_eq_false hx0, decide_eq_true hy0] at h; cases h
          · rw [decide_eq_false hx0, decide_eq_false hy0] at h
            exact ⟨by omega, by omega, h⟩
      cases c with
      | false => cases hq
      | true =>
        simp only [cond_true] at hq
        by_cases hp : 0 < i
        · simp only [decide_eq_true (show (0 : Int) < (i : Int) by omega), cond_true, wdn hp hi hl, ixg (show i - 1 < g.f1.length by omega), Option.bind_some] at hq
          by_cases ho : g.f1[i].f0 ≤ (g.f1[i - 1]'(by omega)).f0
          · rw [decide_eq_true ho] at hq; cases hq
          · rw [decide_eq_false ho] at hq; exact fin hq
        · simp only [decide_eq_false (show ¬ (0 : Int) < (i : Int) by omega), cond_false] at hq
          exact fin hq
    rw [List.drop_eq_getElem_cons hi] at he
    rcases List.mem_cons.1 he with rfl | he
    · have h := main _ (Nat.le_refl _)
      exact ⟨Classical.byContradiction fun hh => by have := hx.2 hh; omega, Classical.byContradiction fun hh => by have := hy.2 hh; omega⟩
    · exact ih (i + 1) (by omega) ⟨_, fun k hk => (main k hk).2.2⟩ e he
theorem gn_ok {g : S31} (h0 : g.f0.length ≤ 2000000) (hl : g.f1.length ≤ 2000000) : ∀ (n i : Nat), g.f0.length - i ≤ n → Ev (fun k => spec_GraphFault.l0 k (i : Int) g) 0 →
    (∀ j (h : j < g.f0.length), i ≤ j → 0 < j → (g.f0[j - 1]'(by omega)).f0 < g.f0[j].f0) ∧ (∀ x ∈ g.f0.drop i, Ev (fun k => spec_l02IsNode.f k x) true) ∧ Ev (fun k => spec_GraphFault.l1 k 0 g) 0 := by
  have fin : ∀ i : Nat, ¬ i < g.f0.length → Ev (fun k => spec_GraphFault.l0 k (i : Int) g) 0 → Ev (fun k => spec_GraphFault.l1 k 0 g) 0 := fun i hi ⟨K, q⟩ => ⟨K, fun k hk => by
    have hq : spec_GraphFault.l0 (k + 1) (i : Int) g = some 0 := q (k + 1) (by omega)
    simpa only [spec_GraphFault.l0, ltn hi, cond_false] using hq⟩
  intro n
  induction n with
  | zero =>
    intro i h hE
    exact ⟨fun j hj hij => (by omega), fun x hx => (by rw [List.drop_of_length_le (by omega)] at hx; cases hx), fin i (by omega) hE⟩
  | succ n ih =>
    intro i hle hE
    by_cases hi : i < g.f0.length
    case neg => exact ⟨fun j hj hij => (by omega), fun x hx => (by rw [List.drop_of_length_le (by omega)] at hx; cases hx), fin i hi hE⟩
    obtain ⟨c, ⟨K1, q1⟩, _⟩ := node2 g.f0[i]
    obtain ⟨K, q⟩ := hE
    have main : ∀ k, max K1 K ≤ k → c = true ∧ (∀ hp : 0 < i, (g.f0[i - 1]'(by omega)).f0 < g.f0[i].f0) ∧ spec_GraphFault.l0 k ((i + 1 : Nat) : Int) g = some 0 := fun k hk => by
      have hq : spec_GraphFault.l0 (k + 1 + 1) (i : Int) g = some 0 := q (k + 1 + 1) (by omega)
      have r1 : spec_l02IsNode.f (k + 1) g.f0[i] = some c := q1 (k + 1) (by omega)
      simp only [spec_GraphFault.l0, spec_GraphFault.j0, ltd hi, cond_true, ixg hi, Option.bind_some, r1, wup hi h0] at hq
      cases c with
      | false => cases hq
      | true =>
        simp only [cond_true] at hq
        by_cases hp : 0 < i
        · simp only [decide_eq_true (show (0 : Int) < (i : Int) by omega), cond_true, wdn hp hi h0, ixg (show i - 1 < g.f0.length by omega), Option.bind_some] at hq
          by_cases ho : g.f0[i].f0 ≤ (g.f0[i - 1]'(by omega)).f0
          · rw [decide_eq_true ho] at hq; cases hq
          · rw [decide_eq_false ho] at hq; exact ⟨rfl, fun _ => by omega, hq⟩
        · simp only [decide_eq_false (show ¬ (0 : Int) < (i : Int) by omega), cond_false] at hq
          exact ⟨rfl, fun h => absurd h hp, hq⟩
    obtain ⟨rfl, m2, _⟩ := main _ (Nat.le_refl _)
    obtain ⟨i1, i2, i3⟩ := ih (i + 1) (by omega) ⟨_, fun k hk => (main k hk).2.2⟩
    refine ⟨fun j hj hij h0j => ?_, fun x hx => ?_, i3⟩
    · by_cases e : j = i
      · subst e; exact m2 h0j
      · exact i1 j hj (by omega) h0j
    · rw [List.drop_eq_getElem_cons hi] at hx
      rcases List.mem_cons.1 hx with rfl | hx
      · exact ⟨K1, q1⟩
      · exact i2 x hx
end Go.Ab
namespace Go.Ab
open Go.Proofs
set_option linter.unusedVariables false
set_option linter.unusedSimpArgs false
theorem gf_facts {g : S31} (h : Ev (fun k => spec_GraphFault.f k g) 0) : g.f0.length ≤ 200 ∧ g.f1.length ≤ 400 ∧ (∀ j (h : j < g.f0.length), 0 < j → (g.f0[j - 1]'(by omega)).f0 < g.f0[j].f0) ∧ (∀ x ∈ g.f0, 1 ≤ x.f0) ∧ ∀ e ∈ g.f1, e.f2 ∈ g.f0.map (·.f0) ∧ e.f3 ∈ g.f0.map (·.f0) := by
  obtain ⟨K, q⟩ := h
  have q0 : ∀ k, K ≤ k → spec_GraphFault.f (k + 1) g = some 0 := fun k hk => q (k + 1) (by omega)
  by_cases h0 : (200 : Int) < (g.f0.length : Int)
  · have := q0 K (Nat.le_refl _)
    simp only [spec_GraphFault.f, decide_eq_true h0, cond_true] at this
    cases this
  by_cases h1 : (400 : Int) < (g.f1.length : Int)
  · have := q0 K (Nat.le_refl _)
    simp only [spec_GraphFault.f, decide_eq_false h0, decide_eq_true h1, cond_true, cond_false] at this
    cases this
  have hE : Ev (fun k => spec_GraphFault.l0 k ((0 : Nat) : Int) g) 0 := ⟨K, fun k hk => by
    have := q0 k hk
    simp only [spec_GraphFault.f, decide_eq_false h0, decide_eq_false h1, cond_false] at this
    exact this⟩
  obtain ⟨i1, i2, i3⟩ := gn_ok (g := g) (by omega) (by omega) _ 0 (Nat.le_refl _) hE
  refine ⟨by omega, by omega, fun j hj h => i1 j hj (by omega) h, fun x hx => ?_, fun e he => ge_ok (g := g) (by omega) (by omega) _ 0 (Nat.le_refl _) i3 e (by simpa using he)⟩
  obtain ⟨K2, q2⟩ := i2 x (by simpa using hx)
  have := q2 K2 (Nat.le_refl _)
  simp only [spec_l02IsNode.f, spec_l02Id.f] at this
  by_cases hi : 1 ≤ x.f0
  · exact hi
  · rw [decide_eq_false hi] at this; cases this
theorem node_l0 {g : S31} {id : Int} (hl : g.f0.length ≤ 2000000) : ∀ n i : Nat, g.f0.length - i ≤ n → id ∈ (g.f0.drop i).map (·.f0) → ∃ c : Nat, c < g.f0.length ∧ (g.f0[c]?).map (·.f0) = some id ∧ Ev (fun k => spec_l02Node.l0 k id (i : Int) g) (c : Int) := by
  intro n
  induction n with
  | zero => intro i h hm; rw [List.drop_of_length_le (by omega)] at hm; cases hm
  | succ n ih =>
    intro i h hm
    by_cases hi : i < g.f0.length
    case neg => rw [List.drop_of_length_le (by omega)] at hm; cases hm
    by_cases e : g.f0[i].f0 = id
    · refine ⟨i, hi, by rw [List.getElem?_eq_getElem hi]; simp [e], Ev.step ?_⟩
      have e' : (g.f0[i].f0 == id) = true := by simpa using e
      simp only [spec_l02Node.l0, ltd hi, cond_true, ixg hi, Option.bind_some, e']
      exact Ev.ret _
    · rw [List.drop_eq_getElem_cons hi, List.map_cons] at hm
      rcases List.mem_cons.1 hm with h' | hm
      · exact absurd h'.symm e
      · obtain ⟨c, c1, c2, c3⟩ := ih (i + 1) (by omega) hm
        refine ⟨c, c1, c2, Ev.step ?_⟩
        have e' : (g.f0[i].f0 == id) = false := by simpa using e
        simp only [spec_l02Node.l0, ltd hi, cond_true, ixg hi, Option.bind_some, e', cond_false, wup hi hl]
        exact c3
theorem node_at {g : S31} {id : Int} (hl : g.f0.length ≤ 2000000) (h : id ∈ g.f0.map (·.f0)) : ∃ c : Nat, c < g.f0.length ∧ (g.f0[c]?).map (·.f0) = some id ∧ Ev (fun k => spec_l02Node.f k g id) (c : Int) := by
  obtain ⟨c, c1, c2, c3⟩ := node_l0 (g := g) (id := id) hl _ 0 (Nat.le_refl _) (by simpa using h)
  exact ⟨c, c1, c2, Ev.step (by simp only [spec_l02Node.f]; exact c3)⟩
/-- The edges' ends, as places. -/
def Ends (g : S31) (es : List S68) (l : List (Nat × Nat)) : Prop := l.length = es.length ∧ ∀ (j : Nat) (p : Nat × Nat) (e : S68), l[j]? = some p → es[j]? = some e → p.1 < g.f0.length ∧ p.2 < g.f0.length ∧ (g.f0[p.1]?).map (·.f0) = some e.f2 ∧ (g.f0[p.2]?).map (·.f0) = some e.f3
theorem lnk_ev {g : S31} (hl : g.f0.length ≤ 2000000) : ∀ es : List S68, (∀ e ∈ es, e.f2 ∈ g.f0.map (·.f0) ∧ e.f3 ∈ g.f0.map (·.f0)) → ∃ l, Ev (fun k => lnkF k g es) l ∧ Ends g es l
  | [], _ => ⟨[], Ev.ret _, rfl, fun j p e h => by simp at h⟩
  | e :: r, h => by
    obtain ⟨a, a1, a2, a3⟩ := node_at hl (h e List.mem_cons_self).1
    obtain ⟨b, b1, b2, b3⟩ := node_at hl (h e List.mem_cons_self).2
    obtain ⟨l, l1, l2, l3⟩ := lnk_ev hl r fun x hx => h x (List.mem_cons_of_mem _ hx)
    refine ⟨(a, b) :: l, ?_, by simp [l2], fun j p x hp hx => ?_⟩
    · unfold lnkF
      refine Ev.bind a3 (Ev.bind b3 ?_)
      rw [decide_eq_true (show 0 ≤ (a : Int) ∧ (a : Int) < (g.f0.length : Int) ∧ 0 ≤ (b : Int) ∧ (b : Int) < (g.f0.length : Int) by omega)]
      simp only [cond_true]
      refine Ev.bind l1 ?_
      simp only [Int.toNat_natCast]
      exact Ev.ret _
    · cases j with
      | zero => simp at hp hx; subst hp; subst hx; exact ⟨a1, b1, a2, b2⟩
      | succ j => exact l3 j p x (by simpa using hp) (by simpa using hx)
theorem linked_ev {g : S31} (h0 : g.f0.length ≤ 200) (h1 : g.f1.length ≤ 400) (he : ∀ e ∈ g.f1, e.f2 ∈ g.f0.map (·.f0) ∧ e.f3 ∈ g.f0.map (·.f0)) : ∃ l, Ev (fun k => spec_l16Linked.f k g false) ⟨gridOf g.f0.length l⟩ ∧ Ends g g.f1 l := by
  obtain ⟨l, l1, l2⟩ := lnk_ev (g := g) (by omega) g.f1 he
  refine ⟨l, ?_, l2⟩
  unfold spec_l16Linked.f
  simp only [Bool.false_or, decide_eq_false (show ¬ 1048576 < g.f0.length by omega), decide_eq_false (show ¬ 1048576 < g.f1.length by omega), Bool.or_false, cond_false]
  exact Ev.bind l1 (Ev.ret _)
end Go.Ab
namespace Go.Ab
open Go.Proofs
set_option linter.unusedVariables false
set_option linter.unusedSimpArgs false
/-- Nobody that is not done leads to i, from k on. -/
def clearR (G : List (List Bool)) (done : List Bool) (i k : Nat) : Bool := ((List.range done.length).drop k).all fun x => done.getD x false || !((G.getD x []).getD i false)
def freeR (G : List (List Bool)) (done : List Bool) (i : Nat) : Bool := !done.getD i false && clearR G done i 0
def nextR (G : List (List Bool)) (done : List Bool) (i : Nat) : Int := match ((List.range done.length).drop i).find? (freeR G done) with | some x => (x : Int) | none => -1
section
variable {g : S31} {G : List (List Bool)} {done : List Bool} {out : List Int}
theorem drop_range {n k : Nat} (h : k < n) : (List.range n).drop k = k :: (List.range n).drop (k + 1) := by
  rw [List.drop_eq_getElem_cons (by simpa using h)]
  simp
theorem ref_in (hn : done.length ≤ 2000000) (hG : G.length = done.length) (hR : ∀ r ∈ G, r.length = done.length) {i : Nat} (hi : i < done.length) (v8 : Int) {r : List Int} :
    ∀ (d k : Nat) (fl : Bool), done.length - k ≤ d → k ≤ done.length → Ev (fun q => spec_SortNodes_O.j1 q out done.length v8 (i : Int) (fl && clearR G done i k) g ⟨G⟩ done) r → Ev (fun q => spec_SortNodes_O.l2 q out done.length v8 (i : Int) fl (k : Int) g ⟨G⟩ done) r := by
  have fin : ∀ (k : Nat) (fl : Bool), ¬ k < done.length → Ev (fun q => spec_SortNodes_O.j1 q out done.length v8 (i : Int) (fl && clearR G done i k) g ⟨G⟩ done) r → Ev (fun q => spec_SortNodes_O.l2 q out done.length v8 (i : Int) fl (k : Int) g ⟨G⟩ done) r := fun k fl hk h => by
    refine Ev.step ?_
    simp only [spec_SortNodes_O.l2, ltn hk, cond_false]
    have e : clearR G done i k = true := by unfold clearR; rw [List.drop_of_length_le (by simp; omega)]; rfl
    rw [e, Bool.and_true] at h
    exact h
  intro d
  induction d with
  | zero => intro k fl h1 h2 h; exact fin k fl (by omega) h
  | succ d ih =>
    intro k fl h1 h2 h
    by_cases hk : k < done.length
    case neg => exact fin k fl hk h
    refine Ev.step ?_
    cases fl with
    | false =>
      simp only [spec_SortNodes_O.l2, ltd hk, cond_true, cond_false]
      simpa using h
    | true =>
      have hin : inr (k : Int) done.length = some () := by unfold inr; rw [if_pos (by omega)]
      have hkG : k < G.length := by omega
      have hrow : (G[k]).length = done.length := hR _ (List.getElem_mem hkG)
      have ec : clearR G done i k = ((done[k] || !(G[k][i]'(by omega))) && clearR G done i (k + 1)) := by
        unfold clearR
        rw [drop_range hk, List.all_cons]
        congr 1
        rw [List.getD_eq_getElem?_getD, List.getElem?_eq_getElem hk, List.getD_eq_getElem?_getD (l := G), List.getElem?_eq_getElem hkG]
        simp only [Option.getD_some]
        rw [List.getD_eq_getElem?_getD, List.getElem?_eq_getElem (by omega)]
        rfl
      rw [ec, Bool.true_and] at h
      simp only [spec_SortNodes_O.l2, ltd hk, cond_true, hin, Option.bind_some, Int.toNat_natCast, List.getElem?_eq_getElem hk]
      cases hd : done[k] with
      | true =>
        simp only [cond_true]
        refine Ev.step ?_
        simp only [spec_SortNodes_O.j2, wup hk hn]
        refine ih (k + 1) true (by omega) (by omega) ?_
        rw [hd] at h; simpa using h
      | false =>
        simp only [cond_false, ixg hkG, Option.bind_some, ixg (show i < (G[k]).length by omega)]
        refine Ev.step ?_
        simp only [spec_SortNodes_O.j2, wup hk hn]
        refine ih (k + 1) _ (by omega) (by omega) ?_
        rw [hd, Bool.false_or] at h; exact h
theorem ref_next (hn : done.length ≤ 2000000) (hG : G.length = done.length) (hR : ∀ r ∈ G, r.length = done.length) {r : List Int} :
    ∀ (d i : Nat), done.length - i ≤ d → i ≤ done.length → Ev (fun q => spec_SortNodes_O.j0 q out done.length (nextR G done i) g ⟨G⟩ done) r → Ev (fun q => spec_SortNodes_O.l1 q out done.length (-1) (i : Int) g ⟨G⟩ done) r := by
  have fin : ∀ (i : Nat), ¬ i < done.length → Ev (fun q => spec_SortNodes_O.j0 q out done.length (nextR G done i) g ⟨G⟩ done) r → Ev (fun q => spec_SortNodes_O.l1 q out done.length (-1) (i : Int) g ⟨G⟩ done) r := fun i hi h => by
    refine Ev.step ?_
    simp only [spec_SortNodes_O.l1, ltn hi, cond_false]
    have e : nextR G done i = -1 := by unfold nextR; rw [List.drop_of_length_le (by simp; omega)]; rfl
    rw [e] at h
    exact h
  intro d
  induction d with
  | zero => intro i h1 h2 h; exact fin i (by omega) h
  | succ d ih =>
    intro i h1 h2 h
    by_cases hi : i < done.length
    case neg => exact fin i hi h
    refine Ev.step ?_
    have hin : inr (i : Int) done.length = some () := by unfold inr; rw [if_pos (by omega)]
    simp only [spec_SortNodes_O.l1, ltd hi, cond_true, show decide ((-1 : Int) < 0) = true from rfl, hin, Option.bind_some, Int.toNat_natCast, List.getElem?_eq_getElem hi]
    refine ref_in hn hG hR hi (-1) _ 0 _ (Nat.le_refl _) (Nat.zero_le _) ?_
    have ef : (!done[i] && clearR G done i 0) = freeR G done i := by
      unfold freeR
      rw [List.getD_eq_getElem?_getD, List.getElem?_eq_getElem hi]; rfl
    rw [ef]
    refine Ev.step ?_
    cases hf : freeR G done i with
    | true =>
      simp only [spec_SortNodes_O.j1, cond_true]
      refine Ev.step ?_
      simp only [spec_SortNodes_O.j3, wup hi hn]
      have e : nextR G done i = (i : Int) := by unfold nextR; rw [drop_range hi, List.find?_cons, hf]
      rw [e] at h
      refine Ev.step ?_
      by_cases h3 : i + 1 < done.length
      · simp only [spec_SortNodes_O.l1, ltd h3, cond_true, decide_eq_false (show ¬ (i : Int) < 0 by omega), cond_false]; exact h
      · simp only [spec_SortNodes_O.l1, ltn h3, cond_false]; exact h
    | false =>
      simp only [spec_SortNodes_O.j1, cond_false]
      refine Ev.step ?_
      simp only [spec_SortNodes_O.j3, wup hi hn]
      refine ih (i + 1) (by omega) (by omega) ?_
      have e : nextR G done i = nextR G done (i + 1) := by unfold nextR; rw [drop_range hi, List.find?_cons, hf]
      rw [← e]; exact h
end
end Go.Ab
namespace Go.Ab
open Go.Proofs
set_option linter.unusedVariables false
set_option linter.unusedSimpArgs false
/-- One node after another. -/
def srtR (G : List (List Bool)) (ids : List Int) : Nat → List Bool → List Int → List Int
 | 0, _, out => out
 | t + 1, done, out => if nextR G done 0 < 0 then [] else srtR G ids t (done.set (nextR G done 0).toNat true) (out ++ [ids.getD (nextR G done 0).toNat 0])
theorem nextR_lt {G : List (List Bool)} {done : List Bool} {i : Nat} (h : ¬ nextR G done i < 0) : (nextR G done i).toNat < done.length ∧ nextR G done i = ((nextR G done i).toNat : Int) ∧ freeR G done (nextR G done i).toNat = true := by
  unfold nextR at h ⊢
  cases e : ((List.range done.length).drop i).find? (freeR G done) with
  | none => rw [e] at h; exact absurd (by decide : (-1 : Int) < 0) h
  | some x =>
    have h1 := List.mem_of_find?_eq_some e
    have h2 := List.find?_some e
    have h3 := List.mem_range.1 (List.mem_of_mem_drop h1)
    exact ⟨by simpa using h3, by simp, by simpa using h2⟩
theorem ref_all {g : S31} {G : List (List Bool)} {n : Nat} (hn : n ≤ 200) (hgn : g.f0.length = n) (hG : G.length = n) (hR : ∀ r ∈ G, r.length = n) :
    ∀ (t : Nat) (done : List Bool) (out : List Int), done.length = n → out.length + t = n → Ev (fun q => spec_SortNodes_O.l0 q out n g ⟨G⟩ done) (srtR G (g.f0.map (·.f0)) t done out) := by
  intro t
  induction t with
  | zero =>
    intro done out hd ho
    refine Ev.step ?_
    simp only [spec_SortNodes_O.l0, decide_eq_false (show ¬ (out.length : Int) < (g.f0.length : Int) by omega), cond_false]
    exact Ev.ret _
  | succ t ih =>
    intro done out hd ho
    refine Ev.step ?_
    simp only [spec_SortNodes_O.l0, decide_eq_true (show (out.length : Int) < (g.f0.length : Int) by omega), cond_true]
    have hnx := ref_next (g := g) (G := G) (done := done) (out := out) (by omega) (by omega) (fun r hr => by rw [hR r hr, hd]) (r := srtR G (g.f0.map (·.f0)) (t + 1) done out) _ 0 (Nat.le_refl _) (Nat.zero_le _)
    rw [hd] at hnx
    refine hnx (Ev.step ?_)
    by_cases hf : nextR G done 0 < 0
    · simp only [spec_SortNodes_O.j0, decide_eq_true hf, cond_true]
      refine (Ev.ret _).eq ?_
      simp only [srtR]; rw [if_pos hf]
    · obtain ⟨x1, x2, _⟩ := nextR_lt hf
      generalize hx : (nextR G done 0).toNat = x at x1 x2
      have hin : inr (x : Int) n = some () := by unfold inr; rw [if_pos (by omega)]
      have hxg : x < g.f0.length := by omega
      simp only [spec_SortNodes_O.j0, decide_eq_false hf, cond_false]
      rw [x2]
      simp only [hin, Option.bind_some, Int.toNat_natCast, List.getElem?_eq_getElem x1, ixg hxg]
      have ha : app out [(g.f0[x]).f0] = some (out ++ [(g.f0[x]).f0]) := by unfold app; rw [if_pos (by simp; omega)]
      simp only [ha, Option.bind_some, setr]
      refine (ih (done.set x true) (out ++ [(g.f0[x]).f0]) (by simp [hd]) (by simp; omega)).eq ?_
      simp only [srtR]
      rw [if_neg hf, hx]
      congr 2
      rw [List.getD_eq_getElem?_getD, List.getElem?_map, List.getElem?_eq_getElem hxg]
      rfl
end Go.Ab
namespace Go.Ab
open Go.Proofs
set_option linter.unusedVariables false
set_option linter.unusedSimpArgs false
/-- How many of the edges lead to x. -/
def toN (es : List S68) (x : Int) : Nat := (es.filter fun e => e.f3 == x).length
theorem toN_le (es : List S68) (x : Int) : toN es x ≤ es.length := List.length_filter_le _ _
theorem toN_snoc (es : List S68) (e : S68) (x : Int) : toN (es ++ [e]) x = toN es x + (if x = e.f3 then 1 else 0) := by
  unfold toN
  rw [List.filter_append, List.length_append]
  by_cases h : x = e.f3
  · subst h; simp
  · have : (e.f3 == x) = false := by simpa using fun h' => h h'.symm
    simp [h, this]
theorem count_ev {g : S31} (hl : g.f1.length ≤ 400) {r : List Int × Bool} (hr : ∀ tb : List (Int × Int), (∀ x, tget tb x 0 = (toN g.f1 x : Int)) → Ev (fun q => impl_sortNodes_O.l1 q [] g 0 tb []) r) :
    ∀ (d i : Nat) (tb : List (Int × Int)), g.f1.length - i ≤ d → i ≤ g.f1.length → (∀ x, tget tb x 0 = (toN (g.f1.take i) x : Int)) → Ev (fun q => impl_sortNodes_O.l0 q g (i : Int) tb) r := by
  have fin : ∀ (i : Nat) (tb : List (Int × Int)), ¬ i < g.f1.length → (∀ x, tget tb x 0 = (toN (g.f1.take i) x : Int)) → Ev (fun q => impl_sortNodes_O.l0 q g (i : Int) tb) r := fun i tb hi ht => by
    refine Ev.step ?_
    simp only [impl_sortNodes_O.l0, ltn hi, cond_false]
    rw [List.take_of_length_le (by omega)] at ht
    exact hr tb ht
  intro d
  induction d with
  | zero => intro i tb h1 h2 ht; exact fin i tb (by omega) ht
  | succ d ih =>
    intro i tb h1 h2 ht
    by_cases hi : i < g.f1.length
    case neg => exact fin i tb hi ht
    refine Ev.step ?_
    simp only [impl_sortNodes_O.l0, ltd hi, cond_true, ixg hi, Option.bind_some, wup hi (show g.f1.length ≤ 2000000 by omega)]
    refine ih (i + 1) _ (by omega) (by omega) fun x => ?_
    have hle : toN (g.f1.take i) g.f1[i].f3 ≤ 400 := Nat.le_trans (toN_le _ _) (Nat.le_trans (by rw [List.length_take]; omega) hl)
    rw [tget_tput, List.take_succ_eq_append_getElem hi, toN_snoc]
    by_cases e : x = g.f1[i].f3
    · rw [if_pos e, if_pos e, ht, wI (by omega) (by omega), e]; omega
    · rw [if_neg e, if_neg e, ht]; rfl
theorem around_l0 {g : S31} (hl : g.f1.length ≤ 400) (id : Int) : ∀ (d i : Nat) (acc : List Int), g.f1.length - i ≤ d → acc.length ≤ i → Ev (fun q => impl_around.l0 q id false acc g (i : Int)) (acc ++ ((g.f1.drop i).filter fun e => e.f2 == id).map (·.f3)) := by
  have fin : ∀ (i : Nat) (acc : List Int), ¬ i < g.f1.length → Ev (fun q => impl_around.l0 q id false acc g (i : Int)) (acc ++ ((g.f1.drop i).filter fun e => e.f2 == id).map (·.f3)) := fun i acc hi => by
    refine Ev.step ?_
    simp only [impl_around.l0, ltn hi, cond_false]
    rw [List.drop_of_length_le (by omega)]
    simpa using Ev.ret acc
  intro d
  induction d with
  | zero => intro i acc h1 h2; exact fin i acc (by omega)
  | succ d ih =>
    intro i acc h1 h2
    by_cases hi : i < g.f1.length
    case neg => exact fin i acc hi
    refine Ev.step ?_
    rw [List.drop_eq_getElem_cons hi]
    cases he : (g.f1[i].f2 == id) with
    | true =>
      simp only [impl_around.l0, ltd hi, cond_true, ixg hi, Option.bind_some, cond_false, he]
      have ha : app acc [(g.f1[i]).f3] = some (acc ++ [(g.f1[i]).f3]) := by unfold app; rw [if_pos (by simp; omega)]
      simp only [ha, Option.bind_some]
      refine Ev.step ?_
      simp only [impl_around.j1, cond_false, wup hi (show g.f1.length ≤ 2000000 by omega)]
      refine (ih (i + 1) (acc ++ [(g.f1[i]).f3]) (by omega) (by simp; omega)).eq ?_
      rw [List.filter_cons, if_pos he]; simp
    | false =>
      simp only [impl_around.l0, ltd hi, cond_true, ixg hi, Option.bind_some, cond_false, he]
      refine Ev.step ?_
      simp only [impl_around.j0]
      refine Ev.step ?_
      simp only [impl_around.j1, cond_false, wup hi (show g.f1.length ≤ 2000000 by omega)]
      refine (ih (i + 1) acc (by omega) (by omega)).eq ?_
      rw [List.filter_cons, if_neg (by simp [he])]
theorem around_ev {g : S31} (hl : g.f1.length ≤ 400) (id : Int) : Ev (fun q => impl_around.f q g id false) ((g.f1.filter fun e => e.f2 == id).map (·.f3)) := by
  refine Ev.step ?_
  simp only [impl_around.f]
  have h := around_l0 hl id _ 0 [] (Nat.le_refl _) (Nat.le_refl _)
  simpa using h
/-- What is taken off. -/
theorem less_ev {g : S31} {out tos : List Int} {v5 id : Int} {gone : List (Int × Int)} {W : Int → Int} (ht : tos.length ≤ 400) (hW : ∀ x, -1000 ≤ W x - 400 ∧ W x ≤ 1000) {r : List Int × Bool}
    (hr : ∀ tb : List (Int × Int), (∀ x, tget tb x 0 = W x - (tos.count x : Int)) → Ev (fun q => impl_sortNodes_O.l1 q out g (IntKind.i64.wrap (v5 + 1)) tb (tput gone id 1)) r) :
    ∀ (d i : Nat) (tb : List (Int × Int)), tos.length - i ≤ d → (∀ x, tget tb x 0 = W x - ((tos.take i).count x : Int)) → Ev (fun q => impl_sortNodes_O.l3 q out g v5 tos (i : Int) tb gone id) r := by
  have fin : ∀ (i : Nat) (tb : List (Int × Int)), ¬ i < tos.length → (∀ x, tget tb x 0 = W x - ((tos.take i).count x : Int)) → Ev (fun q => impl_sortNodes_O.l3 q out g v5 tos (i : Int) tb gone id) r := fun i tb hi h => by
    refine Ev.step ?_
    simp only [impl_sortNodes_O.l3, ltn hi, cond_false]
    rw [List.take_of_length_le (by omega)] at h
    exact hr tb h
  intro d
  induction d with
  | zero => intro i tb h1 h; exact fin i tb (by omega) h
  | succ d ih =>
    intro i tb h1 h
    by_cases hi : i < tos.length
    case neg => exact fin i tb hi h
    refine Ev.step ?_
    simp only [impl_sortNodes_O.l3, ltd hi, cond_true, ixg hi, Option.bind_some, wup hi (show tos.length ≤ 2000000 by omega)]
    refine ih (i + 1) _ (by omega) fun x => ?_
    have hc : (tos.take i).count tos[i] ≤ 400 := Nat.le_trans List.count_le_length (Nat.le_trans (by rw [List.length_take]; omega) ht)
    have hw := hW tos[i]
    rw [tget_tput, List.take_succ_eq_append_getElem hi, List.count_append]
    by_cases e : x = tos[i]
    · rw [if_pos e, h, wI (by omega) (by omega), e]
      simp; omega
    · rw [if_neg e, h]
      have : List.count x [tos[i]] = 0 := by rw [List.count_singleton]; simp; exact fun h => e h.symm
      rw [this]; simp
end Go.Ab
