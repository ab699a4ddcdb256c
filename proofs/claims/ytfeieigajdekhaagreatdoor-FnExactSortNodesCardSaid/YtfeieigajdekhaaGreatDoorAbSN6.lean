/- Both choose the same node. No condition. -/
import Derived.Test.YtfeieigajdekhaaGreatDoorAbSN1
import Derived.Test.YtfeieigajdekhaaGreatDoorAbMK0
namespace Go.Ab
open Go.Proofs
set_option linter.unusedVariables false
set_option linter.unusedSimpArgs false
theorem ids_lt {g : S31} (h : ∀ j (h : j < g.f0.length), 0 < j → (g.f0[j - 1]'(by omega)).f0 < g.f0[j].f0) : ∀ (d a b : Nat) (ha : a < g.f0.length) (hb : b < g.f0.length), b = a + d + 1 → g.f0[a].f0 < g.f0[b].f0
  | 0, a, b, ha, hb, e => by
    subst e
    have := h (a + 0 + 1) hb (by omega)
    simpa using this
  | d + 1, a, b, ha, hb, e => by
    subst e
    have h1 := ids_lt h d a (a + d + 1) ha (by omega) rfl
    have h2 := h (a + (d + 1) + 1) hb (by omega)
    have e2 : a + (d + 1) + 1 - 1 = a + d + 1 := by omega
    simp only [e2] at h2
    omega
theorem ids_inj {g : S31} (h : ∀ j (h : j < g.f0.length), 0 < j → (g.f0[j - 1]'(by omega)).f0 < g.f0[j].f0) {a b : Nat} (ha : a < g.f0.length) (hb : b < g.f0.length) (e : g.f0[a].f0 = g.f0[b].f0) : a = b := by
  rcases Nat.lt_trichotomy a b with q | q | q
  · have := ids_lt h (b - a - 1) a b ha hb (by omega); omega
  · exact q
  · have := ids_lt h (a - b - 1) b a hb ha (by omega); omega
/-- Edges, with the places of their ends, that still hold a node back. -/
def wl (Z : List (S68 × (Nat × Nat))) (done : List Bool) (x : Int) : Nat := (Z.filter fun q => q.1.f3 == x && !done.getD q.2.1 false).length
def Zok (g : S31) (Z : List (S68 × (Nat × Nat))) : Prop := ∀ q ∈ Z, q.2.1 < g.f0.length ∧ q.2.2 < g.f0.length ∧ (g.f0[q.2.1]?).map (·.f0) = some q.1.f2 ∧ (g.f0[q.2.2]?).map (·.f0) = some q.1.f3
theorem zip_ok {g : S31} {es : List S68} {l : List (Nat × Nat)} (h : Ends g es l) : Zok g (es.zip l) := fun q hq => by
  obtain ⟨j, hj, rfl⟩ := List.getElem_of_mem hq
  have hl := h.1
  rw [List.length_zip] at hj
  rw [List.getElem_zip]
  exact h.2 j _ _ (List.getElem?_eq_getElem (by omega)) (List.getElem?_eq_getElem (by omega))
theorem place_iff {g : S31} (hi : ∀ j (h : j < g.f0.length), 0 < j → (g.f0[j - 1]'(by omega)).f0 < g.f0[j].f0) {p i : Nat} {id : Int} (hp : p < g.f0.length) (h : (g.f0[p]?).map (·.f0) = some id) (hl : i < g.f0.length) : id = g.f0[i].f0 ↔ p = i := by
  rw [List.getElem?_eq_getElem hp] at h
  simp only [Option.map_some, Option.some.injEq] at h
  constructor
  · intro e; exact ids_inj hi hp hl (h.trans e)
  · intro e; subst e; exact h.symm
/-- What is taken off when i is done. -/
theorem wl_step {g : S31} (hi : ∀ j (h : j < g.f0.length), 0 < j → (g.f0[j - 1]'(by omega)).f0 < g.f0[j].f0) {done : List Bool} (hd : done.length = g.f0.length) {i : Nat} (hl : i < g.f0.length) (hf : done.getD i false = false) (x : Int) :
    ∀ Z : List (S68 × (Nat × Nat)), Zok g Z → wl Z (done.set i true) x + (((Z.map (·.1)).filter fun e => e.f2 == g.f0[i].f0).map (·.f3)).count x = wl Z done x
  | [], _ => rfl
  | q :: Z, h => by
    have ih := wl_step hi hd hl hf x Z fun r hr => h r (List.mem_cons_of_mem _ hr)
    obtain ⟨h1, h2, h3, h4⟩ := h q List.mem_cons_self
    have hpl := place_iff hi h1 h3 hl
    have hset : (done.set i true).getD q.2.1 false = if q.2.1 = i then true else done.getD q.2.1 false := by
      rw [List.getD_eq_getElem?_getD, List.getD_eq_getElem?_getD, List.getElem?_set]
      by_cases e : i = q.2.1
      · rw [if_pos e, if_pos e.symm, if_pos (by omega)]; rfl
      · rw [if_neg e, if_neg (fun h => e h.symm)]
    unfold wl at ih ⊢
    simp only [List.filter_cons, List.map_cons]
    rw [hset]
    by_cases e : q.2.1 = i
    · have ef : (q.1.f2 == g.f0[i].f0) = true := by rw [beq_iff_eq]; exact hpl.2 e
      rw [if_pos e, ef]
      have hdf : done.getD q.2.1 false = false := by rw [e]; exact hf
      rw [hdf]
      simp only [if_true, Bool.not_true, Bool.and_false, Bool.false_eq_true, if_false, Bool.not_false, Bool.and_true, List.map_cons]
      rw [List.count_cons]
      by_cases ex : q.1.f3 = x
      · have e3 : (q.1.f3 == x) = true := by simpa using ex
        rw [e3]; simp only [if_true, List.length_cons]; omega
      · have e3 : (q.1.f3 == x) = false := by simpa using ex
        rw [e3]; simp only [Bool.false_eq_true, if_false]; omega
    · have ef : (q.1.f2 == g.f0[i].f0) = false := by
        rw [beq_eq_false_iff_ne]; exact fun h => e (hpl.1 h)
      rw [if_neg e, ef]
      simp only [Bool.false_eq_true, if_false]
      split
      · simp only [List.length_cons]; omega
      · exact ih
end Go.Ab
namespace Go.Ab
open Go.Proofs
set_option linter.unusedVariables false
set_option linter.unusedSimpArgs false
theorem grid_at {n : Nat} {l : List (Nat × Nat)} {k i : Nat} (hk : k < n) (hi : i < n) : ((gridOf n l).getD k []).getD i false = l.any fun p => p.1 == k && p.2 == i := by
  unfold gridOf
  rw [List.getD_eq_getElem?_getD (l := (List.range n).map _), List.getElem?_map, List.getElem?_range hk]
  simp only [Option.map_some, Option.getD_some]
  rw [List.getD_eq_getElem?_getD, List.getElem?_map, List.getElem?_range hi]
  rfl
/-- A node is free: nothing holds it back. -/
theorem free_iff {g : S31} (hi : ∀ j (h : j < g.f0.length), 0 < j → (g.f0[j - 1]'(by omega)).f0 < g.f0[j].f0) {l : List (Nat × Nat)} (hE : Ends g g.f1 l) {done : List Bool} (hd : done.length = g.f0.length) {i : Nat} (hl : i < g.f0.length) :
    clearR (gridOf g.f0.length l) done i 0 = (wl (g.f1.zip l) done g.f0[i].f0 == 0) := by
  have hZ := zip_ok hE
  rw [Bool.eq_iff_iff]
  unfold clearR wl
  rw [List.drop_zero, List.all_eq_true, beq_iff_eq, List.length_eq_zero_iff, List.filter_eq_nil_iff]
  constructor
  · intro h q hq hc
    obtain ⟨h1, h2, h3, h4⟩ := hZ q hq
    simp only [Bool.and_eq_true, beq_iff_eq, Bool.not_eq_true'] at hc
    have e2 := (place_iff hi h2 h4 hl).1 hc.1
    have := h q.2.1 (List.mem_range.2 (by omega))
    rw [hc.2, Bool.false_or, grid_at h1 hl] at this
    simp only [Bool.not_eq_true', List.any_eq_false] at this
    have hm : q.2 ∈ l := (List.of_mem_zip hq).2
    have := this q.2 hm
    simp [e2] at this
  · intro h k hk
    have hkn : k < g.f0.length := by have := List.mem_range.1 hk; omega
    rw [grid_at hkn hl]
    cases hdk : done.getD k false with
    | true => rfl
    | false =>
      rw [Bool.false_or, Bool.not_eq_true', List.any_eq_false]
      intro p hp hc
      simp only [Bool.and_eq_true, beq_iff_eq] at hc
      obtain ⟨j, hj, rfl⟩ := List.getElem_of_mem hp
      have hj1 : j < g.f1.length := by have := hE.1; omega
      have hq : (g.f1[j], l[j]) ∈ g.f1.zip l := by
        have hz : j < (g.f1.zip l).length := by rw [List.length_zip]; omega
        have := List.getElem_mem hz
        rwa [List.getElem_zip] at this
      obtain ⟨h1, h2, h3, h4⟩ := hZ _ hq
      refine h _ hq ?_
      simp only [Bool.and_eq_true, beq_iff_eq, Bool.not_eq_true']
      refine ⟨(place_iff hi h2 h4 hl).2 hc.2, ?_⟩
      show done.getD (l[j]).1 false = false
      rw [hc.1]; exact hdk
end Go.Ab
namespace Go.Ab
open Go.Proofs
set_option linter.unusedVariables false
set_option linter.unusedSimpArgs false
section
variable {g : S31} {l : List (Nat × Nat)} {done : List Bool} {out : List Int} {waits gone : List (Int × Int)} {v5 : Int}
def Gone (g : S31) (done : List Bool) (gone : List (Int × Int)) : Prop := ∀ x (h : x < g.f0.length), tget gone g.f0[x].f0 0 = if done.getD x false then 1 else 0
def chosen (g : S31) (l : List (Nat × Nat)) (done : List Bool) (i : Nat) : Int := if nextR (gridOf g.f0.length l) done i < 0 then 0 else (g.f0.map (·.f0)).getD (nextR (gridOf g.f0.length l) done i).toNat 0
theorem prog_next (hn : g.f0.length ≤ 200) (hi : ∀ j (h : j < g.f0.length), 0 < j → (g.f0[j - 1]'(by omega)).f0 < g.f0[j].f0) (hE : Ends g g.f1 l) (hd : done.length = g.f0.length) (hg : Gone g done gone) (hw : ∀ x, tget waits x 0 = (wl (g.f1.zip l) done x : Int)) {r : List Int × Bool} :
    ∀ (d i : Nat), g.f0.length - i ≤ d → i ≤ g.f0.length → Ev (fun q => impl_sortNodes_O.j1 q out (chosen g l done i) g v5 waits gone) r → Ev (fun q => impl_sortNodes_O.l2 q out g v5 (i : Int) waits gone) r := by
  have fin : ∀ (i : Nat), ¬ i < g.f0.length → Ev (fun q => impl_sortNodes_O.j1 q out (chosen g l done i) g v5 waits gone) r → Ev (fun q => impl_sortNodes_O.l2 q out g v5 (i : Int) waits gone) r := fun i hil h => by
    refine Ev.step ?_
    simp only [impl_sortNodes_O.l2, ltn hil, cond_false]
    have e : nextR (gridOf g.f0.length l) done i = -1 := by unfold nextR; rw [List.drop_of_length_le (by simp; omega)]; rfl
    unfold chosen at h
    rw [e, if_pos (by decide)] at h
    exact h
  intro d
  induction d with
  | zero => intro i h1 h2 h; exact fin i (by omega) h
  | succ d ih =>
    intro i h1 h2 h
    by_cases hil : i < g.f0.length
    case neg => exact fin i hil h
    refine Ev.step ?_
    simp only [impl_sortNodes_O.l2, ltd hil, cond_true, ixg hil, Option.bind_some, hg i hil, hw]
    have hcl := free_iff hi hE hd hil
    have skip : freeR (gridOf g.f0.length l) done i = false → Ev (fun q => impl_sortNodes_O.j0 q out g v5 (i : Int) waits gone) r := fun hf => by
      refine Ev.step ?_
      simp only [impl_sortNodes_O.j0, wup hil (show g.f0.length ≤ 2000000 by omega)]
      refine ih (i + 1) (by omega) (by omega) ?_
      have e : nextR (gridOf g.f0.length l) done i = nextR (gridOf g.f0.length l) done (i + 1) := by unfold nextR; rw [drop_range (by omega), List.find?_cons, hf]
      unfold chosen at h ⊢
      rw [← e]; exact h
    cases hdi : done.getD i false with
    | true =>
      simp only [if_true, show ((1 : Int) == 0) = false from rfl, cond_false]
      exact skip (by unfold freeR; rw [hdi]; rfl)
    | false =>
      simp only [Bool.false_eq_true, if_false, beq_self_eq_true, cond_true]
      by_cases hz : wl (g.f1.zip l) done g.f0[i].f0 = 0
      · have hf : freeR (gridOf g.f0.length l) done i = true := by unfold freeR; rw [hdi, hcl, hz]; rfl
        have e0 : (((wl (g.f1.zip l) done g.f0[i].f0 : Nat) : Int) == 0) = true := by rw [hz]; rfl
        simp only [e0, cond_true]
        have e : nextR (gridOf g.f0.length l) done i = (i : Int) := by unfold nextR; rw [drop_range (by omega), List.find?_cons, hf]
        unfold chosen at h
        rw [e, if_neg (by omega), Int.toNat_natCast, List.getD_eq_getElem?_getD, List.getElem?_map, List.getElem?_eq_getElem hil] at h
        exact h
      · have hf : freeR (gridOf g.f0.length l) done i = false := by
          unfold freeR; rw [hdi, hcl]
          have : (wl (g.f1.zip l) done g.f0[i].f0 == 0) = false := by simpa using hz
          rw [this]; rfl
        have e0 : (((wl (g.f1.zip l) done g.f0[i].f0 : Nat) : Int) == 0) = false := by
          rw [beq_eq_false_iff_ne]; omega
        simp only [e0, cond_false]
        exact skip hf
end
def okR (G : List (List Bool)) : Nat → List Bool → Bool
 | 0, _ => true
 | t + 1, done => if nextR G done 0 < 0 then false else okR G t (done.set (nextR G done 0).toNat true)
theorem wl_le (Z : List (S68 × (Nat × Nat))) (done : List Bool) (x : Int) : wl Z done x ≤ Z.length := List.length_filter_le _ _
theorem prog_all {g : S31} {l : List (Nat × Nat)} (hn : g.f0.length ≤ 200) (hm : g.f1.length ≤ 400) (hi : ∀ j (h : j < g.f0.length), 0 < j → (g.f0[j - 1]'(by omega)).f0 < g.f0[j].f0) (hp : ∀ x ∈ g.f0, 1 ≤ x.f0) (hE : Ends g g.f1 l) :
    ∀ (t : Nat) (done : List Bool) (out : List Int) (waits gone : List (Int × Int)), t ≤ g.f0.length → done.length = g.f0.length → out.length + t = g.f0.length → Gone g done gone → (∀ x, tget waits x 0 = (wl (g.f1.zip l) done x : Int)) →
      Ev (fun q => impl_sortNodes_O.l1 q out g ((g.f0.length - t : Nat) : Int) waits gone) (srtR (gridOf g.f0.length l) (g.f0.map (·.f0)) t done out, okR (gridOf g.f0.length l) t done) := by
  intro t
  induction t with
  | zero =>
    intro done out waits gone ht hd ho hg hw
    refine Ev.step ?_
    simp only [impl_sortNodes_O.l1, ltn (show ¬ g.f0.length - 0 < g.f0.length by omega), cond_false]
    exact Ev.ret _
  | succ t ih =>
    intro done out waits gone ht hd ho hg hw
    have hlt : g.f0.length - (t + 1) < g.f0.length := by omega
    by_cases hf : nextR (gridOf g.f0.length l) done 0 < 0
    · refine Ev.step ?_
      simp only [impl_sortNodes_O.l1, ltd hlt, cond_true]
      refine prog_next hn hi hE hd hg hw _ 0 (Nat.le_refl _) (Nat.zero_le _) (Ev.step ?_)
      have e : chosen g l done 0 = 0 := by unfold chosen; rw [if_pos hf]
      rw [e]
      simp only [impl_sortNodes_O.j1, beq_self_eq_true, cond_true]
      refine (Ev.ret _).eq ?_
      simp only [srtR, okR]; rw [if_pos hf, if_pos hf]
    · obtain ⟨x1, x2, x3⟩ := nextR_lt hf
      have hxg : (nextR (gridOf g.f0.length l) done 0).toNat < g.f0.length := by omega
      generalize hx : (nextR (gridOf g.f0.length l) done 0).toNat = x at x1 x2 x3 hxg
      have ec : chosen g l done 0 = g.f0[x].f0 := by
        unfold chosen; rw [if_neg hf, hx, List.getD_eq_getElem?_getD, List.getElem?_map, List.getElem?_eq_getElem hxg]; rfl
      have hpos := hp _ (List.getElem_mem hxg)
      have e0 : (g.f0[x].f0 == 0) = false := by rw [beq_eq_false_iff_ne]; omega
      have hdx : done.getD x false = false := by
        unfold freeR at x3
        cases h : done.getD x false with
        | false => rfl
        | true => rw [h] at x3; cases x3
      have hZl : (g.f1.zip l).length ≤ 400 := by rw [List.length_zip]; omega
      have hZm : (g.f1.zip l).map (·.1) = g.f1 := by
        rw [List.map_fst_zip]; have := hE.1; omega
      have hst := fun y => wl_step hi hd hxg hdx y (g.f1.zip l) (zip_ok hE)
      rw [hZm] at hst
      have hgone' : Gone g (done.set x true) (tput gone g.f0[x].f0 1) := fun y hy => by
        rw [tget_tput, List.getD_eq_getElem?_getD, List.getElem?_set]
        by_cases e : y = x
        · subst e
          simp [x1]
        · have e1 : g.f0[y].f0 ≠ g.f0[x].f0 := fun h => e (ids_inj hi hy hxg h)
          have e2 : ¬ x = y := fun h => e h.symm
          rw [if_neg e1, if_neg e2, hg y hy, List.getD_eq_getElem?_getD]
      have hsr : srtR (gridOf g.f0.length l) (g.f0.map (·.f0)) (t + 1) done out = srtR (gridOf g.f0.length l) (g.f0.map (·.f0)) t (done.set x true) (out ++ [g.f0[x].f0]) := by
        simp only [srtR]
        rw [if_neg hf, hx, List.getD_eq_getElem?_getD, List.getElem?_map, List.getElem?_eq_getElem hxg]
        rfl
      have hw' : ∀ tb : List (Int × Int), (∀ y, tget tb y 0 = (wl (g.f1.zip l) done y : Int) - ((((g.f1.filter fun e => e.f2 == g.f0[x].f0).map (·.f3)).count y : Nat) : Int)) → ∀ y, tget tb y 0 = (wl (g.f1.zip l) (done.set x true) y : Int) := fun tb h y => by
        have := hst y
        rw [h]; omega
      have hok : okR (gridOf g.f0.length l) (t + 1) done = okR (gridOf g.f0.length l) t (done.set x true) := by
        simp only [okR]; rw [if_neg hf, hx]
      rw [hsr, hok]
      refine Ev.step ?_
      simp only [impl_sortNodes_O.l1, ltd hlt, cond_true]
      refine prog_next hn hi hE hd hg hw _ 0 (Nat.le_refl _) (Nat.zero_le _) (Ev.step ?_)
      rw [ec]
      have ha : app out [g.f0[x].f0] = some (out ++ [g.f0[x].f0]) := by unfold app; rw [if_pos (by simp; omega)]
      simp only [impl_sortNodes_O.j1, e0, cond_false, ha, Option.bind_some]
      refine Ev.bind (around_ev hm _) ?_
      have hlen : ((g.f1.filter fun e => e.f2 == g.f0[x].f0).map (·.f3)).length ≤ 400 := by rw [List.length_map]; exact Nat.le_trans (List.length_filter_le _ _) hm
      refine less_ev (W := fun y => (wl (g.f1.zip l) done y : Int)) hlen (fun y => by have := wl_le (g.f1.zip l) done y; omega) (fun tb htb => ?_) _ 0 _ (Nat.le_refl _) (fun y => by rw [hw]; simp)
      rw [wup hlt (by omega), show g.f0.length - (t + 1) + 1 = g.f0.length - t by omega]
      exact ih (done.set x true) _ tb _ (by omega) (by simp [hd]) (by simp; omega) hgone' (hw' tb htb)
end Go.Ab
namespace Go.Ab
open Go.Proofs
set_option linter.unusedVariables false
set_option linter.unusedSimpArgs false
theorem sort2 (g : S31) : ∃ R : List Int, R.length ≤ 2000000 ∧ Ev (fun k => spec_SortNodes_O.f k g) R ∧ Ev (fun k => impl_SortNodes_O.f k g) R := by
  obtain ⟨c, s1, s2⟩ := graph2 g
  cases c with
  | false =>
    refine ⟨[], by simp, Ev.step ?_, ?_⟩
    · simp only [spec_SortNodes_O.f]
      refine Ev.bind s1 ?_
      simp only [Bool.false_eq_true, if_false, show ((1 : Int) == 0) = false from rfl, cond_false]
      exact Ev.ret _
    · unfold impl_SortNodes_O.f
      refine Ev.bind s2 ?_
      simp only [cond_false]
      exact Ev.ret _
  | true =>
    obtain ⟨hn, hm, hi, hp, he⟩ := gf_facts (g := g) s1
    obtain ⟨l, l1, l2⟩ := linked_ev hn hm he
    have hG : (gridOf g.f0.length l).length = g.f0.length := by unfold gridOf; simp
    have hR : ∀ r ∈ gridOf g.f0.length l, r.length = g.f0.length := fun r hr => by
      unfold gridOf at hr
      obtain ⟨x, _, rfl⟩ := List.mem_map.1 hr
      simp
    have href := ref_all (g := g) hn rfl hG hR g.f0.length (List.replicate g.f0.length false) [] (by simp) (by simp)
    have hgone : Gone g (List.replicate g.f0.length false) [] := fun x hx => by
      rw [List.getD_eq_getElem?_getD, List.getElem?_replicate, if_pos hx]; rfl
    have hwl : ∀ x, toN g.f1 x = wl (g.f1.zip l) (List.replicate g.f0.length false) x := fun x => by
      unfold toN wl
      have e : (g.f1.zip l).map (·.1) = g.f1 := by rw [List.map_fst_zip]; have := l2.1; omega
      conv => lhs; rw [← e]
      rw [List.filter_map, List.length_map]
      congr 1
      refine List.filter_congr fun q hq => ?_
      have hd : (List.replicate g.f0.length false).getD q.2.1 false = false := by
        rw [List.getD_eq_getElem?_getD, List.getElem?_replicate]; split <;> rfl
      rw [hd]; simp
    have hprog : Ev (fun k => impl_sortNodes_O.f k g) (srtR (gridOf g.f0.length l) (g.f0.map (·.f0)) g.f0.length (List.replicate g.f0.length false) [], okR (gridOf g.f0.length l) g.f0.length (List.replicate g.f0.length false)) := by
      refine Ev.step ?_
      simp only [impl_sortNodes_O.f]
      refine count_ev hm (fun tb htb => ?_) _ 0 [] (Nat.le_refl _) (Nat.zero_le _) (fun x => rfl)
      have h := prog_all hn hm hi hp l2 g.f0.length (List.replicate g.f0.length false) [] tb [] (Nat.le_refl _) (by simp) (by simp) hgone (fun x => by rw [htb, hwl])
      rw [Nat.sub_self] at h
      exact h
    generalize hS : srtR (gridOf g.f0.length l) (g.f0.map (·.f0)) g.f0.length (List.replicate g.f0.length false) [] = S at href hprog
    have hlen : S.length ≤ 2000000 := by
      rw [← hS]
      have : ∀ (t : Nat) (done : List Bool) (out : List Int), (srtR (gridOf g.f0.length l) (g.f0.map (·.f0)) t done out).length ≤ out.length + t := by
        intro t
        induction t with
        | zero => intro done out; simp [srtR]
        | succ t ih =>
          intro done out
          simp only [srtR]
          split
          · simp
          · refine Nat.le_trans (ih _ _) ?_; simp; omega
      refine Nat.le_trans (this _ _ _) ?_
      simp; omega
    refine ⟨S, hlen, Ev.step ?_, ?_⟩
    · simp only [spec_SortNodes_O.f]
      refine Ev.bind s1 ?_
      simp only [if_true, beq_self_eq_true, cond_true]
      refine Ev.bind l1 ?_
      have hk : mks false (g.f0.length : Int) (g.f0.length : Int) = some (List.replicate g.f0.length false) := by unfold mks; rw [if_pos (by omega)]; simp
      simp only [hk, Option.bind_some, List.length_replicate]
      exact href
    · unfold impl_SortNodes_O.f
      refine Ev.bind s2 ?_
      simp only [cond_true]
      exact Ev.bind hprog (Ev.ret _)
theorem lftS : Lft 1048576 := by unfold Lft; omega
theorem said_FnExactSortNodes (x : S24) (h : wf24 x) : ∃ k, laws_FnExactSortNodes.f k x = some true := by
  refine Ev.at_ (f := fun k => laws_FnExactSortNodes.f k x) ?_
  unfold laws_FnExactSortNodes.f
  obtain ⟨r, h1, h2, h3⟩ := sz_Graph x h lftS
  refine Ev.bind h1 ?_
  by_cases hr : r < 0
  · simp only [decide_eq_true hr, cond_true]; exact Ev.ret _
  have hb := h3 (by omega)
  obtain ⟨R, hR, s1, s2⟩ := sort2 (trGraph x)
  obtain ⟨m, m1, m2, m3⟩ := mk_Graph x hb 1 (by omega) (by omega)
  obtain ⟨v', q, q1, q2, q3⟩ := mh_Int64S R 1 hR (by omega) (by omega)
  have e := eqb_Int64S R hR
  simp only [decide_eq_false hr, cond_false]
  refine Ev.bind (to_Graph x hb) (Ev.bind s1 (Ev.bind (to_Graph x hb) (Ev.bind s2 (Ev.bind e ?_))))
  simp only [cond_true]
  refine Ev.bind (to_Graph x hb) (Ev.bind (eq_Graph x hb) ?_)
  simp only [cond_true]
  refine Ev.bind m1 ?_
  simp only [decide_eq_false (show ¬ m < 0 by omega), cond_false]
  refine Ev.bind e ?_
  simp only [cond_true]
  refine Ev.bind q2 (Ev.bind q3 ?_)
  simp only [decide_eq_false (show ¬ q < 0 by omega), cond_false, beq_self_eq_true, cond_true]
  refine Ev.bind (to_Graph x hb) (Ev.bind s2 (Ev.bind e ?_))
  simp only [cond_true]
  refine Ev.bind q3 ?_
  simp only [decide_eq_false (show ¬ q < 0 by omega), cond_false, beq_self_eq_true, cond_true]
  exact Ev.ret _
end Go.Ab
