/- Both programs tell the same of names, fields, nodes, edges and graphs. No condition. -/
import Derived.Test.YtfeieigajdekhaaGreatDoorAbL4
import Derived.Test.YtfeieigajdekhaaGreatDoorAbH0
namespace Go.Ab
open Go.Proofs
set_option linter.unusedVariables false
set_option linter.unusedSimpArgs false
def B2 {α : Type} (f g : Nat → Option α) : Prop := ∃ c, Ev f c ∧ Ev g c
section
variable {α β : Type}
theorem B2.step {f g : Nat → Option α} (h : B2 (fun k => f (k + 1)) (fun k => g (k + 1))) : B2 f g := by
  obtain ⟨c, h1, h2⟩ := h; exact ⟨c, h1.step, h2.step⟩
theorem B2.ret (c : α) : B2 (fun _ => some c) (fun _ => some c) := ⟨c, Ev.ret _, Ev.ret _⟩
theorem B2.bind {f g : Nat → Option α} {f' g' : Nat → α → Option β} (h : B2 f g) (h' : ∀ a, B2 (fun k => f' k a) (fun k => g' k a)) : B2 (fun k => (f k).bind (f' k)) (fun k => (g k).bind (g' k)) := by
  obtain ⟨c, h1, h2⟩ := h
  obtain ⟨d, h3, h4⟩ := h' c
  exact ⟨d, Ev.bind h1 h3, Ev.bind h2 h4⟩
theorem B2.pass {f g : Nat → Option α} (h : B2 f g) : B2 (fun k => (f k).bind fun v => some v) (fun k => (g k).bind fun v => some v) := h.bind fun a => B2.ret a
theorem B2.cond {c : Bool} {f g f' g' : Nat → Option α} (h : c = true → B2 f f') (h' : c = false → B2 g g') : B2 (fun k => bif c then f k else g k) (fun k => bif c then f' k else g' k) := by
  cases c with
  | true => exact h rfl
  | false => exact h' rfl
end
/-! Tables -/
section
variable {α β : Type} [DecidableEq α]
theorem tfind_shift (a : α) : ∀ (l : List (α × β)) (i : Nat), tfind a l i = (tfind a l 0).map fun q => (q.1 + i, q.2)
 | [], i => rfl
 | (b, v) :: r, i => by
  unfold tfind
  by_cases h : a = b
  · simp [h]
  · simp only [decide_eq_false h, cond_false]
    rw [tfind_shift a r (i + 1), tfind_shift a r (0 + 1)]
    cases tfind a r 0 <;> simp <;> omega
theorem tget_cons (a b : α) (v z : β) (r : List (α × β)) : tget ((b, v) :: r) a z = if a = b then v else tget r a z := by
  unfold tget
  rw [tfind]
  by_cases h : a = b
  · simp [h]
  · simp only [decide_eq_false h, cond_false, if_neg h]
    rw [tfind_shift a r (0 + 1)]
    cases tfind a r 0 <;> rfl
theorem tput_cons (a b : α) (v w : β) (r : List (α × β)) : tput ((b, v) :: r) a w = if a = b then (b, w) :: r else (b, v) :: tput r a w := by
  unfold tput
  rw [tfind]
  by_cases h : a = b
  · simp [h, tset1]
  · simp only [decide_eq_false h, cond_false, if_neg h]
    rw [tfind_shift a r (0 + 1)]
    cases tfind a r 0 <;> simp [tset1]
theorem tget_tput (a b : α) (v z : β) : ∀ (l : List (α × β)), tget (tput l a v) b z = if b = a then v else tget l b z
 | [] => by show tget [(a, v)] b z = _; rw [tget_cons]
 | (c, w) :: r => by
  rw [tput_cons]
  by_cases h : a = c
  · rw [if_pos h, tget_cons, tget_cons, h]
    by_cases h' : b = c <;> simp [h']
  · rw [if_neg h, tget_cons, tget_cons, tget_tput a b v z r]
    by_cases h' : b = c
    · subst h'; rw [if_pos rfl, if_pos rfl, if_neg (fun e => h e.symm)]
    · rw [if_neg h', if_neg h']
end
/-! Names that rise -/
def nmB (s : ByteArray) : Bool := nameOk s.data.toList
theorem lnm (s : ByteArray) : Ev (fun k => spec_l01Name.f k s) (nmB s) := by
  have := lname_ s.data.toList
  rwa [← bs_of] at this
theorem inm (s : ByteArray) : Ev (fun k => impl_isName.f k s) (nmB s) := by
  have := iname_ s.data.toList
  rwa [← bs_of] at this
theorem nm2 (s : ByteArray) : B2 (fun k => spec_l01Name.f k s) (fun k => impl_isName.f k s) := ⟨_, lnm s, inm s⟩
theorem slab_l0 {l : List ByteArray} (hl : l.length ≤ 2000000) : ∀ (n i : Nat), l.length - i ≤ n → Ev (fun k => spec_l02Labels.l0 k l (i : Int)) ((l.drop i).all nmB) := by
  intro n
  induction n with
  | zero =>
    intro i h
    refine Ev.step ?_
    simp only [spec_l02Labels.l0, ltn (show ¬ i < l.length by omega), cond_false, List.drop_of_length_le (show l.length ≤ i by omega)]
    exact Ev.ret _
  | succ n ih =>
    intro i h
    refine Ev.step ?_
    by_cases hi : i < l.length
    · rw [List.drop_eq_getElem_cons hi, List.all_cons]
      simp only [spec_l02Labels.l0, ltd hi, cond_true, ixg hi, Option.bind_some, wup hi hl]
      refine Ev.bind (lnm _) ?_
      cases nmB l[i] with
      | true => simp only [cond_true, Bool.true_and]; exact ih (i + 1) (by omega)
      | false => exact Ev.ret _
    · simp only [spec_l02Labels.l0, ltn hi, cond_false, List.drop_of_length_le (show l.length ≤ i by omega)]
      exact Ev.ret _
theorem rising_short : ∀ (l : List ByteArray), l.length ≤ 1 → risingB l = true
 | [], _ => rfl
 | [_], _ => rfl
 | _ :: _ :: _, h => absurd h (by simp)
theorem ilab_l0 {l : List ByteArray} (hl : l.length ≤ 2000000) : ∀ (n i : Nat), l.length - i ≤ n → Ev (fun k => impl_risingNames.l0 k l (i : Int)) ((l.drop i).all nmB && risingB (l.drop (i - 1))) := by
  have fin : ∀ i : Nat, ¬ i < l.length → Ev (fun k => impl_risingNames.l0 k l (i : Int)) ((l.drop i).all nmB && risingB (l.drop (i - 1))) := fun i h => by
    refine Ev.step ?_
    simp only [impl_risingNames.l0, ltn h, cond_false, List.drop_of_length_le (show l.length ≤ i by omega), rising_short (l.drop (i - 1)) (by rw [List.length_drop]; omega)]
    exact Ev.ret _
  intro n
  induction n with
  | zero => intro i h; exact fin i (by omega)
  | succ n ih =>
    intro i h
    by_cases hi : i < l.length
    case neg => exact fin i hi
    refine Ev.step ?_
    have e1 : (l.drop i).all nmB = (nmB l[i] && (l.drop (i + 1)).all nmB) := by rw [List.drop_eq_getElem_cons hi, List.all_cons]
    simp only [impl_risingNames.l0, ltd hi, cond_true, ixg hi, Option.bind_some, wup hi hl]
    refine Ev.bind (inm _) ?_
    rw [e1]
    cases nmB l[i] with
    | false => exact Ev.ret _
    | true =>
      simp only [cond_true, Bool.true_and]
      have g := ih (i + 1) (by omega)
      by_cases h0 : 0 < i
      · have h1 : i - 1 < l.length := by omega
        have e2 : risingB (l.drop (i - 1)) = (slt l[i - 1] l[i] && risingB (l.drop i)) := by
          rw [List.drop_eq_getElem_cons h1, show i - 1 + 1 = i by omega, List.drop_eq_getElem_cons hi]; rfl
        rw [show i + 1 - 1 = i by omega] at g
        simp only [decide_eq_true (show (0 : Int) < (i : Int) by omega), cond_true, wdn h0 hi hl, ixg h1, Option.bind_some]
        rw [e2]
        cases slt l[i - 1] l[i] with
        | true => simp only [cond_true, Bool.true_and]; exact g
        | false => simp only [cond_false, Bool.false_and, Bool.and_false]; exact Ev.ret _
      · obtain rfl : i = 0 := by omega
        simp only [show decide ((0 : Int) < ((0 : Nat) : Int)) = false from rfl, cond_false]
        exact g
def labB (n : Nat) (l : List ByteArray) : Bool := decide (l.length ≤ n) && (l.all nmB && risingB l)
theorem slab (l : List ByteArray) : Ev (fun k => spec_l02Labels.f k l) (labB 10 l) := by
  refine Ev.step ?_
  unfold labB
  by_cases h : l.length ≤ 10
  · simp only [spec_l02Labels.f, decide_eq_false (show ¬ (10 : Int) < (l.length : Int) by omega), cond_false, decide_eq_true h, Bool.true_and]
    refine Ev.bind (rising_ (by omega)) ?_
    cases risingB l with
    | true => simp only [cond_true, Bool.and_true]; exact slab_l0 (by omega) _ 0 (Nat.le_refl _)
    | false => simp only [cond_false, Bool.and_false]; exact Ev.ret _
  · simp only [spec_l02Labels.f, decide_eq_true (show (10 : Int) < (l.length : Int) by omega), cond_true, decide_eq_false h, Bool.false_and]
    exact Ev.ret _
theorem ilab (l : List ByteArray) {m : Nat} (hm : m ≤ 2000000) : Ev (fun k => impl_risingNames.f k l (m : Int)) (labB m l) := by
  refine Ev.step ?_
  unfold labB
  by_cases h : l.length ≤ m
  · simp only [impl_risingNames.f, ltn (show ¬ m < l.length by omega), cond_false, decide_eq_true h, Bool.true_and]
    exact ilab_l0 (by omega) _ 0 (Nat.le_refl _)
  · simp only [impl_risingNames.f, ltd (show m < l.length by omega), cond_true, decide_eq_false h, Bool.false_and]
    exact Ev.ret _
/-! Values of fields -/
theorem plain_ : ∀ (n : Nat) (x : S100), SizeOf.sizeOf x ≤ n → Wf x → ∃ c : Bool, Ev (fun k => spec_l02Plain.f k x) c ∧ Ev (fun k => impl_val_wild.f k (toI x)) (!c) := by
  intro n
  induction n with
  | zero => intro x h; cases x; simp at h
  | succ n ih =>
    intro x h hw
    obtain ⟨hk, hl, -, hi, -, hz, -⟩ := hw.p
    have t0 : (toI x).f0 = x.f0 := by rw [toI_eq]
    have t5 : (toI x).f5 = x.f4.map toI := by rw [toI_eq]
    by_cases h8 : 8 ≤ x.f0
    · refine ⟨false, Ev.step ?_, Ev.step ?_⟩
      · simp only [spec_l02Plain.f, decide_eq_false (show ¬ x.f0 < 0 by omega), decide_eq_true h8, cond_true, cond_false]; exact Ev.ret _
      · simp only [impl_val_wild.f, t0, decide_eq_true h8, cond_true]; exact Ev.ret _
    · have hsz : ∀ y ∈ x.f4, SizeOf.sizeOf y < SizeOf.sizeOf x := fun y hy => by
        have := List.sizeOf_lt_of_mem hy
        cases x; simp_all; omega
      have loop : ∀ (m i : Nat), x.f4.length - i ≤ m → ∃ c : Bool, Ev (fun k => spec_l02Plain.l0 k (i : Int) x) c ∧ Ev (fun k => impl_val_wild.l0 k (toI x) (i : Int)) (!c) := by
        have fin : ∀ i : Nat, ¬ i < x.f4.length → ∃ c : Bool, Ev (fun k => spec_l02Plain.l0 k (i : Int) x) c ∧ Ev (fun k => impl_val_wild.l0 k (toI x) (i : Int)) (!c) := fun i hi => by
          refine ⟨true, Ev.step ?_, Ev.step ?_⟩
          · simp only [spec_l02Plain.l0, ltn hi, cond_false]; exact Ev.ret _
          · simp only [impl_val_wild.l0, t5, List.length_map, ltn hi, cond_false]; exact Ev.ret _
        intro m
        induction m with
        | zero => intro i h; exact fin i (by omega)
        | succ m im =>
          intro i h
          by_cases hi' : i < x.f4.length
          case neg => exact fin i hi'
          have hm := List.getElem_mem hi'
          have hmap : i < (x.f4.map toI).length := by simpa using hi'
          have hy := hi _ hm
          obtain ⟨c, h1, h2⟩ := ih x.f4[i] (by have := hsz _ hm; omega) hy
          obtain ⟨d, h3, h4⟩ := im (i + 1) (by omega)
          have e2 : Ev (fun k => impl_val_wild.l0 k (toI x) (i : Int)) (bif (!c) then true else !d) := by
            refine Ev.step ?_
            simp only [impl_val_wild.l0, t5, List.length_map, ltd hi', cond_true, ixg hmap, List.getElem_map, Option.bind_some, wup hi' hl]
            refine Ev.bind h2 ?_
            cases c with
            | true => simp only [Bool.not_true, cond_false]; exact h4
            | false => exact Ev.ret _
          by_cases h0 : x.f4[i].f0 = 0
          · have hc : c = true := by
              have he : x.f4[i].f4 = [] := by
                obtain ⟨-, -, -, -, -, hz', -⟩ := hy.p
                exact hz' (by omega)
              refine Ev.uniq h1 (Ev.step ?_)
              simp only [spec_l02Plain.f, h0, show decide ((0 : Int) < 0) = false from rfl, show decide ((8 : Int) ≤ 0) = false from rfl, cond_false]
              refine Ev.step ?_
              simp only [spec_l02Plain.l0, he, List.length_nil, show decide ((0 : Int) < ((0 : Nat) : Int)) = false from rfl, cond_false]
              exact Ev.ret _
            subst hc
            refine ⟨d, Ev.step ?_, e2⟩
            simp only [spec_l02Plain.l0, ltd hi', cond_true, ixg hi', Option.bind_some, h0, beq_self_eq_true, wup hi' hl]
            exact h3
          · refine ⟨c && d, Ev.step ?_, e2.eq (by cases c <;> rfl)⟩
            simp only [spec_l02Plain.l0, ltd hi', cond_true, ixg hi', Option.bind_some, show (x.f4[i].f0 == 0) = false by simpa using h0, cond_false, wup hi' hl]
            refine Ev.bind h1 ?_
            cases c with
            | true => simp only [cond_true, Bool.true_and]; exact h3
            | false => exact Ev.ret _
      obtain ⟨c, h1, h2⟩ := loop _ 0 (Nat.le_refl _)
      refine ⟨c, Ev.step ?_, Ev.step ?_⟩
      · simp only [spec_l02Plain.f, decide_eq_false (show ¬ x.f0 < 0 by omega), decide_eq_false h8, cond_false]; exact h1
      · simp only [impl_val_wild.f, t0, decide_eq_false h8, cond_false]; exact h2
theorem value2 (t : ByteArray) : B2 (fun k => spec_l02Value.f k t) (fun k => impl_fieldValue.f k t) := by
  unfold spec_l02Value.f impl_fieldValue.f
  rcases read_ t with ⟨sv, hw, h1, h2⟩ | ⟨iv, h1, h2⟩
  · obtain ⟨c, h3, h4⟩ := plain_ _ sv (Nat.le_refl _) hw
    have t0 : (toI sv).f0 = sv.f0 := by rw [toI_eq]
    by_cases h0 : sv.f0 = 0
    · refine ⟨false, Ev.bind h1 ?_, Ev.bind h2 ?_⟩
      · simp only [h0, beq_self_eq_true, cond_true]; exact Ev.ret _
      · simp only [t0, h0, beq_self_eq_true, cond_true]; exact Ev.ret _
    · have h0' : (sv.f0 == 0) = false := by simpa using h0
      refine ⟨c, Ev.bind h1 ?_, Ev.bind h2 ?_⟩
      · simp only [h0', cond_false]; exact Ev.bind h3 (Ev.ret _)
      · simp only [t0, h0', cond_false, cond_true]; exact Ev.bind h4 (by simp only [Bool.not_not]; exact Ev.ret _)
  · refine ⟨false, Ev.bind h1 ?_, Ev.bind h2 ?_⟩
    · simp only [show ((-1 : Int) == 0) = false from rfl, cond_false]
      refine Ev.bind (Ev.step (r := false) ?_) (Ev.ret _)
      simp only [spec_l02Plain.f, show decide ((-1 : Int) < 0) = true from rfl, cond_true]; exact Ev.ret _
    · simp only [cond_false]; exact Ev.ret _
theorem fields_l0' {l : List S91} (hl : l.length ≤ 2000000) : ∀ (n i : Nat), l.length - i ≤ n → B2 (fun k => spec_l02Fields.l0 k l (i : Int)) (fun k => impl_fieldsOk.l0 k l (i : Int)) := by
  have fin : ∀ i : Nat, ¬ i < l.length → B2 (fun k => spec_l02Fields.l0 k l (i : Int)) (fun k => impl_fieldsOk.l0 k l (i : Int)) := fun i h => by
    refine B2.step ?_
    simp only [spec_l02Fields.l0, impl_fieldsOk.l0, ltn h, cond_false]
    exact B2.ret _
  intro n
  induction n with
  | zero => intro i h; exact fin i (by omega)
  | succ n ih =>
    intro i h
    by_cases hi : i < l.length
    case neg => exact fin i hi
    refine B2.step ?_
    simp only [spec_l02Fields.l0, impl_fieldsOk.l0, ltd hi, cond_true, ixg hi, Option.bind_some, wup hi hl]
    refine (nm2 _).bind fun a => B2.cond (fun _ => ?_) (fun _ => B2.ret _)
    have go : B2 (fun k => (spec_l02Value.f k l[i].f1).bind fun v => bif v then spec_l02Fields.l0 k l ((i + 1 : Nat) : Int) else some false) (fun k => (impl_fieldValue.f k l[i].f1).bind fun v => bif v then impl_fieldsOk.l0 k l ((i + 1 : Nat) : Int) else some false) :=
      (value2 _).bind fun a => B2.cond (fun _ => ih (i + 1) (by omega)) (fun _ => B2.ret _)
    by_cases h0 : 0 < i
    · simp only [decide_eq_true (show (0 : Int) < (i : Int) by omega), cond_true, wdn h0 hi hl, ixg (show i - 1 < l.length by omega), Option.bind_some]
      exact B2.cond (fun _ => go) (fun _ => B2.ret _)
    · simp only [decide_eq_false (show ¬ (0 : Int) < (i : Int) by omega), cond_false]
      exact go
theorem fields2 (l : List S91) : B2 (fun k => spec_l02Fields.f k l) (fun k => impl_fieldsOk.f k l) := by
  refine B2.step ?_
  by_cases h : l.length ≤ 20
  · simp only [spec_l02Fields.f, impl_fieldsOk.f, decide_eq_false (show ¬ (20 : Int) < (l.length : Int) by omega), cond_false]
    exact fields_l0' (by omega) _ 0 (Nat.le_refl _)
  · simp only [spec_l02Fields.f, impl_fieldsOk.f, decide_eq_true (show (20 : Int) < (l.length : Int) by omega), cond_true]
    exact B2.ret _
theorem idOk2 (n : Int) : B2 (fun k => spec_l02Id.f k n) (fun k => impl_idOk.f k n) := by
  unfold spec_l02Id.f impl_idOk.f
  exact B2.cond (fun _ => B2.ret _) (fun _ => B2.ret _)
theorem lab2 (l : List ByteArray) : B2 (fun k => spec_l02Labels.f k l) (fun k => impl_risingNames.f k l 10) := ⟨_, slab l, ilab l (m := 10) (by omega)⟩
theorem node2 (x : S49) : B2 (fun k => spec_l02IsNode.f k x) (fun k => impl_nodeOk.f k x) := by
  unfold spec_l02IsNode.f impl_nodeOk.f
  exact (idOk2 _).bind fun a => B2.cond (fun _ => (lab2 _).bind fun a => B2.cond (fun _ => (fields2 _).pass) fun _ => B2.ret _) fun _ => B2.ret _
theorem edge2 (x : S68) : B2 (fun k => spec_l02IsEdge.f k x) (fun k => impl_edgeOk.f k x) := by
  unfold spec_l02IsEdge.f impl_edgeOk.f
  exact (idOk2 _).bind fun a => B2.cond (fun _ => (nm2 _).bind fun a => B2.cond (fun _ => (idOk2 _).bind fun a => B2.cond (fun _ => (idOk2 _).bind fun a => B2.cond (fun _ => (fields2 _).pass) fun _ => B2.ret _) fun _ => B2.ret _) fun _ => B2.ret _) fun _ => B2.ret _
/-! Graphs -/
theorem nodeAt_l0 {g : S31} {id : Int} (hl : g.f0.length ≤ 2000000) : ∀ (n i : Nat), g.f0.length - i ≤ n → ∃ c, Ev (fun k => spec_l02Node.l0 k id (i : Int) g) c ∧ (c < 0 ↔ id ∉ (g.f0.drop i).map (·.f0)) := by
  have fin : ∀ i : Nat, ¬ i < g.f0.length → ∃ c, Ev (fun k => spec_l02Node.l0 k id (i : Int) g) c ∧ (c < 0 ↔ id ∉ (g.f0.drop i).map (·.f0)) := fun i h => by
    refine ⟨-1, Ev.step ?_, ?_⟩
    · simp only [spec_l02Node.l0, ltn h, cond_false]; exact Ev.ret _
    · rw [List.drop_of_length_le (by omega)]; simp
  intro n
  induction n with
  | zero => intro i h; exact fin i (by omega)
  | succ n ih =>
    intro i h
    by_cases hi : i < g.f0.length
    case neg => exact fin i hi
    rw [List.drop_eq_getElem_cons hi, List.map_cons, List.mem_cons]
    by_cases he : g.f0[i].f0 = id
    · refine ⟨(i : Int), Ev.step ?_, ?_⟩
      · simp only [spec_l02Node.l0, ltd hi, cond_true, ixg hi, Option.bind_some, show (g.f0[i].f0 == id) = true by simpa using he]; exact Ev.ret _
      · simp only [he, true_or, not_true_eq_false, iff_false]; omega
    · obtain ⟨c, h1, h2⟩ := ih (i + 1) (by omega)
      refine ⟨c, Ev.step ?_, ?_⟩
      · simp only [spec_l02Node.l0, ltd hi, cond_true, ixg hi, Option.bind_some, show (g.f0[i].f0 == id) = false by simpa using he, cond_false, wup hi hl]; exact h1
      · rw [h2]; simp only [not_or]; exact ⟨fun h => ⟨fun e => he e.symm, h⟩, fun h => h.2⟩
theorem nodeAt_ (g : S31) (id : Int) (hl : g.f0.length ≤ 2000000) : ∃ c, Ev (fun k => spec_l02Node.f k g id) c ∧ (c < 0 ↔ id ∉ g.f0.map (·.f0)) := by
  obtain ⟨c, h1, h2⟩ := nodeAt_l0 (id := id) hl _ 0 (Nat.le_refl _)
  refine ⟨c, Ev.step ?_, h2⟩
  simp only [spec_l02Node.f]; exact h1
def Fb2 (f : Nat → Option Int) (g : Nat → Option Bool) : Prop := ∃ c : Bool, Ev f (if c then 0 else 1) ∧ Ev g c
theorem Fb2.step {f : Nat → Option Int} {g : Nat → Option Bool} (h : Fb2 (fun k => f (k + 1)) (fun k => g (k + 1))) : Fb2 f g := by
  obtain ⟨c, h1, h2⟩ := h; exact ⟨c, h1.step, h2.step⟩
theorem Fb2.no : Fb2 (fun _ => some 1) (fun _ => some false) := ⟨false, Ev.ret _, Ev.ret _⟩
theorem Fb2.yes : Fb2 (fun _ => some 0) (fun _ => some true) := ⟨true, Ev.ret _, Ev.ret _⟩
theorem Fb2.bind {α : Type} {f g : Nat → Option α} {f' : Nat → α → Option Int} {g' : Nat → α → Option Bool} (h : B2 f g) (h' : ∀ a, Fb2 (fun k => f' k a) (fun k => g' k a)) : Fb2 (fun k => (f k).bind (f' k)) (fun k => (g k).bind (g' k)) := by
  obtain ⟨c, h1, h2⟩ := h
  obtain ⟨d, h3, h4⟩ := h' c
  exact ⟨d, Ev.bind h1 h3, Ev.bind h2 h4⟩
theorem Fb2.cond {c : Bool} {f g : Nat → Option Int} {f' g' : Nat → Option Bool} (h : c = true → Fb2 f f') (h' : c = false → Fb2 g g') : Fb2 (fun k => bif c then f k else g k) (fun k => bif c then f' k else g' k) := by
  cases c with
  | true => exact h rfl
  | false => exact h' rfl
theorem graph_edges {g : S31} {tb : List (Int × Int)} (h0 : g.f0.length ≤ 2000000) (hl : g.f1.length ≤ 2000000) (ht : ∀ id, tget tb id 0 = if id ∈ g.f0.map (·.f0) then 1 else 0) :
    ∀ (n i : Nat), g.f1.length - i ≤ n → Fb2 (fun k => spec_GraphFault.l1 k (i : Int) g) (fun k => impl_graphOk.l1 k g (i : Int) tb) := by
  have fin : ∀ i : Nat, ¬ i < g.f1.length → Fb2 (fun k => spec_GraphFault.l1 k (i : Int) g) (fun k => impl_graphOk.l1 k g (i : Int) tb) := fun i h => by
    refine Fb2.step ?_
    simp only [spec_GraphFault.l1, impl_graphOk.l1, ltn h, cond_false]
    exact Fb2.yes
  intro n
  induction n with
  | zero => intro i h; exact fin i (by omega)
  | succ n ih =>
    intro i h
    by_cases hi : i < g.f1.length
    case neg => exact fin i hi
    refine Fb2.step ?_
    simp only [spec_GraphFault.l1, impl_graphOk.l1, ltd hi, cond_true, ixg hi, Option.bind_some, wup hi hl]
    refine Fb2.bind (edge2 _) fun a => Fb2.cond (fun _ => ?_) (fun _ => Fb2.no)
    have one : ∀ (id : Int) {f : Nat → Option Int} {f' : Nat → Option Bool}, Fb2 f f' → Fb2 (fun k => (spec_l02Node.f k g id).bind fun v => bif decide (v < 0) then some 1 else f k) (fun k => bif (tget tb id 0 == 0) then some false else f' k) := fun id f f' hf => by
      obtain ⟨c, h1, h2⟩ := nodeAt_ g id h0
      obtain ⟨d, h3, h4⟩ := hf
      by_cases hm : id ∈ g.f0.map (·.f0)
      · have hc : ¬ c < 0 := fun x => (h2.1 x) hm
        refine ⟨d, Ev.bind h1 ?_, ?_⟩
        · simp only [decide_eq_false hc, cond_false]; exact h3
        · simp only [ht, if_pos hm, show ((1 : Int) == 0) = false from rfl, cond_false]; exact h4
      · have hc : c < 0 := h2.2 hm
        refine ⟨false, Ev.bind h1 ?_, ?_⟩
        · simp only [decide_eq_true hc, cond_true]; exact Ev.ret _
        · simp only [ht, if_neg hm, show ((0 : Int) == 0) = true from rfl, cond_true]; exact Ev.ret _
    have rest := one g.f1[i].f2 (one g.f1[i].f3 (ih (i + 1) (by omega)))
    by_cases hp : 0 < i
    · simp only [decide_eq_true (show (0 : Int) < (i : Int) by omega), cond_true, wdn hp hi hl, ixg (show i - 1 < g.f1.length by omega), Option.bind_some]
      exact Fb2.cond (fun _ => Fb2.no) (fun _ => rest)
    · simp only [decide_eq_false (show ¬ (0 : Int) < (i : Int) by omega), cond_false]
      exact rest
theorem graph_nodes {g : S31} (h0 : g.f0.length ≤ 2000000) (hl : g.f1.length ≤ 2000000) :
    ∀ (n i : Nat) (tb : List (Int × Int)), g.f0.length - i ≤ n → (∀ id, tget tb id 0 = if id ∈ (g.f0.take i).map (·.f0) then 1 else 0) → Fb2 (fun k => spec_GraphFault.l0 k (i : Int) g) (fun k => impl_graphOk.l0 k g (i : Int) tb) := by
  have fin : ∀ (i : Nat) (tb : List (Int × Int)), ¬ i < g.f0.length → (∀ id, tget tb id 0 = if id ∈ (g.f0.take i).map (·.f0) then 1 else 0) → Fb2 (fun k => spec_GraphFault.l0 k (i : Int) g) (fun k => impl_graphOk.l0 k g (i : Int) tb) := fun i tb h ht => by
    refine Fb2.step ?_
    simp only [spec_GraphFault.l0, impl_graphOk.l0, ltn h, cond_false]
    rw [List.take_of_length_le (by omega)] at ht
    exact graph_edges h0 hl ht _ 0 (Nat.le_refl _)
  intro n
  induction n with
  | zero => intro i tb h ht; exact fin i tb (by omega) ht
  | succ n ih =>
    intro i tb h ht
    by_cases hi : i < g.f0.length
    case neg => exact fin i tb hi ht
    refine Fb2.step ?_
    simp only [spec_GraphFault.l0, impl_graphOk.l0, ltd hi, cond_true, ixg hi, Option.bind_some]
    refine Fb2.bind (node2 _) fun a => Fb2.cond (fun _ => ?_) (fun _ => Fb2.no)
    have rest : Fb2 (fun k => spec_GraphFault.j0 k (i : Int) g) (fun k => impl_graphOk.j0 k g (i : Int) tb g.f0[i]) := by
      refine Fb2.step ?_
      simp only [spec_GraphFault.j0, impl_graphOk.j0, wup hi h0]
      refine ih (i + 1) _ (by omega) fun id => ?_
      rw [tget_tput, ht, List.take_succ_eq_append_getElem hi, List.map_append]
      by_cases e : id = g.f0[i].f0
      · rw [if_pos e, if_pos (by rw [List.mem_append]; right; simp [e])]
      · rw [if_neg e]
        congr 1
        simp only [List.mem_append, List.map_cons, List.map_nil, List.mem_singleton, e, or_false]
    by_cases hp : 0 < i
    · simp only [decide_eq_true (show (0 : Int) < (i : Int) by omega), cond_true, wdn hp hi h0, ixg (show i - 1 < g.f0.length by omega), Option.bind_some]
      exact Fb2.cond (fun _ => Fb2.no) (fun _ => rest)
    · simp only [decide_eq_false (show ¬ (0 : Int) < (i : Int) by omega), cond_false]
      exact rest
theorem graph2 (g : S31) : Fb2 (fun k => spec_GraphFault.f k g) (fun k => impl_graphOk.f k g) := by
  refine Fb2.step ?_
  by_cases h : g.f0.length ≤ 200
  · simp only [spec_GraphFault.f, impl_graphOk.f, decide_eq_false (show ¬ (200 : Int) < (g.f0.length : Int) by omega), cond_false]
    by_cases h' : g.f1.length ≤ 400
    · simp only [decide_eq_false (show ¬ (400 : Int) < (g.f1.length : Int) by omega), cond_false]
      exact graph_nodes (by omega) (by omega) _ 0 _ (Nat.le_refl _) fun id => by simp [tget, tfind]
    · simp only [decide_eq_true (show (400 : Int) < (g.f1.length : Int) by omega), cond_true]
      exact Fb2.no
  · simp only [spec_GraphFault.f, impl_graphOk.f, decide_eq_true (show (200 : Int) < (g.f0.length : Int) by omega), cond_true]
    exact Fb2.no
end Go.Ab
