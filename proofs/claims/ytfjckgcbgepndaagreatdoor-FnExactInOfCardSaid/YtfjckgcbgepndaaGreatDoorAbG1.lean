/- Both programs tell the same of names, fields, nodes, edges and graphs. No condition. -/
import Derived.Test.YtfjckgcbgepndaaGreatDoorAbL5
import Derived.Test.YtfjckgcbgepndaaGreatDoorAbH0
namespace Go.Ab
open Go.Proofs
set_option linter.unusedVariables false
set_option linter.unusedSimpArgs false
def B2 {α : Type} (f g : Nat → Option α) : Prop := ∃ c, Ev f c ∧ Ev g c
section
variable {α β : Type}
theorem B2.step {f g : Nat → Option α} (h : B2 (fun k => f (k + 1)) (fun k => g (k + 1))) : B2 f g := by
  obtain ⟨c, h1, h2⟩ := h; exact ⟨c, h1.step, h2.step⟩
theorem B2.ret (c : α) : B2 (fun _ => some c) (fun _ => some c) := ⟨c, Ev.ret _, Ev.ret _⟩
theorem B2.bind {f g : Nat → Option α} {f' g' : Nat → α → Option β} (h : B2 f g) (h' : ∀ a, B2 (fun k => f' k a) (fun k => g' k a)) : B2 (fun k => (f k).bind (f' k)) (fun k => (g k).bind (g' k)) := by
  obtain ⟨c, h1, h2⟩ := h
  obtain ⟨d, h3, h4⟩ := h' c
  exact ⟨d, Ev.bind h1 h3, Ev.bind h2 h4⟩
theorem B2.pass {f g : Nat → Option α} (h : B2 f g) : B2 (fun k => (f k).bind fun v => some v) (fun k => (g k).bind fun v => some v) := h.bind fun a => B2.ret a
theorem B2.cond {c : Bool} {f g f' g' : Nat → Option α} (h : c = true → B2 f f') (h' : c = false → B2 g g') : B2 (fun k => bif c then f k else g k) (fun k => bif c then f' k else g' k) := by
  cases c with
  | true => exact h rfl
  | false => exact h' rfl
end
/-! Tables -/
section
variable {α β : Type} [DecidableEq α]
theorem tfind_shift (a : α) : ∀ (l : List (α × β)) (i : Nat), tfind a l i = (tfind a l 0).map fun q => (q.1 + i, q.2)
 | [], i => rfl
 | (b, v) :: r, i => by
  unfold tfind
  by_cases h : a = b
  · simp [h]
  · simp only [decide_eq_false h, cond_false]
    rw [tfind_shift a r (i + 1), tfind_shift a r (0 + 1)]
    cases tfind a r 0 <;> simp <;> omega
theorem tget_cons (a b : α) (v z : β) (r : List (α × β)) : tget ((b, v) :: r) a z = if a = b then v else tget r a z := by
  unfold tget
  rw [tfind]
  by_cases h : a = b
  · simp [h]
  · simp only [decide_eq_false h, cond_false, if_neg h]
    rw [tfind_shift a r (0 + 1)]
    cases tfind a r 0 <;> rfl
theorem tput_cons (a b : α) (v w : β) (r : List (α × β)) : tput ((b, v) :: r) a w = if a = b then (b, w) :: r else (b, v) :: tput r a w := by
  unfold tput
  rw [tfind]
  by_cases h : a = b
  · simp [h, tset1]
  · simp only [decide_eq_false h, cond_false, if_neg h]
    rw [tfind_shift a r (0 + 1)]
    cases tfind a r 0 <;> simp [tset1]
theorem tget_tput (a b : α) (v z : β) : ∀ (l : List (α × β)), tget (tput l a v) b z = if b = a then v else tget l b z
 | [] => by show tget [(a, v)] b z = _; rw [tget_cons]
 | (c, w) :: r => by
  rw [tput_cons]
  by_cases h : a = c
  · rw [if_pos h, tget_cons, tget_cons, h]
    by_cases h' : b = c <;> simp [h']
  · rw [if_neg h, tget_cons, tget_cons, tget_tput a b v z r]
    by_cases h' : b = c
    · subst h'; rw [if_pos rfl, if_pos rfl, if_neg (fun e => h e.symm)]
    · rw [if_neg h', if_neg h']
end
/-! Names that rise -/
def nmB (s : ByteArray) : Bool := nameOk s.data.toList
theorem lnm (s : ByteArray) : Ev (fun k => spec_l01Name.f k s) (nmB s) := by
  have := lname_ s.data.toList
  rwa [← bs_of] at this
theorem inm (s : ByteArray) : Ev (fun k => impl_isName.f k s) (nmB s) := by
  have := iname_ s.data.toList
  rwa [← bs_of] at this
theorem nm2 (s : ByteArray) : B2 (fun k => spec_l01Name.f k s) (fun k => impl_isName.f k s) := ⟨_, lnm s, inm s⟩
theorem slab_l0 {l : List ByteArray} (hl : l.length ≤ 2000000) : ∀ (n i : Nat), l.length - i ≤ n → Ev (fun k => spec_l02Labels.l0 k l (i : Int)) ((l.drop i).all nmB) := by
  intro n
  induction n with
  | zero =>
    intro i h
    refine Ev.step ?_
    simp only [spec_l02Labels.l0, ltn (show ¬ i < l.length by omega), cond_false, List.drop_of_length_le (show l.length ≤ i by omega)]
    exact Ev.ret _
  | succ n ih =>
    intro i h
    refine Ev.step ?_
    by_cases hi : i < l.length
    · rw [List.drop_eq_getElem_cons hi, List.all_cons]
      simp only [spec_l02Labels.l0, ltd hi, cond_true, ixg hi, Option.bind_some, wup hi hl]
      refine Ev.bind (lnm _) ?_
      cases nmB l[i] with
      | true => simp only [cond_true, Bool.true_and]; exact ih (i + 1) (by omega)
      | false => exact Ev.ret _
    · simp only [spec_l02Labels.l0, ltn hi, cond_false, List.drop_of_length_le (show l.length ≤ i by omega)]
      exact Ev.ret _
theorem rising_short : ∀ (l : List ByteArray), l.length ≤ 1 → risingB l = true
 | [], _ => rfl
 | [_], _ => rfl
 | _ :: _ :: _, h => absurd h (by simp)
theorem ilab_l0 {l : List ByteArray} (hl : l.length ≤ 2000000) : ∀ (n i : Nat), l.length - i ≤ n → Ev (fun k => impl_risingNames.l0 k l (i : Int)) ((l.drop i).all nmB && risingB (l.drop (i - 1))) := by
  have fin : ∀ i : Nat, ¬ i < l.length → Ev (fun k => impl_risingNames.l0 k l (i : Int)) ((l.drop i).all nmB && risingB (l.drop (i - 1))) := fun i h => by
    refine Ev.step ?_
    simp only [impl_risingNames.l0, ltn h, cond_false, List.drop_of_length_le (show l.length ≤ i by omega), rising_short (l.drop (i - 1)) (by rw [List.length_drop]; omega)]
    exact Ev.ret _
  intro n
  induction n with
  | zero => intro i h; exact fin i (by omega)
  | succ n ih =>
    intro i h
    by_cases hi : i < l.length
    case neg => exact fin i hi
    refine Ev.step ?_
    have e1 : (l.drop i).all nmB = (nmB l[i] && (l.drop (i + 1)).all nmB) := by rw [List.drop_eq_getElem_cons hi, List.all_cons]
    simp only [impl_risingNames.l0, ltd hi, cond_true, ixg hi, Option.bind_some, wup hi hl]
    refine Ev.bind (inm _) ?_
    rw [e1]
    cases nmB l[i] with
    | false => exact Ev.ret _
    | true =>
      simp only [cond_true, Bool.true_and]
      have g := ih (i + 1) (by omega)
      by_cases h0 : 0 < i
      · have h1 : i - 1 < l.length := by omega
        have e2 : risingB (l.drop (i - 1)) = (slt l[i - 1] l[i] && risingB (l.drop i)) := by
          rw [List.drop_eq_getElem_cons h1, show i - 1 + 1 = i by omega, List.drop_eq_getElem_cons hi]; rfl
        rw [show i + 1 - 1 = i by omega] at g
        simp only [decide_eq_true (show (0 : Int) < (i : Int) by omega), cond_true, wdn h0 hi hl, ixg h1, Option.bind_some]
        rw [e2]
        cases slt l[i - 1] l[i] with
        | true => simp only [cond_true, Bool.true_and]; exact g
        | false => simp only [cond_false, Bool.false_and, Bool.and_false]; exact Ev.ret _
      · obtain rfl : i = 0 := by omega
        simp only [show decide ((0 : Int) < ((0 : Nat) : Int)) = false from rfl, cond_false]
        exact g
def labB (n : Nat) (l : List ByteArray) : Bool := decide (l.length ≤ n) && (l.all nmB && risingB l)
theorem slab (l : List ByteArray) : Ev (fun k => spec_l02Labels.f k l) (labB 10 l) := by
  refine Ev.step ?_
  unfold labB
  by_cases h : l.length ≤ 10
  · simp only [spec_l02Labels.f, decide_eq_false (show ¬ (10 : Int) < (l.length : Int) by omega), cond_false, decide_eq_true h, Bool.true_and]
    refine Ev.bind (rising_ (by omega)) ?_
    cases risingB l with
    | true => simp only [cond_true, Bool.and_true]; exact slab_l0 (by omega) _ 0 (Nat.le_refl _)
    | false => simp only [cond_false, Bool.and_false]; exact Ev.ret _
  · simp only [spec_l02Labels.f, decide_eq_true (show (10 : Int) < (l.length : Int) by omega), cond_true, decide_eq_false h, Bool.false_and]
    exact Ev.ret _
theorem ilab (l : List ByteArray) {m : Nat} (hm : m ≤ 2000000) : Ev (fun k => impl_risingNames.f k l (m : Int)) (labB m l) := by
  refine Ev.step ?_
  unfold labB
  by_cases h : l.length ≤ m
  · simp only [impl_risingNames.f, ltn (show ¬ m < l.length by omega), cond_false, decide_eq_true h, Bool.true_and]
    exact ilab_l0 (by omega) _ 0 (Nat.le_refl _)
  · simp only [impl_risingNames.f, ltd (show m < l.length by omega), cond_true, decide_eq_false h, Bool.false_and]
    exact Ev.ret _
/-! Values of fields -/
theorem plain_ : ∀ (n : Nat) (x : S130), SizeOf.sizeOf x ≤ n → Wf x → ∃ c : Bool, Ev (fun k => spec_l02Plain.f k x) c ∧ Ev (fun k => impl_val_wild.f k (toI x)) (!c) := by
  intro n
  induction n with
  | zero => intro x h; cases x; simp at h
  | succ n ih =>
    intro x h hw
    obtain ⟨hk, hl, -, hi, -, hz, -⟩ := hw.p
    have t0 : (toI x).f0 = x.f0 := by rw [toI_eq]
    have t5 : (toI x).f5 = x.f4.map toI := by rw [toI_eq]
    by_cases h8 : 8 ≤ x.f0
    · refine ⟨false, Ev.step ?_, Ev.step ?_⟩
      · simp only [spec_l02Plain.f, decide_eq_false (show ¬ x.f0 < 0 by omega), decide_eq_true h8, cond_true, cond_false]; exact Ev.ret _
      · simp only [impl_val_wild.f, t0, decide_eq_true h8, cond_true]; exact Ev.ret _
    · have hsz : ∀ y ∈ x.f4, SizeOf.sizeOf y < SizeOf.sizeOf x := fun y hy => by
        have := List.sizeOf_lt_of_mem hy
        cases x; simp_all; omega
      have loop : ∀ (m i : Nat), x.f4.length - i ≤ m → ∃ c : Bool, Ev (fun k => spec_l02Plain.l0 k (i : Int) x) c ∧ Ev (fun k => impl_val_wild.l0 k (toI x) (i : Int)) (!c) := by
        have fin : ∀ i : Nat, ¬ i < x.f4.length → ∃ c : Bool, Ev (fun k => spec_l02Plain.l0 k (i : Int) x) c ∧ Ev (fun k => impl_val_wild.l0 k (toI x) (i : Int)) (!c) := fun i hi => by
          refine ⟨true, Ev.step ?_, Ev.step ?_⟩
          · simp only [spec_l02Plain.l0, ltn hi, cond_false]; exact Ev.ret _
          · simp only [impl_val_wild.l0, t5, List.length_map, ltn hi, cond_false]; exact Ev.ret _
        intro m
        induction m with
        | zero => intro i h; exact fin i (by omega)
        | succ m im =>
          intro i h
          by_cases hi' : i < x.f4.length
          case neg => exact fin i hi'
          have hm := List.getElem_mem hi'
          have hmap : i < (x.f4.map toI).length := by simpa using hi'
          have hy := hi _ hm
          obtain ⟨c, h1, h2⟩ := ih x.f4[i] (by have := hsz _ hm; omega) hy
          obtain ⟨d, h3, h4⟩ := im (i + 1) (by omega)
          have e2 : Ev (fun k => impl_val_wild.l0 k (toI x) (i : Int)) (bif (!c) then true else !d) := by
            refine Ev.step ?_
            simp only [impl_val_wild.l0, t5, List.length_map, ltd hi', cond_true, ixg hmap, List.getElem_map, Option.bind_some, wup hi' hl]
            refine Ev.bind h2 ?_
            cases c with
            | true => simp only [Bool.not_true, cond_false]; exact h4
            | false => exact Ev.ret _
          by_cases h0 : x.f4[i].f0 = 0
          · have hc : c = true := by
              have he : x.f4[i].f4 = [] := by
                obtain ⟨-, -, -, -, -, hz', -⟩ := hy.p
                exact hz' (by omega)
              refine Ev.uniq h1 (Ev.step ?_)
              simp only [spec_l02Plain.f, h0, show decide ((0 : Int) < 0) = false from rfl, show decide ((8 : Int) ≤ 0) = false from rfl, cond_false]
              refine Ev.step ?_
              simp only [spec_l02Plain.l0, he, List.length_nil, show decide ((0 : Int) < ((0 : Nat) : Int)) = false from rfl, cond_false]
              exact Ev.ret _
            subst hc
            refine ⟨d, Ev.step ?_, e2⟩
            simp only [spec_l02Plain.l0, ltd hi', cond_true, ixg hi', Option.bind_some, h0, beq_self_eq_true, wup hi' hl]
            exact h3
          · refine ⟨c && d, Ev.step ?_, e2.eq (by cases c <;> rfl)⟩
            simp only [spec_l02Plain.l0, ltd hi', cond_true, ixg hi', Option.bind_some, show (x.f4[i].f0 == 0) = false by simpa using h0, cond_false, wup hi' hl]
            refine Ev.bind h1 ?_
            cases c with
            | true => simp only [cond_true, Bool.true_and]; exact h3
            | false => exact Ev.ret _
      obtain ⟨c, h1, h2⟩ := loop _ 0 (Nat.le_refl _)
      refine ⟨c, Ev.step ?_, Ev.step ?_⟩
      · simp only [spec_l02Plain.f, decide_eq_false (show ¬ x.f0 < 0 by omega), decide_eq_false h8, cond_false]; exact h1
      · simp only [impl_val_wild.f, t0, decide_eq_false h8, cond_false]; exact h2
theorem value2 (t : ByteArray) : B2 (fun k => spec_l02Value.f k t) (fun k => impl_fieldValue.f k t) := by
  unfold spec_l02Value.f impl_fieldValue.f
  rcases read_ t with ⟨sv, hw, h1, h2⟩ | ⟨iv, h1, h2⟩
  · obtain ⟨c, h3, h4⟩ := plain_ _ sv (Nat.le_refl _) hw
    have t0 : (toI sv).f0 = sv.f0 := by rw [toI_eq]
    by_cases h0 : sv.f0 = 0
    · refine ⟨false, Ev.bind h1 ?_, Ev.bind h2 ?_⟩
      · simp only [h0, beq_self_eq_true, cond_true]; exact Ev.ret _
      · simp only [t0, h0, beq_self_eq_true, cond_true]; exact Ev.ret _
    · have h0' : (sv.f0 == 0) = false := by simpa using h0
      refine ⟨c, Ev.bind h1 ?_, Ev.bind h2 ?_⟩
      · simp only [h0', cond_false]; exact Ev.bind h3 (Ev.ret _)
      · simp only [t0, h0', cond_false, cond_true]; exact Ev.bind h4 (by simp only [Bool.not_not]; exact Ev.ret _)
  · refine ⟨false, Ev.bind h1 ?_, Ev.bind h2 ?_⟩
    · simp only [show ((-1 : Int) == 0) = false from rfl, cond_false]
      refine Ev.bind (Ev.step (r := false) ?_) (Ev.ret _)
      simp only [spec_l02Plain.f, show decide ((-1 : Int) < 0) = true from rfl, cond_true]; exact Ev.ret _
    · simp only [cond_false]; exact Ev.ret _
theorem fields_l0' {l : List S178} (hl : l.length ≤ 2000000) : ∀ (n i : Nat), l.length - i ≤ n → B2 (fun k => spec_l02Fields.l0 k l (i : Int)) (fun k => impl_fieldsOk.l0 k l (i : Int)) := by
  have fin : ∀ i : Nat, ¬ i < l.length → B2 (fun k => spec_l02Fields.l0 k l (i : Int)) (fun k => impl_fieldsOk.l0 k l (i : Int)) := fun i h => by
    refine B2.step ?_
    simp only [spec_l02Fields.l0, impl_fieldsOk.l0, ltn h, cond_false]
    exact B2.ret _
  intro n
  induction n with
  | zero => intro i h; exact fin i (by omega)
  | succ n ih =>
    intro i h
    by_cases hi : i < l.length
    case neg => exact fin i hi
    refine B2.step ?_
    simp only [spec_l02Fields.l0, impl_fieldsOk.l0, ltd hi, cond_true, ixg hi, Option.bind_some, wup hi hl]
    refine (nm2 _).bind fun a => B2.cond (fun _ => ?_) (fun _ => B2.ret _)
    have go : B2 (fun k => (spec_l02Value.f k l[i].f1).bind fun v => bif v then spec_l02Fields.l0 k l ((i + 1 : Nat) : Int) else some false) (fun k => (impl_fieldValue.f k l[i].f1).bind fun v => bif v then impl_fieldsOk.l0 k l ((i + 1 : Nat) : Int) else some false) :=
      (value2 _).bind fun a => B2.cond (fun _ => ih (i + 1) (by omega)) (fun _ => B2.ret _)
    by_cases h0 : 0 < i
    · simp only [decide_eq_true (show (0 : Int) < (i : Int) by omega), cond_true, wdn h0 hi hl, ixg (show i - 1 < l.length by omega), Option.bind_some]
      exact B2.cond (fun _ => go) (fun _ => B2.ret _)
    · simp only [decide_eq_false (show ¬ (0 : Int) < (i : Int) by omega), cond_false]
      exact go
theorem fields2 (l : List S178) : B2 (fun k => spec_l02Fields.f k l) (fun k => impl_fieldsOk.f k l) := by
  refine B2.step ?_
  by_cases h : l.length ≤ 20
  · simp only [spec_l02Fields.f, impl_fieldsOk.f, decide_eq_false (show ¬ (20 : Int) < (l.length : Int) by omega), cond_false]
    exact fields_l0' (by omega) _ 0 (Nat.le_refl _)
  · simp only [spec_l02Fields.f, impl_fieldsOk.f, decide_eq_true (show (20 : Int) < (l.length : Int) by omega), cond_true]
    exact B2.ret _
theorem idOk2 (n : Int) : B2 (fun k => spec_l02Id.f k n) (fun k => impl_idOk.f k n) := by
  unfold spec_l02Id.f impl_idOk.f
  exact B2.cond (fun _ => B2.ret _) (fun _ => B2.ret _)
theorem lab2 (l : List ByteArray) : B2 (fun k => spec_l02Labels.f k l) (fun k => impl_risingNames.f k l 10) := ⟨_, slab l, ilab l (m := 10) (by omega)⟩
theorem node2 (x : S88) : B2 (fun k => spec_l02IsNode.f k x) (fun k => impl_nodeOk.f k x) := by
  unfold spec_l02IsNode.f impl_nodeOk.f
  exact (idOk2 _).bind fun a => B2.cond (fun _ => (lab2 _).bind fun a => B2.cond (fun _ => (fields2 _).pass) fun _ => B2.ret _) fun _ => B2.ret _
theorem edge2 (x : S90) : B2 (fun k => spec_l02IsEdge.f k x) (fun k => impl_edgeOk.f k x) := by
  unfold spec_l02IsEdge.f impl_edgeOk.f
  exact (idOk2 _).bind fun a => B2.cond (fun _ => (nm2 _).bind fun a => B2.cond (fun _ => (idOk2 _).bind fun a => B2.cond (fun _ => (idOk2 _).bind fun a => B2.cond (fun _ => (fields2 _).pass) fun _ => B2.ret _) fun _ => B2.ret _) fun _ => B2.ret _) fun _ => B2.ret _
/-! Graphs -/
theorem nodeAt_l0 {g : S49} {id : Int} (hl : g.f0.length ≤ 2000000) : ∀ (n i : Nat), g.f0.length - i ≤ n → ∃ c, Ev (fun k => spec_l02Node.l0 k id (i : Int) g) c ∧ (c < 0 ↔ id ∉ (g.f0.drop i).map (·.f0)) := by
  have fin : ∀ i : Nat, ¬ i < g.f0.length → ∃ c, Ev (fun k => spec_l02Node.l0 k id (i : Int) g) c ∧ (c < 0 ↔ id ∉ (g.f0.drop i).map (·.f0)) := fun i h => by
    refine ⟨-1, Ev.step ?_, ?_⟩
    · simp only [spec_l02Node.l0, ltn h, cond_false]; exact Ev.ret _
    · rw [List.drop_of_length_le (by omega)]; simp
  intro n
  induction n with
  | zero => intro i h; exact fin i (by omega)
  | succ n ih =>
    intro i h
    by_cases hi : i < g.f0.length
    case neg => exact fin i hi
    rw [List.drop_eq_getElem_cons hi, List.map_cons, List.mem_cons]
    by_cases he : g.f0[i].f0 = id
    · refine ⟨(i : Int), Ev.step ?_, ?_⟩
      · simp only [spec_l02Node.l0, ltd hi, cond_true, ixg hi, Option.bind_some, show (g.f0[i].f0 == id) = true by simpa using he]; exact Ev.ret _
      · simp only [he, true_or, not_true_eq_false, iff_false]; omega
    · obtain ⟨c, h1, h2⟩ := ih (i + 1) (by omega)
      refine ⟨c, Ev.step ?_, ?_⟩
      · simp only [spec_l02Node.l0, ltd hi, cond_true, ixg hi, Option.bind_some, show (g.f0[i].f0 == id) = false by simpa using he, cond_false, wup hi hl]; exact h1
      · rw [h2]; simp only [not_or]; exact ⟨fun h => ⟨fun e => he e.symm, h⟩, fun h => h.2⟩
theorem nodeAt_ (g : S49) (id : Int) (hl : g.f0.length ≤ 2000000) : ∃ c, Ev (fun k => spec_l02Node.f k g id) c ∧ (c < 0 ↔ id ∉ g.f0.map (·.f0)) := by
  obtain ⟨c, h1, h2⟩ := nodeAt_l0 (id := id) hl _ 0 (Nat.le_refl _)
  refine ⟨c, Ev.step ?_, h2⟩
  simp only [spec_l02Node.f]; exact h1
def Fb2 (f : Nat → Option Int) (g : Nat → Option Bool) : Prop := ∃ c : Bool, Ev f (if c then 0 else 1) ∧ Ev g c
theorem Fb2.step {f : Nat → Option Int} {g : Nat → Option Bool} (h : Fb2 (fun k => f (k + 1)) (fun k => g (k + 1))) : Fb2 f g := by
  obtain ⟨c, h1, h2⟩ := h; exact ⟨c, h1.step, h2.step⟩
theorem Fb2.no : Fb2 (fun _ => some 1) (fun _ => some false) := ⟨false, Ev.ret _, Ev.ret _⟩
theorem Fb2.yes : Fb2 (fun _ => some 0) (fun _ => some true) := ⟨true, Ev.ret _, Ev.ret _⟩
theorem Fb2.bind {α : Type} {f g : Nat → Option α} {f' : Nat → α → Option Int} {g' : Nat → α → Option Bool} (h : B2 f g) (h' : ∀ a, Fb2 (fun k => f' k a) (fun k => g' k a)) : Fb2 (fun k => (f k).bind (f' k)) (fun k => (g k).bind (g' k)) := by
  obtain ⟨c, h1, h2⟩ := h
  obtain ⟨d, h3, h4⟩ := h' c
  exact ⟨d, Ev.bind h1 h3, Ev.bind h2 h4⟩
theorem Fb2.cond {c : Bool} {f g : Nat → Option Int} {f' g' : Nat → Option Bool} (h : c = true → Fb2 f f') (h' : c = false → Fb2 g g') : Fb2 (fun k => bif c then f k else g k) (fun k => bif c then f' k else g' k) := by
  cases c with
  | true => exact h rfl
  | false => exact h' rfl
theorem graph_edges {g : S49} {tb : List (Int × Int)} (h0 : g.f0.length ≤ 2000000) (hl : g.f1.length ≤ 2000000) (ht : ∀ id, tget tb id 0 = if id ∈ g.f0.map (·.f0) then 1 else 0) :
    ∀ (n i : Nat), g.f1.length - i ≤ n → Fb2 (fun k => spec_GraphFault.l1 k (i : Int) g) (fun k => impl_graphOk.l1 k g (i : Int) tb) := by
  have fin : ∀ i : Nat, ¬ i < g.f1.length → Fb2 (fun k => spec_GraphFault.l1 k (i : Int) g) (fun k => impl_graphOk.l1 k g (i : Int) tb) := fun i h => by
    refine Fb2.step ?_
    simp only [spec_GraphFault.l1, impl_graphOk.l1, ltn h, cond_false]
    exact Fb2.yes
  intro n
  induction n with
  | zero => intro i h; exact fin i (by omega)
  | succ n ih =>
    intro i h
    by_cases hi : i < g.f1.length
    case neg => exact fin i hi
    refine Fb2.step ?_
    simp only [spec_GraphFault.l1, impl_graphOk.l1, ltd hi, cond_true, ixg hi, Option.bind_some, wup hi hl]
    refine Fb2.bind (edge2 _) fun a => Fb2.cond (fun _ => ?_) (fun _ => Fb2.no)
    have one : ∀ (id : Int) {f : Nat → Option Int} {f' : Nat → Option Bool}, Fb2 f f' → Fb2 (fun k => (spec_l02Node.f k g id).bind fun v => bif decide (v < 0) then some 1 else f k) (fun k => bif (tget tb id 0 == 0) then some false else f' k) := fun id f f' hf => by
      obtain ⟨c, h1, h2⟩ := nodeAt_ g id h0
      obtain ⟨d, h3, h4⟩ := hf
      by_cases hm : id ∈ g.f0.map (·.f0)
      · have hc : ¬ c < 0 := fun x => (h2.1 x) hm
        refine ⟨d, Ev.bind h1 ?_, ?_⟩
        · simp only [decide_eq_false hc, cond_false]; exact h3
        · simp only [ht, if_pos hm, show ((1 : Int) == 0) = false from rfl, cond_false]; exact h4
      · have hc : c < 0 := h2.2 hm
        refine ⟨false, Ev.bind h1 ?_, ?_⟩
        · simp only [decide_eq_true hc, cond_true]; exact Ev.ret _
        · simp only [ht, if_neg hm, show ((0 : Int) == 0) = true from rfl, cond_true]; exact Ev.ret _
    have rest := one g.f1[i].f2 (one g.f1[i].f3 (ih (i + 1) (by omega)))
    by_cases hp : 0 < i
    · simp only [decide_eq_true (show (0 : Int) < (i : Int) by omega), cond_true, wdn hp hi hl, ixg (show i - 1 < g.f1.length by omega), Option.bind_some]
      exact Fb2.cond (fun _ => Fb2.no) (fun _ => rest)
    · simp only [decide_eq_false (show ¬ (0 : Int) < (i : Int) by omega), cond_false]
      exact rest
theorem graph_nodes {g : S49} (h0 : g.f0.length ≤ 2000000) (hl : g.f1.length ≤ 2000000) :
    ∀ (n i : Nat) (tb : List (Int × Int)), g.f0.length - i ≤ n → (∀ id, tget tb id 0 = if id ∈ (g.f0.take i).map (·.f0) then 1 else 0) → Fb2 (fun k => spec_GraphFault.l0 k (i : Int) g) (fun k => impl_graphOk.l0 k g (i : Int) tb) := by
  have fin : ∀ (i : Nat) (tb : List (Int × Int)), ¬ i < g.f0.length → (∀ id, tget tb id 0 = if id ∈ (g.f0.take i).map (·.f0) then 1 else 0) → Fb2 (fun k => spec_GraphFault.l0 k (i : Int) g) (fun k => impl_graphOk.l0 k g (i : Int) tb) := fun i tb h ht => by
    refine Fb2.step ?_
    simp only [spec_GraphFault.l0, impl_graphOk.l0, ltn h, cond_false]
    rw [List.take_of_length_le (by omega)] at ht
    exact graph_edges h0 hl ht _ 0 (Nat.le_refl _)
  intro n
  induction n with
  | zero => intro i tb h ht; exact fin i tb (by omega) ht
  | succ n ih =>
    intro i tb h ht
    by_cases hi : i < g.f0.length
    case neg => exact fin i tb hi ht
    refine Fb2.step ?_
    simp only [spec_GraphFault.l0, impl_graphOk.l0, ltd hi, cond_true, ixg hi, Option.bind_some]
    refine Fb2.bind (node2 _) fun a => Fb2.cond (fun _ => ?_) (fun _ => Fb2.no)
    have rest : Fb2 (fun k => spec_GraphFault.j0 k (i : Int) g) (fun k => impl_graphOk.j0 k g (i : Int) tb g.f0[i]) := by
      refine Fb2.step ?_
      simp only [spec_GraphFault.j0, impl_graphOk.j0, wup hi h0]
      refine ih (i + 1) _ (by omega) fun id => ?_
      rw [tget_tput, ht, List.take_succ_eq_append_getElem hi, List.map_append]
      by_cases e : id = g.f0[i].f0
      · rw [if_pos e, if_pos (by rw [List.mem_append]; right; simp [e])]
      · rw [if_neg e]
        congr 1
        simp only [List.mem_append, List.map_cons, List.map_nil, List.mem_singleton, e, or_false]
    by_cases hp : 0 < i
    · simp only [decide_eq_true (show (0 : Int) < (i : Int) by omega), cond_true, wdn hp hi h0, ixg (show i - 1 < g.f0.length by omega), Option.bind_some]
      exact Fb2.cond (fun _ => Fb2.no) (fun _ => rest)
    · simp only [decide_eq_false (show ¬ (0 : Int) < (i : Int) by omega), cond_false]
      exact rest
theorem graph2 (g : S49) : Fb2 (fun k => spec_GraphFault.f k g) (fun k => impl_graphOk.f k g) := by
  refine Fb2.step ?_
  by_cases h : g.f0.length ≤ 200
  · simp only [spec_GraphFault.f, impl_graphOk.f, decide_eq_false (show ¬ (200 : Int) < (g.f0.length : Int) by omega), cond_false]
    by_cases h' : g.f1.length ≤ 400
    · simp only [decide_eq_false (show ¬ (400 : Int) < (g.f1.length : Int) by omega), cond_false]
      exact graph_nodes (by omega) (by omega) _ 0 _ (Nat.le_refl _) fun id => by simp [tget, tfind]
    · simp only [decide_eq_true (show (400 : Int) < (g.f1.length : Int) by omega), cond_true]
      exact Fb2.no
  · simp only [spec_GraphFault.f, impl_graphOk.f, decide_eq_true (show (200 : Int) < (g.f0.length : Int) by omega), cond_true]
    exact Fb2.no
end Go.Ab
namespace Go.Ab
open Go.Proofs
set_option linter.unusedVariables false
set_option linter.unusedSimpArgs false
def VOk (s : ByteArray) : Prop := ∃ sv, Wf sv ∧ Ev (fun k => spec_l01Read.f k s) sv ∧ Ev (fun k => impl_read.f k s) (toI sv, true)
def VsOk (l : List ByteArray) : Prop := ∀ s ∈ l, VOk s
theorem values_l0 {l : List ByteArray} (hl : l.length ≤ 2000000) : ∀ (n i : Nat), l.length - i ≤ n → ∃ c : Bool, (c = true → VsOk (l.drop i)) ∧ Ev (fun k => spec_l05Values.l0 k l (i : Int)) c ∧ Ev (fun k => impl_valuesOk.l0 k l (i : Int)) c := by
  have fin : ∀ i : Nat, ¬ i < l.length → ∃ c : Bool, (c = true → VsOk (l.drop i)) ∧ Ev (fun k => spec_l05Values.l0 k l (i : Int)) c ∧ Ev (fun k => impl_valuesOk.l0 k l (i : Int)) c := fun i h => by
    refine ⟨true, fun _ => (by rw [List.drop_of_length_le (by omega)]; intro s hs; cases hs), Ev.step ?_, Ev.step ?_⟩
    · simp only [spec_l05Values.l0, ltn h, cond_false]; exact Ev.ret _
    · simp only [impl_valuesOk.l0, ltn h, cond_false]; exact Ev.ret _
  intro n
  induction n with
  | zero => intro i h; exact fin i (by omega)
  | succ n ih =>
    intro i h
    by_cases hi : i < l.length
    case neg => exact fin i hi
    rcases read_ l[i] with ⟨sv, hw, h1, h2⟩ | ⟨iv, h1, h2⟩
    · obtain ⟨c, h3, h4, h5⟩ := ih (i + 1) (by omega)
      obtain ⟨hk, -⟩ := hw.p
      refine ⟨c, fun hc => ?_, Ev.step ?_, Ev.step ?_⟩
      · rw [List.drop_eq_getElem_cons hi]
        intro s hs
        rcases List.mem_cons.1 hs with rfl | hs
        · exact ⟨sv, hw, h1, h2⟩
        · exact h3 hc s hs
      · simp only [spec_l05Values.l0, ltd hi, cond_true, ixg hi, Option.bind_some, wup hi hl]
        exact Ev.bind h1 (by simp only [decide_eq_false (show ¬ sv.f0 < 0 by omega), cond_false]; exact h4)
      · simp only [impl_valuesOk.l0, ltd hi, cond_true, ixg hi, Option.bind_some, wup hi hl]
        exact Ev.bind h2 (by simp only [cond_true]; exact h5)
    · refine ⟨false, fun hc => (by cases hc), Ev.step ?_, Ev.step ?_⟩
      · simp only [spec_l05Values.l0, ltd hi, cond_true, ixg hi, Option.bind_some, wup hi hl]
        exact Ev.bind h1 (by simp only [show decide ((-1 : Int) < 0) = true from rfl, cond_true]; exact Ev.ret _)
      · simp only [impl_valuesOk.l0, ltd hi, cond_true, ixg hi, Option.bind_some, wup hi hl]
        exact Ev.bind h2 (by simp only [cond_false]; exact Ev.ret _)
theorem values2 {l : List ByteArray} (hl : l.length ≤ 2000000) : ∃ c : Bool, (c = true → VsOk l) ∧ Ev (fun k => spec_l05Values.f k l) c ∧ Ev (fun k => impl_valuesOk.f k l) c := by
  obtain ⟨c, h1, h2, h3⟩ := values_l0 hl _ 0 (Nat.le_refl _)
  exact ⟨c, h1, Ev.step (by simp only [spec_l05Values.f]; exact h2), Ev.step (by simp only [impl_valuesOk.f]; exact h3)⟩
/-- Two rows of values, side by side. -/
theorem side_l0 {a b : List ByteArray} (ha : VsOk a) (hb : VsOk b) (hl : b.length ≤ a.length) (hn : b.length ≤ 2000000) : ∀ (n i : Nat), b.length - i ≤ n → B2 (fun k => spec_l05Side.l0 k a b (i : Int)) (fun k => impl_compareTexts.l0 k a b (b.length : Int) (i : Int)) := by
  have fin : ∀ i : Nat, ¬ i < b.length → B2 (fun k => spec_l05Side.l0 k a b (i : Int)) (fun k => impl_compareTexts.l0 k a b (b.length : Int) (i : Int)) := fun i h => by
    refine B2.step ?_
    simp only [spec_l05Side.l0, impl_compareTexts.l0, ltn h, cond_false]
    exact B2.ret _
  intro n
  induction n with
  | zero => intro i h; exact fin i (by omega)
  | succ n ih =>
    intro i h
    by_cases hi : i < b.length
    case neg => exact fin i hi
    have hia : i < a.length := by omega
    obtain ⟨x, wx, x1, x2⟩ := ha _ (List.getElem_mem hia)
    obtain ⟨y, wy, y1, y2⟩ := hb _ (List.getElem_mem hi)
    obtain ⟨c, -, -, h1, h2⟩ := order2 wx wy
    obtain ⟨hx, -⟩ := wx.p
    obtain ⟨hy, -⟩ := wy.p
    have hc : Ev (fun k => spec_CompareValues.f k a[i] b[i]) c := by
      unfold spec_CompareValues.f
      exact Ev.bind x1 (Ev.bind y1 (by simp only [decide_eq_false (show ¬ x.f0 < 0 by omega), decide_eq_false (show ¬ y.f0 < 0 by omega), cond_false]; exact Ev.bind h1 (Ev.ret _)))
    obtain ⟨d, h3, h4⟩ := ih (i + 1) (by omega)
    by_cases h0 : c = 0
    · refine ⟨d, Ev.step ?_, Ev.step ?_⟩
      · simp only [spec_l05Side.l0, ltd hi, cond_true, ixg hi, ixg hia, Option.bind_some, wup hi hn]
        exact Ev.bind hc (by simp only [h0, beq_self_eq_true, cond_true]; exact h3)
      · simp only [impl_compareTexts.l0, ltd hi, cond_true, ixg hi, ixg hia, Option.bind_some, wup hi hn]
        exact Ev.bind x2 (Ev.bind y2 (Ev.bind h2 (by simp only [h0, beq_self_eq_true, cond_true]; exact h4)))
    · have h0' : (c == 0) = false := by simpa using h0
      refine ⟨c, Ev.step ?_, Ev.step ?_⟩
      · simp only [spec_l05Side.l0, ltd hi, cond_true, ixg hi, ixg hia, Option.bind_some, wup hi hn]
        exact Ev.bind hc (by simp only [h0', cond_false]; exact Ev.ret _)
      · simp only [impl_compareTexts.l0, ltd hi, cond_true, ixg hi, ixg hia, Option.bind_some, wup hi hn]
        exact Ev.bind x2 (Ev.bind y2 (Ev.bind h2 (by simp only [h0', cond_false]; exact Ev.ret _)))
theorem side2 {a b : List ByteArray} (ha : VsOk a) (hb : VsOk b) (hl : b.length ≤ a.length) (hn : b.length ≤ 2000000) : B2 (fun k => spec_l05Side.f k a b) (fun k => impl_compareTexts.f k a b (b.length : Int)) := by
  refine B2.step ?_
  simp only [spec_l05Side.f, impl_compareTexts.f]
  exact side_l0 ha hb hl hn _ 0 (Nat.le_refl _)
/-- Does the one entry stand ahead of the other? -/
theorem before2 {a b : S73} (ha : VsOk a.f0) (hb : VsOk b.f0) (hl : a.f0.length = b.f0.length) (hn : b.f0.length ≤ 2000000) : ∃ c : Int, Ev (fun k => spec_l05Before.f k a b) (decide (c < 0)) ∧ Ev (fun k => impl_entryOrder.f k a b) c := by
  obtain ⟨c, h1, h2⟩ := side2 ha hb (by omega) hn
  rw [← hl] at h2
  unfold spec_l05Before.f impl_entryOrder.f
  by_cases hc : c < 0
  · have h0 : (c == 0) = false := by simp; omega
    refine ⟨c, Ev.bind h1 ?_, Ev.bind h2 ?_⟩
    · simp only [decide_eq_true hc, cond_true]; exact Ev.ret _
    · simp only [h0, cond_false]; exact Ev.ret _
  · by_cases h0 : c = 0
    · refine ⟨cmpI a.f1 b.f1, Ev.bind h1 ?_, Ev.bind h2 ?_⟩
      · simp only [decide_eq_false hc, cond_false, h0, beq_self_eq_true, cond_true]
        refine (Ev.ret _).eq ?_
        unfold cmpI
        by_cases h3 : a.f1 < b.f1
        · simp [h3]
        · simp only [h3, if_false, decide_false]
          by_cases h4 : b.f1 < a.f1 <;> simp [h4]
      · simp only [h0, beq_self_eq_true, cond_true, sign_, Option.bind_some]; exact Ev.ret _
    · have h0' : (c == 0) = false := by simpa using h0
      refine ⟨c, Ev.bind h1 ?_, Ev.bind h2 ?_⟩
      · simp only [decide_eq_false hc, cond_false, h0']; exact Ev.ret _
      · simp only [h0', cond_false]; exact Ev.ret _
/-- An entry's number that stood ahead: the reference looks for it. -/
theorem dup_l1 {l : List S73} {i : Nat} (hi : i < l.length) (hl : l.length ≤ 2000000) : ∀ (n j : Nat), i - j ≤ n → j ≤ i →
    (∃ m, j ≤ m ∧ ∃ hm : m < i, (l[m]'(by omega)).f1 = l[i].f1) ∧ Ev (fun k => spec_IndexFault.l1 k l (i : Int) (j : Int)) 1 ∨
    (¬ ∃ m, j ≤ m ∧ ∃ hm : m < i, (l[m]'(by omega)).f1 = l[i].f1) ∧ ∀ R, Ev (fun k => spec_IndexFault.l0 k l ((i + 1 : Nat) : Int)) R → Ev (fun k => spec_IndexFault.l1 k l (i : Int) (j : Int)) R := by
  have fin : ¬ (∃ m, i ≤ m ∧ ∃ hm : m < i, (l[m]'(by omega)).f1 = l[i].f1) ∧ ∀ R, Ev (fun k => spec_IndexFault.l0 k l ((i + 1 : Nat) : Int)) R → Ev (fun k => spec_IndexFault.l1 k l (i : Int) (i : Int)) R := by
    refine ⟨fun ⟨m, h1, h2, _⟩ => by omega, fun R h => Ev.step ?_⟩
    simp only [spec_IndexFault.l1, ltn (show ¬ i < i by omega), cond_false, wup hi hl]
    exact h
  intro n
  induction n with
  | zero =>
    intro j h hj
    obtain rfl : j = i := by omega
    exact .inr fin
  | succ n ih =>
    intro j h hj
    by_cases e : j = i
    · subst e; exact .inr fin
    have hji : j < i := by omega
    have hjl : j < l.length := by omega
    by_cases he : l[j].f1 = l[i].f1
    · refine .inl ⟨⟨j, Nat.le_refl _, hji, he⟩, Ev.step ?_⟩
      simp only [spec_IndexFault.l1, ltd hji, cond_true, ixg hi, ixg hjl, Option.bind_some, show (l[j].f1 == l[i].f1) = true by simpa using he]
      exact Ev.ret _
    · have st : ∀ R, Ev (fun k => spec_IndexFault.l1 k l (i : Int) ((j + 1 : Nat) : Int)) R → Ev (fun k => spec_IndexFault.l1 k l (i : Int) (j : Int)) R := fun R h => by
        refine Ev.step ?_
        simp only [spec_IndexFault.l1, ltd hji, cond_true, ixg hi, ixg hjl, Option.bind_some, show (l[j].f1 == l[i].f1) = false by simpa using he, cond_false, wup hjl hl]
        exact h
      rcases ih (j + 1) (by omega) (by omega) with ⟨⟨m, h1, h2, h3⟩, h4⟩ | ⟨h3, h4⟩
      · exact .inl ⟨⟨m, by omega, h2, h3⟩, st _ h4⟩
      · refine .inr ⟨fun ⟨m, h1, h2, h5⟩ => ?_, fun R h => st R (h4 R h)⟩
        by_cases em : m = j
        · subst em; exact he h5
        · exact h3 ⟨m, by omega, h2, h5⟩
theorem index_l0 {l : List S73} (hl : l.length ≤ 1000) : ∀ (n i : Nat) (tb : List (Int × Int)), l.length - i ≤ n → (∀ id, tget tb id 0 = if id ∈ (l.take i).map (·.f1) then 1 else 0) →
    (∀ e ∈ l.take i, VsOk e.f0 ∧ e.f0.length = (l[0]?.map (·.f0.length)).getD 0 ∧ e.f0.length ≤ 3) →
    ∃ c : Bool, (c = true → ∀ e ∈ l, VsOk e.f0 ∧ e.f0.length = (l[0]?.map (·.f0.length)).getD 0 ∧ e.f0.length ≤ 3) ∧ Ev (fun k => spec_IndexFault.l0 k l (i : Int)) (if c then 0 else 1) ∧ Ev (fun k => impl_indexOk.l0 k l (i : Int) tb) c := by
  have fin : ∀ (i : Nat) (tb : List (Int × Int)), ¬ i < l.length → (∀ e ∈ l.take i, VsOk e.f0 ∧ e.f0.length = (l[0]?.map (·.f0.length)).getD 0 ∧ e.f0.length ≤ 3) →
    ∃ c : Bool, (c = true → ∀ e ∈ l, VsOk e.f0 ∧ e.f0.length = (l[0]?.map (·.f0.length)).getD 0 ∧ e.f0.length ≤ 3) ∧ Ev (fun k => spec_IndexFault.l0 k l (i : Int)) (if c then 0 else 1) ∧ Ev (fun k => impl_indexOk.l0 k l (i : Int) tb) c := fun i tb h hv => by
    rw [List.take_of_length_le (by omega)] at hv
    refine ⟨true, fun _ => hv, Ev.step ?_, Ev.step ?_⟩
    · simp only [spec_IndexFault.l0, ltn h, cond_false]; exact Ev.ret _
    · simp only [impl_indexOk.l0, ltn h, cond_false]; exact Ev.ret _
  intro n
  induction n with
  | zero => intro i tb h ht hv; exact fin i tb (by omega) hv
  | succ n ih =>
    intro i tb h ht hv
    by_cases hi : i < l.length
    case neg => exact fin i tb hi hv
    have hdec : l.length - (i + 1) ≤ n := by omega
    have h00 : 0 < l.length := by omega
    have i0 : ix l 0 = some l[0] := ixg (i := 0) h00
    have g0 : (l[0]?.map (·.f0.length)).getD 0 = l[0].f0.length := by rw [List.getElem?_eq_getElem h00]; rfl
    have hl' : l.length ≤ 2000000 := by omega
    -- what both do first
    have no : ∀ {f : Nat → Option Int} {g : Nat → Option Bool}, Ev f 1 → Ev g false → ∃ c : Bool, (c = true → ∀ e ∈ l, VsOk e.f0 ∧ e.f0.length = (l[0]?.map (·.f0.length)).getD 0 ∧ e.f0.length ≤ 3) ∧ Ev f (if c then 0 else 1) ∧ Ev g c := fun h1 h2 => ⟨false, fun e => (by cases e), h1, h2⟩
    suffices hh : ∃ c : Bool, (c = true → ∀ e ∈ l, VsOk e.f0 ∧ e.f0.length = (l[0]?.map (·.f0.length)).getD 0 ∧ e.f0.length ≤ 3) ∧ Ev (fun k => spec_IndexFault.l0 (k + 1) l (i : Int)) (if c then 0 else 1) ∧ Ev (fun k => impl_indexOk.l0 (k + 1) l (i : Int) tb) c by
      obtain ⟨c, h1, h2, h3⟩ := hh
      exact ⟨c, h1, h2.step, h3.step⟩
    simp only [spec_IndexFault.l0, impl_indexOk.l0, ltd hi, cond_true, ixg hi, i0, Option.bind_some, wup hi hl']
    by_cases c1 : l[i].f0.length < 1
    · simp only [decide_eq_true (show ((l[i].f0.length : Nat) : Int) < 1 by omega), cond_true]
      exact no (Ev.ret _) (Ev.ret _)
    by_cases c2 : 3 < l[i].f0.length
    · simp only [decide_eq_false (show ¬ ((l[i].f0.length : Nat) : Int) < 1 by omega), decide_eq_true (show (3 : Int) < (l[i].f0.length : Int) by omega), cond_true, cond_false]
      exact no (Ev.ret _) (Ev.ret _)
    simp only [decide_eq_false (show ¬ ((l[i].f0.length : Nat) : Int) < 1 by omega), decide_eq_false (show ¬ (3 : Int) < (l[i].f0.length : Int) by omega), cond_false]
    by_cases c3 : l[i].f0.length = l[0].f0.length
    case neg =>
      simp only [show ((l[i].f0.length : Int) == (l[0].f0.length : Int)) = false by simp; omega, cond_false]
      exact no (Ev.ret _) (Ev.ret _)
    simp only [show ((l[i].f0.length : Int) == (l[0].f0.length : Int)) = true by simp; omega, cond_true]
    obtain ⟨c, v1, v2, v3⟩ := values2 (l := l[i].f0) (by omega)
    cases c with
    | false => exact no (Ev.bind v2 (by simp only [cond_false]; exact Ev.ret _)) (Ev.bind v3 (by simp only [cond_false]; exact Ev.ret _))
    | true =>
      have hvi := v1 rfl
      have hv' : ∀ e ∈ l.take (i + 1), VsOk e.f0 ∧ e.f0.length = (l[0]?.map (·.f0.length)).getD 0 ∧ e.f0.length ≤ 3 := fun e he => by
        rw [List.take_succ_eq_append_getElem hi] at he
        rcases List.mem_append.1 he with he | he
        · exact hv e he
        · obtain rfl : e = l[i] := by simpa using he
          exact ⟨hvi, by rw [g0]; omega, by omega⟩
      -- has the number stood ahead?
      have hmem : l[i].f1 ∈ (l.take i).map (·.f1) ↔ ∃ m, 0 ≤ m ∧ ∃ hm : m < i, (l[m]'(by omega)).f1 = l[i].f1 := by
        constructor
        · intro hm
          obtain ⟨e, he, h1⟩ := List.mem_map.1 hm
          obtain ⟨m, hm, rfl⟩ := List.mem_iff_getElem.1 he
          rw [List.length_take] at hm
          rw [List.getElem_take] at h1
          exact ⟨m, Nat.zero_le _, by omega, h1⟩
        · rintro ⟨m, -, hm, h1⟩
          refine List.mem_map.2 ⟨l[m]'(by omega), ?_, h1⟩
          exact List.mem_iff_getElem.2 ⟨m, by rw [List.length_take]; omega, by rw [List.getElem_take]⟩
      have spl : ∀ R, Ev (fun k => spec_IndexFault.l1 k l (i : Int) 0) R → Ev (fun k => spec_IndexFault.j0 k l (i : Int)) R := fun R h => Ev.step (by simp only [spec_IndexFault.j0]; exact h)
      have tnew : tget (tput tb l[i].f1 (IntKind.i64.wrap (tget tb l[i].f1 0 + 1))) l[i].f1 0 = if l[i].f1 ∈ (l.take i).map (·.f1) then 2 else 1 := by
        rw [tget_tput, if_pos rfl, ht]
        split <;> rfl
      by_cases hd : l[i].f1 ∈ (l.take i).map (·.f1)
      · -- it has: both say no
        obtain ⟨-, hj⟩ | ⟨hj, -⟩ := dup_l1 hi hl' _ 0 (Nat.le_refl _) (Nat.zero_le _)
        case inr => exact absurd (hmem.1 hd) hj
        refine no (Ev.bind v2 ?_) (Ev.bind v3 ?_)
        · simp only [cond_true]
          by_cases hp : 0 < i
          · have hpl : i - 1 < l.length := by omega
            simp only [decide_eq_true (show (0 : Int) < (i : Int) by omega), cond_true, wdn hp hi hl', ixg hpl, Option.bind_some]
            obtain ⟨w1, w2, w3⟩ := hv l[i - 1] (List.mem_iff_getElem.2 ⟨i - 1, by rw [List.length_take]; omega, by rw [List.getElem_take]⟩)
            obtain ⟨c, b1, b2⟩ := before2 w1 hvi (by rw [w2, g0, c3]) (by omega)
            refine Ev.bind b1 ?_
            cases decide (c < 0) with
            | true => simp only [cond_true]; exact spl _ hj
            | false => exact Ev.ret _
          · simp only [decide_eq_false (show ¬ (0 : Int) < (i : Int) by omega), cond_false]
            exact spl _ hj
        · simp only [cond_true, tnew, if_pos hd, show decide ((1 : Int) < 2) = true from rfl]
          exact Ev.ret _
      · obtain ⟨hj, -⟩ | ⟨-, hj⟩ := dup_l1 hi hl' _ 0 (Nat.le_refl _) (Nat.zero_le _)
        case inl => exact absurd (hmem.2 hj) hd
        obtain ⟨c, k1, k2, k3⟩ := ih (i + 1) (tput tb l[i].f1 (IntKind.i64.wrap (tget tb l[i].f1 0 + 1))) hdec (fun id => by
          rw [tget_tput, ht, List.take_succ_eq_append_getElem hi, List.map_append]
          by_cases e : id = l[i].f1
          · rw [if_pos e, if_neg hd, if_pos (by rw [List.mem_append]; right; simp [e])]; rfl
          · rw [if_neg e, ht]
            congr 1
            simp only [List.mem_append, List.map_cons, List.map_nil, List.mem_singleton, e, or_false]) hv'
        by_cases hp : 0 < i
        · have hpl : i - 1 < l.length := by omega
          obtain ⟨w1, w2, w3⟩ := hv l[i - 1] (List.mem_iff_getElem.2 ⟨i - 1, by rw [List.length_take]; omega, by rw [List.getElem_take]⟩)
          obtain ⟨b, b1, b2⟩ := before2 w1 hvi (by rw [w2, g0, c3]) (by omega)
          simp only [decide_eq_true (show (0 : Int) < (i : Int) by omega), cond_true, wdn hp hi hl', ixg hpl, Option.bind_some, tnew, if_neg hd, show decide ((1 : Int) < 1) = false from rfl, cond_false]
          by_cases hb : b < 0
          · exact ⟨c, k1, Ev.bind v2 (by simp only [cond_true]; exact Ev.bind b1 (by simp only [decide_eq_true hb, cond_true]; exact spl _ (hj _ k2))), Ev.bind v3 (by simp only [cond_true]; exact Ev.bind b2 (by simp only [decide_eq_false (show ¬ 0 ≤ b by omega), cond_false]; exact k3))⟩
          · exact no (Ev.bind v2 (by simp only [cond_true]; exact Ev.bind b1 (by simp only [decide_eq_false hb, cond_false]; exact Ev.ret _))) (Ev.bind v3 (by simp only [cond_true]; exact Ev.bind b2 (by simp only [decide_eq_true (show 0 ≤ b by omega), cond_true]; exact Ev.ret _)))
        · simp only [decide_eq_false (show ¬ (0 : Int) < (i : Int) by omega), tnew, if_neg hd, show decide ((1 : Int) < 1) = false from rfl, cond_false]
          exact ⟨c, k1, Ev.bind v2 (by simp only [cond_true]; exact spl _ (hj _ k2)), Ev.bind v3 (by simp only [cond_true]; exact k3)⟩
def IxOk (l : List S73) : Prop := ∀ e ∈ l, VsOk e.f0 ∧ e.f0.length = (l[0]?.map (·.f0.length)).getD 0 ∧ e.f0.length ≤ 3
theorem index_ok {l : List S73} (hl : l.length ≤ 1000) : ∃ c : Bool, (c = true → IxOk l) ∧ Ev (fun k => spec_IndexFault.f k l) (if c then 0 else 1) ∧ Ev (fun k => impl_indexOk.f k l) c := by
  obtain ⟨c, h1, h2, h3⟩ := index_l0 hl _ 0 [] (Nat.le_refl _) (fun id => by simp [tget, tfind]) (fun e he => by simp at he)
  refine ⟨c, h1, Ev.step ?_, Ev.step ?_⟩
  · simp only [spec_IndexFault.f, decide_eq_false (show ¬ (1000 : Int) < (l.length : Int) by omega), cond_false]; exact h2
  · simp only [impl_indexOk.f]; exact h3
theorem index2 (l : List S73) : B2 (fun k => spec_IndexFault.f k l) (fun k => impl_IndexFault.f k l) := by
  unfold impl_IndexFault.f
  by_cases h : l.length ≤ 1000
  · obtain ⟨c, -, h1, h2⟩ := index_ok h
    refine ⟨_, h1, ?_⟩
    simp only [decide_eq_false (show ¬ (1000 : Int) < (l.length : Int) by omega), cond_false]
    refine Ev.bind h2 ?_
    cases c <;> exact Ev.ret _
  · refine ⟨1, Ev.step ?_, ?_⟩
    · simp only [spec_IndexFault.f, decide_eq_true (show (1000 : Int) < (l.length : Int) by omega), cond_true]; exact Ev.ret _
    · simp only [decide_eq_true (show (1000 : Int) < (l.length : Int) by omega), cond_true]; exact Ev.ret _
theorem ends2 {l : List S73} (e : List ByteArray) : ∃ c : Bool, (c = true → VsOk e ∧ e.length ≤ 3 ∧ ∀ h : 0 < l.length, e.length ≤ l[0].f0.length) ∧ Ev (fun k => spec_l05Ends.f k l e) c ∧ Ev (fun k => impl_endOk.f k l e) c := by
  unfold spec_l05Ends.f impl_endOk.f
  by_cases h3 : e.length ≤ 3
  · simp only [decide_eq_true (show (e.length : Int) ≤ 3 by omega), cond_true]
    obtain ⟨c, v1, v2, v3⟩ := values2 (l := e) (by omega)
    by_cases h0 : l.length = 0
    · simp only [show ((l.length : Int) == 0) = true by simp; exact List.length_eq_zero_iff.1 h0, cond_true]
      exact ⟨c, fun hc => ⟨v1 hc, h3, fun h => by omega⟩, Ev.bind v2 (Ev.ret _), Ev.bind v3 (Ev.ret _)⟩
    · have h00 : 0 < l.length := by omega
      simp only [show ((l.length : Int) == 0) = false by simp; exact fun e => h0 (by rw [e]; rfl), cond_false, show ix l 0 = some l[0] from ixg (i := 0) h00, Option.bind_some]
      by_cases h4 : e.length ≤ l[0].f0.length
      · simp only [decide_eq_true (show (e.length : Int) ≤ (l[0].f0.length : Int) by omega), cond_true]
        exact ⟨c, fun hc => ⟨v1 hc, h3, fun h => h4⟩, Ev.bind v2 (Ev.ret _), Ev.bind v3 (Ev.ret _)⟩
      · simp only [decide_eq_false (show ¬ (e.length : Int) ≤ (l[0].f0.length : Int) by omega), cond_false]
        exact ⟨false, fun hc => (by cases hc), Ev.ret _, Ev.ret _⟩
  · simp only [decide_eq_false (show ¬ (e.length : Int) ≤ 3 by omega), cond_false]
    exact ⟨false, fun hc => (by cases hc), Ev.ret _, Ev.ret _⟩
theorem first_l0 {l : List S73} {e : List ByteArray} (hl : l.length ≤ 1000) (hx : IxOk l) (he : VsOk e) (h3 : e.length ≤ 3) (h4 : ∀ h : 0 < l.length, e.length ≤ l[0].f0.length) :
    ∀ (n i : Nat), l.length - i ≤ n → B2 (fun k => spec_FindFirst.l0 k l e (i : Int)) (fun k => impl_FindFirst.l0 k l e (i : Int)) := by
  have fin : ∀ i : Nat, ¬ i < l.length → B2 (fun k => spec_FindFirst.l0 k l e (i : Int)) (fun k => impl_FindFirst.l0 k l e (i : Int)) := fun i h => by
    refine B2.step ?_
    simp only [spec_FindFirst.l0, impl_FindFirst.l0, ltn h, cond_false]
    exact B2.ret _
  intro n
  induction n with
  | zero => intro i h; exact fin i (by omega)
  | succ n ih =>
    intro i h
    by_cases hi : i < l.length
    case neg => exact fin i hi
    have h00 : 0 < l.length := by omega
    obtain ⟨w1, w2, w3⟩ := hx _ (List.getElem_mem hi)
    rw [List.getElem?_eq_getElem h00] at w2
    have w2' : l[i].f0.length = l[0].f0.length := w2
    refine B2.step ?_
    simp only [spec_FindFirst.l0, impl_FindFirst.l0, ltd hi, cond_true, ixg hi, Option.bind_some, wup hi (show l.length ≤ 2000000 by omega)]
    refine (side2 w1 he (by have := h4 h00; omega) (by omega)).bind fun a => B2.cond (fun _ => B2.ret _) (fun _ => ih (i + 1) (by omega))
theorem first2 (l : List S73) (e : List ByteArray) : B2 (fun k => spec_FindFirst.f k l e) (fun k => impl_FindFirst.f k l e) := by
  refine B2.step ?_
  simp only [spec_FindFirst.f, impl_FindFirst.f]
  by_cases h : l.length ≤ 1000
  · simp only [decide_eq_false (show ¬ (1000 : Int) < (l.length : Int) by omega), cond_false]
    obtain ⟨c, h1, h2, h3⟩ := index_ok h
    cases c with
    | false => exact ⟨-1, Ev.bind h2 (Ev.ret _), Ev.bind h3 (Ev.ret _)⟩
    | true =>
      obtain ⟨d, e1, e2, e3⟩ := ends2 (l := l) e
      cases d with
      | false => exact ⟨-1, Ev.bind h2 (Ev.bind e2 (Ev.ret _)), Ev.bind h3 (Ev.bind e3 (Ev.ret _))⟩
      | true =>
        obtain ⟨g1, g2, g3⟩ := e1 rfl
        obtain ⟨r, r1, r2⟩ := first_l0 h (h1 rfl) g1 g2 g3 _ 0 (Nat.le_refl _)
        exact ⟨r, Ev.bind h2 (Ev.bind e2 r1), Ev.bind h3 (Ev.bind e3 r2)⟩
  · refine ⟨-1, Ev.bind (a := 1) (Ev.step ?_) (by simp only [show ((1 : Int) == 0) = false from rfl, cond_false]; exact Ev.ret _), ?_⟩
    · simp only [spec_IndexFault.f, decide_eq_true (show (1000 : Int) < (l.length : Int) by omega), cond_true]; exact Ev.ret _
    · simp only [decide_eq_true (show (1000 : Int) < (l.length : Int) by omega), cond_true]; exact Ev.ret _
end Go.Ab
