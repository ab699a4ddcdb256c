/- Schemas, part 6: edges, keys, the answer. No condition. -/
import Derived.Test.YtaddedbombndlaaAbSC3
namespace Go.Ab
open Go.Proofs
set_option linter.unusedVariables false
set_option linter.unusedSimpArgs false
theorem less_tri : ∀ (a b : List UInt8), Op.bytesLess a b = false → Op.bytesLess b a = false → a = b
 | [], [], _, _ => rfl
 | [], _ :: _, h, _ => by simp [Op.bytesLess] at h
 | _ :: _, [], _, h => by simp [Op.bytesLess] at h
 | x :: a, y :: b, h, h' => by
   simp only [Op.bytesLess, Bool.or_eq_false_iff, Bool.and_eq_false_iff, decide_eq_false_iff_not, beq_eq_false_iff_ne, UInt8.lt_iff_toNat_lt] at h h'
   have e : x = y := UInt8.toNat_inj.1 (by omega)
   subst e
   have h1 : Op.bytesLess a b = false := h.2.resolve_left fun e => e rfl
   have h2 : Op.bytesLess b a = false := h'.2.resolve_left fun e => e rfl
   rw [less_tri a b h1 h2]
theorem slt_tri {a b : ByteArray} (h : slt a b = false) (h' : slt b a = false) : a = b := by
  have := less_tri _ _ h h'
  rw [ByteArray.toList_eq, ByteArray.toList_eq] at this
  exact ByteArray.ext (Array.toList_inj.1 this)
def cm (a b : ByteArray) : Int := if slt a b then -1 else if slt b a then 1 else 0
theorem cm_ (k : Nat) (a b : ByteArray) : cmp_Compare.f k a b = some (cm a b) := by
  simp only [cmp_Compare.f, cmp_isNaN.f, Option.bind_some, decide_true, Bool.not_true, cond_false]
  unfold cm
  cases slt a b <;> cases slt b a <;> rfl
theorem cm_eq {a : ByteArray} : cm a a = 0 := by unfold cm; rw [slt_irr]; rfl
theorem cm_ne {a b : ByteArray} (h : a ≠ b) : (cm a b == 0) = false ∧ decide (0 ≤ cm a b) = !slt a b := by
  unfold cm
  cases h1 : slt a b with
  | true => exact ⟨rfl, rfl⟩
  | false =>
    cases h2 : slt b a with
    | true => exact ⟨rfl, rfl⟩
    | false => exact absurd (slt_tri h1 h2) h
def befB (a b : S99) : Bool := bif decide (a.f0 = b.f0) then (bif decide (a.f1 = b.f1) then slt a.f2 b.f2 else slt a.f1 b.f1) else slt a.f0 b.f0
theorem bef_ (k : Nat) (a b : S99) : spec_l03Before.f k a b = some (befB a b) := by
  unfold spec_l03Before.f befB
  cases decide (a.f0 = b.f0) <;> cases decide (a.f1 = b.f1) <;> rfl
theorem cmp3 (a b : S99) : ∃ r, Ev (fun k => slices_Compare.f k [a.f0, a.f1, a.f2] [b.f0, b.f1, b.f2]) r ∧ decide (0 ≤ r) = !befB a b := by
  have w0 : IntKind.i64.wrap 1 = 1 := by decide
  have w1' : IntKind.i64.wrap 2 = 2 := by decide
  have w2 : IntKind.i64.wrap 3 = 3 := by decide
  have x0 : ∀ l : List ByteArray, ix l 0 = l[0]? := fun l => rfl
  have x1 : ∀ l : List ByteArray, ix l 1 = l[1]? := fun l => rfl
  have x2 : ∀ l : List ByteArray, ix l 2 = l[2]? := fun l => rfl
  unfold befB
  by_cases h0 : a.f0 = b.f0
  · by_cases h1 : a.f1 = b.f1
    · by_cases h2 : a.f2 = b.f2
      · refine ⟨0, Ev.step (Ev.step (Ev.step (Ev.step (Ev.step ?_)))), by rw [decide_eq_true h0, decide_eq_true h1, h2, slt_irr]; rfl⟩
        simp [slices_Compare.f, slices_Compare.l0, cm_, x0, x1, x2, w0, w1', w2, h0, h1, h2, cm_eq]
        exact Ev.ret _
      · refine ⟨cm a.f2 b.f2, Ev.step (Ev.step (Ev.step (Ev.step (Ev.step ?_)))), by rw [decide_eq_true h0, decide_eq_true h1, (cm_ne h2).2]; rfl⟩
        simp [slices_Compare.f, slices_Compare.l0, cm_, x0, x1, x2, w0, w1', w2, h0, h1, cm_eq, (cm_ne h2).1]
        exact Ev.ret _
    · refine ⟨cm a.f1 b.f1, Ev.step (Ev.step (Ev.step (Ev.step (Ev.step ?_)))), by rw [decide_eq_true h0, decide_eq_false h1, (cm_ne h1).2]; rfl⟩
      simp [slices_Compare.f, slices_Compare.l0, cm_, x0, x1, x2, w0, w1', w2, h0, cm_eq, (cm_ne h1).1]
      exact Ev.ret _
  · refine ⟨cm a.f0 b.f0, Ev.step (Ev.step (Ev.step (Ev.step (Ev.step ?_)))), by rw [decide_eq_false h0, (cm_ne h0).2]; rfl⟩
    simp [slices_Compare.f, slices_Compare.l0, cm_, x0, x1, x2, w0, w1', w2, (cm_ne h0).1]
    exact Ev.ret _
/-- An answer as a number and as a bit. -/
def B3 (f : Nat → Option Int) (g : Nat → Option Bool) : Prop := ∃ b : Bool, Ev f (if b then 0 else 1) ∧ Ev g b
theorem B3.step {f : Nat → Option Int} {g : Nat → Option Bool} (h : B3 (fun k => f (k + 1)) (fun k => g (k + 1))) : B3 f g := by
  obtain ⟨c, h1, h2⟩ := h; exact ⟨c, h1.step, h2.step⟩
theorem B3.istep {f : Nat → Option Int} {g : Nat → Option Bool} (h : B3 f (fun k => g (k + 1))) : B3 f g := by
  obtain ⟨c, h1, h2⟩ := h; exact ⟨c, h1, h2.step⟩
theorem B3.sstep {f : Nat → Option Int} {g : Nat → Option Bool} (h : B3 (fun k => f (k + 1)) g) : B3 f g := by
  obtain ⟨c, h1, h2⟩ := h; exact ⟨c, h1.step, h2⟩
theorem B3.no : B3 (fun _ => some 1) (fun _ => some false) := ⟨false, Ev.ret _, Ev.ret _⟩
theorem B3.yes : B3 (fun _ => some 0) (fun _ => some true) := ⟨true, Ev.ret _, Ev.ret _⟩
theorem B3.both {α : Type} {f g : Nat → Option α} {f' : Nat → α → Option Int} {g' : Nat → α → Option Bool} (h : B2 f g) (h' : ∀ a, B3 (fun k => f' k a) (fun k => g' k a)) : B3 (fun k => (f k).bind (f' k)) (fun k => (g k).bind (g' k)) := by
  obtain ⟨c, h1, h2⟩ := h
  obtain ⟨d, h3, h4⟩ := h' c
  exact ⟨d, Ev.bind h1 h3, Ev.bind h2 h4⟩
theorem B3.sbind {α : Type} {f : Nat → Option α} {f' : Nat → α → Option Int} {g : Nat → Option Bool} {a : α} (h : Ev f a) (h' : B3 (fun k => f' k a) g) : B3 (fun k => (f k).bind (f' k)) g := by
  obtain ⟨d, h3, h4⟩ := h'; exact ⟨d, Ev.bind h h3, h4⟩
theorem B3.ibind {α : Type} {f : Nat → Option Int} {g : Nat → Option α} {g' : Nat → α → Option Bool} {a : α} (h : Ev g a) (h' : B3 f (fun k => g' k a)) : B3 f (fun k => (g k).bind (g' k)) := by
  obtain ⟨d, h3, h4⟩ := h'; exact ⟨d, h3, Ev.bind h h4⟩
theorem B3.cond {c : Bool} {f f' : Nat → Option Int} {g g' : Nat → Option Bool} (h : c = true → B3 f g) (h' : c = false → B3 f' g') : B3 (fun k => bif c then f k else f' k) (fun k => bif c then g k else g' k) := by
  cases c with
  | true => exact h rfl
  | false => exact h' rfl
theorem cb {α β : Type} (c : Bool) (a b : Option α) (g : α → Option β) : (bif c then a else b).bind g = bif c then a.bind g else b.bind g := by cases c <;> rfl
section
variable {N : List S96} {E : List S99} {K : List S92} {c : Bool}
theorem type2 (hN : N.length ≤ 2000000) (a : ByteArray) : B2 (fun k => spec_l03Type.f k ⟨N, E, K, c⟩ a) (fun k => impl_typeAt.f k ⟨N, E, K, c⟩ a) :=
  ⟨_, stype (s := ⟨N, E, K, c⟩) (by simpa using (by omega)) a, itype (s := ⟨N, E, K, c⟩) (by simpa using (by omega)) a⟩
theorem snames {k : S92} (hk : k.f1.length ≤ 2000000) (i : Int) {q : Int} (hq : Ev (fun n => spec_SchemaFault.l2 n (IntKind.i64.wrap (i + 1)) ⟨N, E, K, c⟩) q) :
  ∀ n j : Nat, k.f1.length - j ≤ n → Ev (fun n => spec_SchemaFault.l3 n i (j : Int) ⟨N, E, K, c⟩ k) (if (k.f1.drop j).all nmB then q else 1) := by
  intro n
  have fin : ∀ j : Nat, ¬ j < k.f1.length → Ev (fun n => spec_SchemaFault.l3 n i (j : Int) ⟨N, E, K, c⟩ k) (if (k.f1.drop j).all nmB then q else 1) := fun j hj => by
    refine Ev.step ?_
    rw [List.drop_of_length_le (by omega)]
    simp only [spec_SchemaFault.l3, ltn hj, cond_false]
    exact hq
  induction n with
  | zero => intro j h; exact fin j (by omega)
  | succ n ih =>
    intro j h
    by_cases hj : j < k.f1.length
    case neg => exact fin j hj
    refine Ev.step ?_
    rw [List.drop_eq_getElem_cons hj, List.all_cons]
    simp only [spec_SchemaFault.l3, ltd hj, cond_true, ixg hj, Option.bind_some]
    refine Ev.bind (lnm _) ?_
    cases nmB k.f1[j] with
    | false => exact Ev.ret _
    | true =>
      simp only [cond_true, Bool.true_and, wup hj hk]
      exact ih (j + 1) (by omega)
theorem keys3 (hN : N.length ≤ 2000000) (hK : K.length ≤ 2000000) (hk : ∀ k ∈ K, k.f1.length ≤ 2000000) : ∀ n i : Nat, K.length - i ≤ n → B3 (fun k => spec_SchemaFault.l2 k (i : Int) ⟨N, E, K, c⟩) (fun k => impl_schemaOk.l8 k ⟨N, E, K, c⟩ (i : Int)) := by
  intro n
  have fin : ∀ i : Nat, ¬ i < K.length → B3 (fun k => spec_SchemaFault.l2 k (i : Int) ⟨N, E, K, c⟩) (fun k => impl_schemaOk.l8 k ⟨N, E, K, c⟩ (i : Int)) := fun i hi => by
    refine B3.step ?_
    simp only [spec_SchemaFault.l2, impl_schemaOk.l8, ltn hi, cond_false]
    exact B3.yes
  induction n with
  | zero => intro i h; exact fin i (by omega)
  | succ n ih =>
    intro i h
    by_cases hi : i < K.length
    case neg => exact fin i hi
    have g := ih (i + 1) (by omega)
    have hkl := hk _ (List.getElem_mem hi)
    have tail : B3 (fun k => bif decide ((K[i].f1.length : Int) < 1) then (some 1) else (bif decide (3 < (K[i].f1.length : Int)) then (some 1) else ((spec_l01Rising.f k K[i].f1).bind fun v17 => (bif v17 then (spec_SchemaFault.j2 k (i : Int) ⟨N, E, K, c⟩ K[i]) else (some 1)))))
        (fun k => bif ((K[i].f1.length : Int) == 0) then (some false) else ((impl_risingNames.f k K[i].f1 3).bind fun v60 => (bif v60 then (impl_schemaOk.l8 k ⟨N, E, K, c⟩ (IntKind.i64.wrap ((i : Int) + 1))) else (some false)))) := by
      by_cases h0 : K[i].f1.length = 0
      · simp only [h0, show decide (((0 : Nat) : Int) < 1) = true from rfl, show (((0 : Nat) : Int) == 0) = true from rfl, cond_true]
        exact B3.no
      · simp only [show decide ((K[i].f1.length : Int) < 1) = false by simp; omega, show ((K[i].f1.length : Int) == 0) = false by simp; exact fun e => h0 (by rw [e]; rfl), cond_false]
        refine B3.ibind (ilab _ (m := 3) (by omega)) ?_
        unfold labB
        by_cases h3 : K[i].f1.length ≤ 3
        · simp only [show decide (3 < (K[i].f1.length : Int)) = false by simp; omega, cond_false, decide_eq_true h3, Bool.true_and]
          refine B3.sbind (rising_ hkl) ?_
          cases risingB K[i].f1 with
          | false => simp only [cond_false, Bool.and_false]; exact B3.no
          | true =>
            simp only [cond_true, Bool.and_true, wup hi hK]
            obtain ⟨b, g1, g2⟩ := g
            have := snames (N := N) (E := E) (K := K) (c := c) hkl (i : Int) (by rw [wup hi hK]; exact g1) _ 0 (Nat.le_refl _)
            rw [List.drop_zero] at this
            have hj2 : Ev (fun n => spec_SchemaFault.j2 n (i : Int) ⟨N, E, K, c⟩ K[i]) (if K[i].f1.all nmB then (if b then 0 else 1) else 1) := Ev.step (by simp only [spec_SchemaFault.j2]; exact this)
            cases hn : K[i].f1.all nmB with
            | false => rw [hn] at hj2; exact ⟨false, hj2, Ev.ret _⟩
            | true => rw [hn] at hj2; exact ⟨b, hj2, g2⟩
        · simp only [show decide (3 < (K[i].f1.length : Int)) = true by simp; omega, cond_true, decide_eq_false h3, Bool.false_and, cond_false]
          exact B3.no
    refine B3.step ?_
    simp only [spec_SchemaFault.l2, impl_schemaOk.l8, ltd hi, cond_true, ixg hi, Option.bind_some]
    refine B3.both (type2 hN _) fun v => B3.cond (fun _ => B3.no) fun _ => ?_
    by_cases h0 : 0 < i
    · simp only [show decide ((0 : Int) < (i : Int)) = true by simpa using h0, cond_true, wdn h0 hi hK, ixg (show i - 1 < K.length by omega), Option.bind_some]
      exact B3.cond (fun _ => tail) fun _ => B3.no
    · simp only [show decide ((0 : Int) < (i : Int)) = false by simp; omega, cond_false]
      exact tail
theorem edges3 (hN : N.length ≤ 2000000) (hE : E.length ≤ 2000000) (he : ∀ e ∈ E, e.f3.length ≤ 2000000) (hK : K.length ≤ 2000000) (hk : ∀ k ∈ K, k.f1.length ≤ 2000000) : ∀ n i : Nat, E.length - i ≤ n → B3 (fun k => spec_SchemaFault.l1 k (i : Int) ⟨N, E, K, c⟩) (fun k => impl_schemaOk.l7 k ⟨N, E, K, c⟩ (i : Int)) := by
  intro n
  have fin : ∀ i : Nat, ¬ i < E.length → B3 (fun k => spec_SchemaFault.l1 k (i : Int) ⟨N, E, K, c⟩) (fun k => impl_schemaOk.l7 k ⟨N, E, K, c⟩ (i : Int)) := fun i hi => by
    refine B3.step ?_
    simp only [spec_SchemaFault.l1, impl_schemaOk.l7, ltn hi, cond_false]
    exact keys3 hN hK hk _ 0 (Nat.le_refl _)
  induction n with
  | zero => intro i h; exact fin i (by omega)
  | succ n ih =>
    intro i h
    by_cases hi : i < E.length
    case neg => exact fin i hi
    obtain ⟨b, g1, g2⟩ := ih (i + 1) (by omega)
    have tail : B3 (fun k => bif decide (0 < (i : Int)) then ((ix E (IntKind.i64.wrap ((i : Int) - 1))).bind fun v9 => ((spec_l03Before.f k v9 E[i]).bind fun v11 => (bif v11 then (spec_SchemaFault.j1 k (i : Int) ⟨N, E, K, c⟩) else (some 1)))) else (spec_SchemaFault.j1 k (i : Int) ⟨N, E, K, c⟩))
        (fun k => impl_schemaOk.j2 k (i : Int) ⟨N, E, K, c⟩ E[i]) := by
      have j1 : Ev (fun k => spec_SchemaFault.j1 k (i : Int) ⟨N, E, K, c⟩) (if b then 0 else 1) := Ev.step (by simp only [spec_SchemaFault.j1, wup hi hE]; exact g1)
      have j3 : Ev (fun k => impl_schemaOk.j3 k ⟨N, E, K, c⟩ (i : Int)) b := Ev.step (by simp only [impl_schemaOk.j3, wup hi hE]; exact g2)
      refine B3.istep ?_
      by_cases h0 : 0 < i
      · have h1 : i - 1 < E.length := by omega
        simp only [impl_schemaOk.j2, show decide ((0 : Int) < (i : Int)) = true by simpa using h0, cond_true, wdn h0 hi hE, ixg h1, Option.bind_some, bef_]
        obtain ⟨r, q1, q2⟩ := cmp3 E[i - 1] E[i]
        refine B3.ibind q1 ?_
        rw [q2]
        cases befB E[i - 1] E[i] with
        | true => exact ⟨b, j1, j3⟩
        | false => exact B3.no
      · simp only [impl_schemaOk.j2, show decide ((0 : Int) < (i : Int)) = false by simp; omega, cond_false]
        exact ⟨b, j1, j3⟩
    refine B3.step ?_
    simp only [spec_SchemaFault.l1, impl_schemaOk.l7, ltd hi, cond_true, ixg hi, Option.bind_some]
    simp only [spec_l03EdgeType.f, impl_countOk.f, Option.bind_assoc, cb, Option.bind_some, cond_true, cond_false]
    refine B3.both (nm2 _) fun v => B3.cond (fun _ => ?_) fun _ => B3.no
    refine B3.both (type2 hN _) fun v => B3.cond (fun _ => B3.no) fun _ => ?_
    refine B3.both (type2 hN _) fun v => B3.cond (fun _ => B3.no) fun _ => ?_
    refine B3.both (rules2 (he _ (List.getElem_mem hi))) fun v => B3.cond (fun _ => ?_) fun _ => B3.no
    refine B3.cond (fun _ => B3.cond (fun _ => ?_) fun _ => B3.no) fun _ => B3.no
    refine B3.cond (fun _ => B3.cond (fun _ => ?_) fun _ => B3.no) fun _ => B3.no
    refine B3.cond (fun _ => B3.cond (fun _ => ?_) fun _ => B3.no) fun _ => B3.no
    refine B3.cond (fun _ => tail) fun _ => ?_
    by_cases hlt : E[i].f4 < E[i].f5
    · simp only [decide_eq_true hlt, show decide (E[i].f5 ≤ E[i].f4) = false by simp; omega, cond_true, cond_false]
      exact B3.no
    · simp only [decide_eq_false hlt, show decide (E[i].f5 ≤ E[i].f4) = true by simp; omega, cond_true, cond_false]
      exact tail
theorem fault3 (hb : Bd N) (hE : E.length ≤ 2000000) (he : ∀ e ∈ E, e.f3.length ≤ 2000000) (hK : K.length ≤ 2000000) (hk : ∀ k ∈ K, k.f1.length ≤ 2000000) :
   ∃ b : Bool, Ev (fun k => spec_SchemaFault.f k ⟨N, E, K, c⟩) (if b then 0 else 1) ∧ Ev (fun k => impl_schemaOk.f k ⟨N, E, K, c⟩) b ∧ (b = true → Ok N) := by
  have no : (∀ k, spec_SchemaFault.f (k + 1) ⟨N, E, K, c⟩ = some 1) → (∀ k, impl_schemaOk.f (k + 1) ⟨N, E, K, c⟩ = some false) → ∃ b : Bool, Ev (fun k => spec_SchemaFault.f k ⟨N, E, K, c⟩) (if b then 0 else 1) ∧ Ev (fun k => impl_schemaOk.f k ⟨N, E, K, c⟩) b ∧ (b = true → Ok N) := fun h1 h2 => ⟨false, Ev.step (Ev.now h1), Ev.step (Ev.now h2), fun h => by cases h⟩
  by_cases h1 : 20 < N.length
  · have d : decide ((20 : Int) < (N.length : Int)) = true := by simp; omega
    exact no (fun k => by simp only [spec_SchemaFault.f, d, cond_true]) fun k => by simp only [impl_schemaOk.f, d, cond_true]
  have d1 : decide ((20 : Int) < (N.length : Int)) = false := by simp; omega
  by_cases h2 : 20 < E.length
  · have d : decide ((20 : Int) < (E.length : Int)) = true := by simp; omega
    exact no (fun k => by simp only [spec_SchemaFault.f, d1, d, cond_true, cond_false]) fun k => by simp only [impl_schemaOk.f, d1, d, cond_true, cond_false]
  have d2 : decide ((20 : Int) < (E.length : Int)) = false := by simp; omega
  by_cases h3 : 10 < K.length
  · have d : decide ((10 : Int) < (K.length : Int)) = true := by simp; omega
    exact no (fun k => by simp only [spec_SchemaFault.f, d1, d2, d, cond_true, cond_false]) fun k => by simp only [impl_schemaOk.f, d1, d2, d, cond_true, cond_false]
  have d3 : decide ((10 : Int) < (K.length : Int)) = false := by simp; omega
  obtain ⟨be, e1, e2⟩ := edges3 (N := N) (E := E) (K := K) (c := c) hb.n hE he hK hk _ 0 (Nat.le_refl _)
  -- what both say of rules
  have hr2 : ∀ l : List S113, ∃ b, l.length ≤ 2000000 → Ev (fun k => spec_l03Rules.f k l) b ∧ Ev (fun k => impl_rulesOk.f k l) b := fun l => by
    by_cases h : l.length ≤ 2000000
    · obtain ⟨b, h1, h2⟩ := rules2 h
      exact ⟨b, fun _ => ⟨h1, h2⟩⟩
    · exact ⟨true, fun h' => absurd h' h⟩
  obtain ⟨rv, hrv⟩ := Classical.axiomOfChoice hr2
  have hv : ∀ t : S96, ∃ b, t ∈ N → Ev (fun k => spec_l03NodeType.f k ⟨N, E, K, c⟩ t) b ∧ (b = true → Stat N rv t) ∧ (Ok N → Stat N rv t → (b = true ↔ Dyn N t)) := fun t => by
    by_cases h : t ∈ N
    · obtain ⟨b, q⟩ := snode (E := E) (K := K) (c := c) hb (rv := rv) (fun l hl => (hrv l hl).1) (hb.r t h) (hb.p t h)
      exact ⟨b, fun _ => q⟩
    · exact ⟨true, fun h' => absurd h' h⟩
  obtain ⟨v, hv⟩ := Classical.axiomOfChoice hv
  have hs := snodes (E := E) (K := K) (c := c) hb (v := v) (fun t ht => (hv t ht).1) e1
  have hp5 : (∀ t ∈ N, statV N rv t = true) → ∀ t ∈ N, t.f1.length ≤ 5 := fun h t ht => by
    have := h t ht
    simp only [statV, labB, Bool.and_eq_true, decide_eq_true_eq] at this
    exact this.2.1.1
  classical
  have hi := inodes (E := E) (K := K) (c := c) hb (rv := rv) (fun l hl => (hrv l hl).2) (r := if ∀ t ∈ N, DynI N t then be else false) (fun ha => by
    have := il2 (E := E) (K := K) (c := c) hb (hp5 ha) e2 _ 0 (Nat.le_refl _)
    rw [List.drop_zero] at this
    refine this.eq ?_
    by_cases h : ∀ t ∈ N, DynI N t
    · rw [if_pos h]
    · rw [if_neg h])
  have hsf : ∀ {r : Int}, Ev (fun k => spec_SchemaFault.l0 k 0 ⟨N, E, K, c⟩) r → Ev (fun k => spec_SchemaFault.f k ⟨N, E, K, c⟩) r := fun h => Ev.step (by
    simp only [spec_SchemaFault.f, d1, d2, d3, cond_false]; exact h)
  have hif : ∀ {r : Bool}, Ev (fun k => impl_schemaOk.l0 k ⟨N, E, K, c⟩ 0) r → Ev (fun k => impl_schemaOk.f k ⟨N, E, K, c⟩) r := fun h => Ev.step (by
    simp only [impl_schemaOk.f, d1, d2, d3, cond_false]; exact h)
  -- names of parents
  have hlab : (∀ t ∈ N, nmB t.f0 = true) → ∀ p, kn N p = true → nmB p = true := fun h p hk => by
    obtain ⟨t, ht, rfl⟩ := List.mem_map.1 (kn_lab hk)
    exact h t ht
  by_cases hA : N.all v = true ∧ risingB (N.map (·.f0)) = true
  · have hst : ∀ t ∈ N, Stat N rv t := fun t ht => (hv t ht).2.1 (List.all_eq_true.1 hA.1 t ht)
    have hok : Ok N := ⟨by omega, fun t ht p hp => (hst t ht).2.2.2.2 p hp⟩
    have hsv : N.all (statV N rv) = true := List.all_eq_true.2 fun t ht => by
      obtain ⟨q1, q2, q3, q4, q5⟩ := hst t ht
      have q6 : t.f1.all nmB = true := List.all_eq_true.2 fun p hp => hlab (fun u hu => (hst u hu).1) p (q5 p hp)
      have q7 : t.f1.all (kn N) = true := List.all_eq_true.2 q5
      simp only [statV, labB, q1, q2, q3, q4, q6, q7, decide_true, Bool.and_self]
    have hdy : ∀ t ∈ N, DynI N t := fun t ht => by
      have hf := find_self N hA.2 t ht
      have hkt : kn N t.f0 = true := by unfold kn; rw [hf]; rfl
      exact (dyn_iff hf hkt).1 (((hv t ht).2.2 hok (hst t ht)).1 (List.all_eq_true.1 hA.1 t ht))
    refine ⟨be, hsf ?_, hif ?_, fun _ => hok⟩
    · rw [hA.1, hA.2] at hs; exact hs
    · rw [hsv, hA.2, if_pos hdy] at hi; exact hi
  · refine ⟨false, hsf ?_, hif ?_, fun h => by cases h⟩
    · have : (N.all v && risingB (N.map (·.f0))) = false := by
        rw [← Bool.not_eq_true, Bool.and_eq_true]; exact hA
      rw [this] at hs; exact hs
    · cases hq : (N.all (statV N rv) && risingB (N.map (·.f0))) with
      | false => rw [hq] at hi; exact hi
      | true =>
        rw [hq] at hi
        rw [Bool.and_eq_true] at hq
        have hno : ¬ ∀ t ∈ N, DynI N t := fun hdy => hA ⟨List.all_eq_true.2 fun t ht => by
          have hst : ∀ u ∈ N, Stat N rv u := fun u hu => by
            have := List.all_eq_true.1 hq.1 u hu
            simp only [statV, labB, Bool.and_eq_true, decide_eq_true_eq] at this
            exact ⟨this.1, this.2.1.1, this.2.1.2.2, this.2.2.1, List.all_eq_true.1 this.2.2.2⟩
          have hok : Ok N := ⟨by omega, fun u hu p hp => (hst u hu).2.2.2.2 p hp⟩
          have hf := find_self N hq.2 t ht
          have hkt : kn N t.f0 = true := by unfold kn; rw [hf]; rfl
          exact ((hv t ht).2.2 hok (hst t ht)).2 ((dyn_iff hf hkt).2 (hdy t ht)), hq.2⟩
        rw [if_neg hno] at hi
        exact hi
end
end Go.Ab
