/- Schemas, part 1: searching, sorting, types, rules. No condition. -/
import Derived.Test.YtphfoghhcemfhaaAbF
import Derived.Test.YtphfoghhcemfhaaAbR
import Derived.Test.YtphfoghhcemfhaaAbN1
namespace Go.Ab
open Go.Proofs
set_option linter.unusedVariables false
set_option linter.unusedSimpArgs false
theorem w1b {i n : Nat} (h : i < n) (hn : n ≤ 60000000000) : IntKind.i64.wrap ((i : Int) + 1) = ((i + 1 : Nat) : Int) := by
  rw [wI (by omega) (by omega)]; omega
theorem m1b {i n : Nat} (h0 : 0 < i) (h : i ≤ n) (hn : n ≤ 60000000000) : IntKind.i64.wrap ((i : Int) - 1) = ((i - 1 : Nat) : Int) := by
  rw [wI (by omega) (by omega)]; omega
/-- A search through rows. -/
theorem search {α R : Type} {l : List α} {p : α → Bool} {hit : Int → R} {miss : R} {F : Nat → Int → Option R} (hl : l.length ≤ 60000000000)
  (h : ∀ k i, F (k + 1) i = bif decide (i < (l.length : Int)) then ((ix l i).bind fun x => bif p x then some (hit i) else F k (IntKind.i64.wrap (i + 1))) else some miss) :
  ∀ n i : Nat, l.length - i ≤ n → Ev (fun k => F k (i : Int)) (match (l.drop i).findIdx? p with | some j => hit ((i + j : Nat) : Int) | none => miss) := by
  intro n
  induction n with
  | zero =>
    intro i hi
    refine Ev.step ?_
    simp only [h, ltn (show ¬ i < l.length by omega), cond_false, List.drop_of_length_le (show l.length ≤ i by omega), List.findIdx?_nil]
    exact Ev.ret _
  | succ n ih =>
    intro i hn
    by_cases hi : i < l.length
    case neg =>
      refine Ev.step ?_
      simp only [h, ltn hi, cond_false, List.drop_of_length_le (show l.length ≤ i by omega), List.findIdx?_nil]
      exact Ev.ret _
    refine Ev.step ?_
    simp only [h, ltd hi, cond_true, ixg hi, Option.bind_some]
    rw [List.drop_eq_getElem_cons hi, List.findIdx?_cons]
    cases hp : p l[i] with
    | true => exact Ev.ret _
    | false =>
      simp only [cond_false, w1b hi hl]
      refine (ih (i + 1) (by omega)).eq ?_
      cases List.findIdx? p (l.drop (i + 1)) with
      | none => rfl
      | some j => simp [Nat.add_assoc, Nat.add_comm, Nat.add_left_comm]
def fnd {α : Type} (p : α → Bool) (l : List α) : Int := match l.findIdx? p with | some j => (j : Int) | none => -1
theorem fnd_cases {α : Type} (p : α → Bool) (l : List α) : (fnd p l = -1 ∧ l.find? p = none ∧ ∀ x ∈ l, p x = false) ∨ ∃ (j : Nat) (hj : j < l.length), fnd p l = (j : Int) ∧ l.find? p = some l[j] ∧ p l[j] = true := by
  unfold fnd
  induction l with
  | nil => left; simp
  | cons a l ih =>
    rw [List.findIdx?_cons, List.find?_cons]
    cases ha : p a with
    | true => right; exact ⟨0, by simp, rfl, rfl, ha⟩
    | false =>
      rcases ih with ⟨h1, h2, h3⟩ | ⟨j, hj, h1, h2, h3⟩
      · left
        refine ⟨?_, h2, ?_⟩
        · cases hf : List.findIdx? p l with
          | none => simp
          | some q => rw [hf] at h1; simp only at h1; omega
        · intro x hx
          rcases List.mem_cons.1 hx with rfl | hx
          · exact ha
          · exact h3 x hx
      · right
        refine ⟨j + 1, by simp; omega, ?_, by simpa using h2, by simpa using h3⟩
        cases hf : List.findIdx? p l with
        | none => rw [hf] at h1; simp only at h1; omega
        | some q => rw [hf] at h1; simp only at h1; simp; omega
def isAt (a : ByteArray) (t : S160) : Bool := decide (t.f0 = a)
def isRl (a : ByteArray) (t : S280) : Bool := decide (t.f0 = a)
theorem stype {s : S65} (hs : s.f0.length ≤ 60000000000) (a : ByteArray) : Ev (fun k => spec_l03Type.f k s a) (fnd (isAt a) s.f0) := by
  refine Ev.step ?_
  simp only [spec_l03Type.f]
  have := search (p := isAt a) (hit := fun i => i) (miss := -1) (F := fun k i => spec_l03Type.l0 k a i s) hs (fun k i => by simp only [spec_l03Type.l0, isAt]) _ 0 (Nat.le_refl _)
  simpa [fnd] using this
theorem itype {s : S65} (hs : s.f0.length ≤ 60000000000) (a : ByteArray) : Ev (fun k => impl_typeAt.f k s a) (fnd (isAt a) s.f0) := by
  refine Ev.step ?_
  simp only [impl_typeAt.f]
  have := search (p := isAt a) (hit := fun i => i) (miss := -1) (F := fun k i => impl_typeAt.l0 k a s i) hs (fun k i => by simp only [impl_typeAt.l0, isAt]) _ 0 (Nat.le_refl _)
  simpa [fnd] using this
theorem srule {l : List S280} (hs : l.length ≤ 60000000000) (a : ByteArray) : Ev (fun k => spec_l03Rule.f k l a) (fnd (isRl a) l) := by
  refine Ev.step ?_
  simp only [spec_l03Rule.f]
  have := search (p := isRl a) (hit := fun i => i) (miss := -1) (F := fun k i => spec_l03Rule.l0 k l a i) hs (fun k i => by simp only [spec_l03Rule.l0, isRl]) _ 0 (Nat.le_refl _)
  simpa [fnd] using this
theorem irule {l : List S280} (hs : l.length ≤ 60000000000) (a : ByteArray) : Ev (fun k => impl_ruleOf.f k l a) (fnd (isRl a) l) := by
  refine Ev.step ?_
  simp only [impl_ruleOf.f]
  have := search (p := isRl a) (hit := fun i => i) (miss := -1) (F := fun k i => impl_ruleOf.l0 k a l i) hs (fun k i => by simp only [impl_ruleOf.l0, isRl]) _ 0 (Nat.le_refl _)
  simpa [fnd] using this
def has (l : List ByteArray) (a : ByteArray) : Bool := l.any fun x => decide (x = a)
theorem has_iff {l : List ByteArray} {a : ByteArray} : has l a = true ↔ a ∈ l := by simp [has]
theorem has_no {l : List ByteArray} {a : ByteArray} : has l a = false ↔ a ∉ l := by rw [← has_iff]; simp
theorem mem_idx {l : List ByteArray} {a : ByteArray} {p : ByteArray → Bool} (hp : ∀ x, p x = decide (x = a)) : (match l.findIdx? p with | some j => true | none => false) = has l a := by
  induction l with
  | nil => rfl
  | cons b l ih =>
    rw [List.findIdx?_cons, hp]
    unfold has
    rw [List.any_cons]
    by_cases h : b = a
    · simp [h]
    · rw [decide_eq_false h, Bool.false_or]
      refine Eq.trans ?_ ih
      cases List.findIdx? p l <;> simp
theorem smem {l : List ByteArray} (hs : l.length ≤ 60000000000) (a : ByteArray) : Ev (fun k => spec_l01InTexts.f k l a) (has l a) := by
  refine Ev.step ?_
  simp only [spec_l01InTexts.f]
  have := search (p := fun x => decide (x = a)) (hit := fun _ => true) (miss := false) (F := fun k i => spec_l01InTexts.l0 k l a i) hs (fun k i => by simp only [spec_l01InTexts.l0]) _ 0 (Nat.le_refl _)
  refine this.eq ?_
  rw [List.drop_zero]
  exact mem_idx fun x => rfl
theorem imem {l : List ByteArray} (hs : l.length ≤ 60000000000) (a : ByteArray) : Ev (fun k => slices_Contains.f k l a) (has l a) := by
  have h1 : Ev (fun k => slices_Index.f k l a) (fnd (fun x => decide (a = x)) l) := by
    refine Ev.step ?_
    simp only [slices_Index.f]
    have := search (p := fun x => decide (a = x)) (hit := fun i => i) (miss := -1) (F := fun k i => slices_Index.l0 k l a i) hs (fun k i => by simp only [slices_Index.l0]) _ 0 (Nat.le_refl _)
    simpa [fnd] using this
  simp only [slices_Contains.f]
  refine Ev.bind h1 ((Ev.ret _).eq ?_)
  rw [← mem_idx (l := l) (a := a) (p := fun x => decide (a = x)) fun x => decide_eq_decide.2 eq_comm]
  unfold fnd
  cases List.findIdx? (fun x => decide (a = x)) l with
  | none => rfl
  | some j => simp
/-! Texts in order, each once -/
theorem app_b {α : Type} {a b : List α} (h : a.length + b.length ≤ 68719476736) : app a b = some (a ++ b) := by unfold app; rw [if_pos h]
theorem mem_ins {α : Type} (l : List α) (n : Nat) (x y : α) : y ∈ l.take n ++ [x] ++ l.drop n ↔ y ∈ l ∨ y = x := by
  have : y ∈ l ↔ y ∈ l.take n ∨ y ∈ l.drop n := by rw [← List.mem_append, List.take_append_drop]
  simp only [List.mem_append, List.mem_singleton, this]
  constructor
  · rintro ((h | h) | h)
    · exact .inl (.inl h)
    · exact .inr h
    · exact .inl (.inr h)
  · rintro ((h | h) | h)
    · exact .inl (.inl h)
    · exact .inr h
    · exact .inl (.inr h)
theorem sort_l1 {l : List ByteArray} {i : Nat} (hi : i < l.length) (hl : l.length ≤ 1000000000) {o : List ByteArray} (ho : o.length ≤ i) :
  ∀ (n : Nat), n ≤ o.length → ∃ o', (∀ x, x ∈ o' ↔ x ∈ o ∨ x = l[i]) ∧ o'.length ≤ i + 1 ∧ ∀ r, Ev (fun k => spec_l03Sort.l0 k l o'.length ((i + 1 : Nat) : Int) o') r → Ev (fun k => spec_l03Sort.l1 k l o.length (i : Int) (n : Int) o) r := by
  have J1 : ∀ n, n ≤ o.length → ∃ o', (∀ x, x ∈ o' ↔ x ∈ o ∨ x = l[i]) ∧ o'.length ≤ i + 1 ∧ ∀ r, Ev (fun k => spec_l03Sort.l0 k l o'.length ((i + 1 : Nat) : Int) o') r → Ev (fun k => spec_l03Sort.j1 k l o.length (i : Int) (n : Int) o) r := fun n hn => by
    refine ⟨o.take n ++ [l[i]] ++ o.drop n, mem_ins o n _, by simp; omega, fun r hr => Ev.step ?_⟩
    have hb1 : bnd (n : Int) (o.length : Int) (o.length : Int) = some () := by unfold bnd; rw [if_pos (by omega)]
    have hb2 : bnd 0 (n : Int) (o.length : Int) = some () := by unfold bnd; rw [if_pos (by omega)]
    have hrest : (o.drop n).take (o.length - n) = o.drop n := List.take_of_length_le (by simp)
    simp only [spec_l03Sort.j1, hb1, hb2, Option.bind_some, spec_l01Texts_b.f, spec_l01Texts_O.f, Int.toNat_natCast, hrest, ixg hi]
    rw [app_b (a := []) (by simp; omega), app_b (a := o.take n) (by simp; omega)]
    simp only [Option.bind_some, List.nil_append]
    rw [app_b (by simp; omega)]
    simp only [Option.bind_some, w1b hi (by omega)]
    exact hr
  have J0 : ∀ n, n ≤ o.length → ∃ o', (∀ x, x ∈ o' ↔ x ∈ o ∨ x = l[i]) ∧ o'.length ≤ i + 1 ∧ ∀ r, Ev (fun k => spec_l03Sort.l0 k l o'.length ((i + 1 : Nat) : Int) o') r → Ev (fun k => spec_l03Sort.j0 k l o.length (i : Int) (n : Int) o) r := fun n hn => by
    obtain ⟨o1, h1, h2, h3⟩ := J1 n hn
    by_cases h0 : 0 < n
    · have hlt : n - 1 < o.length := by omega
      have hin : inr ((n - 1 : Nat) : Int) o.length = some () := by unfold inr; rw [if_pos (by omega)]
      by_cases he : o[n - 1] = l[i]
      · refine ⟨o, fun x => ?_, by omega, fun r hr => Ev.step ?_⟩
        · exact ⟨.inl, fun h => h.elim id fun e => e ▸ he ▸ List.getElem_mem hlt⟩
        · simp only [spec_l03Sort.j0, ltd h0, show decide ((0 : Int) < (n : Int)) = true by simpa using h0, cond_true, m1b h0 hn (by omega), hin, Option.bind_some, Int.toNat_natCast, List.getElem?_eq_getElem hlt, ixg hi, he, decide_true, w1b hi (by omega)]
          exact hr
      · refine ⟨o1, h1, h2, fun r hr => Ev.step ?_⟩
        simp only [spec_l03Sort.j0, show decide ((0 : Int) < (n : Int)) = true by simpa using h0, cond_true, m1b h0 hn (by omega), hin, Option.bind_some, Int.toNat_natCast, List.getElem?_eq_getElem hlt, ixg hi, decide_eq_false he, cond_false]
        exact h3 r hr
    · refine ⟨o1, h1, h2, fun r hr => Ev.step ?_⟩
      simp only [spec_l03Sort.j0, show decide ((0 : Int) < (n : Int)) = false by simp; omega, cond_false]
      exact h3 r hr
  intro n
  induction n with
  | zero =>
    intro hn
    obtain ⟨o1, h1, h2, h3⟩ := J0 0 hn
    refine ⟨o1, h1, h2, fun r hr => Ev.step ?_⟩
    simp only [spec_l03Sort.l1, show decide ((0 : Int) < ((0 : Nat) : Int)) = false from rfl, cond_false]
    exact h3 r hr
  | succ n ih =>
    intro hn
    have hlt : n < o.length := by omega
    have hin : inr (n : Int) o.length = some () := by unfold inr; rw [if_pos (by omega)]
    have hm : IntKind.i64.wrap (((n + 1 : Nat) : Int) - 1) = (n : Int) := by rw [m1b (i := n + 1) (n := o.length) (by omega) hn (by omega)]; simp
    cases hs : slt l[i] o[n] with
    | true =>
      obtain ⟨o1, h1, h2, h3⟩ := ih (by omega)
      refine ⟨o1, h1, h2, fun r hr => Ev.step ?_⟩
      simp only [spec_l03Sort.l1, show decide ((0 : Int) < ((n + 1 : Nat) : Int)) = true by simp, cond_true, hm, hin, Option.bind_some, Int.toNat_natCast, List.getElem?_eq_getElem hlt, ixg hi, hs]
      exact h3 r hr
    | false =>
      obtain ⟨o1, h1, h2, h3⟩ := J0 (n + 1) hn
      refine ⟨o1, h1, h2, fun r hr => Ev.step ?_⟩
      simp only [spec_l03Sort.l1, show decide ((0 : Int) < ((n + 1 : Nat) : Int)) = true by simp, cond_true, hm, hin, Option.bind_some, Int.toNat_natCast, List.getElem?_eq_getElem hlt, ixg hi, hs, cond_false]
      exact h3 r hr
theorem sort_ {l : List ByteArray} (hl : l.length ≤ 1000000000) : ∃ r, Ev (fun k => spec_l03Sort.f k l) r ∧ (∀ x, x ∈ r ↔ x ∈ l) ∧ r.length ≤ l.length := by
  have L : ∀ n i : Nat, l.length - i ≤ n → i ≤ l.length → ∀ o : List ByteArray, o.length ≤ i → (∀ x, x ∈ o ↔ x ∈ l.take i) → ∃ r, Ev (fun k => spec_l03Sort.l0 k l o.length (i : Int) o) r ∧ (∀ x, x ∈ r ↔ x ∈ l) ∧ r.length ≤ l.length := by
    intro n
    have fin : ∀ i : Nat, ¬ i < l.length → ∀ o : List ByteArray, i ≤ l.length → o.length ≤ i → (∀ x, x ∈ o ↔ x ∈ l.take i) → ∃ r, Ev (fun k => spec_l03Sort.l0 k l o.length (i : Int) o) r ∧ (∀ x, x ∈ r ↔ x ∈ l) ∧ r.length ≤ l.length := fun i hi o hle ho hm => by
      refine ⟨o, Ev.step ?_, fun x => ?_, by omega⟩
      · simp only [spec_l03Sort.l0, ltn hi, cond_false, List.take_length]
        exact Ev.ret _
      · rw [hm, List.take_of_length_le (by omega)]
    induction n with
    | zero => intro i h hle o ho hm; exact fin i (by omega) o hle ho hm
    | succ n ih =>
      intro i h hle o ho hm
      by_cases hi : i < l.length
      case neg => exact fin i hi o hle ho hm
      obtain ⟨o', h1, h2, h3⟩ := sort_l1 hi hl ho o.length (Nat.le_refl _)
      obtain ⟨r, g1, g2, g3⟩ := ih (i + 1) (by omega) (by omega) o' h2 (fun x => by
        have e : l.take (i + 1) = l.take i ++ [l[i]] := by rw [List.take_add_one, List.getElem?_eq_getElem hi]; rfl
        rw [h1, hm, e, List.mem_append, List.mem_singleton])
      refine ⟨r, Ev.step ?_, g2, g3⟩
      simp only [spec_l03Sort.l0, ltd hi, cond_true]
      exact h3 r g1
  obtain ⟨r, h1, h2, h3⟩ := L l.length 0 (by omega) (by omega) [] (by simp) (by simp)
  exact ⟨r, Ev.step (by simp only [spec_l03Sort.f]; exact h1), h2, h3⟩
theorem lsub_b {α : Type} {l : List α} {a b : Nat} (h : a ≤ b) (hb : b ≤ l.length) : lsub l (a : Int) (b : Int) = some ((l.drop a).take (b - a)) := by
  unfold lsub; rw [if_pos (by omega)]; simp
theorem insert_ {o : List ByteArray} (a : ByteArray) (ho : o.length ≤ 1000000000) : ∃ r, Ev (fun k => impl_insert.f k o a) r ∧ (∀ x, x ∈ r ↔ x ∈ o ∨ x = a) ∧ r.length ≤ o.length + 1 := by
  have J1 : ∀ i : Nat, i ≤ o.length → ∃ r, Ev (fun k => impl_insert.j1 k o a (i : Int)) r ∧ (∀ x, x ∈ r ↔ x ∈ o ∨ x = a) ∧ r.length ≤ o.length + 1 := fun i hi => by
    refine ⟨o.take i ++ [a] ++ o.drop i, Ev.step ?_, mem_ins o i a, by simp; omega⟩
    have hm : mks (⟨#[]⟩ : ByteArray) 0 (IntKind.i64.wrap ((o.length : Int) + 1)) = some [] := by
      rw [wI (by omega) (by omega)]; unfold mks; rw [if_pos (by omega)]; rfl
    have e1 := lsub_b (l := o) (Nat.zero_le i) hi
    have e2 := lsub_b (l := o) hi (Nat.le_refl _)
    simp only [List.drop_zero, Nat.sub_zero, Int.ofNat_zero] at e1
    simp only [impl_insert.j1, hm, Option.bind_some]
    rw [e1, e2]
    simp only [Option.bind_some]
    rw [app_b (by simp; omega)]
    simp only [Option.bind_some, List.nil_append]
    rw [app_b (by simp; omega)]
    simp only [Option.bind_some]
    rw [app_b (by simp; omega)]
    simp only [Option.bind_some]
    rw [List.take_of_length_le (l := o.drop i) (by simp)]
    exact Ev.ret _
  have J0 : ∀ i : Nat, i ≤ o.length → ∃ r, Ev (fun k => impl_insert.j0 k o a (i : Int)) r ∧ (∀ x, x ∈ r ↔ x ∈ o ∨ x = a) ∧ r.length ≤ o.length + 1 := fun i hi => by
    by_cases h : i < o.length
    · by_cases he : o[i] = a
      · refine ⟨o, Ev.step ?_, fun x => ⟨.inl, fun h' => h'.elim id fun e => e ▸ he ▸ List.getElem_mem h⟩, by omega⟩
        simp only [impl_insert.j0, ltd h, cond_true, ixg h, Option.bind_some, he, decide_true]
        exact Ev.ret _
      · obtain ⟨r, h1, h2, h3⟩ := J1 i hi
        refine ⟨r, Ev.step ?_, h2, h3⟩
        simp only [impl_insert.j0, ltd h, cond_true, ixg h, Option.bind_some, decide_eq_false he, cond_false]
        exact h1
    · obtain ⟨r, h1, h2, h3⟩ := J1 i hi
      refine ⟨r, Ev.step ?_, h2, h3⟩
      simp only [impl_insert.j0, ltn h, cond_false]
      exact h1
  have L : ∀ n i : Nat, o.length - i ≤ n → i ≤ o.length → ∃ r, Ev (fun k => impl_insert.l0 k o a (i : Int)) r ∧ (∀ x, x ∈ r ↔ x ∈ o ∨ x = a) ∧ r.length ≤ o.length + 1 := by
    intro n
    induction n with
    | zero =>
      intro i h hi
      obtain ⟨r, h1, h2, h3⟩ := J0 i hi
      refine ⟨r, Ev.step ?_, h2, h3⟩
      simp only [impl_insert.l0, ltn (show ¬ i < o.length by omega), cond_false]
      exact h1
    | succ n ih =>
      intro i h hi
      by_cases hlt : i < o.length
      · cases hs : slt o[i] a with
        | true =>
          obtain ⟨r, h1, h2, h3⟩ := ih (i + 1) (by omega) (by omega)
          refine ⟨r, Ev.step ?_, h2, h3⟩
          simp only [impl_insert.l0, ltd hlt, cond_true, ixg hlt, Option.bind_some, hs, w1b hlt (by omega)]
          exact h1
        | false =>
          obtain ⟨r, h1, h2, h3⟩ := J0 i hi
          refine ⟨r, Ev.step ?_, h2, h3⟩
          simp only [impl_insert.l0, ltd hlt, cond_true, ixg hlt, Option.bind_some, hs, cond_false]
          exact h1
      · obtain ⟨r, h1, h2, h3⟩ := J0 i hi
        refine ⟨r, Ev.step ?_, h2, h3⟩
        simp only [impl_insert.l0, ltn hlt, cond_false]
        exact h1
  obtain ⟨r, h1, h2, h3⟩ := L o.length 0 (by omega) (by omega)
  exact ⟨r, Ev.step (by simp only [impl_insert.f]; exact h1), h2, h3⟩
/-! Rules -/
theorem rules_l0 {l : List S280} (hl : l.length ≤ 2000000) : ∀ n i : Nat, l.length - i ≤ n → B2 (fun k => spec_l03Rules.l0 k l (i : Int)) (fun k => impl_rulesOk.l0 k l (i : Int)) := by
  intro n
  induction n with
  | zero =>
    intro i h
    refine B2.step ?_
    simp only [spec_l03Rules.l0, impl_rulesOk.l0, ltn (show ¬ i < l.length by omega), cond_false]
    exact B2.ret _
  | succ n ih =>
    intro i h
    refine B2.step ?_
    by_cases hi : i < l.length
    · simp only [spec_l03Rules.l0, impl_rulesOk.l0, ltd hi, cond_true, ixg hi, Option.bind_some, wup hi hl]
      refine (nm2 _).bind fun c => B2.cond (fun _ => ?_) fun _ => B2.ret _
      have g := ih (i + 1) (by omega)
      by_cases h0 : 0 < i
      · have h1 : i - 1 < l.length := by omega
        simp only [show decide ((0 : Int) < (i : Int)) = true by simpa using h0, cond_true, wdn h0 hi hl, ixg h1, Option.bind_some]
        exact B2.cond (fun _ => B2.cond (fun _ => B2.ret _) fun _ => B2.cond (fun _ => B2.ret _) fun _ => g) fun _ => B2.ret _
      · simp only [show decide ((0 : Int) < (i : Int)) = false by simp; omega, cond_false]
        exact B2.cond (fun _ => B2.ret _) fun _ => B2.cond (fun _ => B2.ret _) fun _ => g
    · simp only [spec_l03Rules.l0, impl_rulesOk.l0, ltn hi, cond_false]
      exact B2.ret _
theorem rules2 {l : List S280} (hl : l.length ≤ 2000000) : B2 (fun k => spec_l03Rules.f k l) (fun k => impl_rulesOk.f k l) := by
  refine B2.step ?_
  simp only [spec_l03Rules.f, impl_rulesOk.f]
  exact B2.cond (fun _ => B2.ret _) fun _ => rules_l0 hl _ 0 (Nat.le_refl _)
/-- Whether a rule refines a type's. -/
def rfn (old : List S280) (r : S280) : Bool := match old.find? (isRl r.f0) with
 | none => true
 | some o => ((o.f1 == 0) || (o.f1 == r.f1)) && (!o.f2 || r.f2)
theorem sref {own old : List S280} (ho : own.length ≤ 2000000) (hl : old.length ≤ 2000000) : Ev (fun k => spec_l03Refines.f k own old) (own.all (rfn old)) := by
  have L : ∀ n i : Nat, own.length - i ≤ n → Ev (fun k => spec_l03Refines.l0 k own old (i : Int)) ((own.drop i).all (rfn old)) := by
    intro n
    have fin : ∀ i : Nat, ¬ i < own.length → Ev (fun k => spec_l03Refines.l0 k own old (i : Int)) ((own.drop i).all (rfn old)) := fun i hi => by
      refine Ev.step ?_
      simp only [spec_l03Refines.l0, ltn hi, cond_false, List.drop_of_length_le (show own.length ≤ i by omega), List.all_nil]
      exact Ev.ret _
    induction n with
    | zero => intro i h; exact fin i (by omega)
    | succ n ih =>
      intro i h
      by_cases hi : i < own.length
      case neg => exact fin i hi
      refine Ev.step ?_
      have g := ih (i + 1) (by omega)
      rw [List.drop_eq_getElem_cons hi, List.all_cons]
      simp only [spec_l03Refines.l0, ltd hi, cond_true, ixg hi, Option.bind_some, wup hi ho]
      refine Ev.bind (srule (by omega) _) ?_
      rcases fnd_cases (isRl own[i].f0) old with ⟨e1, e2, _⟩ | ⟨j, hj, e1, e2, _⟩
      · rw [e1]
        simp only [show decide ((0 : Int) ≤ -1) = false from rfl, cond_false]
        refine g.eq ?_
        simp only [rfn, e2, Bool.true_and]
      · rw [e1]
        simp only [show decide ((0 : Int) ≤ (j : Int)) = true by simp, cond_true, ixg hj, Option.bind_some]
        simp only [rfn, e2]
        cases h1 : (old[j].f1 == 0) <;> cases h2 : (old[j].f1 == own[i].f1) <;> cases h3 : old[j].f2 <;> cases h4 : own[i].f2 <;>
          simp only [cond_true, cond_false, Bool.or_true, Bool.or_false, Bool.true_or, Bool.false_or, Bool.not_true, Bool.not_false, Bool.and_true, Bool.and_false, Bool.true_and, Bool.false_and] <;> first | exact g | exact Ev.ret _
  have h := L own.length 0 (by omega)
  rw [List.drop_zero] at h
  exact Ev.step (by simp only [spec_l03Refines.f]; exact h)
end Go.Ab
namespace Go.Ab
open Go.Proofs
set_option linter.unusedVariables false
set_option linter.unusedSimpArgs false
def kn (N : List S160) (a : ByteArray) : Bool := (N.find? (isAt a)).isSome
def par (N : List S160) (a : ByteArray) : List ByteArray := match N.find? (isAt a) with | some t => t.f1 | none => []
inductive Reach (N : List S160) (a : ByteArray) : ByteArray → Prop
 | refl : kn N a = true → Reach N a a
 | step (x p : ByteArray) : Reach N a x → p ∈ par N x → kn N p = true → Reach N a p
theorem Reach.kn {N : List S160} {a x : ByteArray} (h : Reach N a x) : kn N x = true := by cases h <;> assumption
theorem Reach.first {N : List S160} {a x : ByteArray} (h : Reach N a x) : Go.Ab.kn N a = true := by
  induction h with
  | refl h => exact h
  | step _ _ _ _ _ ih => exact ih
theorem Reach.trans {N : List S160} {a b x : ByteArray} (h1 : Reach N a b) (h : Reach N b x) : Reach N a x := by
  induction h with
  | refl _ => exact h1
  | step y p _ h2 h3 ih => exact .step y p ih h2 h3
theorem kn_lab {N : List S160} {a : ByteArray} (h : kn N a = true) : a ∈ N.map (·.f0) := by
  unfold kn at h
  cases hf : N.find? (isAt a) with
  | none => rw [hf] at h; cases h
  | some t =>
    have h1 := List.mem_of_find?_eq_some hf
    have h2 := List.find?_some hf
    unfold isAt at h2
    simp only [decide_eq_true_eq] at h2
    exact List.mem_map.2 ⟨t, h1, h2⟩
theorem nodup_le : ∀ (l m : List ByteArray), l.Nodup → (∀ x ∈ l, x ∈ m) → l.length ≤ m.length
 | [], m, _, _ => Nat.zero_le _
 | a :: l, m, hn, hs => by
  have h1 := List.nodup_cons.1 hn
  have h2 := nodup_le l (m.filter fun x => !decide (x = a)) h1.2 fun x hx => by
    rw [List.mem_filter]
    refine ⟨hs x (List.mem_cons_of_mem _ hx), ?_⟩
    have : x ≠ a := fun e => h1.1 (e ▸ hx)
    simp [this]
  have h3 : (m.filter fun x => !decide (x = a)).length < m.length := by
    have hm : a ∈ m := hs a (List.mem_cons_self ..)
    have := List.length_filter_lt_length_iff_exists (l := m) (p := fun x => !decide (x = a))
    exact this.2 ⟨a, hm, by simp⟩
  simp only [List.length_cons]
  omega
/-! Depth first -/
def unv (N : List S160) (o : List ByteArray) : Nat := (N.filter fun t => !has o t.f0).length
theorem unv_mono {N : List S160} {o o' : List ByteArray} (h : ∀ x ∈ o, x ∈ o') : unv N o' ≤ unv N o := by
  unfold unv
  rw [← List.countP_eq_length_filter, ← List.countP_eq_length_filter]
  refine List.countP_mono_left fun t _ ht => ?_
  simp only [Bool.not_eq_true', has_no] at ht ⊢
  exact fun hx => ht (h _ hx)
theorem unv_lt {N : List S160} {o o' : List ByteArray} (h : ∀ x ∈ o, x ∈ o') {a : ByteArray} (ha : a ∈ o') (hn : a ∉ o) (hk : a ∈ N.map (·.f0)) : unv N o' < unv N o := by
  obtain ⟨t, ht, rfl⟩ := List.mem_map.1 hk
  unfold unv
  have h1 : (N.filter fun t => !has o' t.f0) = ((N.filter fun t => !has o t.f0).filter fun t => !has o' t.f0) := by
    rw [List.filter_filter]
    congr 1
    funext u
    cases h1 : has o' u.f0 with
    | true => rfl
    | false =>
      have : has o u.f0 = false := has_no.2 fun hx => has_no.1 h1 (h _ hx)
      simp [this]
  rw [h1]
  refine (List.length_filter_lt_length_iff_exists ..).2 ⟨t, List.mem_filter.2 ⟨ht, by simp [has_no.2 hn]⟩, ?_⟩
  simp [has_iff.2 ha]
/-- What a stretch of the descent from some labels makes of the labels that it had. -/
structure DF (N : List S160) (ps out r : List ByteArray) : Prop where
 sub : ∀ x ∈ out, x ∈ r
 old : ∀ x ∈ r, x ∈ out ∨ ∃ p ∈ ps, Reach N p x
 clo : ∀ x ∈ r, x ∉ out → ∀ p ∈ par N x, kn N p = true → p ∈ r
 all : ∀ p ∈ ps, kn N p = true → p ∈ r
 len : r.length + unv N r ≤ out.length + unv N out
theorem DF.nil (N : List S160) (ps out : List ByteArray) (h : ∀ p ∈ ps, kn N p = true → p ∈ out) : DF N ps out out := ⟨fun x h => h, fun x h => .inl h, fun x h h' => absurd h h', h, Nat.le_refl _⟩
theorem DF.cons {N : List S160} {p : ByteArray} {ps out m r : List ByteArray} (h : DF N [p] out m) (h' : DF N ps m r) : DF N (p :: ps) out r where
 sub x hx := h'.sub x (h.sub x hx)
 old x hx := by
  rcases h'.old x hx with hx | ⟨q, hq, hr⟩
  · rcases h.old x hx with hx | ⟨q, hq, hr⟩
    · exact .inl hx
    · exact .inr ⟨q, List.mem_cons.2 (.inl (List.mem_singleton.1 hq)), hr⟩
  · exact .inr ⟨q, List.mem_cons_of_mem _ hq, hr⟩
 clo x hx ho q hq hk := by
  by_cases hm : x ∈ m
  · exact h'.sub _ (h.clo x hm ho q hq hk)
  · exact h'.clo x hx hm q hq hk
 all q hq hk := by
  rcases List.mem_cons.1 hq with rfl | hq
  · exact h'.sub _ (h.all _ (List.mem_singleton.2 rfl) hk)
  · exact h'.all q hq hk
 len := Nat.le_trans h'.len h.len
section
variable {N : List S160} {E : List S163} {K : List S166} {c : Bool}
theorem line_1 (hN : N.length ≤ 2000000) (hp : ∀ t ∈ N, t.f1.length ≤ 2000000) : ∀ (n : Nat) (a : ByteArray) (out : List ByteArray), unv N out ≤ n → out.length + unv N out ≤ 1000000000 →
    ∃ r, Ev (fun k => impl_line_1.f k a ⟨N, E, K, c⟩ out) (⟨N, E, K, c⟩, r) ∧ DF N [a] out r := by
  intro n
  induction n with
  | zero =>
    intro a out hu hl
    refine ⟨out, Ev.step ?_, DF.nil N _ _ fun p hp hk => ?_⟩
    · simp only [impl_line_1.f]
      refine Ev.bind (itype (s := ⟨N, E, K, c⟩) (by simpa using (by omega)) a) ?_
      rcases fnd_cases (isAt a) N with ⟨e1, _⟩ | ⟨j, hj, e1, e2, e3⟩
      · simp only [e1, show decide ((-1 : Int) < 0) = true from rfl, cond_true]
        exact Ev.ret _
      · simp only [e1, show decide ((j : Int) < 0) = false by simp, cond_false]
        refine Ev.bind (imem (by omega) a) ?_
        have : has out a = true := by
          cases hh : has out a with
          | true => rfl
          | false =>
            exfalso
            have h1 : N[j] ∈ N.filter fun t => !has out t.f0 := List.mem_filter.2 ⟨List.getElem_mem hj, by
              unfold isAt at e3; simp only [decide_eq_true_eq] at e3; rw [e3, hh]; rfl⟩
            unfold unv at hu
            have := List.length_pos_of_mem h1
            omega
        simp only [this, cond_true]
        exact Ev.ret _
    · rw [List.mem_singleton.1 hp] at hk ⊢
      rcases Classical.em (a ∈ out) with h | h
      · exact h
      · exfalso
        have := unv_lt (N := N) (o := out) (o' := a :: out) (fun x hx => List.mem_cons_of_mem _ hx) (List.mem_cons_self ..) h (kn_lab hk)
        omega
  | succ n ih =>
    intro a out hu hl
    rcases fnd_cases (isAt a) N with ⟨e1, e2, _⟩ | ⟨j, hj, e1, e2, e3⟩
    · refine ⟨out, Ev.step ?_, DF.nil N _ _ fun p hp hk => ?_⟩
      · simp only [impl_line_1.f]
        refine Ev.bind (itype (s := ⟨N, E, K, c⟩) (by simpa using (by omega)) a) ?_
        simp only [e1, show decide ((-1 : Int) < 0) = true from rfl, cond_true]
        exact Ev.ret _
      · rw [List.mem_singleton.1 hp] at hk
        unfold kn at hk
        rw [e2] at hk; cases hk
    · have hka : kn N a = true := by unfold kn; rw [e2]; rfl
      have hpar : par N a = N[j].f1 := by unfold par; rw [e2]
      cases hh : has out a with
      | true =>
        refine ⟨out, Ev.step ?_, DF.nil N _ _ fun p hp hk => by rw [List.mem_singleton.1 hp]; exact has_iff.1 hh⟩
        simp only [impl_line_1.f]
        refine Ev.bind (itype (s := ⟨N, E, K, c⟩) (by simpa using (by omega)) a) ?_
        simp only [e1, show decide ((j : Int) < 0) = false by simp, cond_false]
        refine Ev.bind (imem (by omega) a) ?_
        simp only [hh, cond_true]
        exact Ev.ret _
      | false =>
        obtain ⟨o1, g1, g2, g3⟩ := insert_ (o := out) a (by omega)
        have hsub : ∀ x ∈ out, x ∈ o1 := fun x hx => (g2 x).2 (.inl hx)
        have hlt := unv_lt (N := N) hsub ((g2 a).2 (.inr rfl)) (has_no.1 hh) (kn_lab hka)
        have L : ∀ (m i : Nat) (o : List ByteArray), N[j].f1.length - i ≤ m → unv N o ≤ n → o.length + unv N o ≤ 1000000000 →
            ∃ r, Ev (fun k => impl_line_1.l0 k N[j] (i : Int) N E K c o) (⟨N, E, K, c⟩, r) ∧ DF N (N[j].f1.drop i) o r := by
          intro m
          have fin : ∀ (i : Nat) (o : List ByteArray), ¬ i < N[j].f1.length → ∃ r, Ev (fun k => impl_line_1.l0 k N[j] (i : Int) N E K c o) (⟨N, E, K, c⟩, r) ∧ DF N (N[j].f1.drop i) o r := fun i o hi => by
            refine ⟨o, Ev.step ?_, ?_⟩
            · simp only [impl_line_1.l0, ltn hi, cond_false]
              exact Ev.ret _
            · rw [List.drop_of_length_le (by omega)]
              exact DF.nil N _ _ fun p hp => by cases hp
          induction m with
          | zero => intro i o h _ _; exact fin i o (by omega)
          | succ m ihm =>
            intro i o h hu' hl'
            by_cases hi : i < N[j].f1.length
            case neg => exact fin i o hi
            obtain ⟨r1, q1, q2⟩ := ih (N[j].f1[i]) o hu' hl'
            obtain ⟨r2, q3, q4⟩ := ihm (i + 1) r1 (by omega) (Nat.le_trans (unv_mono q2.sub) hu') (Nat.le_trans q2.len hl')
            refine ⟨r2, Ev.step ?_, ?_⟩
            · simp only [impl_line_1.l0, ltd hi, cond_true, ixg hi, Option.bind_some]
              refine Ev.bind q1 ?_
              simp only [wup hi (hp _ (List.getElem_mem hj))]
              exact q3
            · rw [List.drop_eq_getElem_cons hi]
              exact q2.cons q4
        obtain ⟨r, q1, q2⟩ := L _ 0 o1 (Nat.le_refl _) (by omega) (by omega)
        rw [List.drop_zero] at q2
        refine ⟨r, Ev.step ?_, ?_⟩
        · simp only [impl_line_1.f]
          refine Ev.bind (itype (s := ⟨N, E, K, c⟩) (by simpa using (by omega)) a) ?_
          simp only [e1, show decide ((j : Int) < 0) = false by simp, cond_false]
          refine Ev.bind (imem (by omega) a) ?_
          simp only [hh, cond_false]
          refine Ev.bind g1 ?_
          simp only [ixg hj, Option.bind_some]
          exact q1
        · refine ⟨fun x hx => q2.sub x (hsub x hx), fun x hx => ?_, fun x hx ho p hp hk => ?_, fun p hp hk => ?_, by have := q2.len; omega⟩
          · rcases q2.old x hx with hx | ⟨p, hp, hr⟩
            · rcases (g2 x).1 hx with hx | rfl
              · exact .inl hx
              · exact .inr ⟨x, List.mem_singleton.2 rfl, .refl hka⟩
            · exact .inr ⟨a, List.mem_singleton.2 rfl, Reach.trans (.step a p (.refl hka) (hpar ▸ hp) hr.first) hr⟩
          · by_cases hx1 : x ∈ o1
            · rcases (g2 x).1 hx1 with hx1 | rfl
              · exact absurd hx1 ho
              · exact q2.all p (hpar ▸ hp) hk
            · exact q2.clo x hx hx1 p hp hk
          · rw [List.mem_singleton.1 hp]
            exact q2.sub _ ((g2 a).2 (.inr rfl))
theorem iline (hN : N.length ≤ 2000000) (hp : ∀ t ∈ N, t.f1.length ≤ 2000000) (a : ByteArray) : ∃ r, Ev (fun k => impl_line.f k ⟨N, E, K, c⟩ a) r ∧ (∀ x, x ∈ r ↔ Reach N a x) ∧ r.length ≤ N.length := by
  have hu : unv N [] ≤ N.length := by unfold unv; exact List.length_filter_le ..
  obtain ⟨r, h1, h2⟩ := line_1 (E := E) (K := K) (c := c) hN hp _ a [] (Nat.le_refl _) (by simp only [List.length_nil]; omega)
  refine ⟨r, ?_, fun x => ⟨fun h => ?_, fun h => ?_⟩, by have := h2.len; simp only [List.length_nil] at this; omega⟩
  · simp only [impl_line.f]
    exact Ev.bind h1 (Ev.ret _)
  · rcases h2.old x h with h | ⟨p, hp, hr⟩
    · cases h
    · rwa [List.mem_singleton.1 hp] at hr
  · induction h with
    | refl hk => exact h2.all a (List.mem_singleton.2 rfl) hk
    | step y p _ hp hk ih => exact h2.clo y ih (by simp) p hp hk
/-! Breadth first -/
def Ok (N : List S160) : Prop := N.length ≤ 20 ∧ ∀ t ∈ N, ∀ p ∈ t.f1, kn N p = true
structure Inv (N : List S160) (a : ByteArray) (o : List ByteArray) (i : Nat) : Prop where
 ok : Ok N → ∀ x ∈ o, Reach N a x
 clo : ∀ (j : Nat) (h : j < o.length), j < i → ∀ p ∈ par N o[j], p ∈ o
 nd : o.Nodup
 fst : a ∈ o
theorem bfs_l1 {o : List ByteArray} {i j : Nat} (hj : j < N.length) (ho : o.length ≤ 1000000000) (hi : i < o.length) (hp : N[j].f1.length ≤ 2000000) : ∀ (n q : Nat) (e : List ByteArray), N[j].f1.length - q ≤ n → e.length ≤ q → (o ++ e).Nodup → (∀ x ∈ e, x ∈ N[j].f1) →
    ∃ e', (o ++ e').Nodup ∧ (∀ x ∈ e', x ∈ N[j].f1) ∧ (∀ x ∈ e, x ∈ e') ∧ (∀ x ∈ N[j].f1.drop q, x ∈ o ++ e') ∧ e'.length ≤ 2000000 ∧
     ∀ r, Ev (fun k => spec_l03Line.l0 k (o ++ e') ((i + 1 : Nat) : Int) ⟨N, E, K, c⟩) r → Ev (fun k => spec_l03Line.l1 k (o ++ e) (i : Int) (j : Int) (q : Int) ⟨N, E, K, c⟩) r := by
  intro n
  have fin : ∀ (q : Nat) (e : List ByteArray), ¬ q < N[j].f1.length → e.length ≤ 2000000 → (o ++ e).Nodup → (∀ x ∈ e, x ∈ N[j].f1) →
    ∃ e', (o ++ e').Nodup ∧ (∀ x ∈ e', x ∈ N[j].f1) ∧ (∀ x ∈ e, x ∈ e') ∧ (∀ x ∈ N[j].f1.drop q, x ∈ o ++ e') ∧ e'.length ≤ 2000000 ∧
     ∀ r, Ev (fun k => spec_l03Line.l0 k (o ++ e') ((i + 1 : Nat) : Int) ⟨N, E, K, c⟩) r → Ev (fun k => spec_l03Line.l1 k (o ++ e) (i : Int) (j : Int) (q : Int) ⟨N, E, K, c⟩) r := fun q e hq he hn hm => by
    refine ⟨e, hn, hm, fun x h => h, by rw [List.drop_of_length_le (by omega)]; simp, he, fun r hr => Ev.step ?_⟩
    simp only [spec_l03Line.l1, ixg hj, Option.bind_some, ltn hq, cond_false, w1b hi (show o.length ≤ 60000000000 by omega)]
    exact hr
  have hlen : ∀ e : List ByteArray, (o ++ e).Nodup → (∀ x ∈ e, x ∈ N[j].f1) → e.length ≤ 2000000 := fun e hn hm => Nat.le_trans (nodup_le e _ (List.nodup_append.1 hn).2.1 hm) hp
  induction n with
  | zero => intro q e h he hn hm; exact fin q e (by omega) (hlen e hn hm) hn hm
  | succ n ih =>
    intro q e h he hn hm
    by_cases hq : q < N[j].f1.length
    case neg => exact fin q e hq (hlen e hn hm) hn hm
    have he2 := hlen e hn hm
    cases hh : has (o ++ e) N[j].f1[q] with
    | true =>
      obtain ⟨e', h1, h2, h3, h4, h5, h6⟩ := ih (q + 1) e (by omega) (by omega) hn hm
      refine ⟨e', h1, h2, h3, fun x hx => ?_, h5, fun r hr => Ev.step ?_⟩
      · rw [List.drop_eq_getElem_cons hq] at hx
        rcases List.mem_cons.1 hx with rfl | hx
        · rcases List.mem_append.1 (has_iff.1 hh) with hx | hx
          · exact List.mem_append.2 (.inl hx)
          · exact List.mem_append.2 (.inr (h3 _ hx))
        · exact h4 x hx
      · simp only [spec_l03Line.l1, ixg hj, Option.bind_some, ltd hq, cond_true, ixg hq]
        refine Ev.bind (smem (by simp; omega) _) ?_
        simp only [hh, cond_true, wup hq hp]
        exact h6 r hr
    | false =>
      have hno := has_no.1 hh
      have hn' : (o ++ (e ++ [N[j].f1[q]])).Nodup := by
        rw [← List.append_assoc, List.nodup_append]
        refine ⟨hn, by simp, fun x hx y hy e => hno ?_⟩
        rw [List.mem_singleton.1 hy] at e
        exact e ▸ hx
      obtain ⟨e', h1, h2, h3, h4, h5, h6⟩ := ih (q + 1) (e ++ [N[j].f1[q]]) (by omega) (by simp; omega) hn' (fun x hx => by
        rcases List.mem_append.1 hx with hx | hx
        · exact hm x hx
        · rw [List.mem_singleton.1 hx]; exact List.getElem_mem hq)
      refine ⟨e', h1, h2, fun x hx => h3 x (List.mem_append.2 (.inl hx)), fun x hx => ?_, h5, fun r hr => Ev.step ?_⟩
      · rw [List.drop_eq_getElem_cons hq] at hx
        rcases List.mem_cons.1 hx with rfl | hx
        · exact List.mem_append.2 (.inr (h3 _ (List.mem_append.2 (.inr (List.mem_singleton.2 rfl)))))
        · exact h4 x hx
      · simp only [spec_l03Line.l1, ixg hj, Option.bind_some, ltd hq, cond_true, ixg hq]
        refine Ev.bind (smem (by simp; omega) _) ?_
        simp only [hh, cond_false]
        rw [app_b (by simp; omega)]
        simp only [Option.bind_some, wup hq hp]
        have := h6 r hr
        rw [← List.append_assoc] at this
        exact this
theorem bfs_l0 (hN : N.length ≤ 2000000) (hp : ∀ t ∈ N, t.f1.length ≤ 2000000) (a : ByteArray) : ∀ (n i : Nat) (o : List ByteArray), 21 - i ≤ n → i ≤ o.length → i ≤ 21 → o.length ≤ 1 + i * 2000000 → Inv N a o i →
    ∃ q i', Inv N a q i' ∧ i' ≤ q.length ∧ (q.length ≤ i' ∨ 20 < i') ∧ q.length ≤ 42000001 ∧ ∀ r, Ev (fun k => spec_l03Line.j0 k q) r → Ev (fun k => spec_l03Line.l0 k o (i : Int) ⟨N, E, K, c⟩) r := by
  intro n
  have stop : ∀ (i : Nat) (o : List ByteArray), i ≤ o.length → i ≤ 21 → o.length ≤ 1 + i * 2000000 → Inv N a o i → (¬ i < o.length ∨ 20 < i) → ∃ q i', Inv N a q i' ∧ i' ≤ q.length ∧ (q.length ≤ i' ∨ 20 < i') ∧ q.length ≤ 42000001 ∧ ∀ r, Ev (fun k => spec_l03Line.j0 k q) r → Ev (fun k => spec_l03Line.l0 k o (i : Int) ⟨N, E, K, c⟩) r := fun i o hi h21 hl hv hs => by
    refine ⟨o, i, hv, hi, by omega, by omega, fun r hr => Ev.step ?_⟩
    by_cases h : i < o.length
    · have : decide ((i : Int) ≤ 20) = false := by simp; omega
      simp only [spec_l03Line.l0, ltd h, cond_true, this, cond_false]
      exact hr
    · simp only [spec_l03Line.l0, ltn h, cond_false]
      exact hr
  induction n with
  | zero => intro i o h hi h21 hl hv; exact stop i o hi h21 hl hv (by omega)
  | succ n ih =>
    intro i o h hi h21 hl hv
    by_cases hs : ¬ i < o.length ∨ 20 < i
    · exact stop i o hi h21 hl hv hs
    have hlt : i < o.length := by omega
    have hm1 : (i + 1) * 2000000 = i * 2000000 + 2000000 := Nat.succ_mul i 2000000
    have hl1 : o.length ≤ 1 + (i + 1) * 2000000 := Nat.le_trans hl (Nat.add_le_add_left (Nat.mul_le_mul_right _ (Nat.le_succ i)) 1)
    have h20 : decide ((i : Int) ≤ 20) = true := by simp; omega
    rcases fnd_cases (isAt o[i]) N with ⟨e1, e2, _⟩ | ⟨j, hj, e1, e2, e3⟩
    · have hpar : par N o[i] = [] := by unfold par; rw [e2]
      obtain ⟨q, i', g1, g2, g3, g4, g5⟩ := ih (i + 1) o (by omega) (by omega) (by omega) hl1 ⟨hv.ok, fun j' hj' hlt' p hp => by
        by_cases hji : j' = i
        · subst hji; rw [hpar] at hp; cases hp
        · exact hv.clo j' hj' (by omega) p hp, hv.nd, hv.fst⟩
      refine ⟨q, i', g1, g2, g3, g4, fun r hr => Ev.step ?_⟩
      simp only [spec_l03Line.l0, ltd hlt, cond_true, h20, ixg hlt, Option.bind_some]
      refine Ev.bind (stype (s := ⟨N, E, K, c⟩) (by simpa using (by omega)) _) ?_
      simp only [e1, show decide ((-1 : Int) < 0) = true from rfl, cond_true, w1b hlt (show o.length ≤ 60000000000 by omega)]
      exact g5 r hr
    · have hpar : par N o[i] = N[j].f1 := by unfold par; rw [e2]
      obtain ⟨e, h1, h2, _, h4, h5, h6⟩ := bfs_l1 (E := E) (K := K) (c := c) hj (by omega) hlt (hp _ (List.getElem_mem hj)) _ 0 [] (Nat.le_refl _) (by simp) (by simpa using hv.nd) (by simp)
      rw [List.drop_zero] at h4
      obtain ⟨q, i', g1, g2, g3, g4, g5⟩ := ih (i + 1) (o ++ e) (by omega) (by rw [List.length_append]; omega) (by omega) (by rw [List.length_append, hm1]; omega) ⟨fun hok x hx => by
          rcases List.mem_append.1 hx with hx | hx
          · exact hv.ok hok x hx
          · exact .step o[i] x (hv.ok hok _ (List.getElem_mem hlt)) (hpar ▸ h2 x hx) (hok.2 _ (List.getElem_mem hj) x (h2 x hx)), fun j' hj' hlt' p hp => by
          have hjo : j' < o.length := by omega
          rw [List.getElem_append_left hjo] at hp
          by_cases hji : j' = i
          · subst hji; rw [hpar] at hp; exact h4 p hp
          · exact List.mem_append.2 (.inl (hv.clo j' hjo (by omega) p hp)), h1, List.mem_append.2 (.inl hv.fst)⟩
      refine ⟨q, i', g1, g2, g3, g4, fun r hr => Ev.step ?_⟩
      simp only [spec_l03Line.l0, ltd hlt, cond_true, h20, ixg hlt, Option.bind_some]
      refine Ev.bind (stype (s := ⟨N, E, K, c⟩) (by simpa using (by omega)) _) ?_
      simp only [e1, show decide ((j : Int) < 0) = false by simp, cond_false]
      have := h6 r (g5 r hr)
      rw [List.append_nil] at this
      exact this
theorem sline (hN : N.length ≤ 2000000) (hp : ∀ t ∈ N, t.f1.length ≤ 2000000) (a : ByteArray) : ∃ r, Ev (fun k => spec_l03Line.f k ⟨N, E, K, c⟩ a) r ∧ r.length ≤ 42000001 ∧ (Ok N → (∀ x, x ∈ r ↔ Reach N a x) ∧ r.length ≤ 20) := by
  rcases fnd_cases (isAt a) N with ⟨e1, e2, _⟩ | ⟨j, hj, e1, e2, e3⟩
  · refine ⟨[], Ev.step ?_, Nat.zero_le _, fun _ => ⟨fun x => ⟨by simp, fun h => ?_⟩, by simp⟩⟩
    · simp only [spec_l03Line.f]
      refine Ev.bind (stype (s := ⟨N, E, K, c⟩) (by simpa using (by omega)) _) ?_
      simp only [e1, show decide ((-1 : Int) < 0) = true from rfl, cond_true]
      exact Ev.ret _
    · have := h.first
      unfold kn at this
      rw [e2] at this; cases this
  · have hka : kn N a = true := by unfold kn; rw [e2]; rfl
    obtain ⟨q, i', g1, g2, g3, g4, g5⟩ := bfs_l0 (E := E) (K := K) (c := c) hN hp a _ 0 [a] (Nat.le_refl _) (by simp) (by omega) (by simp) ⟨fun _ x hx => by rw [List.mem_singleton.1 hx]; exact .refl hka, fun _ _ h => absurd h (Nat.not_lt_zero _), by simp, by simp⟩
    obtain ⟨r, s1, s2, s3⟩ := sort_ (l := q) (by omega)
    have hr : Ev (fun k => spec_l03Line.j0 k q) r := Ev.step (by simp only [spec_l03Line.j0]; exact Ev.bind s1 (Ev.ret _))
    refine ⟨r, Ev.step ?_, by omega, fun hok => ?_⟩
    · simp only [spec_l03Line.f]
      refine Ev.bind (stype (s := ⟨N, E, K, c⟩) (by simpa using (by omega)) _) ?_
      simp only [e1, show decide ((j : Int) < 0) = false by simp, cond_false]
      rw [app_b (by simp)]
      exact g5 r hr
    · have hq : q.length ≤ N.length := by
        have := nodup_le q (N.map (·.f0)) g1.nd fun x hx => kn_lab (g1.ok hok x hx).kn
        simpa using this
      have h20 := hok.1
      have hi' : i' = q.length := by omega
      refine ⟨fun x => ⟨fun h => g1.ok hok x ((s2 x).1 h), fun h => (s2 x).2 ?_⟩, by omega⟩
      induction h with
      | refl _ => exact g1.fst
      | step y p _ hpp hk ih =>
        obtain ⟨m, hm, rfl⟩ := List.getElem_of_mem ih
        exact g1.clo m hm (by omega) p hpp
end
end Go.Ab
