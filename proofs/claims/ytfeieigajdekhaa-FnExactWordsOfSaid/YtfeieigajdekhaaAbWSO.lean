/- Texts in order, each once. No condition. -/
import Derived.Test.YtfeieigajdekhaaAbF
import Derived.Test.YtfeieigajdekhaaAbR
import Derived.Test.YtfeieigajdekhaaAbH0
import Derived.Test.YtfeieigajdekhaaAbLOW
import Derived.Sort.Walk0
namespace Go.Ab
open Go.Proofs
set_option linter.unusedVariables false
set_option linter.unusedSimpArgs false
theorem w1b {i n : Nat} (h : i < n) (hn : n ≤ 60000000000) : IntKind.i64.wrap ((i : Int) + 1) = ((i + 1 : Nat) : Int) := by
  rw [wI (by omega) (by omega)]; omega
theorem m1b {i n : Nat} (h0 : 0 < i) (h : i ≤ n) (hn : n ≤ 60000000000) : IntKind.i64.wrap ((i : Int) - 1) = ((i - 1 : Nat) : Int) := by
  rw [wI (by omega) (by omega)]; omega
theorem app_b {α : Type} {a b : List α} (h : a.length + b.length ≤ 68719476736) : app a b = some (a ++ b) := by unfold app; rw [if_pos h]
theorem mem_ins {α : Type} (l : List α) (n : Nat) (x y : α) : y ∈ l.take n ++ [x] ++ l.drop n ↔ y ∈ l ∨ y = x := by
  have : y ∈ l ↔ y ∈ l.take n ∨ y ∈ l.drop n := by rw [← List.mem_append, List.take_append_drop]
  simp only [List.mem_append, List.mem_singleton, this]
  constructor
  · rintro ((h | h) | h)
    · exact .inl (.inl h)
    · exact .inr h
    · exact .inl (.inr h)
  · rintro ((h | h) | h)
    · exact .inl (.inl h)
    · exact .inr h
    · exact .inl (.inr h)
theorem sort_l1 {l : List ByteArray} {i : Nat} (hi : i < l.length) (hl : l.length ≤ 1000000000) {o : List ByteArray} (ho : o.length ≤ i) :
  ∀ (n : Nat), n ≤ o.length → ∃ o', (∀ x, x ∈ o' ↔ x ∈ o ∨ x = l[i]) ∧ o'.length ≤ i + 1 ∧ ∀ r, Ev (fun k => spec_l03Sort_O.l0 k l o' ((i + 1 : Nat) : Int)) r → Ev (fun k => spec_l03Sort_O.l1 k l o (i : Int) (n : Int)) r := by
  have J1 : ∀ n, n ≤ o.length → ∃ o', (∀ x, x ∈ o' ↔ x ∈ o ∨ x = l[i]) ∧ o'.length ≤ i + 1 ∧ ∀ r, Ev (fun k => spec_l03Sort_O.l0 k l o' ((i + 1 : Nat) : Int)) r → Ev (fun k => spec_l03Sort_O.j1 k l o (i : Int) (n : Int)) r := fun n hn => by
    refine ⟨o.take n ++ [l[i]] ++ o.drop n, mem_ins o n _, by simp; omega, fun r hr => Ev.step ?_⟩
    have hb1 : bnd (n : Int) (o.length : Int) (o.length : Int) = some () := by unfold bnd; rw [if_pos (by omega)]
    have hb2 : bnd 0 (n : Int) (o.length : Int) = some () := by unfold bnd; rw [if_pos (by omega)]
    have hrest : (o.drop n).take (o.length - n) = o.drop n := List.take_of_length_le (by simp)
    simp only [spec_l03Sort_O.j1, hb1, hb2, Option.bind_some, spec_l01Texts_b.f, spec_l01Texts_O.f, Int.toNat_natCast, hrest, ixg hi]
    rw [app_b (a := []) (by simp; omega), app_b (a := o.take n) (by simp; omega)]
    simp only [Option.bind_some, List.nil_append]
    rw [app_b (by simp; omega)]
    simp only [Option.bind_some, w1b hi (by omega)]
    exact hr
  have J0 : ∀ n, n ≤ o.length → ∃ o', (∀ x, x ∈ o' ↔ x ∈ o ∨ x = l[i]) ∧ o'.length ≤ i + 1 ∧ ∀ r, Ev (fun k => spec_l03Sort_O.l0 k l o' ((i + 1 : Nat) : Int)) r → Ev (fun k => spec_l03Sort_O.j0 k l o (i : Int) (n : Int)) r := fun n hn => by
    obtain ⟨o1, h1, h2, h3⟩ := J1 n hn
    by_cases h0 : 0 < n
    · have hlt : n - 1 < o.length := by omega
      have hin : inr ((n - 1 : Nat) : Int) o.length = some () := by unfold inr; rw [if_pos (by omega)]
      by_cases he : o[n - 1] = l[i]
      · refine ⟨o, fun x => ?_, by omega, fun r hr => Ev.step ?_⟩
        · exact ⟨.inl, fun h => h.elim id fun e => e ▸ he ▸ List.getElem_mem hlt⟩
        · simp only [spec_l03Sort_O.j0, ltd h0, show decide ((0 : Int) < (n : Int)) = true by simpa using h0, cond_true, m1b h0 hn (by omega), hin, Option.bind_some, Int.toNat_natCast, List.getElem?_eq_getElem hlt, ixg hi, he, decide_true, w1b hi (by omega)]
          exact hr
      · refine ⟨o1, h1, h2, fun r hr => Ev.step ?_⟩
        simp only [spec_l03Sort_O.j0, show decide ((0 : Int) < (n : Int)) = true by simpa using h0, cond_true, m1b h0 hn (by omega), hin, Option.bind_some, Int.toNat_natCast, List.getElem?_eq_getElem hlt, ixg hi, decide_eq_false he, cond_false]
        exact h3 r hr
    · refine ⟨o1, h1, h2, fun r hr => Ev.step ?_⟩
      simp only [spec_l03Sort_O.j0, show decide ((0 : Int) < (n : Int)) = false by simp; omega, cond_false]
      exact h3 r hr
  intro n
  induction n with
  | zero =>
    intro hn
    obtain ⟨o1, h1, h2, h3⟩ := J0 0 hn
    refine ⟨o1, h1, h2, fun r hr => Ev.step ?_⟩
    simp only [spec_l03Sort_O.l1, show decide ((0 : Int) < ((0 : Nat) : Int)) = false from rfl, cond_false]
    exact h3 r hr
  | succ n ih =>
    intro hn
    have hlt : n < o.length := by omega
    have hin : inr (n : Int) o.length = some () := by unfold inr; rw [if_pos (by omega)]
    have hm : IntKind.i64.wrap (((n + 1 : Nat) : Int) - 1) = (n : Int) := by rw [m1b (i := n + 1) (n := o.length) (by omega) hn (by omega)]; simp
    cases hs : slt l[i] o[n] with
    | true =>
      obtain ⟨o1, h1, h2, h3⟩ := ih (by omega)
      refine ⟨o1, h1, h2, fun r hr => Ev.step ?_⟩
      simp only [spec_l03Sort_O.l1, show decide ((0 : Int) < ((n + 1 : Nat) : Int)) = true by simp, cond_true, hm, hin, Option.bind_some, Int.toNat_natCast, List.getElem?_eq_getElem hlt, ixg hi, hs]
      exact h3 r hr
    | false =>
      obtain ⟨o1, h1, h2, h3⟩ := J0 (n + 1) hn
      refine ⟨o1, h1, h2, fun r hr => Ev.step ?_⟩
      simp only [spec_l03Sort_O.l1, show decide ((0 : Int) < ((n + 1 : Nat) : Int)) = true by simp, cond_true, hm, hin, Option.bind_some, Int.toNat_natCast, List.getElem?_eq_getElem hlt, ixg hi, hs, cond_false]
      exact h3 r hr
theorem sort_ {l : List ByteArray} (hl : l.length ≤ 1000000000) : ∃ r, Ev (fun k => spec_l03Sort_O.f k l) r ∧ (∀ x, x ∈ r ↔ x ∈ l) ∧ r.length ≤ l.length := by
  have L : ∀ n i : Nat, l.length - i ≤ n → i ≤ l.length → ∀ o : List ByteArray, o.length ≤ i → (∀ x, x ∈ o ↔ x ∈ l.take i) → ∃ r, Ev (fun k => spec_l03Sort_O.l0 k l o (i : Int)) r ∧ (∀ x, x ∈ r ↔ x ∈ l) ∧ r.length ≤ l.length := by
    intro n
    have fin : ∀ i : Nat, ¬ i < l.length → ∀ o : List ByteArray, i ≤ l.length → o.length ≤ i → (∀ x, x ∈ o ↔ x ∈ l.take i) → ∃ r, Ev (fun k => spec_l03Sort_O.l0 k l o (i : Int)) r ∧ (∀ x, x ∈ r ↔ x ∈ l) ∧ r.length ≤ l.length := fun i hi o hle ho hm => by
      refine ⟨o, Ev.step ?_, fun x => ?_, by omega⟩
      · simp only [spec_l03Sort_O.l0, ltn hi, cond_false, List.take_length]
        exact Ev.ret _
      · rw [hm, List.take_of_length_le (by omega)]
    induction n with
    | zero => intro i h hle o ho hm; exact fin i (by omega) o hle ho hm
    | succ n ih =>
      intro i h hle o ho hm
      by_cases hi : i < l.length
      case neg => exact fin i hi o hle ho hm
      obtain ⟨o', h1, h2, h3⟩ := sort_l1 hi hl ho o.length (Nat.le_refl _)
      obtain ⟨r, g1, g2, g3⟩ := ih (i + 1) (by omega) (by omega) o' h2 (fun x => by
        have e : l.take (i + 1) = l.take i ++ [l[i]] := by rw [List.take_add_one, List.getElem?_eq_getElem hi]; rfl
        rw [h1, hm, e, List.mem_append, List.mem_singleton])
      refine ⟨r, Ev.step ?_, g2, g3⟩
      simp only [spec_l03Sort_O.l0, ltd hi, cond_true]
      exact h3 r g1
  obtain ⟨r, h1, h2, h3⟩ := L l.length 0 (by omega) (by omega) [] (by simp) (by simp)
  exact ⟨r, Ev.step (by simp only [spec_l03Sort_O.f]; exact h1), h2, h3⟩
abbrev RsN (N : List ByteArray) : Prop := N.Pairwise (fun a b => slt a b = true)
theorem less_trans : ∀ (a b c : List UInt8), Op.bytesLess a b = true → Op.bytesLess b c = true → Op.bytesLess a c = true
 | _, _, [], _, h => by rename_i b _; cases b <;> simp [Op.bytesLess] at h
 | [], _, _ :: _, _, _ => by simp [Op.bytesLess]
 | _ :: _, [], _ :: _, h, _ => by simp [Op.bytesLess] at h
 | x :: a, y :: b, z :: c, h, h' => by
   simp only [Op.bytesLess, Bool.or_eq_true, Bool.and_eq_true, decide_eq_true_eq, beq_iff_eq] at h h' ⊢
   rcases h with h | ⟨rfl, h⟩
   · rcases h' with h' | ⟨rfl, h'⟩
     · left; simp only [UInt8.lt_iff_toNat_lt] at h h' ⊢; omega
     · exact .inl h
   · rcases h' with h' | ⟨rfl, h'⟩
     · exact .inl h'
     · exact .inr ⟨rfl, less_trans a b c h h'⟩
theorem less_irr : ∀ (a : List UInt8), Op.bytesLess a a = false
 | [] => rfl
 | x :: a => by
   simp only [Op.bytesLess, less_irr a, Bool.and_false, Bool.or_false, decide_eq_false_iff_not, UInt8.lt_iff_toNat_lt]; omega
theorem slt_irr (a : ByteArray) : slt a a = false := less_irr _
theorem slt_trans {a b c : ByteArray} (h : slt a b = true) (h' : slt b c = true) : slt a c = true := less_trans _ _ _ h h'
theorem less_tri : ∀ (a b : List UInt8), Op.bytesLess a b = false → Op.bytesLess b a = false → a = b
 | [], [], _, _ => rfl
 | [], _ :: _, h, _ => by simp [Op.bytesLess] at h
 | _ :: _, [], _, h => by simp [Op.bytesLess] at h
 | x :: a, y :: b, h, h' => by
   simp only [Op.bytesLess, Bool.or_eq_false_iff, Bool.and_eq_false_iff, decide_eq_false_iff_not, beq_eq_false_iff_ne, UInt8.lt_iff_toNat_lt] at h h'
   have e : x = y := UInt8.toNat_inj.1 (by omega)
   subst e
   have h1 : Op.bytesLess a b = false := h.2.resolve_left fun e => e rfl
   have h2 : Op.bytesLess b a = false := h'.2.resolve_left fun e => e rfl
   rw [less_tri a b h1 h2]
theorem slt_tri {a b : ByteArray} (h : slt a b = false) (h' : slt b a = false) : a = b := by
  have := less_tri _ _ h h'
  rw [ByteArray.toList_eq, ByteArray.toList_eq] at this
  exact ByteArray.ext (Array.toList_inj.1 this)
theorem slt_asymm {a b : ByteArray} (h : slt a b = true) : slt b a = false := by
  cases e : slt b a with
  | false => rfl
  | true => have := slt_trans h e; rw [slt_irr] at this; cases this
theorem strict_ext : ∀ (a b : List ByteArray), RsN a → RsN b → (∀ x, x ∈ a ↔ x ∈ b) → a = b
 | [], [], _, _, _ => rfl
 | [], y :: s, _, _, h => by have := (h y).2 (List.mem_cons_self ..); cases this
 | x :: r, [], _, _, h => by have := (h x).1 (List.mem_cons_self ..); cases this
 | x :: r, y :: s, ha, hb, h => by
   obtain ⟨a1, a2⟩ := List.pairwise_cons.1 ha
   obtain ⟨b1, b2⟩ := List.pairwise_cons.1 hb
   have e : x = y := by
     rcases List.mem_cons.1 ((h x).1 (List.mem_cons_self ..)) with e | e
     · exact e
     · rcases List.mem_cons.1 ((h y).2 (List.mem_cons_self ..)) with e' | e'
       · exact e'.symm
       · have := slt_asymm (a1 y e'); rw [b1 x e] at this; cases this
   subst e
   rw [strict_ext r s a2 b2 (fun z => ⟨fun hz => by
     rcases List.mem_cons.1 ((h z).1 (List.mem_cons_of_mem _ hz)) with e | e
     · subst e; have := a1 z hz; rw [slt_irr] at this; cases this
     · exact e, fun hz => by
     rcases List.mem_cons.1 ((h z).2 (List.mem_cons_of_mem _ hz)) with e | e
     · subst e; have := b1 z hz; rw [slt_irr] at this; cases this
     · exact e⟩)]
theorem rs_ins {o : List ByteArray} {x : ByteArray} {q : Nat} (hS : RsN o) (h1 : ∀ y ∈ o.drop q, slt x y = true) (h2 : ∀ y ∈ o.take q, slt y x = true) : RsN (o.take q ++ [x] ++ o.drop q) := by
  rw [List.append_assoc, List.singleton_append]
  unfold RsN at hS ⊢
  rw [← List.take_append_drop q o, List.pairwise_append] at hS
  obtain ⟨p1, p2, p3⟩ := hS
  refine List.pairwise_append.2 ⟨p1, List.pairwise_cons.2 ⟨h1, p2⟩, fun a ha b hb => ?_⟩
  rcases List.mem_cons.1 hb with rfl | hb
  · exact h2 a ha
  · exact p3 a ha b hb
theorem rs_pre {o : List ByteArray} {x : ByteArray} {q : Nat} (hS : RsN o) (h0 : 0 < q) (hq : q - 1 < o.length) (h : slt o[q - 1] x = true) : ∀ y ∈ o.take q, slt y x = true := fun y hy => by
  obtain ⟨j, hj, rfl⟩ := List.getElem_of_mem hy
  rw [List.getElem_take]
  have hjq : j < q := by simp at hj; omega
  by_cases e : j = q - 1
  · subst e; exact h
  · exact slt_trans (List.pairwise_iff_getElem.1 hS j (q - 1) (by omega) hq (by omega)) h
theorem sortR_l1 {l : List ByteArray} {i : Nat} (hi : i < l.length) (hl : l.length ≤ 1000000000) {o : List ByteArray} (ho : o.length ≤ i) (hS : RsN o) :
  ∀ (n : Nat), n ≤ o.length → (∀ y ∈ o.drop n, slt l[i] y = true) → ∃ o', RsN o' ∧ o'.length ≤ i + 1 ∧ ∀ r, Ev (fun k => spec_l03Sort_O.l0 k l o' ((i + 1 : Nat) : Int)) r → Ev (fun k => spec_l03Sort_O.l1 k l o (i : Int) (n : Int)) r := by
  have J1 : ∀ n, n ≤ o.length → (∀ y ∈ o.drop n, slt l[i] y = true) → (∀ y ∈ o.take n, slt y l[i] = true) → ∃ o', RsN o' ∧ o'.length ≤ i + 1 ∧ ∀ r, Ev (fun k => spec_l03Sort_O.l0 k l o' ((i + 1 : Nat) : Int)) r → Ev (fun k => spec_l03Sort_O.j1 k l o (i : Int) (n : Int)) r := fun n hn q1 q2 => by
    refine ⟨o.take n ++ [l[i]] ++ o.drop n, rs_ins hS q1 q2, by simp; omega, fun r hr => Ev.step ?_⟩
    have hb1 : bnd (n : Int) (o.length : Int) (o.length : Int) = some () := by unfold bnd; rw [if_pos (by omega)]
    have hb2 : bnd 0 (n : Int) (o.length : Int) = some () := by unfold bnd; rw [if_pos (by omega)]
    have hrest : (o.drop n).take (o.length - n) = o.drop n := List.take_of_length_le (by simp)
    simp only [spec_l03Sort_O.j1, hb1, hb2, Option.bind_some, spec_l01Texts_b.f, spec_l01Texts_O.f, Int.toNat_natCast, hrest, ixg hi]
    rw [app_b (a := []) (by simp; omega), app_b (a := o.take n) (by simp; omega)]
    simp only [Option.bind_some, List.nil_append]
    rw [app_b (by simp; omega)]
    simp only [Option.bind_some, w1b hi (by omega)]
    exact hr
  have J0 : ∀ n, n ≤ o.length → (∀ y ∈ o.drop n, slt l[i] y = true) → (0 < n → ∀ h : n - 1 < o.length, slt l[i] o[n - 1] = false) → ∃ o', RsN o' ∧ o'.length ≤ i + 1 ∧ ∀ r, Ev (fun k => spec_l03Sort_O.l0 k l o' ((i + 1 : Nat) : Int)) r → Ev (fun k => spec_l03Sort_O.j0 k l o (i : Int) (n : Int)) r := fun n hn q1 q2 => by
    by_cases h0 : 0 < n
    · have hlt : n - 1 < o.length := by omega
      have hin : inr ((n - 1 : Nat) : Int) o.length = some () := by unfold inr; rw [if_pos (by omega)]
      by_cases he : o[n - 1] = l[i]
      · refine ⟨o, hS, by omega, fun r hr => Ev.step ?_⟩
        simp only [spec_l03Sort_O.j0, ltd h0, show decide ((0 : Int) < (n : Int)) = true by simpa using h0, cond_true, m1b h0 hn (by omega), hin, Option.bind_some, Int.toNat_natCast, List.getElem?_eq_getElem hlt, ixg hi, he, decide_true, w1b hi (by omega)]
        exact hr
      · have hlast : slt o[n - 1] l[i] = true := by
          cases e : slt o[n - 1] l[i] with
          | true => rfl
          | false => exact absurd (slt_tri e (q2 h0 hlt)) he
        obtain ⟨o1, h1, h2, h3⟩ := J1 n hn q1 (rs_pre hS h0 hlt hlast)
        refine ⟨o1, h1, h2, fun r hr => Ev.step ?_⟩
        simp only [spec_l03Sort_O.j0, show decide ((0 : Int) < (n : Int)) = true by simpa using h0, cond_true, m1b h0 hn (by omega), hin, Option.bind_some, Int.toNat_natCast, List.getElem?_eq_getElem hlt, ixg hi, decide_eq_false he, cond_false]
        exact h3 r hr
    · obtain rfl : n = 0 := by omega
      obtain ⟨o1, h1, h2, h3⟩ := J1 0 hn q1 (fun y hy => by simp at hy)
      refine ⟨o1, h1, h2, fun r hr => Ev.step ?_⟩
      simp only [spec_l03Sort_O.j0, show decide ((0 : Int) < ((0 : Nat) : Int)) = false from rfl, cond_false]
      exact h3 r hr
  intro n
  induction n with
  | zero =>
    intro hn q1
    obtain ⟨o1, h1, h2, h3⟩ := J0 0 hn q1 (fun h => absurd h (by omega))
    refine ⟨o1, h1, h2, fun r hr => Ev.step ?_⟩
    simp only [spec_l03Sort_O.l1, show decide ((0 : Int) < ((0 : Nat) : Int)) = false from rfl, cond_false]
    exact h3 r hr
  | succ n ih =>
    intro hn q1
    have hlt : n < o.length := by omega
    have hin : inr (n : Int) o.length = some () := by unfold inr; rw [if_pos (by omega)]
    have hm : IntKind.i64.wrap (((n + 1 : Nat) : Int) - 1) = (n : Int) := by rw [m1b (i := n + 1) (n := o.length) (by omega) hn (by omega)]; simp
    cases hs : slt l[i] o[n] with
    | true =>
      obtain ⟨o1, h1, h2, h3⟩ := ih (by omega) (fun y hy => by
        rw [List.drop_eq_getElem_cons hlt] at hy
        rcases List.mem_cons.1 hy with rfl | hy
        · exact hs
        · exact q1 y hy)
      refine ⟨o1, h1, h2, fun r hr => Ev.step ?_⟩
      simp only [spec_l03Sort_O.l1, show decide ((0 : Int) < ((n + 1 : Nat) : Int)) = true by simp, cond_true, hm, hin, Option.bind_some, Int.toNat_natCast, List.getElem?_eq_getElem hlt, ixg hi, hs]
      exact h3 r hr
    | false =>
      obtain ⟨o1, h1, h2, h3⟩ := J0 (n + 1) hn q1 (fun _ _ => hs)
      refine ⟨o1, h1, h2, fun r hr => Ev.step ?_⟩
      simp only [spec_l03Sort_O.l1, show decide ((0 : Int) < ((n + 1 : Nat) : Int)) = true by simp, cond_true, hm, hin, Option.bind_some, Int.toNat_natCast, List.getElem?_eq_getElem hlt, ixg hi, hs, cond_false]
      exact h3 r hr
/-- Texts sorted: rising, and the same texts. -/
theorem sortR {l : List ByteArray} (hl : l.length ≤ 1000000000) : ∃ r, Ev (fun k => spec_l03Sort_O.f k l) r ∧ (∀ x, x ∈ r ↔ x ∈ l) ∧ r.length ≤ l.length ∧ RsN r := by
  have L : ∀ n i : Nat, l.length - i ≤ n → i ≤ l.length → ∀ o : List ByteArray, o.length ≤ i → RsN o → ∃ r, Ev (fun k => spec_l03Sort_O.l0 k l o (i : Int)) r ∧ RsN r := by
    intro n
    have fin : ∀ i : Nat, ¬ i < l.length → ∀ o : List ByteArray, RsN o → ∃ r, Ev (fun k => spec_l03Sort_O.l0 k l o (i : Int)) r ∧ RsN r := fun i hi o hS => by
      refine ⟨o, Ev.step ?_, hS⟩
      simp only [spec_l03Sort_O.l0, ltn hi, cond_false, List.take_length]
      exact Ev.ret _
    induction n with
    | zero => intro i h hle o ho hS; exact fin i (by omega) o hS
    | succ n ih =>
      intro i h hle o ho hS
      by_cases hi : i < l.length
      case neg => exact fin i hi o hS
      obtain ⟨o', h1, h2, h3⟩ := sortR_l1 hi hl ho hS o.length (Nat.le_refl _) (fun y hy => by simp at hy)
      obtain ⟨r, g1, g2⟩ := ih (i + 1) (by omega) (by omega) o' h2 h1
      refine ⟨r, Ev.step ?_, g2⟩
      simp only [spec_l03Sort_O.l0, ltd hi, cond_true]
      exact h3 r g1
  obtain ⟨r', h1, h2⟩ := L l.length 0 (by omega) (by omega) [] (by simp) List.Pairwise.nil
  obtain ⟨r, g1, g2, g3⟩ := sort_ hl
  refine ⟨r, g1, g2, g3, ?_⟩
  have : Ev (fun k => spec_l03Sort_O.f k l) r' := Ev.step (by simp only [spec_l03Sort_O.f]; exact h1)
  rw [Ev.uniq g1 this]; exact h2
end Go.Ab
namespace Go.Ab
open Go.Proofs Go.Lib
set_option linter.unusedVariables false
set_option linter.unusedSimpArgs false
def bs (l : List UInt8) : ByteArray := ⟨l.toArray⟩
/-- Is the byte part of a word? -/
def isW (c : UInt8) : Bool := !sepR c.toNat
/-- The runs of a text, one of them begun. -/
def runsG : List UInt8 → List UInt8 → List (List UInt8)
 | [], b => if b = [] then [] else [b]
 | c :: r, b => if isW c = true then runsG r (b ++ [c]) else (if b = [] then runsG r [] else b :: runsG r [])
theorem runsG_skip : ∀ (u r b : List UInt8), (∀ c ∈ u, isW c = false) → u ≠ [] → runsG (u ++ r) b = (if b = [] then [] else [b]) ++ runsG r []
  | [], r, b, _, h => absurd rfl h
  | c :: u, r, b, hu, _ => by
    have hc := hu c List.mem_cons_self
    have h1 : runsG (u ++ r) [] = runsG r [] := by
      by_cases e : u = []
      · subst e; rfl
      · rw [runsG_skip u r [] (fun x hx => hu x (List.mem_cons_of_mem _ hx)) e]; simp
    simp only [List.cons_append, runsG, hc, Bool.false_eq_true, if_false, h1]
    by_cases e : b = []
    · simp [e]
    · simp [e]
theorem high_w {c : UInt8} (h : 128 ≤ c.toNat) : isW c = false := by
  unfold isW sepR
  simp only [Bool.not_not, Bool.or_eq_false_iff, Bool.and_eq_false_iff, decide_eq_false_iff_not]
  omega
theorem dec_low (s : ByteArray) (i : Nat) (h : (s.get! i).toNat < 128) : Utf8.decode s i = ((s.get! i).toNat, 1) := by
  unfold Utf8.decode
  simp only [Nat.add_zero]
  rw [if_pos h]
theorem dec_high (s : ByteArray) (i : Nat) (hi : i < s.size) (h : 128 ≤ (s.get! i).toNat) :
    128 ≤ (Utf8.decode s i).1 ∧ 1 ≤ (Utf8.decode s i).2 ∧ i + (Utf8.decode s i).2 ≤ s.size ∧ ∀ k, k < (Utf8.decode s i).2 → 128 ≤ (s.get! (i + k)).toNat := by
  have one : ∀ k, k < 1 → 128 ≤ (s.get! (i + k)).toNat := fun k hk => by
    have : k = 0 := by omega
    subst this; exact h
  have e1 : Utf8.runeError = 65533 := rfl
  unfold Utf8.decode
  simp only [Nat.add_zero]
  rw [if_neg (by omega)]
  simp only [Bool.and_eq_true, beq_iff_eq, decide_eq_true_eq, Bool.decide_and, ge_iff_le]
  split
  · rename_i h1
    split
    · refine ⟨by assumption, by simp, by omega, fun k hk => ?_⟩
      have : k = 0 ∨ k = 1 := by omega
      rcases this with rfl | rfl
      · exact h
      · omega
    · exact ⟨by rw [e1]; decide, by decide, by omega, one⟩
  · split
    · rename_i h1
      split
      · rename_i h2
        refine ⟨by omega, by simp, by omega, fun k hk => ?_⟩
        have : k = 0 ∨ k = 1 ∨ k = 2 := by omega
        rcases this with rfl | rfl | rfl
        · exact h
        · omega
        · omega
      · exact ⟨by rw [e1]; decide, by decide, by omega, one⟩
    · split
      · rename_i h1
        split
        · rename_i h2
          refine ⟨by omega, by simp, by omega, fun k hk => ?_⟩
          have : k = 0 ∨ k = 1 ∨ k = 2 ∨ k = 3 := by omega
          rcases this with rfl | rfl | rfl | rfl
          · exact h
          · omega
          · omega
          · omega
        · exact ⟨by rw [e1]; decide, by decide, by omega, one⟩
      · exact ⟨by rw [e1]; decide, by decide, by omega, one⟩
theorem get_data (s : ByteArray) (i : Nat) (h : i < s.data.toList.length) : s.get! i = s.data.toList[i] := by
  have h' : i < s.data.size := by simpa using h
  show s.data[i]! = _
  rw [getElem!_pos s.data i h']
  simp
theorem ext_bs (s : ByteArray) (a b : Nat) (hb : b ≤ s.size) : s.extract a b = bs ((s.data.toList.drop a).take (b - a)) := by
  have e : (s.extract a b).data.toList = (s.data.toList.drop a).take (b - a) := by
    rw [ByteArray.data_extract]
    simp [List.extract_eq_take_drop]
  unfold bs
  rw [← e]
theorem sep_w {c : UInt8} {b : Bool} (h : isW c = b) : sepR c.toNat = !b := by unfold isW at h; rw [← h]; simp
def curO (s : ByteArray) (pos : Nat) : Option Nat → List UInt8
 | none => []
 | some a => (s.data.toList.drop a).take (pos - a)
theorem spans_runs (s : ByteArray) : ∀ (f pos : Nat) (st : Option Nat) (acc : List (Nat × Nat)), s.size ≤ pos + f → pos ≤ s.size → (∀ a, st = some a → a < pos) →
    (closeSpans s (spansFromP sepR s f pos st acc)).map (fun x => s.extract x.1 x.2) = acc.map (fun x => s.extract x.1 x.2) ++ (runsG (s.data.toList.drop pos) (curO s pos st)).map bs := by
  have hL : s.data.toList.length = s.size := by simp
  have curNe : ∀ (pos a : Nat), a < pos → pos ≤ s.size → (s.data.toList.drop a).take (pos - a) ≠ [] := fun pos a h1 h2 e => by
    have := congrArg List.length e
    simp only [List.length_take, List.length_drop, hL, List.length_nil] at this
    omega
  have fin : ∀ (st : Option Nat) (acc : List (Nat × Nat)), (∀ a, st = some a → a < s.size) →
      (closeSpans s (acc, st)).map (fun x => s.extract x.1 x.2) = acc.map (fun x => s.extract x.1 x.2) ++ (runsG (s.data.toList.drop s.size) (curO s s.size st)).map bs := fun st acc hst => by
    rw [List.drop_of_length_le (by omega)]
    cases st with
    | none => simp [closeSpans, curO, runsG]
    | some a =>
      simp only [closeSpans, curO, runsG]
      simp only [curNe s.size a (hst a rfl) (Nat.le_refl _), if_false]
      rw [List.map_append, List.map_cons, List.map_nil, ext_bs s a s.size (Nat.le_refl _)]
      rfl
  intro f
  induction f with
  | zero =>
    intro pos st acc h1 h2 h3
    have : pos = s.size := by omega
    subst this
    rw [spansFromP]
    exact fin st acc h3
  | succ f ih =>
    intro pos st acc h1 h2 h3
    by_cases hlt : pos < s.size
    case neg =>
      have : pos = s.size := by omega
      subst this
      rw [spansFromP_end _ _ _ _ _ _ (by omega)]
      exact fin st acc h3
    have hp : pos < s.data.toList.length := by omega
    have hd : s.data.toList.drop pos = s.data.toList[pos] :: s.data.toList.drop (pos + 1) := List.drop_eq_getElem_cons hp
    have hg := get_data s pos hp
    -- bytes that part: n of them
    have part : ∀ (r n : Nat), Utf8.decode s pos = (r, n) → sepR r = true → 1 ≤ n → pos + n ≤ s.size → (∀ k (h : pos + k < s.data.toList.length), k < n → isW s.data.toList[pos + k] = false) →
        (closeSpans s (spansFromP sepR s (f + 1) pos st acc)).map (fun x => s.extract x.1 x.2) = acc.map (fun x => s.extract x.1 x.2) ++ (runsG (s.data.toList.drop pos) (curO s pos st)).map bs := by
      intro r n e hs h4 h5 h6
      have hu : s.data.toList.drop pos = (s.data.toList.drop pos).take n ++ s.data.toList.drop (pos + n) := by
        rw [← List.drop_drop, List.take_append_drop]
      have hun : (s.data.toList.drop pos).take n ≠ [] := by
        have := curNe (pos + n) pos (by omega) h5
        rwa [Nat.add_sub_cancel_left] at this
      have huw : ∀ c ∈ (s.data.toList.drop pos).take n, isW c = false := fun c hc => by
        obtain ⟨k, hk, rfl⟩ := List.getElem_of_mem hc
        have hkn : k < n := by simp only [List.length_take] at hk; omega
        rw [List.getElem_take, List.getElem_drop]
        exact h6 k _ hkn
      rw [hu, runsG_skip _ _ _ huw hun]
      cases st with
      | none =>
        rw [spansFromP, if_pos hlt, e, if_pos hs]
        show (closeSpans s (spansFromP sepR s f (pos + n) none acc)).map _ = _
        rw [ih (pos + n) none acc (by omega) h5 (fun a h => by cases h)]
        simp [curO]
      | some a =>
        rw [spansFromP, if_pos hlt, e, if_pos hs]
        show (closeSpans s (spansFromP sepR s f (pos + n) none (acc ++ [(a, pos)]))).map _ = _
        rw [ih (pos + n) none _ (by omega) h5 (fun a h => by cases h)]
        simp only [curO]
        simp only [curNe pos a (h3 a rfl) h2, if_false]
        rw [List.map_append, List.map_append, List.append_assoc, List.map_cons, List.map_nil, ext_bs s a pos h2]
        rfl
    by_cases hh : 128 ≤ (s.get! pos).toNat
    · obtain ⟨q1, q2, q3, q4⟩ := dec_high s pos hlt hh
      refine part (Utf8.decode s pos).1 (Utf8.decode s pos).2 rfl ?_ q2 q3 (fun k h hk => ?_)
      · unfold sepR
        simp only [Bool.not_eq_true', Bool.or_eq_false_iff, Bool.and_eq_false_iff, decide_eq_false_iff_not]
        omega
      · have := q4 k hk
        rw [get_data s _ h] at this
        exact high_w this
    · have hdl := dec_low s pos (by omega)
      cases hw : isW s.data.toList[pos] with
      | false =>
        refine part _ 1 hdl ?_ (Nat.le_refl _) (by omega) (fun k h hk => ?_)
        · rw [hg]; exact sep_w hw
        · have : k = 0 := by omega
          subst this; exact hw
      | true =>
        have hs : sepR (s.get! pos).toNat = false := by rw [hg]; exact sep_w hw
        rw [hd]
        simp only [runsG, hw, if_true]
        cases st with
        | none =>
          rw [spansFromP, if_pos hlt, hdl]
          simp only [hs, Bool.false_eq_true, if_false]
          show (closeSpans s (spansFromP sepR s f (pos + 1) (some pos) acc)).map _ = _
          rw [ih (pos + 1) (some pos) acc (by omega) (by omega) (fun a h => by cases h; omega)]
          have e : curO s (pos + 1) (some pos) = [] ++ [s.data.toList[pos]] := by
            simp only [curO]; rw [Nat.add_sub_cancel_left, hd]; rfl
          rw [e]; rfl
        | some a =>
          have ha := h3 a rfl
          rw [spansFromP, if_pos hlt, hdl]
          simp only [hs, Bool.false_eq_true, if_false]
          show (closeSpans s (spansFromP sepR s f (pos + 1) (some a) acc)).map _ = _
          rw [ih (pos + 1) (some a) acc (by omega) (by omega) (fun a' h => by cases h; omega)]
          have e : curO s (pos + 1) (some a) = curO s pos (some a) ++ [s.data.toList[pos]] := by
            simp only [curO]
            have e2 : pos + 1 - a = (pos - a) + 1 := by omega
            rw [e2, List.take_add_one, List.getElem?_drop]
            have e3 : a + (pos - a) = pos := by omega
            rw [e3, List.getElem?_eq_getElem hp]; rfl
          rw [e]
theorem runsB_runs (s : ByteArray) : runsB s = (runsG (lowB s).data.toList []).map bs := by
  unfold runsB goFieldsP spansOfP
  have h := spans_runs (lowB s) (lowB s).size 0 none [] (by omega) (by omega) (fun a h => by cases h)
  simpa [curO] using h
end Go.Ab
