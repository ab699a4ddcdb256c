/- A map's text has its parts told apart by their commas alone: the names that are read are the names written. No condition. -/
import Derived.Test.YtklhcjepgbakmaaGreatDoorAbH0
namespace Go.Ab
open Go.Proofs
set_option linter.unusedVariables false
set_option linter.unusedSimpArgs false
/-- A walk over a text: how deep in brackets, and whether in quotes; none at a comma outside. -/
def scan : List UInt8 → Nat → Nat → Option (Nat × Nat)
 | [], d, q => some (d, q)
 | c :: r, d, 0 => if c = 34 then scan r d 1 else if c = 91 ∨ c = 123 then scan r (d + 1) 0 else if c = 93 ∨ c = 125 then (match d with | 0 => none | d + 1 => scan r d 0) else if c = 44 ∧ d = 0 then none else scan r d 0
 | c :: r, d, 1 => if c = 92 then scan r d 2 else if c = 34 then scan r d 0 else scan r d 1
 | _ :: r, d, _ + 2 => scan r d 1
def Qt (c : UInt8) : Prop := c ≠ 34 ∧ c ≠ 44 ∧ c ≠ 91 ∧ c ≠ 93 ∧ c ≠ 123 ∧ c ≠ 125
def part (f : S58) : List UInt8 := f.f0.data.toList ++ 58 :: f.f1.data.toList
def mapT (S : List S58) : List UInt8 := 123 :: (joinS [44] (S.map part) ++ [125])
end Go.Ab
namespace Go.Ab
open Go.Proofs
set_option linter.unusedVariables false
set_option linter.unusedSimpArgs false
theorem less_trans : ∀ (a b c : List UInt8), Op.bytesLess a b = true → Op.bytesLess b c = true → Op.bytesLess a c = true
 | _, _, [], _, h => by rename_i b _; cases b <;> simp [Op.bytesLess] at h
 | [], _, _ :: _, _, _ => by simp [Op.bytesLess]
 | _ :: _, [], _ :: _, h, _ => by simp [Op.bytesLess] at h
 | x :: a, y :: b, z :: c, h, h' => by
   simp only [Op.bytesLess, Bool.or_eq_true, Bool.and_eq_true, decide_eq_true_eq, beq_iff_eq] at h h' ⊢
   rcases h with h | ⟨rfl, h⟩
   · rcases h' with h' | ⟨rfl, h'⟩
     · left; simp only [UInt8.lt_iff_toNat_lt] at h h' ⊢; omega
     · exact .inl h
   · rcases h' with h' | ⟨rfl, h'⟩
     · exact .inl h'
     · exact .inr ⟨rfl, less_trans a b c h h'⟩
theorem less_irr : ∀ (a : List UInt8), Op.bytesLess a a = false
 | [] => rfl
 | x :: a => by
   simp only [Op.bytesLess, less_irr a, Bool.and_false, Bool.or_false, decide_eq_false_iff_not, UInt8.lt_iff_toNat_lt]; omega
theorem slt_irr (a : ByteArray) : slt a a = false := less_irr _
theorem slt_trans {a b c : ByteArray} (h : slt a b = true) (h' : slt b c = true) : slt a c = true := less_trans _ _ _ h h'
theorem less_tri : ∀ (a b : List UInt8), Op.bytesLess a b = false → Op.bytesLess b a = false → a = b
 | [], [], _, _ => rfl
 | [], _ :: _, h, _ => by simp [Op.bytesLess] at h
 | _ :: _, [], _, h => by simp [Op.bytesLess] at h
 | x :: a, y :: b, h, h' => by
   simp only [Op.bytesLess, Bool.or_eq_false_iff, Bool.and_eq_false_iff, decide_eq_false_iff_not, beq_eq_false_iff_ne, UInt8.lt_iff_toNat_lt] at h h'
   have e : x = y := UInt8.toNat_inj.1 (by omega)
   subst e
   have h1 : Op.bytesLess a b = false := h.2.resolve_left fun e => e rfl
   have h2 : Op.bytesLess b a = false := h'.2.resolve_left fun e => e rfl
   rw [less_tri a b h1 h2]
theorem slt_tri {a b : ByteArray} (h : slt a b = false) (h' : slt b a = false) : a = b := by
  have := less_tri _ _ h h'
  rw [ByteArray.toList_eq, ByteArray.toList_eq] at this
  exact ByteArray.ext (Array.toList_inj.1 this)
theorem app_b {α : Type} {a b : List α} (h : a.length + b.length ≤ 68719476736) : app a b = some (a ++ b) := by unfold app; rw [if_pos h]
theorem slt_asymm {a b : ByteArray} (h : slt a b = true) : slt b a = false := by
  cases e : slt b a with
  | false => rfl
  | true => have := slt_trans h e; rw [slt_irr] at this; cases this
theorem lt_of_lt_le {x c a : ByteArray} (h : slt x a = true) (h' : slt c a = false) : slt x c = true := by
  cases e : slt a c with
  | true => exact slt_trans h e
  | false => rw [← slt_tri e h']; exact h
def Srt (C : List S58) : Prop := C.Pairwise (fun a b => slt b.f0 a.f0 = false)
theorem srt_ins {C : List S58} {x : S58} {q : Nat} (hq : q ≤ C.length) (hS : Srt C) (h1 : ∀ y ∈ C.drop q, slt x.f0 y.f0 = true) (h2 : ∀ h : 0 < q, slt x.f0 (C[q - 1]'(by omega)).f0 = false) : Srt (C.take q ++ x :: C.drop q) := by
  have hg := List.pairwise_iff_getElem.1 hS
  unfold Srt at hS ⊢
  rw [← List.take_append_drop q C, List.pairwise_append] at hS
  obtain ⟨p1, p2, p3⟩ := hS
  refine List.pairwise_append.2 ⟨p1, List.pairwise_cons.2 ⟨fun b hb => slt_asymm (h1 b hb), p2⟩, fun a ha b hb => ?_⟩
  rcases List.mem_cons.1 hb with rfl | hb
  · obtain ⟨j, hj, rfl⟩ := List.getElem_of_mem ha
    have hjq : j < q := by simp at hj; omega
    rw [List.getElem_take]
    cases e : slt b.f0 (C[j]'(by omega)).f0 with
    | false => rfl
    | true =>
      have hc : slt (C[q - 1]'(by omega)).f0 (C[j]'(by omega)).f0 = false := by
        by_cases hj1 : j = q - 1
        · subst hj1; exact slt_irr _
        · exact hg j (q - 1) (by omega) (by omega) (by omega)
      have := lt_of_lt_le e hc
      rw [h2 (by omega)] at this; cases this
  · exact p3 a ha b hb
section
variable {l : List S58}
theorem ins_s {i : Nat} (hi : i < l.length) (hl : l.length ≤ 1000) {C : List S58} (hC : C.length ≤ 1000) (hS : Srt C) : ∀ p : Nat, p ≤ C.length → (∀ y ∈ C.drop p, slt l[i].f0 y.f0 = true) → ∃ C', C'.Perm (l[i] :: C) ∧ Srt C' ∧ ∀ R, Ev (fun k => spec_l01Sorted.l0 k l C'.length ((i + 1 : Nat) : Int) C') R → Ev (fun k => spec_l01Sorted.l1 k l C.length (i : Int) (p : Int) C) R := by
  have stop : ∀ q : Nat, q ≤ C.length → (∀ y ∈ C.drop q, slt l[i].f0 y.f0 = true) → (∀ h : 0 < q, ∀ h' : q - 1 < C.length, slt l[i].f0 C[q - 1].f0 = false) → ∃ C', C'.Perm (l[i] :: C) ∧ Srt C' ∧ ∀ R, Ev (fun k => spec_l01Sorted.l0 k l C'.length ((i + 1 : Nat) : Int) C') R → Ev (fun k => spec_l01Sorted.j0 k l C.length (i : Int) (q : Int) C) R := fun q hq h1 h2 => by
    refine ⟨C.take q ++ l[i] :: C.drop q, ?_, srt_ins hq hS h1 (fun h => h2 h (by omega)), fun R hR => Ev.step ?_⟩
    · have := List.perm_middle (a := l[i]) (l₁ := C.take q) (l₂ := C.drop q)
      rwa [List.take_append_drop] at this
    have b1 : bnd (q : Int) (C.length : Int) (C.length : Int) = some () := by unfold bnd; rw [if_pos (by omega)]
    have b2 : bnd 0 (q : Int) (C.length : Int) = some () := by unfold bnd; rw [if_pos (by omega)]
    simp only [spec_l01Sorted.j0, b1, b2, ixg hi, Option.bind_some, Int.toNat_natCast]
    rw [List.take_of_length_le (l := C.drop q) (by simp), app_b (by simp; omega)]
    simp only [Option.bind_some, List.nil_append]
    rw [app_b (by simp; omega)]
    simp only [Option.bind_some]
    rw [app_b (by simp; omega)]
    simp only [Option.bind_some, wup hi (show l.length ≤ 2000000 by omega), List.append_assoc, List.singleton_append]
    exact hR
  intro p
  induction p with
  | zero =>
    intro hp h
    obtain ⟨C', h1, h2, h3⟩ := stop 0 hp h (fun h => absurd h (by omega))
    refine ⟨C', h1, h2, fun R hR => Ev.step ?_⟩
    simp only [spec_l01Sorted.l1, show decide ((0 : Int) < ((0 : Nat) : Int)) = false from rfl, cond_false]
    exact h3 R hR
  | succ p ih =>
    intro hp h
    have hpl : p < C.length := by omega
    have hw : IntKind.i64.wrap (((p + 1 : Nat) : Int) - 1) = (p : Int) := by rw [wI (by omega) (by omega)]; omega
    cases e : slt l[i].f0 C[p].f0 with
    | true =>
      obtain ⟨C', h1, h2, h3⟩ := ih (by omega) (fun y hy => by
        rw [List.drop_eq_getElem_cons hpl] at hy
        rcases List.mem_cons.1 hy with rfl | hy
        · exact e
        · exact h y hy)
      refine ⟨C', h1, h2, fun R hR => Ev.step ?_⟩
      simp only [spec_l01Sorted.l1, decide_eq_true (show (0 : Int) < ((p + 1 : Nat) : Int) by omega), cond_true, hw, inr_ hpl, Option.bind_some, Int.toNat_natCast, List.getElem?_eq_getElem hpl, ixg hi, e]
      exact h3 R hR
    | false =>
      obtain ⟨C', h1, h2, h3⟩ := stop (p + 1) hp h (fun _ _ => e)
      refine ⟨C', h1, h2, fun R hR => Ev.step ?_⟩
      simp only [spec_l01Sorted.l1, decide_eq_true (show (0 : Int) < ((p + 1 : Nat) : Int) by omega), cond_true, cond_false, hw, inr_ hpl, Option.bind_some, Int.toNat_natCast, List.getElem?_eq_getElem hpl, ixg hi, e]
      exact h3 R hR
theorem sorted_ (hl : l.length ≤ 1000) : ∃ S, Ev (fun k => spec_l01Sorted.f k l) S ∧ S.Perm l ∧ Srt S := by
  have L : ∀ (n i : Nat) (C : List S58), l.length - i ≤ n → i ≤ l.length → C.Perm (l.take i) → Srt C → ∃ S, Ev (fun k => spec_l01Sorted.l0 k l C.length (i : Int) C) S ∧ S.Perm l ∧ Srt S := by
    intro n
    have fin : ∀ (i : Nat) (C : List S58), ¬ i < l.length → i ≤ l.length → C.Perm (l.take i) → Srt C → ∃ S, Ev (fun k => spec_l01Sorted.l0 k l C.length (i : Int) C) S ∧ S.Perm l ∧ Srt S := fun i C h hle hp hS => by
      refine ⟨C, Ev.step ?_, ?_, hS⟩
      · simp only [spec_l01Sorted.l0, ltn h, cond_false, List.take_length]
        exact Ev.ret _
      · rwa [List.take_of_length_le (by omega)] at hp
    induction n with
    | zero => intro i C h hle hp hS; exact fin i C (by omega) hle hp hS
    | succ n ih =>
      intro i C h hle hp hS
      by_cases hi : i < l.length
      case neg => exact fin i C hi hle hp hS
      have hCl : C.length ≤ 1000 := by rw [hp.length_eq, List.length_take]; omega
      obtain ⟨C', h1, h2, h3⟩ := ins_s hi hl hCl hS C.length (Nat.le_refl _) (fun y hy => by simp at hy)
      obtain ⟨S, g1, g2, g3⟩ := ih (i + 1) C' (by omega) (by omega) (by
        rw [List.take_succ_eq_append_getElem hi]
        exact h1.trans (((List.Perm.cons l[i] hp)).trans (List.perm_append_singleton l[i] (l.take i)).symm)) h2
      refine ⟨S, Ev.step ?_, g2, g3⟩
      simp only [spec_l01Sorted.l0, ltd hi, cond_true]
      exact h3 S g1
  obtain ⟨S, h1, h2, h3⟩ := L l.length 0 [] (by omega) (by omega) (by simp) (by simp [Srt])
  exact ⟨S, Ev.step (by simp only [spec_l01Sorted.f]; exact h1), h2, h3⟩
end
abbrev RsN (N : List ByteArray) : Prop := N.Pairwise (fun a b => slt a b = true)
/-! tables -/
section
variable {β : Type}
end
end Go.Ab
