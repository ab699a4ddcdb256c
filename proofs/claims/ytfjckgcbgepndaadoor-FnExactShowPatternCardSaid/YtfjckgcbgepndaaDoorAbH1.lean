/- Sizes, copies and comparisons of the arguments of FnExactShowPattern. No condition. -/
import Derived.Test.YtfjckgcbgepndaaDoorAbH0
import Derived.Test.YtfjckgcbgepndaaDoorAbQ6
namespace Go.Ab
open Go.Proofs
set_option linter.unusedVariables false
set_option linter.unusedSimpArgs false
def wf45 (x : S45) : Prop := Str x.f0 ∧ Str x.f1
def wf49 (x : S49) : Prop := Str x.f0 ∧ (Lst Str) x.f1 ∧ (InK .i64) x.f2 ∧ Any x.f3 ∧ (InK .i64) x.f4 ∧ (InK .i64) x.f5
def wf24 (x : S24) : Prop := Str x.f0 ∧ (InK .i64) x.f1 ∧ Any x.f2 ∧ (Lst wf45) x.f3 ∧ (Lst wf49) x.f4
def bdPatNode (x : S45) : Prop := x.f0.size ≤ 1048576 ∧ x.f1.size ≤ 1048576 ∧ True
theorem sz_PatNode (x : S45) (h : wf45 x) {a : Int} (ha : Lft a) : Sz (fun k => laws_szPatNode.f k x a) a (bdPatNode x) := by
  simp only [laws_szPatNode.f]; unfold bdPatNode
  exact Sz.len ha (fun _ h1 => Sz.len h1 (fun _ h2 => Sz.ret) h.2) h.1
def bdPatNodeS (v : (List S45)) : Prop := v.length ≤ 1048576 ∧ ∀ x ∈ v, bdPatNode x
theorem sz_PatNodeS (v : (List S45)) (h : Lst wf45 v) {a : Int} (ha : Lft a) : Sz (fun k => laws_szPatNodeS.f k v a) a (bdPatNodeS v) := Sz.slice (l := laws_szPatNodeS.l0) h.1 (fun _ _ _ => by simp only [laws_szPatNodeS.f]) (fun hl => Sz.loop (fun _ _ _ _ => by simp only [laws_szPatNodeS.l0]) (fun x a hx ha => sz_PatNode x hx ha) v h.2 hl) ha
def bdStringS (v : (List ByteArray)) : Prop := v.length ≤ 1048576 ∧ ∀ x ∈ v, x.size ≤ 1048576
theorem sz_StringS (v : (List ByteArray)) (h : Lst Str v) {a : Int} (ha : Lft a) : Sz (fun k => laws_szStringS.f k v a) a (bdStringS v) := Sz.slice (l := laws_szStringS.l0) h.1 (fun _ _ _ => by simp only [laws_szStringS.f]) (fun hl => Sz.strs (fun _ _ _ _ => by simp only [laws_szStringS.l0]) v h.2 hl) ha
def bdPatEdge (x : S49) : Prop := x.f0.size ≤ 1048576 ∧ bdStringS x.f1 ∧ True
theorem sz_PatEdge (x : S49) (h : wf49 x) {a : Int} (ha : Lft a) : Sz (fun k => laws_szPatEdge.f k x a) a (bdPatEdge x) := by
  simp only [laws_szPatEdge.f]; unfold bdPatEdge
  exact Sz.len ha (fun _ h1 => Sz.call h1 (sz_StringS _ h.2.1 h1) fun v2 h2 => Sz.ret) h.1
def bdPatEdgeS (v : (List S49)) : Prop := v.length ≤ 1048576 ∧ ∀ x ∈ v, bdPatEdge x
theorem sz_PatEdgeS (v : (List S49)) (h : Lst wf49 v) {a : Int} (ha : Lft a) : Sz (fun k => laws_szPatEdgeS.f k v a) a (bdPatEdgeS v) := Sz.slice (l := laws_szPatEdgeS.l0) h.1 (fun _ _ _ => by simp only [laws_szPatEdgeS.f]) (fun hl => Sz.loop (fun _ _ _ _ => by simp only [laws_szPatEdgeS.l0]) (fun x a hx ha => sz_PatEdge x hx ha) v h.2 hl) ha
def bdPattern (x : S24) : Prop := x.f0.size ≤ 1048576 ∧ bdPatNodeS x.f3 ∧ bdPatEdgeS x.f4 ∧ True
theorem sz_Pattern (x : S24) (h : wf24 x) {a : Int} (ha : Lft a) : Sz (fun k => laws_szPattern.f k x a) a (bdPattern x) := by
  simp only [laws_szPattern.f]; unfold bdPattern
  exact Sz.len ha (fun _ h1 => Sz.call h1 (sz_PatNodeS _ h.2.2.2.1 h1) fun v2 h2 => Sz.call h2 (sz_PatEdgeS _ h.2.2.2.2 h2) fun v3 h3 => Sz.ret) h.1
def trPatNode (x : S45) : S45 := x
theorem to_PatNode (x : S45) (h : bdPatNode x) : Ev (fun k => laws_toPatNode.f k x) (trPatNode x) := by
  simp only [laws_toPatNode.f, trPatNode]; exact Ev.ret _
theorem eq_PatNode (x : S45) (h : bdPatNode x) : Ev (fun k => laws_eqPatNode.f k (trPatNode x) (trPatNode x)) true := by
  simp only [laws_eqPatNode.f, trPatNode, beq_self_eq_true, decide_true, cond_true]
  exact Ev.ret _
theorem to_PatNodeS (v : (List S45)) (h : bdPatNodeS v) : Ev (fun k => laws_toPatNodeS.f k v) (v.map trPatNode) := to_f (l := laws_toPatNodeS.l0) h.1 (fun _ _ => by simp only [laws_toPatNodeS.f]; rfl) (to_loop (B := bdPatNode) (fun _ _ _ _ _ => by simp only [laws_toPatNodeS.l0]) (fun x hx => to_PatNode x hx) v h.2 h.1)
theorem eq_PatNodeS (v : (List S45)) (h : bdPatNodeS v) : Ev (fun k => laws_eqPatNodeS.f k (v.map trPatNode) (v.map trPatNode)) true := eq_f (l := laws_eqPatNodeS.l0) (fun _ _ _ => by simp only [laws_eqPatNodeS.f]) (eq_loop (e := laws_eqPatNode.f) (fun _ _ _ _ => by simp only [laws_eqPatNodeS.l0]) _ (by intro y hy; obtain ⟨x, hx, rfl⟩ := List.mem_map.1 hy; exact eq_PatNode x (h.2 x hx)) (by simpa using h.1))
theorem to_StringS (v : (List ByteArray)) (h : bdStringS v) : Ev (fun k => laws_toStringS.f k v) v := by
  have := to_f (f := laws_toStringS.f) (l := laws_toStringS.l0) (tr := id) h.1 (fun _ _ => by simp only [laws_toStringS.f]; rfl) (to_strs (fun _ _ _ _ _ => by simp only [laws_toStringS.l0]) v h.1)
  rwa [List.map_id] at this
theorem eq_StringS (v : (List ByteArray)) (h : bdStringS v) : Ev (fun k => laws_eqStringS.f k v v) true := eq_f (l := laws_eqStringS.l0) (fun _ _ _ => by simp only [laws_eqStringS.f]) (eq_strs (fun _ _ _ _ => by simp only [laws_eqStringS.l0]) _ h.1)
def trPatEdge (x : S49) : S49 := ⟨x.f0, x.f1, x.f2, x.f3, x.f4, x.f5⟩
theorem to_PatEdge (x : S49) (h : bdPatEdge x) : Ev (fun k => laws_toPatEdge.f k x) (trPatEdge x) := by
  simp only [laws_toPatEdge.f, trPatEdge]; exact Ev.bind (to_StringS _ h.2.1) (Ev.ret _)
theorem eq_PatEdge (x : S49) (h : bdPatEdge x) : Ev (fun k => laws_eqPatEdge.f k (trPatEdge x) (trPatEdge x)) true := by
  simp only [laws_eqPatEdge.f, trPatEdge, beq_self_eq_true, decide_true, cond_true]
  refine Ev.bind (eq_StringS _ h.2.1) ?_
  simp only [beq_self_eq_true, decide_true, cond_true]
  exact Ev.ret _
theorem to_PatEdgeS (v : (List S49)) (h : bdPatEdgeS v) : Ev (fun k => laws_toPatEdgeS.f k v) (v.map trPatEdge) := to_f (l := laws_toPatEdgeS.l0) h.1 (fun _ _ => by simp only [laws_toPatEdgeS.f]; rfl) (to_loop (B := bdPatEdge) (fun _ _ _ _ _ => by simp only [laws_toPatEdgeS.l0]) (fun x hx => to_PatEdge x hx) v h.2 h.1)
theorem eq_PatEdgeS (v : (List S49)) (h : bdPatEdgeS v) : Ev (fun k => laws_eqPatEdgeS.f k (v.map trPatEdge) (v.map trPatEdge)) true := eq_f (l := laws_eqPatEdgeS.l0) (fun _ _ _ => by simp only [laws_eqPatEdgeS.f]) (eq_loop (e := laws_eqPatEdge.f) (fun _ _ _ _ => by simp only [laws_eqPatEdgeS.l0]) _ (by intro y hy; obtain ⟨x, hx, rfl⟩ := List.mem_map.1 hy; exact eq_PatEdge x (h.2 x hx)) (by simpa using h.1))
def trPattern (x : S24) : S30 := ⟨x.f0, x.f1, x.f2, (x.f3.map trPatNode), (x.f4.map trPatEdge)⟩
theorem to_Pattern (x : S24) (h : bdPattern x) : Ev (fun k => laws_toPattern.f k x) (trPattern x) := by
  simp only [laws_toPattern.f, trPattern]; exact Ev.bind (to_PatNodeS _ h.2.1) (Ev.bind (to_PatEdgeS _ h.2.2.1) (Ev.ret _))
theorem eq_Pattern (x : S24) (h : bdPattern x) : Ev (fun k => laws_eqPattern.f k (trPattern x) (trPattern x)) true := by
  simp only [laws_eqPattern.f, trPattern, beq_self_eq_true, decide_true, cond_true]
  refine Ev.bind (eq_PatNodeS _ h.2.1) ?_
  simp only [beq_self_eq_true, decide_true, cond_true]
  refine Ev.bind (eq_PatEdgeS _ h.2.2.1) ?_
  simp only [beq_self_eq_true, decide_true, cond_true]
  exact Ev.ret _
end Go.Ab
namespace Go.Ab
open Go.Proofs
set_option linter.unusedVariables false
set_option linter.unusedSimpArgs false
set_option linter.unusedSectionVars false
theorem lft0 : Lft 1048576 := by unfold Lft; omega
def modeT (p : S30) : ByteArray := if p.f1 = 1 then (⟨#[119, 97, 108, 107, 32]⟩ : ByteArray) else if p.f1 = 2 then (⟨#[115, 105, 109, 112, 108, 101, 32]⟩ : ByteArray) else e0
def shT (p : S30) : ByteArray := if p.f2 then (⟨#[115, 104, 111, 114, 116, 101, 115, 116, 32]⟩ : ByteArray) else e0
def nameT (p : S30) : ByteArray := if p.f0 = e0 then e0 else p.f0 ++ (⟨#[32, 61, 32]⟩ : ByteArray)
def preT (p : S30) : ByteArray := (nameT p ++ modeT p) ++ shT p
/-- The text behind i edges. -/
def patT (p : S30) : Nat → ByteArray
 | 0 => preT p ++ nodeT (p.f3.getD 0 ⟨e0, e0⟩)
 | n + 1 => (patT p n ++ edgeT (p.f4.getD n default)) ++ nodeT (p.f3.getD (n + 1) ⟨e0, e0⟩)
section
variable {p : S30} (hN : p.f0.size ≤ 1048576) (hb3 : ∀ n ∈ p.f3, NB n) (hb4 : ∀ e ∈ p.f4, EB e) (hP : PatS p)
include hN hb3 hb4 hP
theorem pre_le : (preT p).size ≤ 1048600 ∧ (nameT p).size ≤ 1048579 ∧ (modeT p).size ≤ 7 := by
  have h1 : (nameT p).size ≤ 1048579 := by
    unfold nameT
    split
    · show (0 : Nat) ≤ _; omega
    · simp [ByteArray.size_append, szA]; omega
  have h2 : (modeT p).size ≤ 7 := by
    unfold modeT
    split
    · show (5 : Nat) ≤ _; omega
    · split
      · show (7 : Nat) ≤ _; omega
      · show (0 : Nat) ≤ _; omega
  have h3 : (shT p).size ≤ 9 := by
    unfold shT
    split
    · show (9 : Nat) ≤ _; omega
    · show (0 : Nat) ≤ _; omega
  refine ⟨?_, h1, h2⟩
  unfold preT
  rw [ByteArray.size_append, ByteArray.size_append]; omega
theorem nd_le (i : Nat) (h : i < p.f3.length) : (nodeT (p.f3.getD i ⟨e0, e0⟩)).size ≤ 2097200 ∧ p.f3.getD i ⟨e0, e0⟩ = p.f3[i] := by
  have e : p.f3.getD i ⟨e0, e0⟩ = p.f3[i] := by simp [List.getD_eq_getElem?_getD, h]
  exact ⟨by rw [e]; exact nodeT_size (hb3 _ (List.getElem_mem h)), e⟩
theorem ed_le (i : Nat) (h : i < p.f4.length) : (edgeT (p.f4.getD i default)).size ≤ 12000010 ∧ p.f4.getD i default = p.f4[i] := by
  have e : p.f4.getD i default = p.f4[i] := by simp [List.getD_eq_getElem?_getD, h]
  exact ⟨by rw [e]; exact edge_le (hb4 _ (List.getElem_mem h)) (hP.2.2.2.1 _ (List.getElem_mem h)).2, e⟩
theorem patT_le : ∀ i, i ≤ p.f4.length → (patT p i).size ≤ 5000000 + i * 15000000
 | 0, _ => by
  obtain ⟨h1, -, -⟩ := pre_le hN hb3 hb4 hP
  obtain ⟨s1, s2, s3, -⟩ := hP.1
  have := (nd_le hN hb3 hb4 hP 0 (by omega)).1
  rw [patT, ByteArray.size_append]; omega
 | i + 1, h => by
  obtain ⟨s1, s2, s3, -⟩ := hP.1
  have a := (nd_le hN hb3 hb4 hP (i + 1) (by omega)).1
  have b := (ed_le hN hb3 hb4 hP i (by omega)).1
  have c := patT_le i (by omega)
  rw [patT, ByteArray.size_append, ByteArray.size_append]; omega
theorem show_s : Ev (fun k => spec_l08Show.f k p) (patT p p.f4.length) := by
  obtain ⟨h1, h2, h3⟩ := pre_le hN hb3 hb4 hP
  obtain ⟨s1, s2, s3, s4, s5⟩ := hP.1
  have hs9 : (⟨#[115, 104, 111, 114, 116, 101, 115, 116, 32]⟩ : ByteArray).size = 9 := rfl
  have hs5 : (⟨#[119, 97, 108, 107, 32]⟩ : ByteArray).size = 5 := rfl
  have hs7 : (⟨#[115, 105, 109, 112, 108, 101, 32]⟩ : ByteArray).size = 7 := rfl
  have hs3 : (⟨#[32, 61, 32]⟩ : ByteArray).size = 3 := rfl
  have hnm : (nameT p ++ modeT p).size ≤ 1048586 := by rw [ByteArray.size_append]; omega
  have loop : ∀ (b : Bool) (n i : Nat), p.f4.length - i ≤ n → i ≤ p.f4.length → Ev (fun k => spec_l08Show.l0 k (patT p i) (i : Int) p b) (patT p p.f4.length) := fun b => by
    have fin : ∀ i : Nat, ¬ i < p.f4.length → i ≤ p.f4.length → Ev (fun k => spec_l08Show.l0 k (patT p i) (i : Int) p b) (patT p p.f4.length) := fun i h h' => by
      obtain rfl : i = p.f4.length := by omega
      refine Ev.step ?_
      simp only [spec_l08Show.l0, ltn h, cond_false]; exact Ev.ret _
    intro n
    induction n with
    | zero => intro i h h'; exact fin i (by omega) h'
    | succ n ih =>
      intro i h h'
      by_cases hi : i < p.f4.length
      case neg => exact fin i hi h'
      have hn : i + 1 < p.f3.length := by omega
      obtain ⟨a, ea⟩ := nd_le hN hb3 hb4 hP (i + 1) hn
      obtain ⟨c, ec⟩ := ed_le hN hb3 hb4 hP i hi
      have d := patT_le hN hb3 hb4 hP i h'
      have g := ih (i + 1) (by omega) (by omega)
      rw [patT, ea, ec] at g
      rw [ea] at a
      rw [ec] at c
      refine Ev.step ?_
      simp only [spec_l08Show.l0, ltd hi, cond_true, ixg hi, Option.bind_some, wup hi (show p.f4.length ≤ 2000000 by omega), ixg hn, node_s _ (hb3 _ (List.getElem_mem hn))]
      refine Ev.bind (edge_sh (hb4 _ (List.getElem_mem hi)) (hP.2.2.2.1 _ (List.getElem_mem hi)).2) ?_
      rw [cat_ (by omega)]
      simp only [Option.bind_some]
      rw [cat_ (by rw [ByteArray.size_append]; omega)]
      exact g
  have hn0 : 0 < p.f3.length := by omega
  obtain ⟨a, ea⟩ := nd_le hN hb3 hb4 hP 0 hn0
  have j2 : ∀ b, Ev (fun k => spec_l08Show.j2 k (preT p) p b) (patT p p.f4.length) := fun b => by
    have g := loop b _ 0 (Nat.le_refl _) (Nat.zero_le _)
    rw [patT, ea] at g
    rw [ea] at a
    refine Ev.step ?_
    simp only [spec_l08Show.j2, show ix p.f3 0 = some p.f3[0] from ixg (i := 0) hn0, Option.bind_some, node_s _ (hb3 _ (List.getElem_mem hn0))]
    rw [cat_ (by omega)]
    exact g
  have j1 : Ev (fun k => spec_l08Show.j1 k (nameT p ++ modeT p) p) (patT p p.f4.length) := by
    refine Ev.step ?_
    simp only [spec_l08Show.j1]
    cases c : p.f2 with
    | true =>
      have g := j2 true
      unfold preT shT at g
      rw [c] at g
      simp only [if_true] at g
      simp only [cond_true]
      rw [cat_ (by rw [hs9]; omega)]
      exact g
    | false =>
      have g := j2 false
      unfold preT shT at g
      rw [c] at g
      simp only [Bool.false_eq_true, if_false, ap_nil] at g
      exact g
  have j0 : Ev (fun k => spec_l08Show.j0 k (nameT p) p) (patT p p.f4.length) := by
    refine Ev.step ?_
    simp only [spec_l08Show.j0]
    have g := j1
    unfold modeT at g
    by_cases c1 : p.f1 = 1
    · simp only [show (p.f1 == 1) = true by simpa using c1, cond_true]
      simp only [if_pos c1] at g
      rw [cat_ (by rw [hs5]; omega)]
      exact g
    · simp only [if_neg c1] at g
      simp only [show (p.f1 == 1) = false by simpa using c1, cond_false]
      by_cases c2 : p.f1 = 2
      · simp only [show (p.f1 == 2) = true by simpa using c2, cond_true]
        simp only [if_pos c2] at g
        rw [cat_ (by rw [hs7]; omega)]
        exact g
      · simp only [show (p.f1 == 2) = false by simpa using c2, cond_false]
        simp only [if_neg c2, ap_nil] at g
        exact g
  refine Ev.step ?_
  simp only [spec_l08Show.f]
  have g := j0
  unfold nameT at g
  by_cases c : p.f0 = e0
  · simp only [if_pos c] at g
    simp only [decide_eq_true c, cond_true]; exact g
  · simp only [if_neg c] at g
    simp only [decide_eq_false c, cond_false]
    rw [cat_ (by rw [hs3]; omega)]
    exact g
theorem show_i : Ev (fun k => impl_Pattern_show.f k p) (patT p p.f4.length) := by
  obtain ⟨h1, h2, h3⟩ := pre_le hN hb3 hb4 hP
  obtain ⟨s1, s2, s3, s4, s5⟩ := hP.1
  have hs9 : (⟨#[115, 104, 111, 114, 116, 101, 115, 116, 32]⟩ : ByteArray).size = 9 := rfl
  have hs5 : (⟨#[119, 97, 108, 107, 32]⟩ : ByteArray).size = 5 := rfl
  have hs7 : (⟨#[115, 105, 109, 112, 108, 101, 32]⟩ : ByteArray).size = 7 := rfl
  have hs3 : (⟨#[32, 61, 32]⟩ : ByteArray).size = 3 := rfl
  have hnm : (nameT p ++ modeT p).size ≤ 1048586 := by rw [ByteArray.size_append]; omega
  -- a node behind a text
  have nd : ∀ (X : ByteArray) (i : Nat) (b : Bool) (h : i < p.f3.length) (R : ByteArray), X.size ≤ 900000000 → Ev (fun k => impl_Pattern_show.l0 k (X ++ nodeT p.f3[i]) p ((i + 1 : Nat) : Int) b) R → Ev (fun k => impl_Pattern_show.j2 k X p (i : Int) b p.f3[i]) R := fun X i b h R hX g => by
    obtain ⟨n1, n2⟩ := hb3 _ (List.getElem_mem h)
    refine Ev.step ?_
    simp only [impl_Pattern_show.j2, wup h (show p.f3.length ≤ 2000000 by omega)]
    unfold nodeT at g
    rw [cat_ (by rw [sz1]; omega)]
    simp only [Option.bind_some]
    rw [cat_ (by rw [ByteArray.size_append, sz1]; omega)]
    simp only [Option.bind_some]
    by_cases c : p.f3[i].f1 = e0
    · simp only [if_pos c] at g
      simp only [decide_eq_true c, cond_true]
      rw [cat_ (by rw [ByteArray.size_append, ByteArray.size_append, sz1, sz1]; omega)]
      simp only [ByteArray.append_assoc] at g ⊢
      exact g
    · simp only [if_neg c] at g
      simp only [decide_eq_false c, cond_false]
      rw [cat_ (by rw [sz1]; omega)]
      simp only [Option.bind_some]
      rw [cat_ (by rw [ByteArray.size_append, ByteArray.size_append, ByteArray.size_append, sz1, sz1]; omega)]
      simp only [Option.bind_some]
      rw [cat_ (by rw [ByteArray.size_append, ByteArray.size_append, ByteArray.size_append, ByteArray.size_append, sz1, sz1, sz1]; omega)]
      simp only [Option.bind_some]
      simp only [ByteArray.append_assoc] at g ⊢
      exact g
  have loop : ∀ (b : Bool) (n i : Nat), p.f4.length - i ≤ n → i ≤ p.f4.length → Ev (fun k => impl_Pattern_show.l0 k (patT p i) p ((i + 1 : Nat) : Int) b) (patT p p.f4.length) := fun b => by
    have fin : ∀ i : Nat, ¬ i < p.f4.length → i ≤ p.f4.length → Ev (fun k => impl_Pattern_show.l0 k (patT p i) p ((i + 1 : Nat) : Int) b) (patT p p.f4.length) := fun i h h' => by
      obtain rfl : i = p.f4.length := by omega
      refine Ev.step ?_
      simp only [impl_Pattern_show.l0, ltn (show ¬ p.f4.length + 1 < p.f3.length by omega), cond_false]; exact Ev.ret _
    intro n
    induction n with
    | zero => intro i h h'; exact fin i (by omega) h'
    | succ n ih =>
      intro i h h'
      by_cases hi : i < p.f4.length
      case neg => exact fin i hi h'
      have hn : i + 1 < p.f3.length := by omega
      obtain ⟨a, ea⟩ := nd_le hN hb3 hb4 hP (i + 1) hn
      obtain ⟨c, ec⟩ := ed_le hN hb3 hb4 hP i hi
      have d := patT_le hN hb3 hb4 hP i h'
      have g := ih (i + 1) (by omega) (by omega)
      rw [patT, ea, ec] at g
      rw [ec] at c
      refine Ev.step ?_
      simp only [impl_Pattern_show.l0, ltd hn, cond_true, ixg hn, Option.bind_some, decide_eq_true (show (0 : Int) < ((i + 1 : Nat) : Int) by omega), wdn (show 0 < i + 1 by omega) hn (show p.f3.length ≤ 2000000 by omega), show i + 1 - 1 = i from rfl, ixg hi]
      refine Ev.bind (edge_ish (hb4 _ (List.getElem_mem hi)) (hP.2.2.2.1 _ (List.getElem_mem hi)).2) ?_
      rw [cat_ (by omega)]
      simp only [Option.bind_some]
      exact nd _ (i + 1) b hn _ (by rw [ByteArray.size_append]; omega) g
  have hn0 : 0 < p.f3.length := by omega
  obtain ⟨a, ea⟩ := nd_le hN hb3 hb4 hP 0 hn0
  have j1 : ∀ b, Ev (fun k => impl_Pattern_show.j1 k (preT p) p b) (patT p p.f4.length) := fun b => by
    have g := loop b _ 0 (Nat.le_refl _) (Nat.zero_le _)
    rw [patT, ea] at g
    refine Ev.step ?_
    simp only [impl_Pattern_show.j1]
    refine Ev.step ?_
    simp only [impl_Pattern_show.l0, show decide ((0 : Int) < (p.f3.length : Int)) = true by simp; omega, cond_true, show ix p.f3 0 = some p.f3[0] from ixg (i := 0) hn0, Option.bind_some, show decide ((0 : Int) < 0) = false from rfl, cond_false]
    exact nd _ 0 b hn0 _ (by omega) g
  have j0 : Ev (fun k => impl_Pattern_show.j0 k (nameT p) p) (patT p p.f4.length) := by
    refine Ev.step ?_
    have hm : ix ([(⟨#[]⟩ : ByteArray), (⟨#[119, 97, 108, 107, 32]⟩ : ByteArray), (⟨#[115, 105, 109, 112, 108, 101, 32]⟩ : ByteArray)] : List ByteArray) p.f1 = some (modeT p) := by
      unfold modeT
      have : p.f1 = 0 ∨ p.f1 = 1 ∨ p.f1 = 2 := by omega
      rcases this with e | e | e <;> rw [e] <;> rfl
    simp only [impl_Pattern_show.j0, hm, Option.bind_some]
    rw [cat_ (by omega)]
    simp only [Option.bind_some]
    cases c : p.f2 with
    | true =>
      have g := j1 true
      unfold preT shT at g
      rw [c] at g
      simp only [if_true] at g
      simp only [cond_true]
      rw [cat_ (by rw [hs9]; omega)]
      exact g
    | false =>
      have g := j1 false
      unfold preT shT at g
      rw [c] at g
      simp only [Bool.false_eq_true, if_false, ap_nil] at g
      exact g
  refine Ev.step ?_
  simp only [impl_Pattern_show.f]
  have g := j0
  unfold nameT at g
  by_cases c : p.f0 = e0
  · simp only [if_pos c] at g
    simp only [decide_eq_true c, cond_true]; exact g
  · simp only [if_neg c] at g
    simp only [decide_eq_false c, cond_false]
    rw [cat_ (by rw [hs3]; omega)]
    exact g
end
theorem said_FnExactShowPattern (x : S24) (h : wf24 x) : ∃ k, laws_FnExactShowPattern.f k x = some true := by
  refine Ev.at_ (f := fun k => laws_FnExactShowPattern.f k x) ?_
  unfold laws_FnExactShowPattern.f
  obtain ⟨r, h1, h2, h3⟩ := sz_Pattern x h lft0
  refine Ev.bind h1 ?_
  by_cases hr : r < 0
  · simp only [decide_eq_true hr, cond_true]; exact Ev.ret _
  · have hb := h3 (by omega)
    have b3 : ∀ n ∈ (trPattern x).f3, NB n := fun n hn => by
      obtain ⟨m, hm, rfl⟩ := List.mem_map.1 hn
      have := hb.2.1.2 m hm
      exact ⟨this.1, this.2.1⟩
    have b4 : ∀ n ∈ (trPattern x).f4, EB n := fun n hn => by
      obtain ⟨m, hm, rfl⟩ := List.mem_map.1 hn
      have := hb.2.2.1.2 m hm
      exact ⟨this.1, this.2.1.2⟩
    obtain ⟨c, hc, s1, s2⟩ := pattern2 (trPattern x) (by
      unfold trPattern
      simp only [List.length_map]
      exact ⟨hb.2.1.1, hb.2.2.1.1⟩)
    obtain ⟨t, t1, t2⟩ : ∃ t, Ev (fun k => spec_ShowPattern.f k (trPattern x)) t ∧ Ev (fun k => impl_ShowPattern.f k (trPattern x)) t := by
      unfold spec_ShowPattern.f impl_ShowPattern.f
      cases c with
      | true => exact ⟨_, Ev.bind s1 (Ev.bind (show_s hb.1 b3 b4 (hc rfl)) (Ev.ret _)), Ev.bind s2 (Ev.bind (show_i hb.1 b3 b4 (hc rfl)) (Ev.ret _))⟩
      | false => exact ⟨_, Ev.bind s1 (Ev.ret _), Ev.bind s2 (Ev.ret _)⟩
    simp only [decide_eq_false hr, cond_false]
    refine Ev.bind (to_Pattern x hb) (Ev.bind t1 (Ev.bind (to_Pattern x hb) (Ev.bind t2 ?_)))
    simp only [decide_true, cond_true]
    refine Ev.bind (to_Pattern x hb) (Ev.bind (eq_Pattern x hb) ?_)
    simp only [cond_true]; exact Ev.ret _
end Go.Ab
