/- Sizes, copies and comparisons of the arguments of FnExactShowGraph. No condition. -/
import Derived.Test.YtfjckgcbgepndaaGreatDoorAbH0
import Derived.Test.YtfjckgcbgepndaaGreatDoorAbG1
import Derived.Lib.ItoaLen
namespace Go.Ab
open Go.Proofs
set_option linter.unusedVariables false
set_option linter.unusedSimpArgs false
def wf178 (x : S178) : Prop := Str x.f0 ∧ Str x.f1
def wf145 (x : S145) : Prop := (InK .i64) x.f0 ∧ (Lst Str) x.f1 ∧ (Lst wf178) x.f2
def wf148 (x : S148) : Prop := (InK .i64) x.f0 ∧ Str x.f1 ∧ (InK .i64) x.f2 ∧ (InK .i64) x.f3 ∧ (Lst wf178) x.f4
def wf43 (x : S43) : Prop := (Lst wf145) x.f0 ∧ (Lst wf148) x.f1
def bdStringS (v : (List ByteArray)) : Prop := v.length ≤ 1048576 ∧ ∀ x ∈ v, x.size ≤ 1048576
theorem sz_StringS (v : (List ByteArray)) (h : Lst Str v) {a : Int} (ha : Lft a) : Sz (fun k => laws_szStringS.f k v a) a (bdStringS v) := Sz.slice (l := laws_szStringS.l0) h.1 (fun _ _ _ => by simp only [laws_szStringS.f]) (fun hl => Sz.strs (fun _ _ _ _ => by simp only [laws_szStringS.l0]) v h.2 hl) ha
def bdField (x : S178) : Prop := x.f0.size ≤ 1048576 ∧ x.f1.size ≤ 1048576 ∧ True
theorem sz_Field (x : S178) (h : wf178 x) {a : Int} (ha : Lft a) : Sz (fun k => laws_szField.f k x a) a (bdField x) := by
  simp only [laws_szField.f]; unfold bdField
  exact Sz.len ha (fun _ h1 => Sz.len h1 (fun _ h2 => Sz.ret) h.2) h.1
def bdFieldS (v : (List S178)) : Prop := v.length ≤ 1048576 ∧ ∀ x ∈ v, bdField x
theorem sz_FieldS (v : (List S178)) (h : Lst wf178 v) {a : Int} (ha : Lft a) : Sz (fun k => laws_szFieldS.f k v a) a (bdFieldS v) := Sz.slice (l := laws_szFieldS.l0) h.1 (fun _ _ _ => by simp only [laws_szFieldS.f]) (fun hl => Sz.loop (fun _ _ _ _ => by simp only [laws_szFieldS.l0]) (fun x a hx ha => sz_Field x hx ha) v h.2 hl) ha
def bdNode (x : S145) : Prop := bdStringS x.f1 ∧ bdFieldS x.f2 ∧ True
theorem sz_Node (x : S145) (h : wf145 x) {a : Int} (ha : Lft a) : Sz (fun k => laws_szNode.f k x a) a (bdNode x) := by
  simp only [laws_szNode.f]; unfold bdNode
  exact Sz.call ha (sz_StringS _ h.2.1 ha) fun v1 h1 => Sz.call h1 (sz_FieldS _ h.2.2 h1) fun v2 h2 => Sz.ret
def bdNodeS (v : (List S145)) : Prop := v.length ≤ 1048576 ∧ ∀ x ∈ v, bdNode x
theorem sz_NodeS (v : (List S145)) (h : Lst wf145 v) {a : Int} (ha : Lft a) : Sz (fun k => laws_szNodeS.f k v a) a (bdNodeS v) := Sz.slice (l := laws_szNodeS.l0) h.1 (fun _ _ _ => by simp only [laws_szNodeS.f]) (fun hl => Sz.loop (fun _ _ _ _ => by simp only [laws_szNodeS.l0]) (fun x a hx ha => sz_Node x hx ha) v h.2 hl) ha
def bdEdge (x : S148) : Prop := x.f1.size ≤ 1048576 ∧ bdFieldS x.f4 ∧ True
theorem sz_Edge (x : S148) (h : wf148 x) {a : Int} (ha : Lft a) : Sz (fun k => laws_szEdge.f k x a) a (bdEdge x) := by
  simp only [laws_szEdge.f]; unfold bdEdge
  exact Sz.len ha (fun _ h1 => Sz.call h1 (sz_FieldS _ h.2.2.2.2 h1) fun v2 h2 => Sz.ret) h.2.1
def bdEdgeS (v : (List S148)) : Prop := v.length ≤ 1048576 ∧ ∀ x ∈ v, bdEdge x
theorem sz_EdgeS (v : (List S148)) (h : Lst wf148 v) {a : Int} (ha : Lft a) : Sz (fun k => laws_szEdgeS.f k v a) a (bdEdgeS v) := Sz.slice (l := laws_szEdgeS.l0) h.1 (fun _ _ _ => by simp only [laws_szEdgeS.f]) (fun hl => Sz.loop (fun _ _ _ _ => by simp only [laws_szEdgeS.l0]) (fun x a hx ha => sz_Edge x hx ha) v h.2 hl) ha
def bdGraph (x : S43) : Prop := bdNodeS x.f0 ∧ bdEdgeS x.f1 ∧ True
theorem sz_Graph (x : S43) (h : wf43 x) {a : Int} (ha : Lft a) : Sz (fun k => laws_szGraph.f k x a) a (bdGraph x) := by
  simp only [laws_szGraph.f]; unfold bdGraph
  exact Sz.call ha (sz_NodeS _ h.1 ha) fun v1 h1 => Sz.call h1 (sz_EdgeS _ h.2 h1) fun v2 h2 => Sz.ret
theorem to_StringS (v : (List ByteArray)) (h : bdStringS v) : Ev (fun k => laws_toStringS.f k v) v := by
  have := to_f (f := laws_toStringS.f) (l := laws_toStringS.l0) (tr := id) h.1 (fun _ _ => by simp only [laws_toStringS.f]; rfl) (to_strs (fun _ _ _ _ _ => by simp only [laws_toStringS.l0]) v h.1)
  rwa [List.map_id] at this
theorem eq_StringS (v : (List ByteArray)) (h : bdStringS v) : Ev (fun k => laws_eqStringS.f k v v) true := eq_f (l := laws_eqStringS.l0) (fun _ _ _ => by simp only [laws_eqStringS.f]) (eq_strs (fun _ _ _ _ => by simp only [laws_eqStringS.l0]) _ h.1)
def trField (x : S178) : S178 := x
theorem to_Field (x : S178) (h : bdField x) : Ev (fun k => laws_toField.f k x) (trField x) := by
  simp only [laws_toField.f, trField]; exact Ev.ret _
theorem eq_Field (x : S178) (h : bdField x) : Ev (fun k => laws_eqField.f k (trField x) (trField x)) true := by
  simp only [laws_eqField.f, trField, beq_self_eq_true, decide_true, cond_true]
  exact Ev.ret _
theorem to_FieldS (v : (List S178)) (h : bdFieldS v) : Ev (fun k => laws_toFieldS.f k v) (v.map trField) := to_f (l := laws_toFieldS.l0) h.1 (fun _ _ => by simp only [laws_toFieldS.f]; rfl) (to_loop (B := bdField) (fun _ _ _ _ _ => by simp only [laws_toFieldS.l0]) (fun x hx => to_Field x hx) v h.2 h.1)
theorem eq_FieldS (v : (List S178)) (h : bdFieldS v) : Ev (fun k => laws_eqFieldS.f k (v.map trField) (v.map trField)) true := eq_f (l := laws_eqFieldS.l0) (fun _ _ _ => by simp only [laws_eqFieldS.f]) (eq_loop (e := laws_eqField.f) (fun _ _ _ _ => by simp only [laws_eqFieldS.l0]) _ (by intro y hy; obtain ⟨x, hx, rfl⟩ := List.mem_map.1 hy; exact eq_Field x (h.2 x hx)) (by simpa using h.1))
def trNode (x : S145) : S88 := ⟨x.f0, x.f1, (x.f2.map trField)⟩
theorem to_Node (x : S145) (h : bdNode x) : Ev (fun k => laws_toNode.f k x) (trNode x) := by
  simp only [laws_toNode.f, trNode]; exact Ev.bind (to_StringS _ h.1) (Ev.bind (to_FieldS _ h.2.1) (Ev.ret _))
theorem eq_Node (x : S145) (h : bdNode x) : Ev (fun k => laws_eqNode.f k (trNode x) (trNode x)) true := by
  simp only [laws_eqNode.f, trNode, beq_self_eq_true, decide_true, cond_true]
  refine Ev.bind (eq_StringS _ h.1) ?_
  simp only [beq_self_eq_true, decide_true, cond_true]
  refine Ev.bind (eq_FieldS _ h.2.1) ?_
  simp only [beq_self_eq_true, decide_true, cond_true]
  exact Ev.ret _
theorem to_NodeS (v : (List S145)) (h : bdNodeS v) : Ev (fun k => laws_toNodeS.f k v) (v.map trNode) := to_f (l := laws_toNodeS.l0) h.1 (fun _ _ => by simp only [laws_toNodeS.f]; rfl) (to_loop (B := bdNode) (fun _ _ _ _ _ => by simp only [laws_toNodeS.l0]) (fun x hx => to_Node x hx) v h.2 h.1)
theorem eq_NodeS (v : (List S145)) (h : bdNodeS v) : Ev (fun k => laws_eqNodeS.f k (v.map trNode) (v.map trNode)) true := eq_f (l := laws_eqNodeS.l0) (fun _ _ _ => by simp only [laws_eqNodeS.f]) (eq_loop (e := laws_eqNode.f) (fun _ _ _ _ => by simp only [laws_eqNodeS.l0]) _ (by intro y hy; obtain ⟨x, hx, rfl⟩ := List.mem_map.1 hy; exact eq_Node x (h.2 x hx)) (by simpa using h.1))
def trEdge (x : S148) : S90 := ⟨x.f0, x.f1, x.f2, x.f3, (x.f4.map trField)⟩
theorem to_Edge (x : S148) (h : bdEdge x) : Ev (fun k => laws_toEdge.f k x) (trEdge x) := by
  simp only [laws_toEdge.f, trEdge]; exact Ev.bind (to_FieldS _ h.2.1) (Ev.ret _)
theorem eq_Edge (x : S148) (h : bdEdge x) : Ev (fun k => laws_eqEdge.f k (trEdge x) (trEdge x)) true := by
  simp only [laws_eqEdge.f, trEdge, beq_self_eq_true, decide_true, cond_true]
  refine Ev.bind (eq_FieldS _ h.2.1) ?_
  simp only [beq_self_eq_true, decide_true, cond_true]
  exact Ev.ret _
theorem to_EdgeS (v : (List S148)) (h : bdEdgeS v) : Ev (fun k => laws_toEdgeS.f k v) (v.map trEdge) := to_f (l := laws_toEdgeS.l0) h.1 (fun _ _ => by simp only [laws_toEdgeS.f]; rfl) (to_loop (B := bdEdge) (fun _ _ _ _ _ => by simp only [laws_toEdgeS.l0]) (fun x hx => to_Edge x hx) v h.2 h.1)
theorem eq_EdgeS (v : (List S148)) (h : bdEdgeS v) : Ev (fun k => laws_eqEdgeS.f k (v.map trEdge) (v.map trEdge)) true := eq_f (l := laws_eqEdgeS.l0) (fun _ _ _ => by simp only [laws_eqEdgeS.f]) (eq_loop (e := laws_eqEdge.f) (fun _ _ _ _ => by simp only [laws_eqEdgeS.l0]) _ (by intro y hy; obtain ⟨x, hx, rfl⟩ := List.mem_map.1 hy; exact eq_Edge x (h.2 x hx)) (by simpa using h.1))
def trGraph (x : S43) : S49 := ⟨(x.f0.map trNode), (x.f1.map trEdge)⟩
theorem to_Graph (x : S43) (h : bdGraph x) : Ev (fun k => laws_toGraph.f k x) (trGraph x) := by
  simp only [laws_toGraph.f, trGraph]; exact Ev.bind (to_NodeS _ h.1) (Ev.bind (to_EdgeS _ h.2.1) (Ev.ret _))
theorem eq_Graph (x : S43) (h : bdGraph x) : Ev (fun k => laws_eqGraph.f k (trGraph x) (trGraph x)) true := by
  simp only [laws_eqGraph.f, trGraph, beq_self_eq_true, decide_true, cond_true]
  refine Ev.bind (eq_NodeS _ h.1) ?_
  simp only [beq_self_eq_true, decide_true, cond_true]
  refine Ev.bind (eq_EdgeS _ h.2.1) ?_
  simp only [beq_self_eq_true, decide_true, cond_true]
  exact Ev.ret _
end Go.Ab

namespace Go.Ab
open Go.Proofs
set_option linter.unusedVariables false
set_option linter.unusedSimpArgs false
theorem lftO : Lft 1048576 := by unfold Lft; omega
def Pe (b : Bool) (id : Int) (e : S90) : Bool := bif b then e.f2 == id else e.f3 == id
def around (b : Bool) (id : Int) (l : List S90) : List Int := (l.filter (Pe b id)).map (·.f0)
theorem app1 {α : Type} {a : List α} {x : α} (h : a.length ≤ 1000000) : app a [x] = some (a ++ [x]) := by unfold app; rw [if_pos (by simp; omega)]
theorem around_cons (b : Bool) (id : Int) (l : List S90) (i : Nat) (h : i < l.length) : around b id (l.drop i) = (bif Pe b id l[i] then [l[i].f0] else []) ++ around b id (l.drop (i + 1)) := by
  unfold around
  rw [List.drop_eq_getElem_cons h, List.filter_cons]
  cases Pe b id l[i] <;> rfl
theorem graph_small {g : S49} (h : Ev (fun k => impl_graphOk.f k g) true) : g.f0.length ≤ 200 ∧ g.f1.length ≤ 400 := by
  have key : ¬ (200 < (g.f0.length : Int)) ∧ ¬ (400 < (g.f1.length : Int)) := by
    constructor
    · intro h1
      have : Ev (fun k => impl_graphOk.f k g) false := Ev.step (by simp only [impl_graphOk.f, decide_eq_true h1, cond_true]; exact Ev.ret _)
      cases h.uniq this
    · intro h1
      have : Ev (fun k => impl_graphOk.f k g) false := by
        refine Ev.step ?_
        simp only [impl_graphOk.f, decide_eq_true h1, cond_true]
        cases decide (200 < (g.f0.length : Int)) <;> exact Ev.ret _
      cases h.uniq this
  omega
theorem around_len (b : Bool) (id : Int) (l : List S90) : (around b id l).length ≤ l.length := by
  unfold around; rw [List.length_map]; exact List.length_filter_le _ _
end Go.Ab

namespace Go.Ab
open Go.Proofs
set_option linter.unusedVariables false
set_option linter.unusedSimpArgs false
def nullB : ByteArray := ⟨#[110, 117, 108, 108]⟩
theorem null_s (k : Nat) : spec_l01Read.f (k + 60) nullB = some ⟨0, 0, 0, ⟨#[]⟩, [], []⟩ := rfl
/-! What a right graph's nodes are -/
theorem nodes_ok {g : S49} (hl : g.f0.length ≤ 2000000) : ∀ (n i : Nat) (tb : List (Int × Int)), g.f0.length - i ≤ n → Ev (fun k => impl_graphOk.l0 k g (i : Int) tb) true → ∀ x ∈ g.f0.drop i, Ev (fun k => impl_nodeOk.f k x) true := by
  intro n
  induction n with
  | zero => intro i tb h _ x hx; rw [List.drop_of_length_le (by omega)] at hx; cases hx
  | succ n ih =>
    intro i tb h hT x hx
    by_cases hi : i < g.f0.length
    case neg => rw [List.drop_of_length_le (by omega)] at hx; cases hx
    obtain ⟨c, _, h2⟩ := node2 g.f0[i]
    have hc : c = true := by
      cases c with
      | true => rfl
      | false =>
        have : Ev (fun k => impl_graphOk.l0 k g (i : Int) tb) false := Ev.step (by
          simp only [impl_graphOk.l0, ltd hi, cond_true, ixg hi, Option.bind_some]
          exact Ev.bind h2 (Ev.ret _))
        exact hT.uniq this ▸ rfl
    subst hc
    have hnext : Ev (fun k => impl_graphOk.l0 k g ((i + 1 : Nat) : Int) (tput tb g.f0[i].f0 1)) true := by
      obtain ⟨K1, q1⟩ := hT
      obtain ⟨K2, q2⟩ := h2
      refine ⟨max K1 K2, fun k hk => ?_⟩
      have h1 := q1 (k + 2) (by omega)
      have h2' := q2 (k + 1) (by omega)
      by_cases h0 : 0 < i
      · simp only [impl_graphOk.l0, ltd hi, cond_true, ixg hi, Option.bind_some, h2', show decide ((0 : Int) < (i : Int)) = true by simpa using h0, wdn h0 hi hl, ixg (show i - 1 < g.f0.length by omega)] at h1
        by_cases hle : g.f0[i].f0 ≤ (g.f0[i - 1]'(by omega)).f0
        · simp only [decide_eq_true hle, cond_true] at h1
          cases h1
        · simp only [decide_eq_false hle, cond_false, impl_graphOk.j0, wup hi hl] at h1
          exact h1
      · simp only [impl_graphOk.l0, ltd hi, cond_true, ixg hi, Option.bind_some, h2', show decide ((0 : Int) < (i : Int)) = false by simp; omega, cond_false, impl_graphOk.j0, wup hi hl] at h1
        exact h1
    rw [List.drop_eq_getElem_cons hi] at hx
    rcases List.mem_cons.1 hx with rfl | hx
    · exact h2
    · exact ih (i + 1) _ (by omega) hnext x hx
theorem graph_nodeOk {g : S49} (h : Ev (fun k => impl_graphOk.f k g) true) : ∀ x ∈ g.f0, Ev (fun k => impl_nodeOk.f k x) true := by
  obtain ⟨h1, h2⟩ := graph_small h
  have : Ev (fun k => impl_graphOk.l0 k g ((0 : Nat) : Int) ([] : List (Int × Int))) true := by
    obtain ⟨K, q⟩ := h
    refine ⟨K, fun k hk => ?_⟩
    have := q (k + 1) (by omega)
    simp only [impl_graphOk.f, show decide ((200 : Int) < (g.f0.length : Int)) = false by simp; omega, show decide ((400 : Int) < (g.f1.length : Int)) = false by simp; omega, cond_false] at this
    exact this
  have := nodes_ok (g := g) (by omega) _ 0 _ (Nat.le_refl _) this
  rwa [List.drop_zero] at this
theorem fields_nm {l : List S178} (hl : l.length ≤ 2000000) : ∀ n i : Nat, l.length - i ≤ n → Ev (fun k => impl_fieldsOk.l0 k l (i : Int)) true → ∀ f ∈ l.drop i, nmB f.f0 = true := by
  intro n
  induction n with
  | zero => intro i h _ x hx; rw [List.drop_of_length_le (by omega)] at hx; cases hx
  | succ n ih =>
    intro i h hT x hx
    by_cases hi : i < l.length
    case neg => rw [List.drop_of_length_le (by omega)] at hx; cases hx
    obtain ⟨c, _, hc⟩ := fields_l0' hl _ (i + 1) (Nat.le_refl _)
    obtain ⟨d, _, hd⟩ := value2 l[i].f1
    have no : ∀ {r}, Ev (fun k => impl_fieldsOk.l0 k l (i : Int)) r → r = true := fun h => h.uniq hT
    cases hn : nmB l[i].f0 with
    | false =>
      have := no (r := false) (Ev.step (by
        simp only [impl_fieldsOk.l0, ltd hi, cond_true, ixg hi, Option.bind_some]
        refine Ev.bind (inm _) ?_
        simp only [hn, cond_false]; exact Ev.ret _))
      cases this
    | true =>
      have hdc : (d = true → c = true) ∧ (d = false → False) := by
        by_cases h0 : 0 < i
        · have hs : slt (l[i - 1]'(by omega)).f0 l[i].f0 = true := by
            cases hs : slt (l[i - 1]'(by omega)).f0 l[i].f0 with
            | true => rfl
            | false =>
              have := no (r := false) (Ev.step (by
                simp only [impl_fieldsOk.l0, ltd hi, cond_true, ixg hi, Option.bind_some]
                refine Ev.bind (inm _) ?_
                simp only [hn, cond_true, show decide ((0 : Int) < (i : Int)) = true by simpa using h0, wdn h0 hi hl, ixg (show i - 1 < l.length by omega), Option.bind_some, hs, cond_false]
                exact Ev.ret _))
              cases this
          have key : ∀ r, (d = true → r = c) → (d = false → r = false) → r = true := fun r h1 h2 => no (Ev.step (by
            simp only [impl_fieldsOk.l0, ltd hi, cond_true, ixg hi, Option.bind_some]
            refine Ev.bind (inm _) ?_
            simp only [hn, cond_true, show decide ((0 : Int) < (i : Int)) = true by simpa using h0, wdn h0 hi hl, ixg (show i - 1 < l.length by omega), Option.bind_some, hs]
            refine Ev.bind hd ?_
            cases d with
            | true => simp only [cond_true, wup hi hl]; rw [h1 rfl]; exact hc
            | false => simp only [cond_false]; rw [h2 rfl]; exact Ev.ret _))
          exact ⟨fun h => key c (fun _ => rfl) (fun h' => by rw [h] at h'; cases h'), fun h => by have := key false (fun h' => by rw [h] at h'; cases h') (fun _ => rfl); cases this⟩
        · have key : ∀ r, (d = true → r = c) → (d = false → r = false) → r = true := fun r h1 h2 => no (Ev.step (by
            simp only [impl_fieldsOk.l0, ltd hi, cond_true, ixg hi, Option.bind_some]
            refine Ev.bind (inm _) ?_
            simp only [hn, cond_true, show decide ((0 : Int) < (i : Int)) = false by simp; omega, cond_false]
            refine Ev.bind hd ?_
            cases d with
            | true => simp only [cond_true, wup hi hl]; rw [h1 rfl]; exact hc
            | false => simp only [cond_false]; rw [h2 rfl]; exact Ev.ret _))
          exact ⟨fun h => key c (fun _ => rfl) (fun h' => by rw [h] at h'; cases h'), fun h => by have := key false (fun h' => by rw [h] at h'; cases h') (fun _ => rfl); cases this⟩
      have hct : c = true := by
        cases d with
        | true => exact hdc.1 rfl
        | false => exact (hdc.2 rfl).elim
      subst hct
      rw [List.drop_eq_getElem_cons hi] at hx
      rcases List.mem_cons.1 hx with rfl | hx
      · exact hn
      · exact ih (i + 1) (by omega) hc x hx
theorem node_nm {x : S88} (h : Ev (fun k => impl_nodeOk.f k x) true) : (∀ l ∈ x.f1, nmB l = true) ∧ x.f1.length ≤ 10 ∧ (∀ f ∈ x.f2, nmB f.f0 = true) ∧ x.f2.length ≤ 20 := by
  obtain ⟨c, _, hc⟩ := idOk2 x.f0
  obtain ⟨d, _, hd⟩ := fields2 x.f2
  have no : ∀ {r}, Ev (fun k => impl_nodeOk.f k x) r → r = true := fun h' => h'.uniq h
  have hct : c = true := by
    cases c with
    | true => rfl
    | false =>
      have := no (r := false) (by simp only [impl_nodeOk.f]; exact Ev.bind hc (Ev.ret _))
      cases this
  subst hct
  have hl := ilab x.f1 (m := 10) (by omega)
  have hlt : labB 10 x.f1 = true := by
    cases hb : labB 10 x.f1 with
    | true => rfl
    | false =>
      have := no (r := false) (by
        simp only [impl_nodeOk.f]
        refine Ev.bind hc ?_
        simp only [cond_true]
        refine Ev.bind hl ?_
        rw [hb]; exact Ev.ret _)
      cases this
  have hdt : d = true := no (by
    simp only [impl_nodeOk.f]
    refine Ev.bind hc ?_
    simp only [cond_true]
    refine Ev.bind hl ?_
    rw [hlt]
    exact Ev.bind hd (Ev.ret _))
  subst hdt
  simp only [labB, Bool.and_eq_true, decide_eq_true_eq, List.all_eq_true] at hlt
  have h20 : x.f2.length ≤ 20 := by
    rcases Nat.lt_or_ge 20 x.f2.length with h' | h'
    · have : Ev (fun k => impl_fieldsOk.f k x.f2) false := Ev.step (by
        simp only [impl_fieldsOk.f, show decide ((20 : Int) < (x.f2.length : Int)) = true by simp; omega, cond_true]; exact Ev.ret _)
      cases hd.uniq this
    · exact h'
  refine ⟨hlt.2.1, hlt.1, ?_, h20⟩
  have : Ev (fun k => impl_fieldsOk.l0 k x.f2 ((0 : Nat) : Int)) true := by
    obtain ⟨K, q⟩ := hd
    refine ⟨K, fun k hk => ?_⟩
    have := q (k + 1) (by omega)
    simp only [impl_fieldsOk.f, show decide ((20 : Int) < (x.f2.length : Int)) = false by simp; omega, cond_false] at this
    exact this
  have := fields_nm (l := x.f2) (by omega) _ 0 (Nat.le_refl _) this
  rwa [List.drop_zero] at this
/-! The box -/
def inB (v a b : Int) : Bool := decide (min a b ≤ v) && decide (v ≤ max a b)
def hit (x y v : S130) : Bool := (v.f0 == 5) && (inB v.f1 x.f1 y.f1 && inB v.f2 x.f2 y.f2)
end Go.Ab
namespace Go.Ab
open Go.Proofs
set_option linter.unusedVariables false
set_option linter.unusedSimpArgs false
theorem nodes_end {g : S49} (hl : g.f0.length ≤ 2000000) : ∀ (n i : Nat) (tb : List (Int × Int)), g.f0.length - i ≤ n → Ev (fun k => impl_graphOk.l0 k g (i : Int) tb) true → ∃ tb', Ev (fun k => impl_graphOk.l1 k g 0 tb') true := by
  intro n
  have fin : ∀ (i : Nat) (tb : List (Int × Int)), ¬ i < g.f0.length → Ev (fun k => impl_graphOk.l0 k g (i : Int) tb) true → ∃ tb', Ev (fun k => impl_graphOk.l1 k g 0 tb') true := fun i tb hi hT => by
    obtain ⟨K, q⟩ := hT
    refine ⟨tb, K, fun k hk => ?_⟩
    have := q (k + 1) (by omega)
    simp only [impl_graphOk.l0, ltn hi, cond_false] at this
    exact this
  induction n with
  | zero => intro i tb h hT; exact fin i tb (by omega) hT
  | succ n ih =>
    intro i tb h hT
    by_cases hi : i < g.f0.length
    case neg => exact fin i tb hi hT
    obtain ⟨c, _, h2⟩ := node2 g.f0[i]
    have hc : c = true := by
      cases c with
      | true => rfl
      | false =>
        have : Ev (fun k => impl_graphOk.l0 k g (i : Int) tb) false := Ev.step (by
          simp only [impl_graphOk.l0, ltd hi, cond_true, ixg hi, Option.bind_some]
          exact Ev.bind h2 (Ev.ret _))
        exact hT.uniq this ▸ rfl
    subst hc
    refine ih (i + 1) (tput tb g.f0[i].f0 1) (by omega) ?_
    obtain ⟨K1, q1⟩ := hT
    obtain ⟨K2, q2⟩ := h2
    refine ⟨max K1 K2, fun k hk => ?_⟩
    have h1 := q1 (k + 2) (by omega)
    have h2' := q2 (k + 1) (by omega)
    by_cases h0 : 0 < i
    · simp only [impl_graphOk.l0, ltd hi, cond_true, ixg hi, Option.bind_some, h2', show decide ((0 : Int) < (i : Int)) = true by simpa using h0, wdn h0 hi hl, ixg (show i - 1 < g.f0.length by omega)] at h1
      by_cases hle : g.f0[i].f0 ≤ (g.f0[i - 1]'(by omega)).f0
      · simp only [decide_eq_true hle, cond_true] at h1
        cases h1
      · simp only [decide_eq_false hle, cond_false, impl_graphOk.j0, wup hi hl] at h1
        exact h1
    · simp only [impl_graphOk.l0, ltd hi, cond_true, ixg hi, Option.bind_some, h2', show decide ((0 : Int) < (i : Int)) = false by simp; omega, cond_false, impl_graphOk.j0, wup hi hl] at h1
      exact h1
theorem edges_ok {g : S49} (hl : g.f1.length ≤ 2000000) (tb : List (Int × Int)) : ∀ (n i : Nat), g.f1.length - i ≤ n → Ev (fun k => impl_graphOk.l1 k g (i : Int) tb) true → ∀ x ∈ g.f1.drop i, Ev (fun k => impl_edgeOk.f k x) true := by
  intro n
  induction n with
  | zero => intro i h _ x hx; rw [List.drop_of_length_le (by omega)] at hx; cases hx
  | succ n ih =>
    intro i h hT x hx
    by_cases hi : i < g.f1.length
    case neg => rw [List.drop_of_length_le (by omega)] at hx; cases hx
    obtain ⟨c, _, h2⟩ := edge2 g.f1[i]
    have hc : c = true := by
      cases c with
      | true => rfl
      | false =>
        have : Ev (fun k => impl_graphOk.l1 k g (i : Int) tb) false := Ev.step (by
          simp only [impl_graphOk.l1, ltd hi, cond_true, ixg hi, Option.bind_some]
          exact Ev.bind h2 (Ev.ret _))
        exact hT.uniq this ▸ rfl
    subst hc
    have hnext : Ev (fun k => impl_graphOk.l1 k g ((i + 1 : Nat) : Int) tb) true := by
      obtain ⟨K1, q1⟩ := hT
      obtain ⟨K2, q2⟩ := h2
      refine ⟨max K1 K2, fun k hk => ?_⟩
      have h1 := q1 (k + 1) (by omega)
      have h2' := q2 k (by omega)
      have fin : (bif (tget tb g.f1[i].f2 0) == 0 then (some false) else (bif ((tget tb g.f1[i].f3 0) == 0) then (some false) else (impl_graphOk.l1 k g ((i + 1 : Nat) : Int) tb))) = some true → impl_graphOk.l1 k g ((i + 1 : Nat) : Int) tb = some true := fun h => by
        cases e1 : (tget tb g.f1[i].f2 0 == 0) <;> cases e2 : (tget tb g.f1[i].f3 0 == 0) <;> simp only [e1, e2, cond_true, cond_false] at h <;> first | exact h | cases h
      by_cases h0 : 0 < i
      · simp only [impl_graphOk.l1, ltd hi, cond_true, ixg hi, Option.bind_some, h2', show decide ((0 : Int) < (i : Int)) = true by simpa using h0, wdn h0 hi hl, ixg (show i - 1 < g.f1.length by omega), wup hi hl] at h1
        by_cases hle : g.f1[i].f0 ≤ (g.f1[i - 1]'(by omega)).f0
        · simp only [decide_eq_true hle, cond_true] at h1
          cases h1
        · simp only [decide_eq_false hle, cond_false] at h1
          exact fin h1
      · simp only [impl_graphOk.l1, ltd hi, cond_true, ixg hi, Option.bind_some, h2', show decide ((0 : Int) < (i : Int)) = false by simp; omega, cond_false, wup hi hl] at h1
        exact fin h1
    rw [List.drop_eq_getElem_cons hi] at hx
    rcases List.mem_cons.1 hx with rfl | hx
    · exact h2
    · exact ih (i + 1) (by omega) hnext x hx
theorem edge_f20 {x : S90} (h : Ev (fun k => impl_edgeOk.f k x) true) : x.f4.length ≤ 20 := by
  rcases Nat.lt_or_ge 20 x.f4.length with h' | h'
  · exfalso
    have hd : Ev (fun k => impl_fieldsOk.f k x.f4) false := Ev.step (by
      simp only [impl_fieldsOk.f, show decide ((20 : Int) < (x.f4.length : Int)) = true by simp; omega, cond_true]; exact Ev.ret _)
    obtain ⟨c1, _, h1⟩ := idOk2 x.f0
    obtain ⟨c2, _, h2⟩ := idOk2 x.f2
    obtain ⟨c3, _, h3⟩ := idOk2 x.f3
    have : Ev (fun k => impl_edgeOk.f k x) false := by
      simp only [impl_edgeOk.f]
      refine Ev.bind h1 ?_
      cases c1 with
      | false => exact Ev.ret _
      | true =>
        simp only [cond_true]
        refine Ev.bind (inm _) ?_
        cases nmB x.f1 with
        | false => exact Ev.ret _
        | true =>
          simp only [cond_true]
          refine Ev.bind h2 ?_
          cases c2 with
          | false => exact Ev.ret _
          | true =>
            simp only [cond_true]
            refine Ev.bind h3 ?_
            cases c3 with
            | false => exact Ev.ret _
            | true =>
              simp only [cond_true]
              exact Ev.bind hd (Ev.ret _)
    cases h.uniq this
  · exact h'
theorem graph_edge20 {g : S49} (h : Ev (fun k => impl_graphOk.f k g) true) : ∀ x ∈ g.f1, x.f4.length ≤ 20 := by
  obtain ⟨h1, h2⟩ := graph_small h
  have h0 : Ev (fun k => impl_graphOk.l0 k g ((0 : Nat) : Int) ([] : List (Int × Int))) true := by
    obtain ⟨K, q⟩ := h
    refine ⟨K, fun k hk => ?_⟩
    have := q (k + 1) (by omega)
    simp only [impl_graphOk.f, show decide ((200 : Int) < (g.f0.length : Int)) = false by simp; omega, show decide ((400 : Int) < (g.f1.length : Int)) = false by simp; omega, cond_false] at this
    exact this
  obtain ⟨tb, h3⟩ := nodes_end (g := g) (by omega) _ 0 _ (Nat.le_refl _) h0
  have := edges_ok (g := g) (by omega) tb _ 0 (Nat.le_refl _) h3
  rw [List.drop_zero] at this
  exact fun x hx => edge_f20 (this x hx)
/-! Texts -/
theorem catb {a b : ByteArray} (h : a.size + b.size ≤ 1000000000000000) : cat a b = some (a ++ b) := by unfold cat; rw [if_pos (by omega)]
theorem bws (k : Nat) {t s : ByteArray} (h : s.size + t.size ≤ 100000000000000) : strings_Builder_WriteString.f k t s = some ((t.size : Int), true, s ++ t) := by unfold strings_Builder_WriteString.f; rw [if_pos (by omega)]
theorem bwb (k : Nat) {s : ByteArray} (h : s.size ≤ 100000000000000) : strings_Builder_WriteByte.f k 10 s = some (true, s ++ ⟨#[10]⟩) := by
  unfold strings_Builder_WriteByte.f; rw [if_pos (by omega)]; rfl
theorem nilc (s : ByteArray) : (⟨#[]⟩ : ByteArray) ++ s = s := by
  apply ByteArray.ext
  simp
theorem cnil (s : ByteArray) : s ++ (⟨#[]⟩ : ByteArray) = s := by
  apply ByteArray.ext
  simp
def numT (n : Int) : ByteArray := bs (Lib.itoa n)
def In64 (n : Int) : Prop := -9223372036854775808 ≤ n ∧ n ≤ 9223372036854775807
theorem num_size {n : Int} (h : In64 n) : (numT n).size ≤ 21 := by
  unfold numT; rw [bs_size]; exact Lib.itoa_length_le n h.1 h.2
theorem snum {n : Int} (h : In64 n) : Ev (fun k => spec_l01Dec.f k n) (numT n) := dec_ h.1 h.2
theorem inum {n : Int} (h : In64 n) : Ev (fun k => impl_num.f k n) (numT n) := by
  simp only [impl_num.f, strconv_FormatInt.f]
  have := h.1; have := h.2
  simp only [true_and]
  rw [if_pos (by exact ⟨h.1, h.2⟩)]
  exact Ev.ret _
def item (f : S178) : ByteArray := (f.f0 ++ ⟨#[58]⟩) ++ f.f1
def FB1 (f : S178) : Prop := f.f0.size ≤ 1048576 ∧ f.f1.size ≤ 1048576
theorem item_size1 {f : S178} (h : FB1 f) : (item f).size ≤ 2097153 := by
  have h1 : (⟨#[58]⟩ : ByteArray).size = 1 := rfl
  unfold item; rw [ByteArray.size_append, ByteArray.size_append, h1]; have := h.1; have := h.2; omega
def tl : List S178 → ByteArray
 | [] => ⟨#[]⟩
 | f :: r => (⟨#[44]⟩ ++ item f) ++ tl r
def inner : List S178 → ByteArray
 | [] => ⟨#[]⟩
 | f :: r => item f ++ tl r
def mapT (l : List S178) : ByteArray := (⟨#[123]⟩ ++ inner l) ++ ⟨#[125]⟩
def beh (l : List S178) : ByteArray := if l.length = 0 then ⟨#[10]⟩ else (⟨#[32]⟩ ++ mapT l) ++ ⟨#[10]⟩
theorem tl_size : ∀ (l : List S178), (∀ f ∈ l, FB1 f) → (tl l).size ≤ l.length * 2097154
 | [], _ => Nat.zero_le _
 | f :: r, h => by
   have h1 := item_size1 (h f (List.mem_cons_self ..))
   have h2 := tl_size r fun g hg => h g (List.mem_cons_of_mem _ hg)
   have h3 : (⟨#[44]⟩ : ByteArray).size = 1 := rfl
   have h4 : (r.length + 1) * 2097154 = r.length * 2097154 + 2097154 := Nat.succ_mul _ _
   simp only [tl, List.length_cons]
   rw [ByteArray.size_append, ByteArray.size_append, h3, h4]; omega
theorem inner_size {l : List S178} (h : ∀ f ∈ l, FB1 f) (hl : l.length ≤ 20) : (inner l).size ≤ 42000000 := by
  cases l with
  | nil => exact Nat.zero_le _
  | cons f r =>
    have h1 := item_size1 (h f (List.mem_cons_self ..))
    have h2 := tl_size r fun g hg => h g (List.mem_cons_of_mem _ hg)
    have h5 : r.length * 2097154 ≤ 19 * 2097154 := Nat.mul_le_mul_right _ (by simp at hl; omega)
    simp only [inner]
    rw [ByteArray.size_append]; omega
theorem mapT_size {l : List S178} (h : ∀ f ∈ l, FB1 f) (hl : l.length ≤ 20) : (mapT l).size ≤ 42000002 := by
  have h1 := inner_size h hl
  have h2 : (⟨#[123]⟩ : ByteArray).size = 1 := rfl
  have h3 : (⟨#[125]⟩ : ByteArray).size = 1 := rfl
  unfold mapT; rw [ByteArray.size_append, ByteArray.size_append, h2, h3]; omega
theorem beh_size {l : List S178} (h : ∀ f ∈ l, FB1 f) (hl : l.length ≤ 20) : (beh l).size ≤ 42000004 := by
  have h1 := mapT_size h hl
  have h2 : (⟨#[32]⟩ : ByteArray).size = 1 := rfl
  have h3 : (⟨#[10]⟩ : ByteArray).size = 1 := rfl
  unfold beh
  split
  · rw [h3]; omega
  · rw [ByteArray.size_append, ByteArray.size_append, h2, h3]; omega
def rmn (l : List S178) (i : Nat) : ByteArray := if i = 0 then inner l else tl (l.drop i)
theorem rem_end {l : List S178} {i : Nat} (h : ¬ i < l.length) : rmn l i = ⟨#[]⟩ := by
  unfold rmn
  split
  · rename_i h0
    have : l = [] := List.eq_nil_of_length_eq_zero (by omega)
    rw [this]; rfl
  · rw [List.drop_of_length_le (by omega)]; rfl
theorem rem_step {l : List S178} {i : Nat} (h : i < l.length) (o : ByteArray) : o ++ rmn l i = (if i = 0 then o ++ item l[i] else (o ++ ⟨#[44]⟩) ++ item l[i]) ++ rmn l (i + 1) := by
  unfold rmn
  rw [if_neg (show ¬ i + 1 = 0 by omega)]
  by_cases h0 : i = 0
  · subst h0
    rw [if_pos rfl, if_pos rfl]
    cases l with
    | nil => simp at h
    | cons f r => simp only [inner, List.getElem_cons_zero, List.drop_succ_cons, List.drop_zero, ByteArray.append_assoc]
  · rw [if_neg h0, if_neg h0, List.drop_eq_getElem_cons h]
    simp only [tl, ByteArray.append_assoc]
theorem smap_ {l : List S178} (h : ∀ f ∈ l, FB1 f) (hl : l.length ≤ 20) : Ev (fun k => spec_l02Map.f k l) (mapT l) := by
  have h123 : (⟨#[123]⟩ : ByteArray).size = 1 := rfl
  have h44 : (⟨#[44]⟩ : ByteArray).size = 1 := rfl
  have h58 : (⟨#[58]⟩ : ByteArray).size = 1 := rfl
  have h125 : (⟨#[125]⟩ : ByteArray).size = 1 := rfl
  have L : ∀ (n i : Nat) (o : ByteArray), l.length - i ≤ n → i ≤ l.length → o.size ≤ i * 3000000 → Ev (fun k => spec_l02Map.l0 k l o (i : Int)) ((⟨#[123]⟩ ++ (o ++ rmn l i)) ++ ⟨#[125]⟩) := by
    intro n
    have fin : ∀ (i : Nat) (o : ByteArray), ¬ i < l.length → i ≤ l.length → o.size ≤ i * 3000000 → Ev (fun k => spec_l02Map.l0 k l o (i : Int)) ((⟨#[123]⟩ ++ (o ++ rmn l i)) ++ ⟨#[125]⟩) := fun i o hi hle ho => by
      refine Ev.step ?_
      rw [rem_end hi, cnil]
      simp only [spec_l02Map.l0, ltn hi, cond_false]
      rw [catb (by omega)]
      simp only [Option.bind_some]
      rw [catb (by rw [ByteArray.size_append]; omega)]
      simp only [Option.bind_some]
      exact Ev.ret _
    induction n with
    | zero => intro i o hn hle ho; exact fin i o (by omega) hle ho
    | succ n ih =>
      intro i o hn hle ho
      by_cases hi : i < l.length
      case neg => exact fin i o hi hle ho
      have hf := h _ (List.getElem_mem hi)
      have hf1 := hf.1
      have hf2 := hf.2
      have hs := item_size1 hf
      rw [rem_step hi]
      have j : ∀ o1 : ByteArray, o1.size ≤ i * 3000000 + 1 → Ev (fun k => spec_l02Map.j0 k l o1 (i : Int)) ((⟨#[123]⟩ ++ ((o1 ++ item l[i]) ++ rmn l (i + 1))) ++ ⟨#[125]⟩) := fun o1 ho1 => by
        have g := ih (i + 1) (o1 ++ item l[i]) (by omega) (by omega) (by rw [ByteArray.size_append]; omega)
        refine Ev.step ?_
        simp only [spec_l02Map.j0, ixg hi, Option.bind_some]
        rw [catb (by omega)]
        simp only [Option.bind_some]
        rw [catb (by rw [ByteArray.size_append]; omega)]
        simp only [Option.bind_some]
        rw [catb (by rw [ByteArray.size_append, ByteArray.size_append]; omega)]
        simp only [Option.bind_some, wup hi (show l.length ≤ 2000000 by omega)]
        have e : ((o1 ++ l[i].f0) ++ ⟨#[58]⟩) ++ l[i].f1 = o1 ++ item l[i] := by simp only [item, ByteArray.append_assoc]
        rw [e]
        exact g
      refine Ev.step ?_
      by_cases h0 : i = 0
      · subst h0
        rw [if_pos rfl]
        simp only [spec_l02Map.l0, ltd hi, cond_true, show decide ((0 : Int) < ((0 : Nat) : Int)) = false from rfl, cond_false]
        exact j o (by omega)
      · rw [if_neg h0]
        simp only [spec_l02Map.l0, ltd hi, cond_true, show decide ((0 : Int) < (i : Int)) = true by simp; omega]
        rw [catb (by omega)]
        simp only [Option.bind_some]
        exact j _ (by rw [ByteArray.size_append]; omega)
  have := L _ 0 ⟨#[]⟩ (Nat.le_refl _) (Nat.zero_le _) (Nat.zero_le _)
  rw [nilc] at this
  refine Ev.step ?_
  simp only [spec_l02Map.f]
  exact this
theorem imap_ {l : List S178} (h : ∀ f ∈ l, FB1 f) (hl : l.length ≤ 20) : Ev (fun k => impl_mapText.f k l) (mapT l) := by
  have h123 : (⟨#[123]⟩ : ByteArray).size = 1 := rfl
  have h44 : (⟨#[44]⟩ : ByteArray).size = 1 := rfl
  have h58 : (⟨#[58]⟩ : ByteArray).size = 1 := rfl
  have h125 : (⟨#[125]⟩ : ByteArray).size = 1 := rfl
  have L : ∀ (n i : Nat) (o : ByteArray), l.length - i ≤ n → i ≤ l.length → o.size ≤ 1 + i * 3000000 → Ev (fun k => impl_mapText.l0 k o l (i : Int)) ((o ++ rmn l i) ++ ⟨#[125]⟩) := by
    intro n
    have fin : ∀ (i : Nat) (o : ByteArray), ¬ i < l.length → i ≤ l.length → o.size ≤ 1 + i * 3000000 → Ev (fun k => impl_mapText.l0 k o l (i : Int)) ((o ++ rmn l i) ++ ⟨#[125]⟩) := fun i o hi hle ho => by
      refine Ev.step ?_
      rw [rem_end hi, cnil]
      simp only [impl_mapText.l0, ltn hi, cond_false]
      rw [catb (by omega)]
      simp only [Option.bind_some]
      exact Ev.ret _
    induction n with
    | zero => intro i o hn hle ho; exact fin i o (by omega) hle ho
    | succ n ih =>
      intro i o hn hle ho
      by_cases hi : i < l.length
      case neg => exact fin i o hi hle ho
      have hf := h _ (List.getElem_mem hi)
      have hf1 := hf.1
      have hf2 := hf.2
      have hs := item_size1 hf
      have c1 : cat l[i].f0 (⟨#[58]⟩ : ByteArray) = some (l[i].f0 ++ ⟨#[58]⟩) := catb (by omega)
      have c2 : cat (l[i].f0 ++ ⟨#[58]⟩) l[i].f1 = some (item l[i]) := catb (by rw [ByteArray.size_append]; omega)
      rw [rem_step hi]
      refine Ev.step ?_
      by_cases h0 : i = 0
      · subst h0
        rw [if_pos rfl]
        simp only [impl_mapText.l0, ltd hi, cond_true, ixg hi, Option.bind_some, show decide ((0 : Int) < ((0 : Nat) : Int)) = false from rfl, cond_false, c1, c2]
        rw [catb (by omega)]
        simp only [Option.bind_some, wup hi (show l.length ≤ 2000000 by omega)]
        exact ih 1 _ (by omega) (by omega) (by rw [ByteArray.size_append]; omega)
      · rw [if_neg h0]
        simp only [impl_mapText.l0, ltd hi, cond_true, ixg hi, Option.bind_some, show decide ((0 : Int) < (i : Int)) = true by simp; omega, c1, c2]
        rw [catb (by omega)]
        simp only [Option.bind_some]
        rw [catb (by rw [ByteArray.size_append]; omega)]
        simp only [Option.bind_some, wup hi (show l.length ≤ 2000000 by omega)]
        exact ih (i + 1) _ (by omega) (by omega) (by rw [ByteArray.size_append, ByteArray.size_append]; omega)
  have := L _ 0 ⟨#[123]⟩ (Nat.le_refl _) (Nat.zero_le _) (by rw [h123]; omega)
  refine Ev.step ?_
  simp only [impl_mapText.f]
  exact this
theorem sbeh_ {l : List S178} (h : ∀ f ∈ l, FB1 f) (hl : l.length ≤ 20) : Ev (fun k => spec_l02Behind.f k l) (beh l) := by
  have hm := mapT_size h hl
  have h32 : (⟨#[32]⟩ : ByteArray).size = 1 := rfl
  have h10 : (⟨#[10]⟩ : ByteArray).size = 1 := rfl
  unfold beh spec_l02Behind.f
  by_cases h0 : l.length = 0
  · rw [if_pos h0]
    simp only [show ((l.length : Int) == 0) = true by simp; exact List.eq_nil_of_length_eq_zero h0, cond_true]
    exact Ev.ret _
  · rw [if_neg h0]
    simp only [show ((l.length : Int) == 0) = false by simp; exact fun e => h0 (by rw [e]; rfl), cond_false]
    refine Ev.bind (smap_ h hl) ?_
    rw [catb (by omega)]
    simp only [Option.bind_some]
    rw [catb (by rw [ByteArray.size_append]; omega)]
    simp only [Option.bind_some]
    exact Ev.ret _
/-- What the program writes behind a node or an edge. -/
theorem ibeh_ {l : List S178} (h : ∀ f ∈ l, FB1 f) (hl : l.length ≤ 20) {o : ByteArray} (ho : o.size ≤ 90000000000000) {R : Nat → ByteArray → Option ByteArray} {r : ByteArray} (hr : Ev (fun k => R k (o ++ beh l)) r) :
   Ev (fun k => bif decide (0 < (l.length : Int)) then ((impl_mapText.f k l).bind fun v13 => ((cat (⟨#[32]⟩ : ByteArray) v13).bind fun v14 => ((strings_Builder_WriteString.f k v14 o).bind fun v15 => ((strings_Builder_WriteByte.f k 10 v15.2.2).bind fun v17 => R k v17.2)))) else ((strings_Builder_WriteByte.f k 10 o).bind fun v17 => R k v17.2)) r := by
  have hm := mapT_size h hl
  have h32 : (⟨#[32]⟩ : ByteArray).size = 1 := rfl
  have h10 : (⟨#[10]⟩ : ByteArray).size = 1 := rfl
  unfold beh at hr
  by_cases h0 : l.length = 0
  · rw [if_pos h0] at hr
    simp only [show decide ((0 : Int) < (l.length : Int)) = false by simp; exact List.eq_nil_of_length_eq_zero h0, cond_false]
    simp only [bwb _ (show o.size ≤ 100000000000000 by omega), Option.bind_some]
    exact hr
  · rw [if_neg h0] at hr
    simp only [show decide ((0 : Int) < (l.length : Int)) = true by simp; omega, cond_true]
    refine Ev.bind (imap_ h hl) ?_
    rw [catb (by omega)]
    simp only [Option.bind_some]
    have hsz : (⟨#[32]⟩ ++ mapT l : ByteArray).size = 1 + (mapT l).size := by rw [ByteArray.size_append, h32]
    simp only [bws _ (show o.size + (⟨#[32]⟩ ++ mapT l : ByteArray).size ≤ 100000000000000 by omega), Option.bind_some]
    simp only [bwb _ (show (o ++ (⟨#[32]⟩ ++ mapT l) : ByteArray).size ≤ 100000000000000 by rw [ByteArray.size_append]; omega), Option.bind_some]
    rw [ByteArray.append_assoc]
    exact hr
/-! Nodes and edges -/
def labs : List ByteArray → ByteArray
 | [] => ⟨#[]⟩
 | a :: r => (⟨#[32, 58]⟩ ++ a) ++ labs r
def nodeT (n : S88) : ByteArray := ((⟨#[110]⟩ ++ numT n.f0) ++ labs n.f1) ++ beh n.f2
def nodesT : List S88 → ByteArray
 | [] => ⟨#[]⟩
 | n :: r => nodeT n ++ nodesT r
def eh (e : S90) : ByteArray := ((((((⟨#[101]⟩ ++ numT e.f0) ++ ⟨#[32, 110]⟩) ++ numT e.f2) ++ ⟨#[32, 45]⟩) ++ e.f1) ++ ⟨#[45, 62, 32, 110]⟩) ++ numT e.f3
def edgesT : List S90 → ByteArray
 | [] => ⟨#[]⟩
 | e :: r => (eh e ++ beh e.f4) ++ edgesT r
structure NOk (n : S88) : Prop where
 id : In64 n.f0
 lab : ∀ a ∈ n.f1, a.size ≤ 1048576
 l10 : n.f1.length ≤ 10
 fld : ∀ f ∈ n.f2, FB1 f
 f20 : n.f2.length ≤ 20
structure EOk (e : S90) : Prop where
 id : In64 e.f0
 fr : In64 e.f2
 tgt : In64 e.f3
 ty : e.f1.size ≤ 1048576
 fld : ∀ f ∈ e.f4, FB1 f
 f20 : e.f4.length ≤ 20
theorem labs_size : ∀ l : List ByteArray, (∀ a ∈ l, a.size ≤ 1048576) → (labs l).size ≤ l.length * 1048578
 | [], _ => Nat.zero_le _
 | a :: r, h => by
   have h1 := h a (List.mem_cons_self ..)
   have h2 := labs_size r fun b hb => h b (List.mem_cons_of_mem _ hb)
   have h3 : (⟨#[32, 58]⟩ : ByteArray).size = 2 := rfl
   have h4 : (r.length + 1) * 1048578 = r.length * 1048578 + 1048578 := Nat.succ_mul _ _
   simp only [labs, List.length_cons]
   rw [ByteArray.size_append, ByteArray.size_append, h3, h4]; omega
theorem labs10 {n : S88} (h : NOk n) : (labs n.f1).size ≤ 10485780 := by
  have h1 := labs_size _ h.lab
  have h2 : n.f1.length * 1048578 ≤ 10 * 1048578 := Nat.mul_le_mul_right _ h.l10
  omega
theorem eh_size {e : S90} (h : EOk e) : (eh e).size ≤ 1049000 := by
  have a1 : (⟨#[101]⟩ : ByteArray).size = 1 := rfl
  have a2 : (⟨#[32, 110]⟩ : ByteArray).size = 2 := rfl
  have a3 : (⟨#[32, 45]⟩ : ByteArray).size = 2 := rfl
  have a4 : (⟨#[45, 62, 32, 110]⟩ : ByteArray).size = 4 := rfl
  have h1 := num_size h.id
  have h2 := num_size h.fr
  have h3 := num_size h.tgt
  have h4 := h.ty
  unfold eh
  simp only [ByteArray.size_append, a1, a2, a3, a4]
  omega
section
variable {g : S49}
theorem snodes_ (hn : ∀ n ∈ g.f0, NOk n) (hl : g.f0.length ≤ 200) : ∀ (m i : Nat) (o : ByteArray), g.f0.length - i ≤ m → i ≤ g.f0.length → o.size ≤ i * 60000000 → ∀ r, Ev (fun k => spec_ShowGraph.l2 k (o ++ nodesT (g.f0.drop i)) 0 g) r → Ev (fun k => spec_ShowGraph.l0 k o (i : Int) g) r := by
  intro m
  have fin : ∀ (i : Nat) (o : ByteArray), ¬ i < g.f0.length → ∀ r, Ev (fun k => spec_ShowGraph.l2 k (o ++ nodesT (g.f0.drop i)) 0 g) r → Ev (fun k => spec_ShowGraph.l0 k o (i : Int) g) r := fun i o hi r hr => by
    rw [List.drop_of_length_le (by omega)] at hr
    simp only [nodesT, cnil] at hr
    refine Ev.step ?_
    simp only [spec_ShowGraph.l0, ltn hi, cond_false]
    exact hr
  induction m with
  | zero => intro i o h hle ho; exact fin i o (by omega)
  | succ m ih =>
    intro i o h hle ho r hr
    by_cases hi : i < g.f0.length
    case neg => exact fin i o hi r hr
    have hk := hn _ (List.getElem_mem hi)
    have b1 := num_size hk.id
    have b2 := labs10 hk
    have b3 := beh_size hk.fld hk.f20
    have h110 : (⟨#[110]⟩ : ByteArray).size = 1 := rfl
    have h3258 : (⟨#[32, 58]⟩ : ByteArray).size = 2 := rfl
    have hi6 : (i + 1) * 60000000 = i * 60000000 + 60000000 := Nat.succ_mul _ _
    have hi7 : i * 60000000 ≤ 200 * 60000000 := Nat.mul_le_mul_right _ (by omega)
    rw [List.drop_eq_getElem_cons hi] at hr
    have e : o ++ nodesT (g.f0[i] :: g.f0.drop (i + 1)) = ((((o ++ ⟨#[110]⟩) ++ numT g.f0[i].f0) ++ labs g.f0[i].f1) ++ beh g.f0[i].f2) ++ nodesT (g.f0.drop (i + 1)) := by
      simp only [nodesT, nodeT, ByteArray.append_assoc]
    rw [e] at hr
    have hsz : (((((o ++ ⟨#[110]⟩) ++ numT g.f0[i].f0) ++ labs g.f0[i].f1) ++ beh g.f0[i].f2)).size ≤ (i + 1) * 60000000 := by
      rw [hi6]
      simp only [ByteArray.size_append, h110]
      revert b1 b2 b3
      generalize (numT g.f0[i].f0).size = z1
      generalize (labs g.f0[i].f1).size = z2
      generalize (beh g.f0[i].f2).size = z3
      intros
      omega
    have hnext := ih (i + 1) _ (by omega) (by omega) hsz r hr
    -- the labels
    have L : ∀ (q j : Nat) (p : ByteArray), g.f0[i].f1.length - j ≤ q → p.size + (labs (g.f0[i].f1.drop j)).size ≤ i * 60000000 + 20000000 → Ev (fun k => spec_ShowGraph.l0 k ((p ++ labs (g.f0[i].f1.drop j)) ++ beh g.f0[i].f2) ((i + 1 : Nat) : Int) g) r → Ev (fun k => spec_ShowGraph.l1 k p (i : Int) (j : Int) g) r := by
      intro q
      have fin : ∀ (j : Nat) (p : ByteArray), ¬ j < g.f0[i].f1.length → p.size ≤ i * 60000000 + 20000000 → Ev (fun k => spec_ShowGraph.l0 k ((p ++ labs (g.f0[i].f1.drop j)) ++ beh g.f0[i].f2) ((i + 1 : Nat) : Int) g) r → Ev (fun k => spec_ShowGraph.l1 k p (i : Int) (j : Int) g) r := fun j p hj hp hg => by
        rw [List.drop_of_length_le (by omega)] at hg
        simp only [labs, cnil] at hg
        refine Ev.step ?_
        simp only [spec_ShowGraph.l1, ixg hi, Option.bind_some, ltn hj, cond_false]
        refine Ev.bind (sbeh_ hk.fld hk.f20) ?_
        rw [catb (by omega)]
        simp only [Option.bind_some, wup hi (show g.f0.length ≤ 2000000 by omega)]
        exact hg
      induction q with
      | zero => intro j p h hp hg; exact fin j p (by omega) (by omega) hg
      | succ q ihq =>
        intro j p h hp hg
        by_cases hj : j < g.f0[i].f1.length
        case neg => exact fin j p hj (by omega) hg
        rw [List.drop_eq_getElem_cons hj] at hg hp
        have e2 : p ++ labs (g.f0[i].f1[j] :: g.f0[i].f1.drop (j + 1)) = ((p ++ ⟨#[32, 58]⟩) ++ g.f0[i].f1[j]) ++ labs (g.f0[i].f1.drop (j + 1)) := by
          simp only [labs, ByteArray.append_assoc]
        rw [e2] at hg
        simp only [labs, ByteArray.size_append, h3258] at hp
        refine Ev.step ?_
        simp only [spec_ShowGraph.l1, ixg hi, Option.bind_some, ltd hj, cond_true]
        rw [catb (by omega)]
        simp only [Option.bind_some, ixg hj]
        rw [catb (by rw [ByteArray.size_append]; omega)]
        simp only [Option.bind_some, wup hj (show g.f0[i].f1.length ≤ 2000000 by have := hk.l10; omega)]
        exact ihq (j + 1) _ (by omega) (by simp only [ByteArray.size_append, h3258]; omega) hg
    refine Ev.step ?_
    simp only [spec_ShowGraph.l0, ltd hi, cond_true]
    rw [catb (by omega)]
    simp only [Option.bind_some, ixg hi]
    refine Ev.bind (snum hk.id) ?_
    rw [catb (by rw [ByteArray.size_append]; omega)]
    simp only [Option.bind_some]
    refine L _ 0 _ (Nat.le_refl _) ?_ ?_
    · rw [List.drop_zero]; simp only [ByteArray.size_append, h110]; omega
    · rw [List.drop_zero]; exact hnext
theorem sedges_ (he : ∀ e ∈ g.f1, EOk e) (hl : g.f1.length ≤ 400) : ∀ (m i : Nat) (o : ByteArray), g.f1.length - i ≤ m → i ≤ g.f1.length → o.size ≤ 20000000000 + i * 60000000 → Ev (fun k => spec_ShowGraph.l2 k o (i : Int) g) (if 65536 < (o ++ edgesT (g.f1.drop i)).size then ⟨#[]⟩ else o ++ edgesT (g.f1.drop i)) := by
  intro m
  have fin : ∀ (i : Nat) (o : ByteArray), ¬ i < g.f1.length → Ev (fun k => spec_ShowGraph.l2 k o (i : Int) g) (if 65536 < (o ++ edgesT (g.f1.drop i)).size then ⟨#[]⟩ else o ++ edgesT (g.f1.drop i)) := fun i o hi => by
    rw [List.drop_of_length_le (by omega)]
    simp only [edgesT, cnil]
    refine Ev.step ?_
    simp only [spec_ShowGraph.l2, ltn hi, cond_false]
    by_cases hs : 65536 < o.size
    · rw [if_pos hs]; simp only [show decide ((65536 : Int) < (o.size : Int)) = true by simp; omega, cond_true]; exact Ev.ret _
    · rw [if_neg hs]; simp only [show decide ((65536 : Int) < (o.size : Int)) = false by simp; omega, cond_false]; exact Ev.ret _
  induction m with
  | zero => intro i o h hle ho; exact fin i o (by omega)
  | succ m ih =>
    intro i o h hle ho
    by_cases hi : i < g.f1.length
    case neg => exact fin i o hi
    have hk := he _ (List.getElem_mem hi)
    have b1 := num_size hk.id
    have b2 := num_size hk.fr
    have b3 := num_size hk.tgt
    have b4 := hk.ty
    have b5 := beh_size hk.fld hk.f20
    have a1 : (⟨#[101]⟩ : ByteArray).size = 1 := rfl
    have a2 : (⟨#[32, 110]⟩ : ByteArray).size = 2 := rfl
    have a3 : (⟨#[32, 45]⟩ : ByteArray).size = 2 := rfl
    have a4 : (⟨#[45, 62, 32, 110]⟩ : ByteArray).size = 4 := rfl
    have hi6 : (i + 1) * 60000000 = i * 60000000 + 60000000 := Nat.succ_mul _ _
    have hi7 : i * 60000000 ≤ 400 * 60000000 := Nat.mul_le_mul_right _ (by omega)
    have e : o ++ edgesT (g.f1[i] :: g.f1.drop (i + 1)) = ((((((((o ++ ⟨#[101]⟩) ++ numT g.f1[i].f0) ++ ⟨#[32, 110]⟩) ++ numT g.f1[i].f2) ++ ⟨#[32, 45]⟩) ++ g.f1[i].f1) ++ ⟨#[45, 62, 32, 110]⟩) ++ numT g.f1[i].f3 ++ beh g.f1[i].f4) ++ edgesT (g.f1.drop (i + 1)) := by
      simp only [edgesT, eh, ByteArray.append_assoc]
    rw [List.drop_eq_getElem_cons hi, e]
    have hnext := ih (i + 1) ((((((((o ++ ⟨#[101]⟩) ++ numT g.f1[i].f0) ++ ⟨#[32, 110]⟩) ++ numT g.f1[i].f2) ++ ⟨#[32, 45]⟩) ++ g.f1[i].f1) ++ ⟨#[45, 62, 32, 110]⟩) ++ numT g.f1[i].f3 ++ beh g.f1[i].f4) (by omega) (by omega) (by simp only [ByteArray.size_append, a1, a2, a3, a4]; omega)
    refine Ev.step ?_
    simp only [spec_ShowGraph.l2, ltd hi, cond_true, ixg hi, Option.bind_some]
    rw [catb (by omega)]
    simp only [Option.bind_some]
    refine Ev.bind (snum hk.id) ?_
    rw [catb (by simp only [ByteArray.size_append, a1]; omega)]
    simp only [Option.bind_some]
    rw [catb (by simp only [ByteArray.size_append, a1, a2]; omega)]
    simp only [Option.bind_some]
    refine Ev.bind (snum hk.fr) ?_
    rw [catb (by simp only [ByteArray.size_append, a1, a2]; omega)]
    simp only [Option.bind_some]
    rw [catb (by simp only [ByteArray.size_append, a1, a2, a3]; omega)]
    simp only [Option.bind_some]
    rw [catb (by simp only [ByteArray.size_append, a1, a2, a3]; omega)]
    simp only [Option.bind_some]
    rw [catb (by simp only [ByteArray.size_append, a1, a2, a3, a4]; omega)]
    simp only [Option.bind_some]
    refine Ev.bind (snum hk.tgt) ?_
    rw [catb (by simp only [ByteArray.size_append, a1, a2, a3, a4]; omega)]
    simp only [Option.bind_some]
    refine Ev.bind (sbeh_ hk.fld hk.f20) ?_
    rw [catb (by simp only [ByteArray.size_append, a1, a2, a3, a4]; omega)]
    simp only [Option.bind_some, wup hi (show g.f1.length ≤ 2000000 by omega)]
    exact hnext
theorem inodes_ (hn : ∀ n ∈ g.f0, NOk n) (hl : g.f0.length ≤ 200) : ∀ (m i : Nat) (o : ByteArray), g.f0.length - i ≤ m → i ≤ g.f0.length → o.size ≤ i * 60000000 → ∀ r, Ev (fun k => impl_showGraph.l2 k g 0 (o ++ nodesT (g.f0.drop i))) r → Ev (fun k => impl_showGraph.l0 k g (i : Int) o) r := by
  intro m
  have fin : ∀ (i : Nat) (o : ByteArray), ¬ i < g.f0.length → ∀ r, Ev (fun k => impl_showGraph.l2 k g 0 (o ++ nodesT (g.f0.drop i))) r → Ev (fun k => impl_showGraph.l0 k g (i : Int) o) r := fun i o hi r hr => by
    rw [List.drop_of_length_le (by omega)] at hr
    simp only [nodesT, cnil] at hr
    refine Ev.step ?_
    simp only [impl_showGraph.l0, ltn hi, cond_false]
    exact hr
  induction m with
  | zero => intro i o h hle ho; exact fin i o (by omega)
  | succ m ih =>
    intro i o h hle ho r hr
    by_cases hi : i < g.f0.length
    case neg => exact fin i o hi r hr
    have hk := hn _ (List.getElem_mem hi)
    have b1 := num_size hk.id
    have b2 := labs10 hk
    have b3 := beh_size hk.fld hk.f20
    have h110 : (⟨#[110]⟩ : ByteArray).size = 1 := rfl
    have h3258 : (⟨#[32, 58]⟩ : ByteArray).size = 2 := rfl
    have hi6 : (i + 1) * 60000000 = i * 60000000 + 60000000 := Nat.succ_mul _ _
    have hi7 : i * 60000000 ≤ 200 * 60000000 := Nat.mul_le_mul_right _ (by omega)
    rw [List.drop_eq_getElem_cons hi] at hr
    have e : o ++ nodesT (g.f0[i] :: g.f0.drop (i + 1)) = (((o ++ (⟨#[110]⟩ ++ numT g.f0[i].f0)) ++ labs g.f0[i].f1) ++ beh g.f0[i].f2) ++ nodesT (g.f0.drop (i + 1)) := by
      simp only [nodesT, nodeT, ByteArray.append_assoc]
    rw [e] at hr
    have hsz : ((((o ++ (⟨#[110]⟩ ++ numT g.f0[i].f0)) ++ labs g.f0[i].f1) ++ beh g.f0[i].f2)).size ≤ (i + 1) * 60000000 := by
      rw [hi6]
      simp only [ByteArray.size_append, h110]
      revert b1 b2 b3
      generalize (numT g.f0[i].f0).size = z1
      generalize (labs g.f0[i].f1).size = z2
      generalize (beh g.f0[i].f2).size = z3
      intros
      omega
    have hnext := ih (i + 1) _ (by omega) (by omega) hsz r hr
    have hj0 : ∀ p : ByteArray, p.size ≤ 90000000000000 → Ev (fun k => impl_showGraph.l0 k g ((i + 1 : Nat) : Int) (p ++ ⟨#[10]⟩)) r → Ev (fun k => impl_showGraph.j0 k g (i : Int) p) r := fun p hp hg => by
      refine Ev.step ?_
      simp only [impl_showGraph.j0, bwb _ (show p.size ≤ 100000000000000 by omega), Option.bind_some, wup hi (show g.f0.length ≤ 2000000 by omega)]
      exact hg
    have L : ∀ (q j : Nat) (p : ByteArray), g.f0[i].f1.length - j ≤ q → p.size + (labs (g.f0[i].f1.drop j)).size ≤ i * 60000000 + 20000000 → Ev (fun k => impl_showGraph.l0 k g ((i + 1 : Nat) : Int) ((p ++ labs (g.f0[i].f1.drop j)) ++ beh g.f0[i].f2)) r → Ev (fun k => impl_showGraph.l1 k g (i : Int) g.f0[i] (j : Int) p) r := by
      intro q
      have fin : ∀ (j : Nat) (p : ByteArray), ¬ j < g.f0[i].f1.length → p.size ≤ i * 60000000 + 20000000 → Ev (fun k => impl_showGraph.l0 k g ((i + 1 : Nat) : Int) ((p ++ labs (g.f0[i].f1.drop j)) ++ beh g.f0[i].f2)) r → Ev (fun k => impl_showGraph.l1 k g (i : Int) g.f0[i] (j : Int) p) r := fun j p hj hp hg => by
        rw [List.drop_of_length_le (by omega)] at hg
        simp only [labs, cnil] at hg
        have hm := mapT_size hk.fld hk.f20
        have h32 : (⟨#[32]⟩ : ByteArray).size = 1 := rfl
        refine Ev.step ?_
        simp only [impl_showGraph.l1, ltn hj, cond_false]
        unfold beh at hg
        by_cases h0 : g.f0[i].f2.length = 0
        · rw [if_pos h0] at hg
          simp only [show decide ((0 : Int) < (g.f0[i].f2.length : Int)) = false by simp; exact List.eq_nil_of_length_eq_zero h0, cond_false]
          exact hj0 p (by omega) hg
        · rw [if_neg h0] at hg
          simp only [show decide ((0 : Int) < (g.f0[i].f2.length : Int)) = true by simp; omega, cond_true]
          refine Ev.bind (imap_ hk.fld hk.f20) ?_
          rw [catb (by omega)]
          simp only [Option.bind_some]
          have hsz : (⟨#[32]⟩ ++ mapT g.f0[i].f2 : ByteArray).size = 1 + (mapT g.f0[i].f2).size := by rw [ByteArray.size_append, h32]
          simp only [bws _ (show p.size + (⟨#[32]⟩ ++ mapT g.f0[i].f2 : ByteArray).size ≤ 100000000000000 by omega), Option.bind_some]
          refine hj0 _ (by rw [ByteArray.size_append]; omega) ?_
          rw [ByteArray.append_assoc]
          exact hg
      induction q with
      | zero => intro j p h hp hg; exact fin j p (by omega) (by omega) hg
      | succ q ihq =>
        intro j p h hp hg
        by_cases hj : j < g.f0[i].f1.length
        case neg => exact fin j p hj (by omega) hg
        rw [List.drop_eq_getElem_cons hj] at hg hp
        have e2 : p ++ labs (g.f0[i].f1[j] :: g.f0[i].f1.drop (j + 1)) = (p ++ (⟨#[32, 58]⟩ ++ g.f0[i].f1[j])) ++ labs (g.f0[i].f1.drop (j + 1)) := by
          simp only [labs, ByteArray.append_assoc]
        rw [e2] at hg
        simp only [labs, ByteArray.size_append, h3258] at hp
        refine Ev.step ?_
        simp only [impl_showGraph.l1, ltd hj, cond_true, ixg hj, Option.bind_some]
        rw [catb (by omega)]
        simp only [Option.bind_some]
        simp only [bws _ (show p.size + (⟨#[32, 58]⟩ ++ g.f0[i].f1[j] : ByteArray).size ≤ 100000000000000 by rw [ByteArray.size_append]; omega), Option.bind_some, wup hj (show g.f0[i].f1.length ≤ 2000000 by have := hk.l10; omega)]
        exact ihq (j + 1) _ (by omega) (by simp only [ByteArray.size_append, h3258]; omega) hg
    refine Ev.step ?_
    simp only [impl_showGraph.l0, ltd hi, cond_true, ixg hi, Option.bind_some]
    refine Ev.bind (inum hk.id) ?_
    rw [catb (by omega)]
    simp only [Option.bind_some]
    simp only [bws _ (show o.size + (⟨#[110]⟩ ++ numT g.f0[i].f0 : ByteArray).size ≤ 100000000000000 by rw [ByteArray.size_append]; omega), Option.bind_some]
    refine L _ 0 _ (Nat.le_refl _) ?_ ?_
    · rw [List.drop_zero]; simp only [ByteArray.size_append, h110]; omega
    · rw [List.drop_zero]; exact hnext
theorem iedges_ (he : ∀ e ∈ g.f1, EOk e) (hl : g.f1.length ≤ 400) : ∀ (m i : Nat) (o : ByteArray), g.f1.length - i ≤ m → i ≤ g.f1.length → o.size ≤ 20000000000 + i * 60000000 → Ev (fun k => impl_showGraph.l2 k g (i : Int) o) (o ++ edgesT (g.f1.drop i)) := by
  intro m
  have fin : ∀ (i : Nat) (o : ByteArray), ¬ i < g.f1.length → Ev (fun k => impl_showGraph.l2 k g (i : Int) o) (o ++ edgesT (g.f1.drop i)) := fun i o hi => by
    rw [List.drop_of_length_le (by omega)]
    simp only [edgesT, cnil]
    refine Ev.step ?_
    simp only [impl_showGraph.l2, ltn hi, cond_false, strings_Builder_String.f, Option.bind_some]
    exact Ev.ret _
  induction m with
  | zero => intro i o h hle ho; exact fin i o (by omega)
  | succ m ih =>
    intro i o h hle ho
    by_cases hi : i < g.f1.length
    case neg => exact fin i o hi
    have hk := he _ (List.getElem_mem hi)
    have b1 := num_size hk.id
    have b2 := num_size hk.fr
    have b3 := num_size hk.tgt
    have b4 := hk.ty
    have b5 := beh_size hk.fld hk.f20
    have b6 := eh_size hk
    have a1 : (⟨#[101]⟩ : ByteArray).size = 1 := rfl
    have a2 : (⟨#[32, 110]⟩ : ByteArray).size = 2 := rfl
    have a3 : (⟨#[32, 45]⟩ : ByteArray).size = 2 := rfl
    have a4 : (⟨#[45, 62, 32, 110]⟩ : ByteArray).size = 4 := rfl
    have hi6 : (i + 1) * 60000000 = i * 60000000 + 60000000 := Nat.succ_mul _ _
    have hi7 : i * 60000000 ≤ 400 * 60000000 := Nat.mul_le_mul_right _ (by omega)
    have e : o ++ edgesT (g.f1[i] :: g.f1.drop (i + 1)) = ((o ++ eh g.f1[i]) ++ beh g.f1[i].f4) ++ edgesT (g.f1.drop (i + 1)) := by
      simp only [edgesT, ByteArray.append_assoc]
    rw [List.drop_eq_getElem_cons hi, e]
    have hnext := ih (i + 1) ((o ++ eh g.f1[i]) ++ beh g.f1[i].f4) (by omega) (by omega) (by simp only [ByteArray.size_append]; omega)
    refine Ev.step ?_
    simp only [impl_showGraph.l2, ltd hi, cond_true, ixg hi, Option.bind_some]
    refine Ev.bind (inum hk.id) ?_
    rw [catb (by omega)]
    simp only [Option.bind_some]
    rw [catb (by simp only [ByteArray.size_append, a1, a2]; omega)]
    simp only [Option.bind_some]
    refine Ev.bind (inum hk.fr) ?_
    rw [catb (by simp only [ByteArray.size_append, a1, a2]; omega)]
    simp only [Option.bind_some]
    rw [catb (by simp only [ByteArray.size_append, a1, a2, a3]; omega)]
    simp only [Option.bind_some]
    rw [catb (by simp only [ByteArray.size_append, a1, a2, a3]; omega)]
    simp only [Option.bind_some]
    rw [catb (by simp only [ByteArray.size_append, a1, a2, a3, a4]; omega)]
    simp only [Option.bind_some]
    refine Ev.bind (inum hk.tgt) ?_
    rw [catb (by simp only [ByteArray.size_append, a1, a2, a3, a4]; omega)]
    simp only [Option.bind_some]
    have hw : ∀ k, strings_Builder_WriteString.f k (((((((⟨#[101]⟩ ++ numT g.f1[i].f0) ++ ⟨#[32, 110]⟩) ++ numT g.f1[i].f2) ++ ⟨#[32, 45]⟩) ++ g.f1[i].f1) ++ ⟨#[45, 62, 32, 110]⟩) ++ numT g.f1[i].f3) o = some (((eh g.f1[i]).size : Int), true, o ++ eh g.f1[i]) := fun k => bws k (t := eh g.f1[i]) (by omega)
    simp only [hw, Option.bind_some, wup hi (show g.f1.length ≤ 2000000 by omega)]
    exact ibeh_ hk.fld hk.f20 (o := o ++ eh g.f1[i]) (by rw [ByteArray.size_append]; omega) (R := fun k p => impl_showGraph.l2 k g ((i + 1 : Nat) : Int) p) hnext
end
theorem nodesT_size : ∀ l : List S88, (∀ n ∈ l, NOk n) → (nodesT l).size ≤ l.length * 60000000
 | [], _ => Nat.zero_le _
 | n :: r, h => by
   have hk := h n (List.mem_cons_self ..)
   have b1 := num_size hk.id
   have b2 := labs10 hk
   have b3 := beh_size hk.fld hk.f20
   have h110 : (⟨#[110]⟩ : ByteArray).size = 1 := rfl
   have h2 := nodesT_size r fun b hb => h b (List.mem_cons_of_mem _ hb)
   have h4 : (r.length + 1) * 60000000 = r.length * 60000000 + 60000000 := Nat.succ_mul _ _
   simp only [nodesT, nodeT, List.length_cons, ByteArray.size_append, h110]
   omega
theorem show2 (g : S49) (hn : ∀ n ∈ g.f0, In64 n.f0 ∧ (∀ a ∈ n.f1, a.size ≤ 1048576) ∧ ∀ f ∈ n.f2, FB1 f) (he : ∀ e ∈ g.f1, In64 e.f0 ∧ In64 e.f2 ∧ In64 e.f3 ∧ e.f1.size ≤ 1048576 ∧ ∀ f ∈ e.f4, FB1 f) : ∃ r, Ev (fun k => spec_ShowGraph.f k g) r ∧ Ev (fun k => impl_ShowGraph.f k g) r := by
  obtain ⟨c, s1, s2⟩ := graph2 g
  cases c with
  | false =>
    refine ⟨⟨#[]⟩, Ev.step ?_, ?_⟩
    · simp only [spec_ShowGraph.f]; exact Ev.bind s1 (Ev.ret _)
    · simp only [impl_ShowGraph.f]; exact Ev.bind s2 (Ev.ret _)
  | true =>
    obtain ⟨l1, l2⟩ := graph_small s2
    have hN : ∀ n ∈ g.f0, NOk n := fun n h => by
      obtain ⟨q1, q2, q3⟩ := hn n h
      have := node_nm (graph_nodeOk s2 n h)
      exact ⟨q1, q2, this.2.1, q3, this.2.2.2⟩
    have hE : ∀ e ∈ g.f1, EOk e := fun e h => by
      obtain ⟨q1, q2, q3, q4, q5⟩ := he e h
      exact ⟨q1, q2, q3, q4, q5, graph_edge20 s2 e h⟩
    have hs := nodesT_size _ hN
    have hs2 : g.f0.length * 60000000 ≤ 200 * 60000000 := Nat.mul_le_mul_right _ l1
    have hse := sedges_ hE l2 _ 0 (nodesT g.f0) (Nat.le_refl _) (Nat.zero_le _) (by omega)
    have hie := iedges_ hE l2 _ 0 (nodesT g.f0) (Nat.le_refl _) (Nat.zero_le _) (by omega)
    rw [List.drop_zero] at hse hie
    have hsn := snodes_ hN l1 _ 0 ⟨#[]⟩ (Nat.le_refl _) (Nat.zero_le _) (Nat.zero_le _) _ (by rw [List.drop_zero, nilc]; exact hse)
    have hin := inodes_ hN l1 _ 0 ⟨#[]⟩ (Nat.le_refl _) (Nat.zero_le _) (Nat.zero_le _) _ (by rw [List.drop_zero, nilc]; exact hie)
    refine ⟨if 65536 < (nodesT g.f0 ++ edgesT g.f1).size then ⟨#[]⟩ else nodesT g.f0 ++ edgesT g.f1, Ev.step ?_, ?_⟩
    · simp only [spec_ShowGraph.f]
      refine Ev.bind s1 ?_
      simp only [if_true, beq_self_eq_true, cond_true]
      exact hsn
    · simp only [impl_ShowGraph.f]
      refine Ev.bind s2 ?_
      simp only [cond_true]
      refine Ev.bind (Ev.step (by simp only [impl_showGraph.f]; exact hin)) ?_
      by_cases hz : 65536 < (nodesT g.f0 ++ edgesT g.f1).size
      · rw [if_pos hz]; simp only [show decide ((65536 : Int) < ((nodesT g.f0 ++ edgesT g.f1).size : Int)) = true from decide_eq_true (by omega), cond_true]; exact Ev.ret _
      · rw [if_neg hz]; simp only [show decide ((65536 : Int) < ((nodesT g.f0 ++ edgesT g.f1).size : Int)) = false from decide_eq_false (by omega), cond_false]; exact Ev.ret _
theorem fld_tr {l : List S178} (h : bdFieldS l) : ∀ f ∈ l, FB1 f := fun f hf => ⟨(h.2 f hf).1, (h.2 f hf).2.1⟩
theorem lftS : Lft 1048576 := by unfold Lft; omega
theorem said_FnExactShowGraph (x : S43) (h : wf43 x) : ∃ k, laws_FnExactShowGraph.f k x = some true := by
  refine Ev.at_ (f := fun k => laws_FnExactShowGraph.f k x) ?_
  unfold laws_FnExactShowGraph.f
  obtain ⟨r, h1, h2, h3⟩ := sz_Graph x h lftS
  refine Ev.bind h1 ?_
  by_cases hr : r < 0
  · simp only [decide_eq_true hr, cond_true]; exact Ev.ret _
  · have hb := h3 (by omega)
    obtain ⟨q, s1, s2⟩ := show2 (trGraph x) (fun n hn => by
      simp only [trGraph] at hn
      obtain ⟨u, hu, rfl⟩ := List.mem_map.1 hn
      have w := h.1.2 u hu
      have b := hb.1.2 u hu
      refine ⟨w.1, b.1.2, fun f hf => ?_⟩
      simp only [trNode] at hf
      first
        | exact fld_tr b.2.1 f hf
        | (obtain ⟨v, hv, rfl⟩ := List.mem_map.1 hf; exact fld_tr b.2.1 v hv)) (fun n hn => by
      simp only [trGraph] at hn
      obtain ⟨u, hu, rfl⟩ := List.mem_map.1 hn
      have w := h.2.2 u hu
      have b := hb.2.1.2 u hu
      refine ⟨w.1, w.2.2.1, w.2.2.2.1, b.1, fun f hf => ?_⟩
      simp only [trEdge] at hf
      first
        | exact fld_tr b.2.1 f hf
        | (obtain ⟨v, hv, rfl⟩ := List.mem_map.1 hf; exact fld_tr b.2.1 v hv))
    simp only [decide_eq_false hr, cond_false]
    refine Ev.bind (to_Graph x hb) (Ev.bind s1 (Ev.bind (to_Graph x hb) (Ev.bind s2 ?_)))
    simp only [decide_true, cond_true]
    refine Ev.bind (to_Graph x hb) (Ev.bind (eq_Graph x hb) ?_)
    simp only [cond_true]; exact Ev.ret _
end Go.Ab
