/- Sizes, copies and comparisons of the arguments of FnExactFlowFault. No condition. -/
import Derived.Test.YtkjoeomgnkfljaaGreatDoorAbH0
import Derived.Test.YtkjoeomgnkfljaaGreatDoorAbG1
namespace Go.Ab
open Go.Proofs
set_option linter.unusedVariables false
set_option linter.unusedSimpArgs false
def wf193 (x : S193) : Prop := Str x.f0 ∧ Str x.f1
def wf137 (x : S137) : Prop := (InK .i64) x.f0 ∧ (Lst Str) x.f1 ∧ (Lst wf193) x.f2
def wf139 (x : S139) : Prop := (InK .i64) x.f0 ∧ Str x.f1 ∧ (InK .i64) x.f2 ∧ (InK .i64) x.f3 ∧ (Lst wf193) x.f4
def wf24 (x : S24) : Prop := (Lst wf137) x.f0 ∧ (Lst wf139) x.f1
def bdStringS (v : (List ByteArray)) : Prop := v.length ≤ 1048576 ∧ ∀ x ∈ v, x.size ≤ 1048576
theorem sz_StringS (v : (List ByteArray)) (h : Lst Str v) {a : Int} (ha : Lft a) : Sz (fun k => laws_szStringS.f k v a) a (bdStringS v) := Sz.slice (l := laws_szStringS.l0) h.1 (fun _ _ _ => by simp only [laws_szStringS.f]) (fun hl => Sz.strs (fun _ _ _ _ => by simp only [laws_szStringS.l0]) v h.2 hl) ha
def bdField (x : S193) : Prop := x.f0.size ≤ 1048576 ∧ x.f1.size ≤ 1048576 ∧ True
theorem sz_Field (x : S193) (h : wf193 x) {a : Int} (ha : Lft a) : Sz (fun k => laws_szField.f k x a) a (bdField x) := by
  simp only [laws_szField.f]; unfold bdField
  exact Sz.len ha (fun _ h1 => Sz.len h1 (fun _ h2 => Sz.ret) h.2) h.1
def bdFieldS (v : (List S193)) : Prop := v.length ≤ 1048576 ∧ ∀ x ∈ v, bdField x
theorem sz_FieldS (v : (List S193)) (h : Lst wf193 v) {a : Int} (ha : Lft a) : Sz (fun k => laws_szFieldS.f k v a) a (bdFieldS v) := Sz.slice (l := laws_szFieldS.l0) h.1 (fun _ _ _ => by simp only [laws_szFieldS.f]) (fun hl => Sz.loop (fun _ _ _ _ => by simp only [laws_szFieldS.l0]) (fun x a hx ha => sz_Field x hx ha) v h.2 hl) ha
def bdNode (x : S137) : Prop := bdStringS x.f1 ∧ bdFieldS x.f2 ∧ True
theorem sz_Node (x : S137) (h : wf137 x) {a : Int} (ha : Lft a) : Sz (fun k => laws_szNode.f k x a) a (bdNode x) := by
  simp only [laws_szNode.f]; unfold bdNode
  exact Sz.call ha (sz_StringS _ h.2.1 ha) fun v1 h1 => Sz.call h1 (sz_FieldS _ h.2.2 h1) fun v2 h2 => Sz.ret
def bdNodeS (v : (List S137)) : Prop := v.length ≤ 1048576 ∧ ∀ x ∈ v, bdNode x
theorem sz_NodeS (v : (List S137)) (h : Lst wf137 v) {a : Int} (ha : Lft a) : Sz (fun k => laws_szNodeS.f k v a) a (bdNodeS v) := Sz.slice (l := laws_szNodeS.l0) h.1 (fun _ _ _ => by simp only [laws_szNodeS.f]) (fun hl => Sz.loop (fun _ _ _ _ => by simp only [laws_szNodeS.l0]) (fun x a hx ha => sz_Node x hx ha) v h.2 hl) ha
def bdEdge (x : S139) : Prop := x.f1.size ≤ 1048576 ∧ bdFieldS x.f4 ∧ True
theorem sz_Edge (x : S139) (h : wf139 x) {a : Int} (ha : Lft a) : Sz (fun k => laws_szEdge.f k x a) a (bdEdge x) := by
  simp only [laws_szEdge.f]; unfold bdEdge
  exact Sz.len ha (fun _ h1 => Sz.call h1 (sz_FieldS _ h.2.2.2.2 h1) fun v2 h2 => Sz.ret) h.2.1
def bdEdgeS (v : (List S139)) : Prop := v.length ≤ 1048576 ∧ ∀ x ∈ v, bdEdge x
theorem sz_EdgeS (v : (List S139)) (h : Lst wf139 v) {a : Int} (ha : Lft a) : Sz (fun k => laws_szEdgeS.f k v a) a (bdEdgeS v) := Sz.slice (l := laws_szEdgeS.l0) h.1 (fun _ _ _ => by simp only [laws_szEdgeS.f]) (fun hl => Sz.loop (fun _ _ _ _ => by simp only [laws_szEdgeS.l0]) (fun x a hx ha => sz_Edge x hx ha) v h.2 hl) ha
def bdGraph (x : S24) : Prop := bdNodeS x.f0 ∧ bdEdgeS x.f1 ∧ True
theorem sz_Graph (x : S24) (h : wf24 x) {a : Int} (ha : Lft a) : Sz (fun k => laws_szGraph.f k x a) a (bdGraph x) := by
  simp only [laws_szGraph.f]; unfold bdGraph
  exact Sz.call ha (sz_NodeS _ h.1 ha) fun v1 h1 => Sz.call h1 (sz_EdgeS _ h.2 h1) fun v2 h2 => Sz.ret
theorem to_StringS (v : (List ByteArray)) (h : bdStringS v) : Ev (fun k => laws_toStringS.f k v) v := by
  have := to_f (f := laws_toStringS.f) (l := laws_toStringS.l0) (tr := id) h.1 (fun _ _ => by simp only [laws_toStringS.f]; rfl) (to_strs (fun _ _ _ _ _ => by simp only [laws_toStringS.l0]) v h.1)
  rwa [List.map_id] at this
theorem eq_StringS (v : (List ByteArray)) (h : bdStringS v) : Ev (fun k => laws_eqStringS.f k v v) true := eq_f (l := laws_eqStringS.l0) (fun _ _ _ => by simp only [laws_eqStringS.f]) (eq_strs (fun _ _ _ _ => by simp only [laws_eqStringS.l0]) _ h.1)
def trField (x : S193) : S193 := x
theorem to_Field (x : S193) (h : bdField x) : Ev (fun k => laws_toField.f k x) (trField x) := by
  simp only [laws_toField.f, trField]; exact Ev.ret _
theorem eq_Field (x : S193) (h : bdField x) : Ev (fun k => laws_eqField.f k (trField x) (trField x)) true := by
  simp only [laws_eqField.f, trField, beq_self_eq_true, decide_true, cond_true]
  exact Ev.ret _
theorem to_FieldS (v : (List S193)) (h : bdFieldS v) : Ev (fun k => laws_toFieldS.f k v) (v.map trField) := to_f (l := laws_toFieldS.l0) h.1 (fun _ _ => by simp only [laws_toFieldS.f]; rfl) (to_loop (B := bdField) (fun _ _ _ _ _ => by simp only [laws_toFieldS.l0]) (fun x hx => to_Field x hx) v h.2 h.1)
theorem eq_FieldS (v : (List S193)) (h : bdFieldS v) : Ev (fun k => laws_eqFieldS.f k (v.map trField) (v.map trField)) true := eq_f (l := laws_eqFieldS.l0) (fun _ _ _ => by simp only [laws_eqFieldS.f]) (eq_loop (e := laws_eqField.f) (fun _ _ _ _ => by simp only [laws_eqFieldS.l0]) _ (by intro y hy; obtain ⟨x, hx, rfl⟩ := List.mem_map.1 hy; exact eq_Field x (h.2 x hx)) (by simpa using h.1))
def trNode (x : S137) : S94 := ⟨x.f0, x.f1, (x.f2.map trField)⟩
theorem to_Node (x : S137) (h : bdNode x) : Ev (fun k => laws_toNode.f k x) (trNode x) := by
  simp only [laws_toNode.f, trNode]; exact Ev.bind (to_StringS _ h.1) (Ev.bind (to_FieldS _ h.2.1) (Ev.ret _))
theorem eq_Node (x : S137) (h : bdNode x) : Ev (fun k => laws_eqNode.f k (trNode x) (trNode x)) true := by
  simp only [laws_eqNode.f, trNode, beq_self_eq_true, decide_true, cond_true]
  refine Ev.bind (eq_StringS _ h.1) ?_
  simp only [beq_self_eq_true, decide_true, cond_true]
  refine Ev.bind (eq_FieldS _ h.2.1) ?_
  simp only [beq_self_eq_true, decide_true, cond_true]
  exact Ev.ret _
theorem to_NodeS (v : (List S137)) (h : bdNodeS v) : Ev (fun k => laws_toNodeS.f k v) (v.map trNode) := to_f (l := laws_toNodeS.l0) h.1 (fun _ _ => by simp only [laws_toNodeS.f]; rfl) (to_loop (B := bdNode) (fun _ _ _ _ _ => by simp only [laws_toNodeS.l0]) (fun x hx => to_Node x hx) v h.2 h.1)
theorem eq_NodeS (v : (List S137)) (h : bdNodeS v) : Ev (fun k => laws_eqNodeS.f k (v.map trNode) (v.map trNode)) true := eq_f (l := laws_eqNodeS.l0) (fun _ _ _ => by simp only [laws_eqNodeS.f]) (eq_loop (e := laws_eqNode.f) (fun _ _ _ _ => by simp only [laws_eqNodeS.l0]) _ (by intro y hy; obtain ⟨x, hx, rfl⟩ := List.mem_map.1 hy; exact eq_Node x (h.2 x hx)) (by simpa using h.1))
def trEdge (x : S139) : S110 := ⟨x.f0, x.f1, x.f2, x.f3, (x.f4.map trField)⟩
theorem to_Edge (x : S139) (h : bdEdge x) : Ev (fun k => laws_toEdge.f k x) (trEdge x) := by
  simp only [laws_toEdge.f, trEdge]; exact Ev.bind (to_FieldS _ h.2.1) (Ev.ret _)
theorem eq_Edge (x : S139) (h : bdEdge x) : Ev (fun k => laws_eqEdge.f k (trEdge x) (trEdge x)) true := by
  simp only [laws_eqEdge.f, trEdge, beq_self_eq_true, decide_true, cond_true]
  refine Ev.bind (eq_FieldS _ h.2.1) ?_
  simp only [beq_self_eq_true, decide_true, cond_true]
  exact Ev.ret _
theorem to_EdgeS (v : (List S139)) (h : bdEdgeS v) : Ev (fun k => laws_toEdgeS.f k v) (v.map trEdge) := to_f (l := laws_toEdgeS.l0) h.1 (fun _ _ => by simp only [laws_toEdgeS.f]; rfl) (to_loop (B := bdEdge) (fun _ _ _ _ _ => by simp only [laws_toEdgeS.l0]) (fun x hx => to_Edge x hx) v h.2 h.1)
theorem eq_EdgeS (v : (List S139)) (h : bdEdgeS v) : Ev (fun k => laws_eqEdgeS.f k (v.map trEdge) (v.map trEdge)) true := eq_f (l := laws_eqEdgeS.l0) (fun _ _ _ => by simp only [laws_eqEdgeS.f]) (eq_loop (e := laws_eqEdge.f) (fun _ _ _ _ => by simp only [laws_eqEdgeS.l0]) _ (by intro y hy; obtain ⟨x, hx, rfl⟩ := List.mem_map.1 hy; exact eq_Edge x (h.2 x hx)) (by simpa using h.1))
def trGraph (x : S24) : S31 := ⟨(x.f0.map trNode), (x.f1.map trEdge)⟩
theorem to_Graph (x : S24) (h : bdGraph x) : Ev (fun k => laws_toGraph.f k x) (trGraph x) := by
  simp only [laws_toGraph.f, trGraph]; exact Ev.bind (to_NodeS _ h.1) (Ev.bind (to_EdgeS _ h.2.1) (Ev.ret _))
theorem eq_Graph (x : S24) (h : bdGraph x) : Ev (fun k => laws_eqGraph.f k (trGraph x) (trGraph x)) true := by
  simp only [laws_eqGraph.f, trGraph, beq_self_eq_true, decide_true, cond_true]
  refine Ev.bind (eq_NodeS _ h.1) ?_
  simp only [beq_self_eq_true, decide_true, cond_true]
  refine Ev.bind (eq_EdgeS _ h.2.1) ?_
  simp only [beq_self_eq_true, decide_true, cond_true]
  exact Ev.ret _
def wf107 (x : S107) : Prop := (InK .i64) x.f0 ∧ (InK .i64) x.f1
def wf40 (x : S40) : Prop := (InK .i64) x.f0 ∧ (InK .i64) x.f1 ∧ (Lst wf107) x.f2 ∧ (Lst (InK .i64)) x.f3
def bdFlowEdge (x : S107) : Prop := True
def bdFlowEdgeS (v : (List S107)) : Prop := v.length ≤ 1048576 ∧ ∀ x ∈ v, bdFlowEdge x
theorem sz_FlowEdgeS (v : (List S107)) (h : Lst wf107 v) {a : Int} (ha : Lft a) : Sz (fun k => laws_szFlowEdgeS.f k v a) a (bdFlowEdgeS v) := by
  simp only [laws_szFlowEdgeS.f]; exact (Sz.len ha (fun _ _ => Sz.ret) h.1).mono fun h => ⟨h.1, fun _ _ => trivial⟩
def bdInt64S (v : (List Int)) : Prop := v.length ≤ 1048576 ∧ True
theorem sz_Int64S (v : (List Int)) (h : Lst (InK .i64) v) {a : Int} (ha : Lft a) : Sz (fun k => laws_szInt64S.f k v a) a (bdInt64S v) := by
  simp only [laws_szInt64S.f]; exact Sz.len ha (fun _ _ => Sz.ret) h.1
def bdFlow (x : S40) : Prop := bdFlowEdgeS x.f2 ∧ bdInt64S x.f3 ∧ True
theorem sz_Flow (x : S40) (h : wf40 x) {a : Int} (ha : Lft a) : Sz (fun k => laws_szFlow.f k x a) a (bdFlow x) := by
  simp only [laws_szFlow.f]; unfold bdFlow
  exact Sz.call ha (sz_FlowEdgeS _ h.2.2.1 ha) fun v1 h1 => Sz.call h1 (sz_Int64S _ h.2.2.2 h1) fun v2 h2 => Sz.ret
def trFlowEdge (x : S107) : S107 := x
theorem to_FlowEdge (x : S107) (h : bdFlowEdge x) : Ev (fun k => laws_toFlowEdge.f k x) (trFlowEdge x) := by
  simp only [laws_toFlowEdge.f, trFlowEdge]; exact Ev.ret _
theorem eq_FlowEdge (x : S107) (h : bdFlowEdge x) : Ev (fun k => laws_eqFlowEdge.f k (trFlowEdge x) (trFlowEdge x)) true := by
  simp only [laws_eqFlowEdge.f, trFlowEdge, beq_self_eq_true, decide_true, cond_true]
  exact Ev.ret _
theorem to_FlowEdgeS (v : (List S107)) (h : bdFlowEdgeS v) : Ev (fun k => laws_toFlowEdgeS.f k v) (v.map trFlowEdge) := to_f (l := laws_toFlowEdgeS.l0) h.1 (fun _ _ => by simp only [laws_toFlowEdgeS.f]; rfl) (to_loop (B := bdFlowEdge) (fun _ _ _ _ _ => by simp only [laws_toFlowEdgeS.l0]) (fun x hx => to_FlowEdge x hx) v h.2 h.1)
theorem eq_FlowEdgeS (v : (List S107)) (h : bdFlowEdgeS v) : Ev (fun k => laws_eqFlowEdgeS.f k (v.map trFlowEdge) (v.map trFlowEdge)) true := eq_f (l := laws_eqFlowEdgeS.l0) (fun _ _ _ => by simp only [laws_eqFlowEdgeS.f]) (eq_loop (e := laws_eqFlowEdge.f) (fun _ _ _ _ => by simp only [laws_eqFlowEdgeS.l0]) _ (by intro y hy; obtain ⟨x, hx, rfl⟩ := List.mem_map.1 hy; exact eq_FlowEdge x (h.2 x hx)) (by simpa using h.1))
theorem to_Int64S (v : (List Int)) (h : bdInt64S v) : Ev (fun k => laws_toInt64S.f k v) v := by
  have := to_f (f := laws_toInt64S.f) (l := laws_toInt64S.l0) (tr := id) h.1 (fun _ _ => by simp only [laws_toInt64S.f]; rfl) (to_ints (fun _ _ _ _ _ => by simp only [laws_toInt64S.l0]) v h.1)
  rwa [List.map_id] at this
theorem eq_Int64S (v : (List Int)) (h : bdInt64S v) : Ev (fun k => laws_eqInt64S.f k v v) true := eq_f (l := laws_eqInt64S.l0) (fun _ _ _ => by simp only [laws_eqInt64S.f]) (eq_ints (fun _ _ _ _ => by simp only [laws_eqInt64S.l0]) _ h.1)
def trFlow (x : S40) : S45 := ⟨x.f0, x.f1, (x.f2.map trFlowEdge), x.f3⟩
theorem to_Flow (x : S40) (h : bdFlow x) : Ev (fun k => laws_toFlow.f k x) (trFlow x) := by
  simp only [laws_toFlow.f, trFlow]; exact Ev.bind (to_FlowEdgeS _ h.1) (Ev.bind (to_Int64S _ h.2.1) (Ev.ret _))
theorem eq_Flow (x : S40) (h : bdFlow x) : Ev (fun k => laws_eqFlow.f k (trFlow x) (trFlow x)) true := by
  simp only [laws_eqFlow.f, trFlow, beq_self_eq_true, decide_true, cond_true]
  refine Ev.bind (eq_FlowEdgeS _ h.1) ?_
  simp only [beq_self_eq_true, decide_true, cond_true]
  refine Ev.bind (eq_Int64S _ h.2.1) ?_
  simp only [beq_self_eq_true, decide_true, cond_true]
  exact Ev.ret _
end Go.Ab
namespace Go.Ab
open Go.Proofs
set_option linter.unusedVariables false
set_option linter.unusedSimpArgs false
/-! What an edge takes -/
def CapP (e : S110) (nm : ByteArray) (c : Int) : Prop := 0 ≤ c ∧ c ≤ 1000000 ∧ Ev (fun k => spec_l17Cap.f k e nm) c ∧ ∃ v iv, Ev (fun k => impl_fieldOf.f k e.f4 nm) v ∧ Ev (fun k => impl_read.f k v) iv ∧ ((iv.1.f0 = 2 ∧ 0 ≤ iv.1.f1 ∧ iv.1.f1 ≤ 1000000 ∧ c = iv.1.f1) ∨ (¬ (iv.1.f0 = 2 ∧ 0 ≤ iv.1.f1 ∧ iv.1.f1 ≤ 1000000) ∧ c = 0))
theorem cap2 {e : S110} (hf : FdOk e.f4) (nm : ByteArray) : ∃ c, CapP e nm c := by
  obtain ⟨v, sv, hw, h1, h2, h3, h4⟩ := fldr hf nm
  have t0 : (toI sv).f0 = sv.f0 := by rw [toI_eq]
  have t1 : (toI sv).f1 = sv.f1 := by rw [toI_eq]
  by_cases hc : sv.f0 = 2 ∧ 0 ≤ sv.f1 ∧ sv.f1 ≤ 1000000
  · refine ⟨sv.f1, hc.2.1, hc.2.2, ?_, v, _, h2, h4, .inl ⟨by rw [t0]; exact hc.1, by rw [t1]; exact hc.2.1, by rw [t1]; exact hc.2.2, t1.symm⟩⟩
    simp only [spec_l17Cap.f]
    refine Ev.bind h1 (Ev.bind h3 ?_)
    simp only [hc.1, beq_self_eq_true, cond_true, decide_eq_false (show ¬ sv.f1 < 0 by omega), cond_false, decide_eq_false (show ¬ (1000000 : Int) < sv.f1 by omega)]
    exact Ev.ret _
  · refine ⟨0, by omega, by omega, ?_, v, _, h2, h4, .inr ⟨by rw [t0, t1]; exact hc, rfl⟩⟩
    simp only [spec_l17Cap.f]
    refine Ev.bind h1 (Ev.bind h3 ?_)
    by_cases h : sv.f0 = 2
    · simp only [h, beq_self_eq_true, cond_true]
      by_cases h' : sv.f1 < 0
      · simp only [decide_eq_true h', cond_true]; exact Ev.ret _
      · simp only [decide_eq_false h', cond_false, decide_eq_true (show (1000000 : Int) < sv.f1 by omega), cond_true]; exact Ev.ret _
    · simp only [show (sv.f0 == 2) = false by simpa using h, cond_false]; exact Ev.ret _
section
variable {g : S31}
theorem room_ (hg : GOk g) (nm : ByteArray) : ∃ M, Ev (fun k => impl_room.f k g nm) M ∧ ∀ j (h : j < g.f1.length), CapP g.f1[j] nm (tget M g.f1[j].f0 0) := by
  have hx : ∀ j : Nat, ∃ c, ∀ (h : j < g.f1.length), CapP g.f1[j] nm c := fun j => by
    by_cases h : j < g.f1.length
    · obtain ⟨c, hc⟩ := cap2 (hg.ed _ (List.getElem_mem h)).2.2.2.2 nm
      exact ⟨c, fun _ => hc⟩
    · exact ⟨0, fun h' => absurd h' h⟩
  obtain ⟨cf, hcf⟩ := Classical.axiomOfChoice hx
  have L : ∀ (n i : Nat) (M : List (Int × Int)), g.f1.length - i ≤ n → (∀ j (h : j < g.f1.length), tget M g.f1[j].f0 0 = if j < i then cf j else 0) → ∃ M', Ev (fun k => impl_room.l0 k nm g (i : Int) M) M' ∧ ∀ j (h : j < g.f1.length), tget M' g.f1[j].f0 0 = cf j := by
    have fin : ∀ (i : Nat) (M : List (Int × Int)), ¬ i < g.f1.length → (∀ j (h : j < g.f1.length), tget M g.f1[j].f0 0 = if j < i then cf j else 0) → ∃ M', Ev (fun k => impl_room.l0 k nm g (i : Int) M) M' ∧ ∀ j (h : j < g.f1.length), tget M' g.f1[j].f0 0 = cf j := fun i M h hM => by
      refine ⟨M, Ev.step ?_, fun j hj => by rw [hM j hj, if_pos (by omega)]⟩
      simp only [impl_room.l0, ltn h, cond_false]
      exact Ev.ret _
    intro n
    induction n with
    | zero => intro i M h hM; exact fin i M (by omega) hM
    | succ n ih =>
      intro i M h hM
      by_cases hi : i < g.f1.length
      case neg => exact fin i M hi hM
      obtain ⟨c0, c1, _, v, iv, h1, h2, h3⟩ := hcf i hi
      have hup := wup hi (show g.f1.length ≤ 2000000 by have := hg.e400; omega)
      rcases h3 with ⟨q1, q2, q3, q4⟩ | ⟨q1, q2⟩
      · obtain ⟨M', m1, m2⟩ := ih (i + 1) (tput M g.f1[i].f0 iv.1.f1) (by omega) fun j hj => by
          rw [tget_tput, hM j hj]
          by_cases e : j = i
          · subst e; rw [if_pos rfl, if_pos (by omega)]; exact q4.symm
          · rw [if_neg fun e' => e (rise_inj hg.er hj hi e')]
            by_cases hlt : j < i
            · rw [if_pos hlt, if_pos (by omega)]
            · rw [if_neg hlt, if_neg (by omega)]
        refine ⟨M', Ev.step ?_, m2⟩
        simp only [impl_room.l0, ltd hi, cond_true, ixg hi, Option.bind_some, hup]
        refine Ev.bind h1 (Ev.bind h2 ?_)
        simp only [show (iv.1.f0 == 2) = true by simpa using q1, decide_eq_true q2, decide_eq_true q3, cond_true]
        exact m1
      · obtain ⟨M', m1, m2⟩ := ih (i + 1) M (by omega) fun j hj => by
          rw [hM j hj]
          by_cases e : j = i
          · subst e; rw [if_neg (by omega), if_pos (by omega)]; exact q2.symm
          · by_cases hlt : j < i
            · rw [if_pos hlt, if_pos (by omega)]
            · rw [if_neg hlt, if_neg (by omega)]
        refine ⟨M', Ev.step ?_, m2⟩
        simp only [impl_room.l0, ltd hi, cond_true, ixg hi, Option.bind_some, hup]
        refine Ev.bind h1 (Ev.bind h2 ?_)
        by_cases a1 : iv.1.f0 = 2
        · simp only [show (iv.1.f0 == 2) = true by simpa using a1, cond_true]
          by_cases a2 : 0 ≤ iv.1.f1
          · simp only [decide_eq_true a2, cond_true, decide_eq_false (show ¬ iv.1.f1 ≤ 1000000 from fun a3 => q1 ⟨a1, a2, a3⟩), cond_false]; exact m1
          · simp only [decide_eq_false a2, cond_false]; exact m1
        · simp only [show (iv.1.f0 == 2) = false by simpa using a1, cond_false]; exact m1
  obtain ⟨M', m1, m2⟩ := L _ 0 [] (Nat.le_refl _) fun j hj => by simp [tget, tfind]
  refine ⟨M', Ev.step (by simp only [impl_room.f]; exact m1), fun j hj => by rw [m2 j hj]; exact hcf j hj⟩
/-! The edges of a flow -/
def FR (g : S31) (v : List Int) (M : List (Int × Int)) : Prop := v.length = g.f1.length ∧ ∀ j (h : j < g.f1.length) (h' : j < v.length), v[j] = tget M g.f1[j].f0 0 ∧ 0 ≤ v[j] ∧ v[j] ≤ 1000000
theorem FR.put {v : List Int} {M : List (Int × Int)} (hg : GOk g) (h : FR g v M) {j : Nat} (hj : j < g.f1.length) {x : Int} (h0 : 0 ≤ x) (h1 : x ≤ 1000000) : FR g (setr v j x) (tput M g.f1[j].f0 x) := by
  refine ⟨by unfold setr; rw [List.length_set]; exact h.1, fun q hq hq' => ?_⟩
  unfold setr at hq' ⊢
  rw [List.length_set] at hq'
  rw [List.getElem_set, tget_tput]
  by_cases e : j = q
  · subst e; rw [if_pos rfl, if_pos rfl]; exact ⟨rfl, h0, h1⟩
  · rw [if_neg e, if_neg fun e' => e (rise_inj hg.er hq hj e').symm]; exact h.2 q hq hq'
theorem flow_l0 (hg : GOk g) {a b : Int} {nm : ByteArray} {f : S45} {v8 : List Int} {Mr : List (Int × Int)} (hf : f.f2.length ≤ 2000000) (h8 : v8.length = g.f1.length) (hr : ∀ j (h : j < g.f1.length), CapP g.f1[j] nm (tget Mr g.f1[j].f0 0)) :
    ∀ (n i : Nat) (v : List Int) (M : List (Int × Int)), f.f2.length - i ≤ n → FR g v M →
      (Ev (fun k => spec_FlowFault.l0 k a b nm v8 (i : Int) g f v) 1 ∧ Ev (fun k => impl_flowOk.l0 k a b f (i : Int) g Mr M) false) ∨
      ∃ v' M', FR g v' M' ∧ (∀ r, Ev (fun k => spec_FlowFault.l1 k a b nm v8 0 g f v') r → Ev (fun k => spec_FlowFault.l0 k a b nm v8 (i : Int) g f v) r) ∧ (∀ r, Ev (fun k => impl_flowOk.l1 k a b g 0 f Mr M' []) r → Ev (fun k => impl_flowOk.l0 k a b f (i : Int) g Mr M) r) := by
  have hE : g.f1.length ≤ 2000000 := by have := hg.e400; omega
  have fin : ∀ (i : Nat) (v : List Int) (M : List (Int × Int)), ¬ i < f.f2.length → FR g v M → ∃ v' M', FR g v' M' ∧ (∀ r, Ev (fun k => spec_FlowFault.l1 k a b nm v8 0 g f v') r → Ev (fun k => spec_FlowFault.l0 k a b nm v8 (i : Int) g f v) r) ∧ (∀ r, Ev (fun k => impl_flowOk.l1 k a b g 0 f Mr M' []) r → Ev (fun k => impl_flowOk.l0 k a b f (i : Int) g Mr M) r) := fun i v M h hR =>
    ⟨v, M, hR, fun r hr => Ev.step (by simp only [spec_FlowFault.l0, ltn h, cond_false]; exact hr), fun r hr => Ev.step (by simp only [impl_flowOk.l0, ltn h, cond_false]; exact hr)⟩
  intro n
  induction n with
  | zero => intro i v M h hR; exact .inr (fin i v M (by omega) hR)
  | succ n ih =>
    intro i v M h hR
    by_cases hi : i < f.f2.length
    case neg => exact .inr (fin i v M hi hR)
    have hup := wup hi hf
    -- the test of the one ahead, on both sides
    have ahead : ∀ {F : Nat → Option Int} {G : Nat → Option Bool} (P : Prop), (P → (Ev F 1 ∧ Ev G false) ∨ ∃ v' M', FR g v' M' ∧ (∀ r, Ev (fun k => spec_FlowFault.l1 k a b nm v8 0 g f v') r → Ev F r) ∧ (∀ r, Ev (fun k => impl_flowOk.l1 k a b g 0 f Mr M' []) r → Ev G r)) → P →
        ((Ev F 1 ∧ Ev G false) ∨ ∃ v' M', FR g v' M' ∧ (∀ r, Ev (fun k => spec_FlowFault.l1 k a b nm v8 0 g f v') r → Ev F r) ∧ (∀ r, Ev (fun k => impl_flowOk.l1 k a b g 0 f Mr M' []) r → Ev G r)) := fun P hP p => hP p
    rcases fnd_cases (fun e : S110 => e.f0 == f.f2[i].f0) g.f1 with ⟨hc, _, _⟩ | ⟨j, hj, hc, _, hp⟩
    · left
      have hs := edge_s (g := g) hE f.f2[i].f0
      have hi' := edge_i (g := g) hE f.f2[i].f0
      rw [hc] at hs hi'
      refine ⟨Ev.step ?_, Ev.step ?_⟩
      · simp only [spec_FlowFault.l0, ltd hi, cond_true, ixg hi, Option.bind_some]
        refine Ev.bind hs ?_
        simp only [show decide ((-1 : Int) < 0) = true from rfl, cond_true]; exact Ev.ret _
      · simp only [impl_flowOk.l0, ltd hi, cond_true, ixg hi, Option.bind_some]
        have t : Ev (fun k => (impl_edgeAt.f k g f.f2[i].f0).bind fun v18 => (bif decide (v18 < 0) then (some false) else (bif decide (f.f2[i].f1 ≤ 0) then (some false) else (bif decide ((tget Mr f.f2[i].f0 0) < f.f2[i].f1) then (some false) else (impl_flowOk.j0 k a b f (i : Int) g Mr M f.f2[i]))))) false := by
          refine Ev.bind hi' ?_
          simp only [show decide ((-1 : Int) < 0) = true from rfl, cond_true]; exact Ev.ret _
        by_cases h0 : 0 < i
        · simp only [decide_eq_true (show (0 : Int) < (i : Int) by omega), cond_true, wdn h0 hi hf, ixg (show i - 1 < f.f2.length by omega), Option.bind_some]
          by_cases hle : f.f2[i].f0 ≤ (f.f2[i - 1]'(by omega)).f0
          · simp only [decide_eq_true hle, cond_true]; exact Ev.ret _
          · simp only [decide_eq_false hle, cond_false]; exact t
        · simp only [decide_eq_false (show ¬ (0 : Int) < (i : Int) by omega), cond_false]; exact t
    have hid : g.f1[j].f0 = f.f2[i].f0 := by simpa using hp
    have hs := edge_s (g := g) hE f.f2[i].f0
    have hi' := edge_i (g := g) hE f.f2[i].f0
    rw [hc] at hs hi'
    obtain ⟨c0, c1, hcs, -⟩ := hr j hj
    rw [hid] at c0 c1 hcs
    -- what stands behind the test of the one ahead
    have tail : (Ev (fun k => bif decide (f.f2[i].f1 < 1) then (some 1) else ((ix g.f1 (j : Int)).bind fun v21 => ((spec_l17Cap.f k v21 nm).bind fun v22 => (bif decide (v22 < f.f2[i].f1) then (some 1) else (spec_FlowFault.j0 k a b nm v8 (i : Int) (j : Int) g f v))))) 1 ∧ Ev (fun k => bif decide (f.f2[i].f1 ≤ 0) then (some false) else (bif decide ((tget Mr f.f2[i].f0 0) < f.f2[i].f1) then (some false) else (impl_flowOk.j0 k a b f (i : Int) g Mr M f.f2[i]))) false) ∨
        ∃ v' M', FR g v' M' ∧ (∀ r, Ev (fun k => spec_FlowFault.l1 k a b nm v8 0 g f v') r → Ev (fun k => bif decide (f.f2[i].f1 < 1) then (some 1) else ((ix g.f1 (j : Int)).bind fun v21 => ((spec_l17Cap.f k v21 nm).bind fun v22 => (bif decide (v22 < f.f2[i].f1) then (some 1) else (spec_FlowFault.j0 k a b nm v8 (i : Int) (j : Int) g f v))))) r) ∧
          (∀ r, Ev (fun k => impl_flowOk.l1 k a b g 0 f Mr M' []) r → Ev (fun k => bif decide (f.f2[i].f1 ≤ 0) then (some false) else (bif decide ((tget Mr f.f2[i].f0 0) < f.f2[i].f1) then (some false) else (impl_flowOk.j0 k a b f (i : Int) g Mr M f.f2[i]))) r) := by
      by_cases h1 : f.f2[i].f1 < 1
      · left
        simp only [decide_eq_true h1, decide_eq_true (show f.f2[i].f1 ≤ 0 by omega), cond_true]
        exact ⟨Ev.ret _, Ev.ret _⟩
      · simp only [decide_eq_false h1, decide_eq_false (show ¬ f.f2[i].f1 ≤ 0 by omega), cond_false, ixg hj, Option.bind_some]
        by_cases h2 : tget Mr f.f2[i].f0 0 < f.f2[i].f1
        · left
          refine ⟨Ev.bind hcs ?_, ?_⟩
          · simp only [decide_eq_true h2, cond_true]; exact Ev.ret _
          · simp only [decide_eq_true h2, cond_true]; exact Ev.ret _
        · have hR' := hR.put hg hj (x := f.f2[i].f1) (by omega) (by omega)
          rw [hid] at hR'
          have e1 : ∀ {r : Int}, Ev (fun k => spec_FlowFault.l0 k a b nm v8 ((i + 1 : Nat) : Int) g f (setr v j f.f2[i].f1)) r → Ev (fun k => (spec_l17Cap.f k g.f1[j] nm).bind fun v22 => (bif decide (v22 < f.f2[i].f1) then (some 1) else (spec_FlowFault.j0 k a b nm v8 (i : Int) (j : Int) g f v))) r := fun {r} h => by
            refine Ev.bind hcs ?_
            simp only [decide_eq_false h2, cond_false]
            refine Ev.step ?_
            simp only [spec_FlowFault.j0, ixg hi, Option.bind_some, inr_ (show j < v8.length by omega), Int.toNat_natCast, List.getElem?_eq_getElem (show j < v.length by have := hR.1; omega), hup]
            exact h
          have e2 : ∀ {r : Bool}, Ev (fun k => impl_flowOk.l0 k a b f ((i + 1 : Nat) : Int) g Mr (tput M f.f2[i].f0 f.f2[i].f1)) r → Ev (fun k => bif decide ((tget Mr f.f2[i].f0 0) < f.f2[i].f1) then (some false) else (impl_flowOk.j0 k a b f (i : Int) g Mr M f.f2[i])) r := fun {r} h => by
            simp only [decide_eq_false h2, cond_false]
            refine Ev.step ?_
            simp only [impl_flowOk.j0, hup]
            exact h
          rcases ih (i + 1) _ _ (by omega) hR' with ⟨q1, q2⟩ | ⟨v', M', q1, q2, q3⟩
          · exact .inl ⟨e1 q1, e2 q2⟩
          · exact .inr ⟨v', M', q1, fun r hr => e1 (q2 r hr), fun r hr => e2 (q3 r hr)⟩
    have nlt : decide ((j : Int) < 0) = false := by simp
    by_cases h0 : 0 < i
    · by_cases hle : f.f2[i].f0 ≤ (f.f2[i - 1]'(by omega)).f0
      · left
        refine ⟨Ev.step ?_, Ev.step ?_⟩
        · simp only [spec_FlowFault.l0, ltd hi, cond_true, ixg hi, Option.bind_some]
          refine Ev.bind hs ?_
          simp only [nlt, cond_false, decide_eq_true (show (0 : Int) < (i : Int) by omega), cond_true, wdn h0 hi hf, ixg (show i - 1 < f.f2.length by omega), Option.bind_some, decide_eq_true hle]
          exact Ev.ret _
        · simp only [impl_flowOk.l0, ltd hi, cond_true, ixg hi, Option.bind_some, decide_eq_true (show (0 : Int) < (i : Int) by omega), wdn h0 hi hf, ixg (show i - 1 < f.f2.length by omega), decide_eq_true hle]
          exact Ev.ret _
      · have e1 : ∀ {r : Int}, Ev (fun k => bif decide (f.f2[i].f1 < 1) then (some 1) else ((ix g.f1 (j : Int)).bind fun v21 => ((spec_l17Cap.f k v21 nm).bind fun v22 => (bif decide (v22 < f.f2[i].f1) then (some 1) else (spec_FlowFault.j0 k a b nm v8 (i : Int) (j : Int) g f v))))) r → Ev (fun k => spec_FlowFault.l0 k a b nm v8 (i : Int) g f v) r := fun {r} h => by
          refine Ev.step ?_
          simp only [spec_FlowFault.l0, ltd hi, cond_true, ixg hi, Option.bind_some]
          refine Ev.bind hs ?_
          simp only [nlt, cond_false, decide_eq_true (show (0 : Int) < (i : Int) by omega), cond_true, wdn h0 hi hf, ixg (show i - 1 < f.f2.length by omega), Option.bind_some, decide_eq_false hle]
          exact h
        have e2 : ∀ {r : Bool}, Ev (fun k => bif decide (f.f2[i].f1 ≤ 0) then (some false) else (bif decide ((tget Mr f.f2[i].f0 0) < f.f2[i].f1) then (some false) else (impl_flowOk.j0 k a b f (i : Int) g Mr M f.f2[i]))) r → Ev (fun k => impl_flowOk.l0 k a b f (i : Int) g Mr M) r := fun {r} h => by
          refine Ev.step ?_
          simp only [impl_flowOk.l0, ltd hi, cond_true, ixg hi, Option.bind_some, decide_eq_true (show (0 : Int) < (i : Int) by omega), wdn h0 hi hf, ixg (show i - 1 < f.f2.length by omega), decide_eq_false hle, cond_false]
          refine Ev.bind hi' ?_
          simp only [nlt, cond_false]
          exact h
        rcases tail with ⟨q1, q2⟩ | ⟨v', M', q1, q2, q3⟩
        · exact .inl ⟨e1 q1, e2 q2⟩
        · exact .inr ⟨v', M', q1, fun r hr => e1 (q2 r hr), fun r hr => e2 (q3 r hr)⟩
    · have e1 : ∀ {r : Int}, Ev (fun k => bif decide (f.f2[i].f1 < 1) then (some 1) else ((ix g.f1 (j : Int)).bind fun v21 => ((spec_l17Cap.f k v21 nm).bind fun v22 => (bif decide (v22 < f.f2[i].f1) then (some 1) else (spec_FlowFault.j0 k a b nm v8 (i : Int) (j : Int) g f v))))) r → Ev (fun k => spec_FlowFault.l0 k a b nm v8 (i : Int) g f v) r := fun {r} h => by
        refine Ev.step ?_
        simp only [spec_FlowFault.l0, ltd hi, cond_true, ixg hi, Option.bind_some]
        refine Ev.bind hs ?_
        simp only [nlt, cond_false, decide_eq_false (show ¬ (0 : Int) < (i : Int) by omega)]
        exact h
      have e2 : ∀ {r : Bool}, Ev (fun k => bif decide (f.f2[i].f1 ≤ 0) then (some false) else (bif decide ((tget Mr f.f2[i].f0 0) < f.f2[i].f1) then (some false) else (impl_flowOk.j0 k a b f (i : Int) g Mr M f.f2[i]))) r → Ev (fun k => impl_flowOk.l0 k a b f (i : Int) g Mr M) r := fun {r} h => by
        refine Ev.step ?_
        simp only [impl_flowOk.l0, ltd hi, cond_true, ixg hi, Option.bind_some, decide_eq_false (show ¬ (0 : Int) < (i : Int) by omega), cond_false]
        refine Ev.bind hi' ?_
        simp only [nlt, cond_false]
        exact h
      rcases tail with ⟨q1, q2⟩ | ⟨v', M', q1, q2, q3⟩
      · exact .inl ⟨e1 q1, e2 q2⟩
      · exact .inr ⟨v', M', q1, fun r hr => e1 (q2 r hr), fun r hr => e2 (q3 r hr)⟩
end
end Go.Ab
namespace Go.Ab
open Go.Proofs
set_option linter.unusedVariables false
set_option linter.unusedSimpArgs false
def bz (b : Bool) : Int := if b then 1 else 0
theorem bool_ (k : Nat) (b : Bool) : spec_l01Bool.f k b = some (bz b) := by cases b <;> rfl
abbrev EV := S110 × Int
/-- What goes out of a node less what comes in. -/
def nz (id : Int) : List EV → Int
 | [] => 0
 | p :: l => p.2 * (bz (p.1.f2 == id) - bz (p.1.f3 == id)) + nz id l
theorem nz_app (id : Int) (l : List EV) (p : EV) : nz id (l ++ [p]) = nz id l + p.2 * (bz (p.1.f2 == id) - bz (p.1.f3 == id)) := by
  induction l with
  | nil => simp [nz]
  | cons q l ih => simp only [List.cons_append, nz, ih]; omega
theorem mulbz (x : Int) (a b : Bool) : x * (bz a - bz b) = (if a then (if b then 0 else x) else (if b then -x else 0)) := by
  cases a <;> cases b <;> simp [bz]
def PB (l : List EV) : Prop := ∀ p ∈ l, 0 ≤ p.2 ∧ p.2 ≤ 1000000
theorem nz_bd (id : Int) : ∀ l : List EV, PB l → -(1000000 * (l.length : Int)) ≤ nz id l ∧ nz id l ≤ 1000000 * (l.length : Int)
 | [], _ => by simp [nz]
 | p :: l, h => by
  have h1 := nz_bd id l fun q hq => h q (List.mem_cons_of_mem _ hq)
  have h2 := h p (List.mem_cons_self ..)
  simp only [nz, mulbz, List.length_cons]
  split <;> split <;> omega
def isum (L : List Int) (f : Int → Int) : Int := (L.map f).foldr (· + ·) 0
theorem isum_cons (a : Int) (L : List Int) (f : Int → Int) : isum (a :: L) f = f a + isum L f := rfl
theorem isum_add (L : List Int) (f g : Int → Int) : isum L (fun u => f u + g u) = isum L f + isum L g := by
  induction L with
  | nil => rfl
  | cons a L ih => simp only [isum_cons, ih]; omega
theorem isum_zero (L : List Int) (f : Int → Int) (h : ∀ u ∈ L, f u = 0) : isum L f = 0 := by
  induction L with
  | nil => rfl
  | cons a L ih => rw [isum_cons, h a (List.mem_cons_self ..), ih fun u hu => h u (List.mem_cons_of_mem _ hu)]; rfl
theorem isum_one {L : List Int} (hn : L.Nodup) {a : Int} (ha : a ∈ L) (c : Int) : isum L (fun u => if a = u then c else 0) = c := by
  induction L with
  | nil => cases ha
  | cons b L ih =>
    rw [isum_cons]
    obtain ⟨h1, h2⟩ := List.nodup_cons.1 hn
    by_cases e : a = b
    · subst e
      rw [if_pos rfl, isum_zero L _ fun u hu => if_neg fun (e : a = u) => h1 (e ▸ hu)]; omega
    · rw [if_neg e, ih h2 (by rcases List.mem_cons.1 ha with h | h; exact absurd h e; exact h)]; omega
theorem isum_congr {L : List Int} {f g : Int → Int} (h : ∀ u ∈ L, f u = g u) : isum L f = isum L g := by
  unfold isum
  rw [List.map_congr_left h]
/-- All nodes together: nothing. -/
theorem nz_all {L : List Int} (hn : L.Nodup) : ∀ l : List EV, (∀ p ∈ l, p.1.f2 ∈ L ∧ p.1.f3 ∈ L) → isum L (fun u => nz u l) = 0
 | [], _ => isum_zero L _ fun _ _ => rfl
 | p :: l, h => by
  obtain ⟨h1, h2⟩ := h p (List.mem_cons_self ..)
  have e : isum L (fun u => nz u (p :: l)) = isum L (fun u => (fun u => (if p.1.f2 = u then p.2 else 0) + (if p.1.f3 = u then -p.2 else 0)) u + nz u l) := isum_congr fun u _ => by
    simp only [nz, mulbz]
    by_cases a : p.1.f2 = u <;> by_cases b : p.1.f3 = u <;> simp [a, b] <;> omega
  rw [e, isum_add, isum_add (f := fun u => if p.1.f2 = u then p.2 else 0), isum_one hn h1, isum_one hn h2, nz_all hn l fun q hq => h q (List.mem_cons_of_mem _ hq)]
  omega
theorem nz_two {L : List Int} (hn : L.Nodup) {l : List EV} (h : ∀ p ∈ l, p.1.f2 ∈ L ∧ p.1.f3 ∈ L) {a b : Int} (ha : a ∈ L) (hb : b ∈ L) (hab : a ≠ b) (hz : ∀ u ∈ L, u ≠ a → u ≠ b → nz u l = 0) : nz a l + nz b l = 0 := by
  have e : isum L (fun u => nz u l) = isum L (fun u => (if a = u then nz a l else 0) + (if b = u then nz b l else 0)) := isum_congr fun u hu => by
    by_cases e1 : a = u
    · subst e1; rw [if_pos rfl, if_neg (fun e => hab e.symm)]; omega
    · by_cases e2 : b = u
      · subst e2; rw [if_neg e1, if_pos rfl]; omega
      · rw [if_neg e1, if_neg e2, hz u hu (fun e => e1 e.symm) (fun e => e2 e.symm)]; rfl
  rw [nz_all hn l h, isum_add, isum_one hn ha, isum_one hn hb] at e
  exact e.symm
section
variable {g : S31} {a b : Int} {nm : ByteArray} {f : S45} {v8 v : List Int} {Mr M : List (Int × Int)}
theorem FR.pb (h : FR g v M) : PB (g.f1.zip v) := fun p hp => by
  obtain ⟨i, hi, rfl⟩ := List.getElem_of_mem hp
  rw [List.getElem_zip]
  have hi' : i < g.f1.length ∧ i < v.length := by rw [List.length_zip] at hi; omega
  exact (h.2 i hi'.1 hi'.2).2
theorem take_pb {l : List EV} (h : PB l) (n : Nat) : PB (l.take n) := fun p hp => h p (List.mem_of_mem_take hp)
/-- Is a node's sum right? -/
def sumOk (a b val id T : Int) : Bool := (!(id == a) || T == val) && ((!(id == b) || T == IntKind.i64.wrap (0 - val)) && ((id == a) || (id == b) || T == 0))
theorem sum_l2 (hE : g.f1.length ≤ 400) (hR : FR g v M) (h8 : v8.length = g.f1.length) (u : Int) (x : S94) {r : Int} (hr : sumOk a b f.f1 x.f0 (nz x.f0 (g.f1.zip v)) = true → Ev (fun k => spec_FlowFault.j1 k a b nm v8 u g f v) r) (hr' : sumOk a b f.f1 x.f0 (nz x.f0 (g.f1.zip v)) = false → r = 1) :
    ∀ (n i : Nat), g.f1.length - i ≤ n → i ≤ g.f1.length → Ev (fun k => spec_FlowFault.l2 k a b nm v8 u x (nz x.f0 ((g.f1.zip v).take i)) (i : Int) g f v) r := by
  have hzl : (g.f1.zip v).length = g.f1.length := by rw [List.length_zip, hR.1]; omega
  have fin : ∀ i : Nat, ¬ i < g.f1.length → i ≤ g.f1.length → Ev (fun k => spec_FlowFault.l2 k a b nm v8 u x (nz x.f0 ((g.f1.zip v).take i)) (i : Int) g f v) r := fun i h hle => by
    refine Ev.step ?_
    rw [List.take_of_length_le (by omega)]
    simp only [spec_FlowFault.l2, h8, ltn h, cond_false]
    generalize nz x.f0 (g.f1.zip v) = T at hr hr' ⊢
    have key : Ev (fun k => bif sumOk a b f.f1 x.f0 T then spec_FlowFault.j1 k a b nm v8 u g f v else some 1) r := by
      cases hA : sumOk a b f.f1 x.f0 T with
      | true => exact hr hA
      | false => rw [hr' hA]; exact Ev.ret _
    refine cast (congrArg (fun F => Ev F r) (funext fun k => ?_)) key
    unfold sumOk
    cases (x.f0 == a) <;> cases (x.f0 == b) <;> cases (T == f.f1) <;> cases (T == IntKind.i64.wrap (0 - f.f1)) <;> cases (T == 0) <;> rfl
  intro n
  induction n with
  | zero => intro i h hle; exact fin i (by omega) hle
  | succ n ih =>
    intro i h hle
    by_cases hi : i < g.f1.length
    case neg => exact fin i hi hle
    have hv : i < v.length := by rw [hR.1]; exact hi
    refine Ev.step ?_
    simp only [spec_FlowFault.l2, ltd (show i < v8.length by omega), cond_true, inr_ (show i < v8.length by omega), Option.bind_some, Int.toNat_natCast, List.getElem?_eq_getElem hv, ixg hi, bool_, wup hi (show g.f1.length ≤ 2000000 by omega)]
    have hb := nz_bd x.f0 _ (take_pb hR.pb i)
    rw [List.length_take, hzl] at hb
    have hx := (hR.2 i hi hv).2
    have e := ih (i + 1) (by omega) (by omega)
    rw [List.take_succ_eq_append_getElem (by omega), nz_app, List.getElem_zip] at e
    have hm := mulbz v[i] (g.f1[i].f2 == x.f0) (g.f1[i].f3 == x.f0)
    have hmb : -1000000 ≤ v[i] * (bz (g.f1[i].f2 == x.f0) - bz (g.f1[i].f3 == x.f0)) ∧ v[i] * (bz (g.f1[i].f2 == x.f0) - bz (g.f1[i].f3 == x.f0)) ≤ 1000000 := by
      rw [hm]; split <;> split <;> omega
    have hw1 : IntKind.i64.wrap (bz (g.f1[i].f2 == x.f0) - bz (g.f1[i].f3 == x.f0)) = bz (g.f1[i].f2 == x.f0) - bz (g.f1[i].f3 == x.f0) := by
      cases (g.f1[i].f2 == x.f0) <;> cases (g.f1[i].f3 == x.f0) <;> rfl
    rw [hw1, wI (n := v[i] * _) (by omega) (by omega), wI (by omega) (by omega)]
    exact e
theorem nodes_l1 (hN : g.f0.length ≤ 200) (hE : g.f1.length ≤ 400) (hR : FR g v M) (h8 : v8.length = g.f1.length) {R : Int} (hend : Ev (fun k => (spec_l17Nodes.f k g f.f3).bind fun v36 => (bif v36 then ((spec_l01InInts.f k f.f3 a).bind fun v37 => (bif v37 then ((spec_l01InInts.f k f.f3 b).bind fun v38 => (bif v38 then (some 1) else (spec_FlowFault.l3 k nm v8 0 g f v))) else (some 1))) else (some 1))) R) :
    ∀ (n i : Nat), g.f0.length - i ≤ n → Ev (fun k => spec_FlowFault.l1 k a b nm v8 (i : Int) g f v) (if (g.f0.drop i).all (fun x => sumOk a b f.f1 x.f0 (nz x.f0 (g.f1.zip v))) then R else 1) := by
  have fin : ∀ i : Nat, ¬ i < g.f0.length → Ev (fun k => spec_FlowFault.l1 k a b nm v8 (i : Int) g f v) (if (g.f0.drop i).all (fun x => sumOk a b f.f1 x.f0 (nz x.f0 (g.f1.zip v))) then R else 1) := fun i h => by
    refine Ev.step ?_
    rw [List.drop_of_length_le (by omega)]
    simp only [spec_FlowFault.l1, ltn h, cond_false, List.all_nil, if_true]
    exact hend
  intro n
  induction n with
  | zero => intro i h; exact fin i (by omega)
  | succ n ih =>
    intro i h
    by_cases hi : i < g.f0.length
    case neg => exact fin i hi
    refine Ev.step ?_
    rw [List.drop_eq_getElem_cons hi, List.all_cons]
    simp only [spec_FlowFault.l1, ltd hi, cond_true, ixg hi, Option.bind_some]
    have := sum_l2 (nm := nm) (v8 := v8) (a := a) (b := b) (f := f) hE hR h8 (i : Int) g.f0[i] (r := if (sumOk a b f.f1 g.f0[i].f0 (nz g.f0[i].f0 (g.f1.zip v)) && (g.f0.drop (i + 1)).all (fun x => sumOk a b f.f1 x.f0 (nz x.f0 (g.f1.zip v)))) = true then R else 1) (fun hA => by
      rw [hA, Bool.true_and]
      refine Ev.step ?_
      simp only [spec_FlowFault.j1, wup hi (show g.f0.length ≤ 2000000 by omega)]
      exact ih (i + 1) (by omega)) (fun hA => by rw [hA]; simp) _ 0 (Nat.le_refl _) (Nat.zero_le _)
    exact this
/-- Is an edge of the cut right? -/
def okC (S : List Int) (Mr : List (Int × Int)) (p : EV) : Bool := (!(hasI S p.1.f2 && !hasI S p.1.f3) || p.2 == tget Mr p.1.f0 0) && (!(hasI S p.1.f3 && !hasI S p.1.f2) || p.2 == 0)
theorem cut_l3 (hE : g.f1.length ≤ 400) (hR : FR g v M) (h8 : v8.length = g.f1.length) (hS : f.f3.length ≤ 2000000) (hr : ∀ j (h : j < g.f1.length), CapP g.f1[j] nm (tget Mr g.f1[j].f0 0)) :
    ∀ (n i : Nat), g.f1.length - i ≤ n → Ev (fun k => spec_FlowFault.l3 k nm v8 (i : Int) g f v) (if ((g.f1.zip v).drop i).all (okC f.f3 Mr) then 0 else 1) := by
  have hzl : (g.f1.zip v).length = g.f1.length := by rw [List.length_zip, hR.1]; omega
  have fin : ∀ i : Nat, ¬ i < g.f1.length → Ev (fun k => spec_FlowFault.l3 k nm v8 (i : Int) g f v) (if ((g.f1.zip v).drop i).all (okC f.f3 Mr) then 0 else 1) := fun i h => by
    refine Ev.step ?_
    rw [List.drop_of_length_le (by omega)]
    simp only [spec_FlowFault.l3, h8, ltn h, cond_false, List.all_nil, if_true]
    exact Ev.ret _
  intro n
  induction n with
  | zero => intro i h; exact fin i (by omega)
  | succ n ih =>
    intro i h
    by_cases hi : i < g.f1.length
    case neg => exact fin i hi
    have hv : i < v.length := by rw [hR.1]; exact hi
    refine Ev.step ?_
    rw [List.drop_eq_getElem_cons (by omega), List.all_cons, List.getElem_zip]
    simp only [spec_FlowFault.l3, ltd (show i < v8.length by omega), cond_true, ixg hi, Option.bind_some, inr_ (show i < v8.length by omega), Int.toNat_natCast, List.getElem?_eq_getElem hv, wup hi (show g.f1.length ≤ 2000000 by omega)]
    refine Ev.bind (in_s hS _) (Ev.bind (in_s hS _) ?_)
    have next := ih (i + 1) (by omega)
    unfold okC
    cases h1 : hasI f.f3 g.f1[i].f2 <;> cases h2 : hasI f.f3 g.f1[i].f3 <;> simp only [h1, h2, Bool.not_true, Bool.not_false, Bool.and_true, Bool.and_false, Bool.true_and, Bool.false_and, Bool.or_true, Bool.true_or, Bool.false_or, cond_true, cond_false]
    · exact next
    · cases h3 : (v[i] == 0) with
      | true => simp only [Bool.true_and]; exact next
      | false => simp only [Bool.false_and]; exact Ev.ret _
    · refine Ev.bind (hr i hi).2.2.1 ?_
      cases h3 : (v[i] == tget Mr g.f1[i].f0 0) with
      | true => simp only [Bool.true_and, cond_true]; exact next
      | false => simp only [Bool.false_and, cond_false]; exact Ev.ret _
    · exact next
theorem net_l1 (hg : GOk g) (hR : FR g v M) (hS : f.f3.length ≤ 2000000) {R : Bool} (hend : ∀ Nt : List (Int × Int), (∀ id, tget Nt id 0 = nz id (g.f1.zip v)) → Ev (fun k => impl_flowOk.l2 k a b g 0 f Nt) R) :
    ∀ (n i : Nat) (Nt : List (Int × Int)), g.f1.length - i ≤ n → i ≤ g.f1.length → (∀ id, tget Nt id 0 = nz id ((g.f1.zip v).take i)) → Ev (fun k => impl_flowOk.l1 k a b g (i : Int) f Mr M Nt) (((g.f1.zip v).drop i).all (okC f.f3 Mr) && R) := by
  have hE := hg.e400
  have hzl : (g.f1.zip v).length = g.f1.length := by rw [List.length_zip, hR.1]; omega
  have fin : ∀ (i : Nat) (Nt : List (Int × Int)), ¬ i < g.f1.length → i ≤ g.f1.length → (∀ id, tget Nt id 0 = nz id ((g.f1.zip v).take i)) → Ev (fun k => impl_flowOk.l1 k a b g (i : Int) f Mr M Nt) (((g.f1.zip v).drop i).all (okC f.f3 Mr) && R) := fun i Nt h hle hN => by
    refine Ev.step ?_
    rw [List.drop_of_length_le (by omega)]
    rw [List.take_of_length_le (by omega)] at hN
    simp only [impl_flowOk.l1, ltn h, cond_false, List.all_nil, Bool.true_and]
    exact hend Nt hN
  intro n
  induction n with
  | zero => intro i Nt h hle hN; exact fin i Nt (by omega) hle hN
  | succ n ih =>
    intro i Nt h hle hN
    by_cases hi : i < g.f1.length
    case neg => exact fin i Nt hi hle hN
    have hv : i < v.length := by rw [hR.1]; exact hi
    have hx := hR.2 i hi hv
    have hb := fun id => nz_bd id _ (take_pb hR.pb i)
    have hll : ((g.f1.zip v).take i).length ≤ 400 := by rw [List.length_take, hzl]; omega
    refine Ev.step ?_
    rw [List.drop_eq_getElem_cons (by omega), List.all_cons, List.getElem_zip]
    simp only [impl_flowOk.l1, ltd hi, cond_true, ixg hi, Option.bind_some]
    refine Ev.bind (in_i hS _) (Ev.bind (in_i hS _) ?_)
    have next : Ev (fun k => impl_flowOk.j1 k a b g (i : Int) f Mr M Nt g.f1[i]) (((g.f1.zip v).drop (i + 1)).all (okC f.f3 Mr) && R) := by
      refine Ev.step ?_
      simp only [impl_flowOk.j1, wup hi (show g.f1.length ≤ 2000000 by omega)]
      refine ih (i + 1) _ (by omega) (by omega) fun id => ?_
      have b1 := hb g.f1[i].f2
      have b2 := hb g.f1[i].f3
      have b3 := hb id
      rw [← hx.1, List.take_succ_eq_append_getElem (by omega), nz_app, List.getElem_zip, mulbz]
      rw [tget_tput, tget_tput, tget_tput, hN, hN, hN]
      simp only [beq_iff_eq]
      rw [wI (n := nz g.f1[i].f2 ((g.f1.zip v).take i) + v[i]) (by omega) (by omega)]
      by_cases e1 : g.f1[i].f2 = id
      · by_cases e2 : g.f1[i].f3 = id
        · simp only [e1, e2, if_true]; rw [wI (by omega) (by omega)]; omega
        · have e2' : ¬ id = g.f1[i].f3 := fun e => e2 e.symm
          simp only [e1, e2, e2', if_true, if_false]
      · have e1' : ¬ id = g.f1[i].f2 := fun e => e1 e.symm
        by_cases e2 : g.f1[i].f3 = id
        · simp only [e1, e1', e2, if_true, if_false]; rw [wI (by omega) (by omega)]; omega
        · have e2' : ¬ id = g.f1[i].f3 := fun e => e2 e.symm
          simp only [e1, e1', e2, e2', if_false]; omega
    unfold okC
    rw [← hx.1]
    cases h1 : hasI f.f3 g.f1[i].f2 <;> cases h2 : hasI f.f3 g.f1[i].f3 <;> simp only [h1, h2, Bool.not_true, Bool.not_false, Bool.and_true, Bool.and_false, Bool.true_and, Bool.false_and, Bool.or_true, Bool.true_or, Bool.false_or, cond_true, cond_false]
    · exact next
    · cases h3 : (v[i] == 0) with
      | true => simp only [Bool.true_and]; exact next
      | false => simp only [Bool.false_and]; exact Ev.ret _
    · cases h3 : (v[i] == tget Mr g.f1[i].f0 0) with
      | true => simp only [Bool.true_and, cond_true]; exact next
      | false => simp only [Bool.false_and, cond_false]; exact Ev.ret _
    · exact next
theorem net_l2 (hN : g.f0.length ≤ 200) {Nt : List (Int × Int)} {l : List EV} (h : ∀ id, tget Nt id 0 = nz id l) : ∀ (n i : Nat), g.f0.length - i ≤ n → Ev (fun k => impl_flowOk.l2 k a b g (i : Int) f Nt) ((g.f0.drop i).all (fun x => x.f0 == a || (x.f0 == b || nz x.f0 l == 0)) && (nz a l == f.f1)) := by
  have fin : ∀ i : Nat, ¬ i < g.f0.length → Ev (fun k => impl_flowOk.l2 k a b g (i : Int) f Nt) ((g.f0.drop i).all (fun x => x.f0 == a || (x.f0 == b || nz x.f0 l == 0)) && (nz a l == f.f1)) := fun i hi => by
    refine Ev.step ?_
    rw [List.drop_of_length_le (by omega)]
    simp only [impl_flowOk.l2, ltn hi, cond_false, List.all_nil, Bool.true_and, h]
    exact Ev.ret _
  intro n
  induction n with
  | zero => intro i h; exact fin i (by omega)
  | succ n ih =>
    intro i h'
    by_cases hi : i < g.f0.length
    case neg => exact fin i hi
    refine Ev.step ?_
    rw [List.drop_eq_getElem_cons hi, List.all_cons]
    have next := ih (i + 1) (by omega)
    simp only [impl_flowOk.l2, ltd hi, cond_true, ixg hi, Option.bind_some, wup hi (show g.f0.length ≤ 2000000 by omega), h]
    cases h1 : (g.f0[i].f0 == a) with
    | true => simp only [Bool.true_or, Bool.true_and, cond_true]; exact next
    | false =>
      cases h2 : (g.f0[i].f0 == b) with
      | true => simp only [Bool.true_or, Bool.false_or, Bool.true_and, cond_true, cond_false]; exact next
      | false =>
        cases h3 : (nz g.f0[i].f0 l == 0) with
        | true => simp only [Bool.false_or, Bool.true_and, cond_true, cond_false]; exact next
        | false => simp only [Bool.false_or, Bool.false_and, cond_false]; exact Ev.ret _
theorem nodup_ids (hg : GOk g) : (gN g).Nodup := by
  unfold gN List.Nodup
  rw [List.pairwise_iff_getElem]
  intro i j hi hj hij e
  rw [List.length_map] at hi hj
  rw [List.getElem_map, List.getElem_map] at e
  have := rise_lt hg.nr j i hj hij
  omega
/-- Sums right at each node: the same on both sides. -/
theorem ok_iff (hg : GOk g) (hR : FR g v M) (ha : a ∈ gN g) (hb : b ∈ gN g) (hab : a ≠ b) : g.f0.all (fun x => sumOk a b f.f1 x.f0 (nz x.f0 (g.f1.zip v))) = (g.f0.all (fun x => x.f0 == a || (x.f0 == b || nz x.f0 (g.f1.zip v) == 0)) && (nz a (g.f1.zip v) == f.f1)) := by
  have hzl : (g.f1.zip v).length = g.f1.length := by rw [List.length_zip, hR.1]; omega
  have hE := hg.e400
  have hends : ∀ p ∈ g.f1.zip v, p.1.f2 ∈ gN g ∧ p.1.f3 ∈ gN g := fun p hp => hg.ends _ (List.of_mem_zip hp).1
  rw [Bool.eq_iff_iff, Bool.and_eq_true, List.all_eq_true, List.all_eq_true]
  constructor
  · intro h
    refine ⟨fun x hx => ?_, ?_⟩
    · have := h x hx
      unfold sumOk at this
      simp only [Bool.and_eq_true, Bool.or_eq_true] at this ⊢
      rcases this.2.2 with (h1 | h1) | h1
      · exact .inl h1
      · exact .inr (.inl h1)
      · exact .inr (.inr h1)
    · unfold gN at ha
      obtain ⟨x, hx, rfl⟩ := List.mem_map.1 ha
      have := h x hx
      unfold sumOk at this
      simp only [beq_self_eq_true, Bool.not_true, Bool.false_or, Bool.and_eq_true] at this
      exact this.1
  · rintro ⟨h1, h2⟩ x hx
    have h2' : nz a (g.f1.zip v) = f.f1 := by simpa using h2
    have htwo := nz_two (nodup_ids hg) hends ha hb hab fun u hu h3 h4 => by
      unfold gN at hu
      obtain ⟨y, hy, rfl⟩ := List.mem_map.1 hu
      have := h1 y hy
      simp only [Bool.or_eq_true, beq_iff_eq] at this
      rcases this with h5 | h5 | h5
      · exact absurd h5 h3
      · exact absurd h5 h4
      · exact h5
    have hbd := nz_bd a _ hR.pb
    have hw : IntKind.i64.wrap (0 - f.f1) = nz b (g.f1.zip v) := by
      rw [wI (by omega) (by omega)]; omega
    unfold sumOk
    rw [hw]
    have := h1 x hx
    simp only [Bool.or_eq_true, beq_iff_eq] at this
    by_cases e1 : x.f0 = a
    · have e2 : ¬ x.f0 = b := fun e => hab (e1.symm.trans e)
      simp [e1, h2', hab]
    · by_cases e2 : x.f0 = b
      · have hba : ¬ b = a := fun e => hab e.symm
        simp [e2, hba]
      · rcases this with h5 | h5 | h5
        · exact absurd h5 e1
        · exact absurd h5 e2
        · simp [e1, e2, h5]
end
theorem flow2 (g : S31) (a b : Int) (nm : ByteArray) (f : S45) (h2 : f.f2.length ≤ 2000000) (h3 : f.f3.length ≤ 2000000) : ∃ c : Bool, Ev (fun k => spec_FlowFault.f k g a b nm f) (if c then 0 else 1) ∧ Ev (fun k => impl_flowOk.f k g a b nm f) c := by
  by_cases hs : (65536 : Int) < (nm.size : Int)
  · refine ⟨false, Ev.step ?_, Ev.step ?_⟩
    · simp only [spec_FlowFault.f, decide_eq_true hs, cond_true]; exact Ev.ret _
    · simp only [impl_flowOk.f, decide_eq_true hs, cond_true]; exact Ev.ret _
  obtain ⟨c, hc, s1, s2⟩ := graphP g
  cases c with
  | false =>
    refine ⟨false, Ev.step ?_, Ev.step ?_⟩
    · simp only [spec_FlowFault.f, decide_eq_false hs, cond_false]
      refine Ev.bind s1 ?_
      simp only [Bool.false_eq_true, if_false, show ((1 : Int) == 0) = false from rfl, cond_false]; exact Ev.ret _
    · simp only [impl_flowOk.f, decide_eq_false hs, cond_false]
      refine Ev.bind s2 ?_
      simp only [cond_false]; exact Ev.ret _
  | true =>
    have hg := hc rfl
    have hN := hg.n200
    have hE := hg.e400
    have n1 := node_s (g := g) (by omega) a
    have n2 := node_i (g := g) (by omega) a
    have m1 := node_s (g := g) (by omega) b
    have m2 := node_i (g := g) (by omega) b
    have go : ∀ c : Bool, Ev (fun k => (spec_l02Node.f k g a).bind fun v6 => (bif decide (v6 < 0) then (some 1) else ((spec_l02Node.f k g b).bind fun v7 => (bif decide (v7 < 0) then (some 1) else (bif (a == b) then (some 1) else (bif (f.f0 == 0) then ((mks 0 (g.f1.length : Int) (g.f1.length : Int)).bind fun v8 => (spec_FlowFault.l0 k a b nm v8 0 g f v8)) else (some 1))))))) (if c then 0 else 1) → Ev (fun k => (impl_nodeAt.f k g a).bind fun v6 => (bif decide (v6 < 0) then (some false) else ((impl_nodeAt.f k g b).bind fun v7 => (bif decide (v7 < 0) then (some false) else (bif (a == b) then (some false) else (bif (f.f0 == 0) then ((impl_nodesOk.f k g f.f3).bind fun v8 => (bif v8 then ((slices_Contains.f k f.f3 a).bind fun v9 => (bif v9 then ((slices_Contains.f k f.f3 b).bind fun v10 => (bif v10 then (some false) else ((impl_room.f k g nm).bind fun v11 => (impl_flowOk.l0 k a b f 0 g v11 ([] : List (Int × Int)))))) else (some false))) else (some false))) else (some false))))))) c → ∃ c : Bool, Ev (fun k => spec_FlowFault.f k g a b nm f) (if c then 0 else 1) ∧ Ev (fun k => impl_flowOk.f k g a b nm f) c := fun c q1 q2 => by
      refine ⟨c, Ev.step ?_, Ev.step ?_⟩
      · simp only [spec_FlowFault.f, decide_eq_false hs, cond_false]
        refine Ev.bind s1 ?_
        simp only [if_true, show ((0 : Int) == 0) = true from rfl, cond_true]; exact q1
      · simp only [impl_flowOk.f, decide_eq_false hs, cond_false]
        refine Ev.bind s2 ?_
        simp only [cond_true]; exact q2
    rcases fnd_cases (fun e : S94 => e.f0 == a) g.f0 with ⟨ha, _, _⟩ | ⟨ia, hia, ha, _, hpa⟩
    · rw [ha] at n1 n2
      refine go false (Ev.bind n1 ?_) (Ev.bind n2 ?_) <;> simp only [show decide ((-1 : Int) < 0) = true from rfl, cond_true] <;> exact Ev.ret _
    rcases fnd_cases (fun e : S94 => e.f0 == b) g.f0 with ⟨hb, _, _⟩ | ⟨ib, hib, hb, _, hpb⟩
    · rw [ha] at n1 n2
      rw [hb] at m1 m2
      refine go false (Ev.bind n1 ?_) (Ev.bind n2 ?_)
      · simp only [show decide ((ia : Int) < 0) = false by simp, cond_false]
        refine Ev.bind m1 ?_
        simp only [show decide ((-1 : Int) < 0) = true from rfl, cond_true]; exact Ev.ret _
      · simp only [show decide ((ia : Int) < 0) = false by simp, cond_false]
        refine Ev.bind m2 ?_
        simp only [show decide ((-1 : Int) < 0) = true from rfl, cond_true]; exact Ev.ret _
    rw [ha] at n1 n2
    rw [hb] at m1 m2
    have go2 : ∀ c : Bool, Ev (fun k => (bif (a == b) then (some 1) else (bif (f.f0 == 0) then ((mks 0 (g.f1.length : Int) (g.f1.length : Int)).bind fun v8 => (spec_FlowFault.l0 k a b nm v8 0 g f v8)) else (some 1)))) (if c then 0 else 1) → Ev (fun k => (bif (a == b) then (some false) else (bif (f.f0 == 0) then ((impl_nodesOk.f k g f.f3).bind fun v8 => (bif v8 then ((slices_Contains.f k f.f3 a).bind fun v9 => (bif v9 then ((slices_Contains.f k f.f3 b).bind fun v10 => (bif v10 then (some false) else ((impl_room.f k g nm).bind fun v11 => (impl_flowOk.l0 k a b f 0 g v11 ([] : List (Int × Int)))))) else (some false))) else (some false))) else (some false)))) c → ∃ c : Bool, Ev (fun k => spec_FlowFault.f k g a b nm f) (if c then 0 else 1) ∧ Ev (fun k => impl_flowOk.f k g a b nm f) c := fun c q1 q2 => by
      refine go c (Ev.bind n1 ?_) (Ev.bind n2 ?_)
      · simp only [show decide ((ia : Int) < 0) = false by simp, cond_false]
        refine Ev.bind m1 ?_
        simp only [show decide ((ib : Int) < 0) = false by simp, cond_false]; exact q1
      · simp only [show decide ((ia : Int) < 0) = false by simp, cond_false]
        refine Ev.bind m2 ?_
        simp only [show decide ((ib : Int) < 0) = false by simp, cond_false]; exact q2
    by_cases hab : a = b
    · refine go2 false ?_ ?_ <;> simp only [show (a == b) = true by simpa using hab, cond_true] <;> exact Ev.ret _
    by_cases h0 : f.f0 = 0
    case neg => refine go2 false ?_ ?_ <;> simp only [show (a == b) = false by simpa using hab, cond_false, show (f.f0 == 0) = false by simpa using h0] <;> exact Ev.ret _
    have haN : a ∈ gN g := by unfold gN; exact List.mem_map.2 ⟨_, List.getElem_mem hia, by simpa using hpa⟩
    have hbN : b ∈ gN g := by unfold gN; exact List.mem_map.2 ⟨_, List.getElem_mem hib, by simpa using hpb⟩
    obtain ⟨Mr, r1, r2⟩ := room_ hg nm
    obtain ⟨d, d1, d2⟩ := nodes2 (g := g) (l := f.f3) (by omega) h3
    have a1 := in_s h3 a
    have a2 := in_i h3 a
    have b1 := in_s h3 b
    have b2 := in_i h3 b
    have hFR : FR g (List.replicate g.f1.length 0) [] := ⟨by simp, fun j hj hj' => by simp [tget, tfind]⟩
    -- is the side right?
    have side : ∀ {v : List Int} {W : Int}, Ev (fun k => spec_FlowFault.l3 k nm (List.replicate g.f1.length 0) 0 g f v) W → Ev (fun k => (spec_l17Nodes.f k g f.f3).bind fun v36 => (bif v36 then ((spec_l01InInts.f k f.f3 a).bind fun v37 => (bif v37 then ((spec_l01InInts.f k f.f3 b).bind fun v38 => (bif v38 then (some 1) else (spec_FlowFault.l3 k nm (List.replicate g.f1.length 0) 0 g f v))) else (some 1))) else (some 1))) (if (d && (hasI f.f3 a && !hasI f.f3 b)) then W else 1) := fun {v W} hW => by
      refine Ev.bind d1 ?_
      cases d with
      | false => simp only [cond_false, Bool.false_and]; exact Ev.ret _
      | true =>
        simp only [cond_true, Bool.true_and]
        refine Ev.bind a1 ?_
        cases hasI f.f3 a with
        | false => simp only [cond_false, Bool.false_and]; exact Ev.ret _
        | true =>
          simp only [cond_true, Bool.true_and]
          refine Ev.bind b1 ?_
          cases hasI f.f3 b with
          | true => simp only [cond_true, Bool.not_true]; exact Ev.ret _
          | false => simp only [cond_false, Bool.not_false, if_true]; exact hW
    have side' : ∀ {W : Bool}, ((d && (hasI f.f3 a && !hasI f.f3 b)) = true → Ev (fun k => impl_flowOk.l0 k a b f 0 g Mr ([] : List (Int × Int))) W) → Ev (fun k => (impl_nodesOk.f k g f.f3).bind fun v8 => (bif v8 then ((slices_Contains.f k f.f3 a).bind fun v9 => (bif v9 then ((slices_Contains.f k f.f3 b).bind fun v10 => (bif v10 then (some false) else ((impl_room.f k g nm).bind fun v11 => (impl_flowOk.l0 k a b f 0 g v11 ([] : List (Int × Int)))))) else (some false))) else (some false))) ((d && (hasI f.f3 a && !hasI f.f3 b)) && W) := fun {W} hW => by
      refine Ev.bind d2 ?_
      cases d with
      | false => simp only [cond_false, Bool.false_and]; exact Ev.ret _
      | true =>
        simp only [cond_true, Bool.true_and]
        refine Ev.bind a2 ?_
        cases g1 : hasI f.f3 a with
        | false => simp only [cond_false, Bool.false_and]; exact Ev.ret _
        | true =>
          simp only [cond_true, Bool.true_and]
          refine Ev.bind b2 ?_
          cases g2 : hasI f.f3 b with
          | true => simp only [cond_true, Bool.not_true, Bool.false_and]; exact Ev.ret _
          | false =>
            simp only [cond_false, Bool.not_false, Bool.true_and]
            exact Ev.bind r1 (hW (by rw [g1, g2]; rfl))
    have hlr : (List.replicate g.f1.length (0 : Int)).length = g.f1.length := List.length_replicate
    have pick : ∀ c : Bool, Ev (fun k => spec_FlowFault.l0 k a b nm (List.replicate g.f1.length 0) 0 g f (List.replicate g.f1.length 0)) (if c then 0 else 1) → Ev (fun k => (impl_nodesOk.f k g f.f3).bind fun v8 => (bif v8 then ((slices_Contains.f k f.f3 a).bind fun v9 => (bif v9 then ((slices_Contains.f k f.f3 b).bind fun v10 => (bif v10 then (some false) else ((impl_room.f k g nm).bind fun v11 => (impl_flowOk.l0 k a b f 0 g v11 ([] : List (Int × Int)))))) else (some false))) else (some false))) c → ∃ c : Bool, Ev (fun k => spec_FlowFault.f k g a b nm f) (if c then 0 else 1) ∧ Ev (fun k => impl_flowOk.f k g a b nm f) c := fun c q1 q2 => by
      refine go2 c ?_ ?_
      · simp only [show (a == b) = false by simpa using hab, cond_false, h0, beq_self_eq_true, cond_true, mks_ (0 : Int) (show g.f1.length ≤ 1048576 by omega), Option.bind_some]
        exact q1
      · simp only [show (a == b) = false by simpa using hab, cond_false, h0, beq_self_eq_true, cond_true]
        exact q2
    rcases flow_l0 (a := a) (b := b) (nm := nm) (f := f) (v8 := List.replicate g.f1.length 0) hg h2 hlr r2 _ 0 _ _ (Nat.le_refl _) hFR with ⟨q1, q2⟩ | ⟨v', M', hR, q1, q2⟩
    · refine pick false q1 ?_
      have := side' (W := false) fun _ => q2
      rwa [Bool.and_false] at this
    · have e3 := cut_l3 (v8 := List.replicate g.f1.length 0) (f := f) hE hR hlr h3 r2 _ 0 (Nat.le_refl _)
      rw [List.drop_zero] at e3
      have e1 := nodes_l1 (a := a) (b := b) (nm := nm) (v8 := List.replicate g.f1.length 0) (f := f) hN hE hR hlr (side e3) _ 0 (Nat.le_refl _)
      rw [List.drop_zero] at e1
      have i1 := net_l1 (a := a) (b := b) (Mr := Mr) (f := f) hg hR h3 (R := g.f0.all (fun x => x.f0 == a || (x.f0 == b || nz x.f0 (g.f1.zip v') == 0)) && (nz a (g.f1.zip v') == f.f1)) (fun Nt hNt => by
        have := net_l2 (a := a) (b := b) (f := f) hN hNt _ 0 (Nat.le_refl _)
        rwa [List.drop_zero] at this) _ 0 [] (Nat.le_refl _) (Nat.zero_le _) (fun id => by simp [tget, tfind, nz])
      rw [List.drop_zero] at i1
      rw [← ok_iff (f := f) hg hR haN hbN hab] at i1
      refine pick ((d && (hasI f.f3 a && !hasI f.f3 b)) && ((g.f1.zip v').all (okC f.f3 Mr) && g.f0.all (fun x => sumOk a b f.f1 x.f0 (nz x.f0 (g.f1.zip v'))))) ((q1 _ e1).eq ?_) (side' fun _ => q2 _ i1)
      cases (g.f0.all fun x => sumOk a b f.f1 x.f0 (nz x.f0 (g.f1.zip v'))) <;> cases ((g.f1.zip v').all (okC f.f3 Mr)) <;> cases (d && (hasI f.f3 a && !hasI f.f3 b)) <;> rfl
theorem lftF : Lft 1048576 := by unfold Lft; omega
theorem said_FnExactFlowFault (x : S24) (h : wf24 x) (a : Int) (ha : InK .i64 a) (b : Int) (hb : InK .i64 b) (nm : ByteArray) (f : S40) (hf : wf40 f) : ∃ k, laws_FnExactFlowFault.f k x a b nm f = some true := by
  refine Ev.at_ (f := fun k => laws_FnExactFlowFault.f k x a b nm f) ?_
  unfold laws_FnExactFlowFault.f
  by_cases hs : (1048576 : Int) < (nm.size : Int)
  · simp only [decide_eq_true hs, cond_true]; exact Ev.ret _
  simp only [decide_eq_false hs, cond_false]
  obtain ⟨r, h1, h2, h3⟩ := sz_Graph x h lftF
  refine Ev.bind h1 ?_
  by_cases hr : r < 0
  · simp only [decide_eq_true hr, cond_true]; exact Ev.ret _
  have hbg := h3 (by omega)
  simp only [decide_eq_false hr, cond_false]
  obtain ⟨q, q1, q2, q3⟩ := sz_Flow f hf (show Lft r by unfold Lft; omega)
  refine Ev.bind q1 ?_
  by_cases hq : q < 0
  · simp only [decide_eq_true hq, cond_true]; exact Ev.ret _
  have hbf := q3 (by omega)
  simp only [decide_eq_false hq, cond_false]
  obtain ⟨c, s1, s2⟩ := flow2 (trGraph x) a b nm (trFlow f) (by unfold trFlow; simp only [List.length_map]; have := hbf.1.1; omega) (by unfold trFlow; have := hbf.2.1.1; simp only; omega)
  have s3 : Ev (fun k => impl_FlowFault.f k (trGraph x) a b nm (trFlow f)) (if c then 0 else 1) := by
    unfold impl_FlowFault.f
    exact Ev.bind s2 (by cases c <;> exact Ev.ret _)
  refine Ev.bind (to_Graph x hbg) (Ev.bind (to_Flow f hbf) (Ev.bind s1 (Ev.bind (to_Graph x hbg) (Ev.bind (to_Flow f hbf) (Ev.bind s3 ?_)))))
  simp only [beq_self_eq_true, cond_true]
  refine Ev.bind (to_Graph x hbg) (Ev.bind (eq_Graph x hbg) ?_)
  simp only [cond_true]
  refine Ev.bind (to_Flow f hbf) (Ev.bind (eq_Flow f hbf) ?_)
  simp only [cond_true]; exact Ev.ret _
end Go.Ab
