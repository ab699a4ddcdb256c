/- Sizes, copies and comparisons of the arguments of FnExactFindBox. No condition. -/
import Derived.Test.YtkjoeomgnkfljaaGreatDoorAbH0
import Derived.Test.YtkjoeomgnkfljaaGreatDoorAbG1
namespace Go.Ab
open Go.Proofs
set_option linter.unusedVariables false
set_option linter.unusedSimpArgs false
def wf193 (x : S193) : Prop := Str x.f0 ∧ Str x.f1
def wf137 (x : S137) : Prop := (InK .i64) x.f0 ∧ (Lst Str) x.f1 ∧ (Lst wf193) x.f2
def wf139 (x : S139) : Prop := (InK .i64) x.f0 ∧ Str x.f1 ∧ (InK .i64) x.f2 ∧ (InK .i64) x.f3 ∧ (Lst wf193) x.f4
def wf24 (x : S24) : Prop := (Lst wf137) x.f0 ∧ (Lst wf139) x.f1
def bdStringS (v : (List ByteArray)) : Prop := v.length ≤ 1048576 ∧ ∀ x ∈ v, x.size ≤ 1048576
theorem sz_StringS (v : (List ByteArray)) (h : Lst Str v) {a : Int} (ha : Lft a) : Sz (fun k => laws_szStringS.f k v a) a (bdStringS v) := Sz.slice (l := laws_szStringS.l0) h.1 (fun _ _ _ => by simp only [laws_szStringS.f]) (fun hl => Sz.strs (fun _ _ _ _ => by simp only [laws_szStringS.l0]) v h.2 hl) ha
def bdField (x : S193) : Prop := x.f0.size ≤ 1048576 ∧ x.f1.size ≤ 1048576 ∧ True
theorem sz_Field (x : S193) (h : wf193 x) {a : Int} (ha : Lft a) : Sz (fun k => laws_szField.f k x a) a (bdField x) := by
  simp only [laws_szField.f]; unfold bdField
  exact Sz.len ha (fun _ h1 => Sz.len h1 (fun _ h2 => Sz.ret) h.2) h.1
def bdFieldS (v : (List S193)) : Prop := v.length ≤ 1048576 ∧ ∀ x ∈ v, bdField x
theorem sz_FieldS (v : (List S193)) (h : Lst wf193 v) {a : Int} (ha : Lft a) : Sz (fun k => laws_szFieldS.f k v a) a (bdFieldS v) := Sz.slice (l := laws_szFieldS.l0) h.1 (fun _ _ _ => by simp only [laws_szFieldS.f]) (fun hl => Sz.loop (fun _ _ _ _ => by simp only [laws_szFieldS.l0]) (fun x a hx ha => sz_Field x hx ha) v h.2 hl) ha
def bdNode (x : S137) : Prop := bdStringS x.f1 ∧ bdFieldS x.f2 ∧ True
theorem sz_Node (x : S137) (h : wf137 x) {a : Int} (ha : Lft a) : Sz (fun k => laws_szNode.f k x a) a (bdNode x) := by
  simp only [laws_szNode.f]; unfold bdNode
  exact Sz.call ha (sz_StringS _ h.2.1 ha) fun v1 h1 => Sz.call h1 (sz_FieldS _ h.2.2 h1) fun v2 h2 => Sz.ret
def bdNodeS (v : (List S137)) : Prop := v.length ≤ 1048576 ∧ ∀ x ∈ v, bdNode x
theorem sz_NodeS (v : (List S137)) (h : Lst wf137 v) {a : Int} (ha : Lft a) : Sz (fun k => laws_szNodeS.f k v a) a (bdNodeS v) := Sz.slice (l := laws_szNodeS.l0) h.1 (fun _ _ _ => by simp only [laws_szNodeS.f]) (fun hl => Sz.loop (fun _ _ _ _ => by simp only [laws_szNodeS.l0]) (fun x a hx ha => sz_Node x hx ha) v h.2 hl) ha
def bdEdge (x : S139) : Prop := x.f1.size ≤ 1048576 ∧ bdFieldS x.f4 ∧ True
theorem sz_Edge (x : S139) (h : wf139 x) {a : Int} (ha : Lft a) : Sz (fun k => laws_szEdge.f k x a) a (bdEdge x) := by
  simp only [laws_szEdge.f]; unfold bdEdge
  exact Sz.len ha (fun _ h1 => Sz.call h1 (sz_FieldS _ h.2.2.2.2 h1) fun v2 h2 => Sz.ret) h.2.1
def bdEdgeS (v : (List S139)) : Prop := v.length ≤ 1048576 ∧ ∀ x ∈ v, bdEdge x
theorem sz_EdgeS (v : (List S139)) (h : Lst wf139 v) {a : Int} (ha : Lft a) : Sz (fun k => laws_szEdgeS.f k v a) a (bdEdgeS v) := Sz.slice (l := laws_szEdgeS.l0) h.1 (fun _ _ _ => by simp only [laws_szEdgeS.f]) (fun hl => Sz.loop (fun _ _ _ _ => by simp only [laws_szEdgeS.l0]) (fun x a hx ha => sz_Edge x hx ha) v h.2 hl) ha
def bdGraph (x : S24) : Prop := bdNodeS x.f0 ∧ bdEdgeS x.f1 ∧ True
theorem sz_Graph (x : S24) (h : wf24 x) {a : Int} (ha : Lft a) : Sz (fun k => laws_szGraph.f k x a) a (bdGraph x) := by
  simp only [laws_szGraph.f]; unfold bdGraph
  exact Sz.call ha (sz_NodeS _ h.1 ha) fun v1 h1 => Sz.call h1 (sz_EdgeS _ h.2 h1) fun v2 h2 => Sz.ret
theorem to_StringS (v : (List ByteArray)) (h : bdStringS v) : Ev (fun k => laws_toStringS.f k v) v := by
  have := to_f (f := laws_toStringS.f) (l := laws_toStringS.l0) (tr := id) h.1 (fun _ _ => by simp only [laws_toStringS.f]; rfl) (to_strs (fun _ _ _ _ _ => by simp only [laws_toStringS.l0]) v h.1)
  rwa [List.map_id] at this
theorem eq_StringS (v : (List ByteArray)) (h : bdStringS v) : Ev (fun k => laws_eqStringS.f k v v) true := eq_f (l := laws_eqStringS.l0) (fun _ _ _ => by simp only [laws_eqStringS.f]) (eq_strs (fun _ _ _ _ => by simp only [laws_eqStringS.l0]) _ h.1)
def trField (x : S193) : S193 := x
theorem to_Field (x : S193) (h : bdField x) : Ev (fun k => laws_toField.f k x) (trField x) := by
  simp only [laws_toField.f, trField]; exact Ev.ret _
theorem eq_Field (x : S193) (h : bdField x) : Ev (fun k => laws_eqField.f k (trField x) (trField x)) true := by
  simp only [laws_eqField.f, trField, beq_self_eq_true, decide_true, cond_true]
  exact Ev.ret _
theorem to_FieldS (v : (List S193)) (h : bdFieldS v) : Ev (fun k => laws_toFieldS.f k v) (v.map trField) := to_f (l := laws_toFieldS.l0) h.1 (fun _ _ => by simp only [laws_toFieldS.f]; rfl) (to_loop (B := bdField) (fun _ _ _ _ _ => by simp only [laws_toFieldS.l0]) (fun x hx => to_Field x hx) v h.2 h.1)
theorem eq_FieldS (v : (List S193)) (h : bdFieldS v) : Ev (fun k => laws_eqFieldS.f k (v.map trField) (v.map trField)) true := eq_f (l := laws_eqFieldS.l0) (fun _ _ _ => by simp only [laws_eqFieldS.f]) (eq_loop (e := laws_eqField.f) (fun _ _ _ _ => by simp only [laws_eqFieldS.l0]) _ (by intro y hy; obtain ⟨x, hx, rfl⟩ := List.mem_map.1 hy; exact eq_Field x (h.2 x hx)) (by simpa using h.1))
def trNode (x : S137) : S94 := ⟨x.f0, x.f1, (x.f2.map trField)⟩
theorem to_Node (x : S137) (h : bdNode x) : Ev (fun k => laws_toNode.f k x) (trNode x) := by
  simp only [laws_toNode.f, trNode]; exact Ev.bind (to_StringS _ h.1) (Ev.bind (to_FieldS _ h.2.1) (Ev.ret _))
theorem eq_Node (x : S137) (h : bdNode x) : Ev (fun k => laws_eqNode.f k (trNode x) (trNode x)) true := by
  simp only [laws_eqNode.f, trNode, beq_self_eq_true, decide_true, cond_true]
  refine Ev.bind (eq_StringS _ h.1) ?_
  simp only [beq_self_eq_true, decide_true, cond_true]
  refine Ev.bind (eq_FieldS _ h.2.1) ?_
  simp only [beq_self_eq_true, decide_true, cond_true]
  exact Ev.ret _
theorem to_NodeS (v : (List S137)) (h : bdNodeS v) : Ev (fun k => laws_toNodeS.f k v) (v.map trNode) := to_f (l := laws_toNodeS.l0) h.1 (fun _ _ => by simp only [laws_toNodeS.f]; rfl) (to_loop (B := bdNode) (fun _ _ _ _ _ => by simp only [laws_toNodeS.l0]) (fun x hx => to_Node x hx) v h.2 h.1)
theorem eq_NodeS (v : (List S137)) (h : bdNodeS v) : Ev (fun k => laws_eqNodeS.f k (v.map trNode) (v.map trNode)) true := eq_f (l := laws_eqNodeS.l0) (fun _ _ _ => by simp only [laws_eqNodeS.f]) (eq_loop (e := laws_eqNode.f) (fun _ _ _ _ => by simp only [laws_eqNodeS.l0]) _ (by intro y hy; obtain ⟨x, hx, rfl⟩ := List.mem_map.1 hy; exact eq_Node x (h.2 x hx)) (by simpa using h.1))
def trEdge (x : S139) : S110 := ⟨x.f0, x.f1, x.f2, x.f3, (x.f4.map trField)⟩
theorem to_Edge (x : S139) (h : bdEdge x) : Ev (fun k => laws_toEdge.f k x) (trEdge x) := by
  simp only [laws_toEdge.f, trEdge]; exact Ev.bind (to_FieldS _ h.2.1) (Ev.ret _)
theorem eq_Edge (x : S139) (h : bdEdge x) : Ev (fun k => laws_eqEdge.f k (trEdge x) (trEdge x)) true := by
  simp only [laws_eqEdge.f, trEdge, beq_self_eq_true, decide_true, cond_true]
  refine Ev.bind (eq_FieldS _ h.2.1) ?_
  simp only [beq_self_eq_true, decide_true, cond_true]
  exact Ev.ret _
theorem to_EdgeS (v : (List S139)) (h : bdEdgeS v) : Ev (fun k => laws_toEdgeS.f k v) (v.map trEdge) := to_f (l := laws_toEdgeS.l0) h.1 (fun _ _ => by simp only [laws_toEdgeS.f]; rfl) (to_loop (B := bdEdge) (fun _ _ _ _ _ => by simp only [laws_toEdgeS.l0]) (fun x hx => to_Edge x hx) v h.2 h.1)
theorem eq_EdgeS (v : (List S139)) (h : bdEdgeS v) : Ev (fun k => laws_eqEdgeS.f k (v.map trEdge) (v.map trEdge)) true := eq_f (l := laws_eqEdgeS.l0) (fun _ _ _ => by simp only [laws_eqEdgeS.f]) (eq_loop (e := laws_eqEdge.f) (fun _ _ _ _ => by simp only [laws_eqEdgeS.l0]) _ (by intro y hy; obtain ⟨x, hx, rfl⟩ := List.mem_map.1 hy; exact eq_Edge x (h.2 x hx)) (by simpa using h.1))
def trGraph (x : S24) : S31 := ⟨(x.f0.map trNode), (x.f1.map trEdge)⟩
theorem to_Graph (x : S24) (h : bdGraph x) : Ev (fun k => laws_toGraph.f k x) (trGraph x) := by
  simp only [laws_toGraph.f, trGraph]; exact Ev.bind (to_NodeS _ h.1) (Ev.bind (to_EdgeS _ h.2.1) (Ev.ret _))
theorem eq_Graph (x : S24) (h : bdGraph x) : Ev (fun k => laws_eqGraph.f k (trGraph x) (trGraph x)) true := by
  simp only [laws_eqGraph.f, trGraph, beq_self_eq_true, decide_true, cond_true]
  refine Ev.bind (eq_NodeS _ h.1) ?_
  simp only [beq_self_eq_true, decide_true, cond_true]
  refine Ev.bind (eq_EdgeS _ h.2.1) ?_
  simp only [beq_self_eq_true, decide_true, cond_true]
  exact Ev.ret _
end Go.Ab
namespace Go.Ab
open Go.Proofs
set_option linter.unusedVariables false
set_option linter.unusedSimpArgs false
theorem mh_Int64S : Mh (fun k N c (w : List Int) => laws_markInt64S_bv.f k N c w) (fun k N c w => laws_heldInt64S_bv.f k N c w) :=
  Mh.of (ml := fun k N c i w => laws_markInt64S_bv.l0 k N c i w) (hl := fun k N c i w => laws_heldInt64S_bv.l0 k N c i w) (Be := 1) (by omega) (fun _ _ _ _ => by simp only [laws_markInt64S_bv.f]) (fun _ _ _ _ => by simp only [laws_heldInt64S_bv.f])
   (fun N w i c hN hw hi h0 h1 => by
    have ec0 := wm1 (a := c) (by omega) (by omega)
    have hiw : i < w.length := by omega
    refine ⟨?_, c + 1, by omega, by omega, fun R hR => ?_, fun v' R hv hR => ?_⟩
    rotate_left
    · refine Ev.step ?_
      simp only [laws_markInt64S_bv.l0, List.getElem?_eq_getElem hiw, setr_get hiw, Option.bind_some, Int.toNat_natCast, cond_true, beq_self_eq_true, decide_true, setr_two, wup hi hN, inr_ hi, ltd hi, ec0]
      exact hR
    · refine Ev.step ?_
      simp only [laws_heldInt64S_bv.l0, hv, Option.bind_some, Int.toNat_natCast, cond_true, beq_self_eq_true, decide_true, setr_two, wup hi hN, inr_ hi, ltd hi, ec0]
      exact hR)
   (fun N w i c hi => ⟨Ev.step (by simp only [laws_markInt64S_bv.l0, ltn hi, cond_false]; exact Ev.ret _), Ev.step (by simp only [laws_heldInt64S_bv.l0, ltn hi, cond_false]; exact Ev.ret _)⟩)
theorem eqb_Int64S (v : List Int) (hv : v.length ≤ 2000000) : Ev (fun k => laws_eqInt64S_bb.f k v.length v.length v v) true := by
  refine Ev.step ?_
  simp only [laws_eqInt64S_bb.f, beq_self_eq_true, cond_true]
  exact eqb_loop (l := fun k n m i v _ => laws_eqInt64S_bb.l0 k n m i v v) hv (fun i hi R hR => Ev.step (by simp only [laws_eqInt64S_bb.l0, ltd hi, cond_true, inr_ hi, Option.bind_some, Int.toNat_natCast, List.getElem?_eq_getElem hi, beq_self_eq_true, decide_true, wup hi hv]; exact hR)) (fun i hi => Ev.step (by simp only [laws_eqInt64S_bb.l0, ltn hi, cond_false]; exact Ev.ret _)) _ 0 (Nat.le_refl _)
theorem mk_StringS (v : (List ByteArray)) (h : bdStringS v) : Mk (fun k c => laws_markStringS_sv.f k v c) 1048576 := by
  generalize hu : v = u
  have hlen : u.length ≤ 1048576 := by rw [← hu]; exact h.1
  refine Mk.slice (f := laws_markStringS_sv.f) (l := fun k u c i => laws_markStringS_sv.l0 k u c i) (v := u) (Be := 1) hlen (by omega) (fun k c => by simp only [laws_markStringS_sv.f]) (fun k c i => by simp only [laws_markStringS_sv.l0]; rfl) (fun i hi c h0 h1 => ?_)
  obtain ⟨t1, q1⟩ := markText_ev (c) (by omega) (by omega)
  have ec0 := wm1 (a := c) (by omega) (by omega)
  refine ⟨c + 1, by omega, by omega, fun R hR => ?_⟩
  simp only [ixg hi, Option.bind_some, wup hi (show u.length ≤ 2000000 by omega), ec0]
  refine Ev.bind q1 ?_
  try simp only [ec0]
  exact hR
theorem mk_FieldS (v : (List S193)) (h : bdFieldS v) : Mk (fun k c => laws_markFieldS_sv.f k (v.map trField) c) 2097152 := by
  generalize hu : (v.map trField) = u
  have hlen : u.length ≤ 1048576 := by rw [← hu]; simpa using h.1
  refine Mk.slice (f := laws_markFieldS_sv.f) (l := fun k u c i => laws_markFieldS_sv.l0 k u c i) (v := u) (Be := 2) hlen (by omega) (fun k c => by simp only [laws_markFieldS_sv.f]) (fun k c i => by simp only [laws_markFieldS_sv.l0]; rfl) (fun i hi c h0 h1 => ?_)
  obtain ⟨y, hy, ey⟩ : ∃ y, bdField y ∧ u[i] = (trField y) := by
      have hm : u[i] ∈ (v.map trField) := by rw [hu]; exact List.getElem_mem hi
      obtain ⟨y, hy, e⟩ := List.mem_map.1 hm
      exact ⟨y, h.2 y hy, e.symm⟩
  obtain ⟨t1, q1⟩ := markText_ev (c) (by omega) (by omega)
  have ec0 := wm1 (a := c) (by omega) (by omega)
  obtain ⟨t2, q2⟩ := markText_ev (c + 1) (by omega) (by omega)
  have ec1 := wm1 (a := c + 1) (by omega) (by omega)
  refine ⟨c + 1 + 1, by omega, by omega, fun R hR => ?_⟩
  simp only [ixg hi, Option.bind_some, wup hi (show u.length ≤ 2000000 by omega), ey, ec0, ec1]
  refine Ev.bind q1 ?_
  refine Ev.bind q2 ?_
  try simp only [ec0, ec1]
  exact hR
theorem mk_NodeS (v : (List S137)) (h : bdNodeS v) : Mk (fun k c => laws_markNodeS_sv.f k (v.map trNode) c) 3298535931904 := by
  generalize hu : (v.map trNode) = u
  have hlen : u.length ≤ 1048576 := by rw [← hu]; simpa using h.1
  refine Mk.slice (f := laws_markNodeS_sv.f) (l := fun k u c i => laws_markNodeS_sv.l0 k u c i) (v := u) (Be := 3145729) hlen (by omega) (fun k c => by simp only [laws_markNodeS_sv.f]) (fun k c i => by simp only [laws_markNodeS_sv.l0]; rfl) (fun i hi c h0 h1 => ?_)
  obtain ⟨y, hy, ey⟩ : ∃ y, bdNode y ∧ u[i] = (trNode y) := by
      have hm : u[i] ∈ (v.map trNode) := by rw [hu]; exact List.getElem_mem hi
      obtain ⟨y, hy, e⟩ := List.mem_map.1 hm
      exact ⟨y, h.2 y hy, e.symm⟩
  have ec0 := wm1 (a := c) (by omega) (by omega)
  obtain ⟨r1, q1, l1, u1⟩ := mk_StringS _ hy.1 (c + 1) (by omega) (by omega)
  obtain ⟨r2, q2, l2, u2⟩ := mk_FieldS _ hy.2.1 (r1) (by omega) (by omega)
  refine ⟨r2, by omega, by omega, fun R hR => ?_⟩
  simp only [ixg hi, Option.bind_some, wup hi (show u.length ≤ 2000000 by omega), ey, ec0]
  refine Ev.bind q1 ?_
  refine Ev.bind q2 ?_
  try simp only [ec0]
  exact hR
theorem mk_EdgeS (v : (List S139)) (h : bdEdgeS v) : Mk (fun k c => laws_markEdgeS_sv.f k (v.map trEdge) c) 2199027449856 := by
  generalize hu : (v.map trEdge) = u
  have hlen : u.length ≤ 1048576 := by rw [← hu]; simpa using h.1
  refine Mk.slice (f := laws_markEdgeS_sv.f) (l := fun k u c i => laws_markEdgeS_sv.l0 k u c i) (v := u) (Be := 2097156) hlen (by omega) (fun k c => by simp only [laws_markEdgeS_sv.f]) (fun k c i => by simp only [laws_markEdgeS_sv.l0]; rfl) (fun i hi c h0 h1 => ?_)
  obtain ⟨y, hy, ey⟩ : ∃ y, bdEdge y ∧ u[i] = (trEdge y) := by
      have hm : u[i] ∈ (v.map trEdge) := by rw [hu]; exact List.getElem_mem hi
      obtain ⟨y, hy, e⟩ := List.mem_map.1 hm
      exact ⟨y, h.2 y hy, e.symm⟩
  have ec0 := wm1 (a := c) (by omega) (by omega)
  obtain ⟨t1, q1⟩ := markText_ev (c + 1) (by omega) (by omega)
  have ec1 := wm1 (a := c + 1) (by omega) (by omega)
  have ec2 := wm1 (a := c + 1 + 1) (by omega) (by omega)
  have ec3 := wm1 (a := c + 1 + 1 + 1) (by omega) (by omega)
  obtain ⟨r2, q2, l2, u2⟩ := mk_FieldS _ hy.2.1 (c + 1 + 1 + 1 + 1) (by omega) (by omega)
  refine ⟨r2, by omega, by omega, fun R hR => ?_⟩
  simp only [ixg hi, Option.bind_some, wup hi (show u.length ≤ 2000000 by omega), ey, ec0, ec1, ec2, ec3]
  refine Ev.bind q1 ?_
  refine Ev.bind q2 ?_
  try simp only [ec0, ec1, ec2, ec3]
  exact hR
theorem mk_Graph (x : S24) (h : bdGraph x) : Mk (fun k c => laws_markGraph_sv.f k ((trGraph x)).f0 ((trGraph x)).f1 c) 5497563381760 := fun c h0 h1 => by
  obtain ⟨r1, q1, l1, u1⟩ := mk_NodeS _ h.1 (c) (by omega) (by omega)
  obtain ⟨r2, q2, l2, u2⟩ := mk_EdgeS _ h.2.1 (r1) (by omega) (by omega)
  refine ⟨r2, ?_, by omega, by omega⟩
  simp only [laws_markGraph_sv.f]
  refine Ev.bind q1 ?_
  refine Ev.bind q2 ?_
  exact Ev.ret _
end Go.Ab
namespace Go.Ab
open Go.Proofs
set_option linter.unusedVariables false
set_option linter.unusedSimpArgs false
theorem lftO : Lft 1048576 := by unfold Lft; omega
def Pe (b : Bool) (id : Int) (e : S110) : Bool := bif b then e.f2 == id else e.f3 == id
def around (b : Bool) (id : Int) (l : List S110) : List Int := (l.filter (Pe b id)).map (·.f0)
theorem app1 {α : Type} {a : List α} {x : α} (h : a.length ≤ 1000000) : app a [x] = some (a ++ [x]) := by unfold app; rw [if_pos (by simp; omega)]
theorem around_cons (b : Bool) (id : Int) (l : List S110) (i : Nat) (h : i < l.length) : around b id (l.drop i) = (bif Pe b id l[i] then [l[i].f0] else []) ++ around b id (l.drop (i + 1)) := by
  unfold around
  rw [List.drop_eq_getElem_cons h, List.filter_cons]
  cases Pe b id l[i] <;> rfl
theorem graph_small {g : S31} (h : Ev (fun k => impl_graphOk.f k g) true) : g.f0.length ≤ 200 ∧ g.f1.length ≤ 400 := by
  have key : ¬ (200 < (g.f0.length : Int)) ∧ ¬ (400 < (g.f1.length : Int)) := by
    constructor
    · intro h1
      have : Ev (fun k => impl_graphOk.f k g) false := Ev.step (by simp only [impl_graphOk.f, decide_eq_true h1, cond_true]; exact Ev.ret _)
      cases h.uniq this
    · intro h1
      have : Ev (fun k => impl_graphOk.f k g) false := by
        refine Ev.step ?_
        simp only [impl_graphOk.f, decide_eq_true h1, cond_true]
        cases decide (200 < (g.f0.length : Int)) <;> exact Ev.ret _
      cases h.uniq this
  omega
theorem around_len (b : Bool) (id : Int) (l : List S110) : (around b id l).length ≤ l.length := by
  unfold around; rw [List.length_map]; exact List.length_filter_le _ _
end Go.Ab
namespace Go.Ab
open Go.Proofs
set_option linter.unusedVariables false
set_option linter.unusedSimpArgs false
def nullB : ByteArray := ⟨#[110, 117, 108, 108]⟩
theorem null_s (k : Nat) : spec_l01Read.f (k + 60) nullB = some ⟨0, 0, 0, ⟨#[]⟩, [], []⟩ := rfl
theorem fld2 {l : List S193} (hl : l.length ≤ 2000000) (a : ByteArray) : ∃ v, Ev (fun k => spec_l02Field.f k l a) v ∧ Ev (fun k => impl_fieldOf.f k l a) v ∧ ((∀ f ∈ l, f.f0 ≠ a) → v = nullB) := by
  have L : ∀ n i : Nat, l.length - i ≤ n → ∃ v, Ev (fun k => spec_l02Field.l0 k l a (i : Int)) v ∧ Ev (fun k => impl_fieldOf.l0 k a l (i : Int)) v ∧ ((∀ f ∈ l.drop i, f.f0 ≠ a) → v = nullB) := by
    intro n
    have fin : ∀ i : Nat, ¬ i < l.length → ∃ v, Ev (fun k => spec_l02Field.l0 k l a (i : Int)) v ∧ Ev (fun k => impl_fieldOf.l0 k a l (i : Int)) v ∧ ((∀ f ∈ l.drop i, f.f0 ≠ a) → v = nullB) := fun i hi => by
      refine ⟨nullB, Ev.step ?_, Ev.step ?_, fun _ => rfl⟩
      · simp only [spec_l02Field.l0, ltn hi, cond_false]; exact Ev.ret _
      · simp only [impl_fieldOf.l0, ltn hi, cond_false]; exact Ev.ret _
    induction n with
    | zero => intro i h; exact fin i (by omega)
    | succ n ih =>
      intro i h
      by_cases hi : i < l.length
      case neg => exact fin i hi
      have hd := List.drop_eq_getElem_cons hi
      by_cases he : l[i].f0 = a
      · refine ⟨l[i].f1, Ev.step ?_, Ev.step ?_, fun h => absurd he (h _ (by rw [hd]; exact List.mem_cons_self ..))⟩
        · simp only [spec_l02Field.l0, ltd hi, cond_true, ixg hi, Option.bind_some, decide_eq_true he]; exact Ev.ret _
        · simp only [impl_fieldOf.l0, ltd hi, cond_true, ixg hi, Option.bind_some, decide_eq_true he]; exact Ev.ret _
      · obtain ⟨v, h1, h2, h3⟩ := ih (i + 1) (by omega)
        refine ⟨v, Ev.step ?_, Ev.step ?_, fun h => h3 fun f hf => h f (by rw [hd]; exact List.mem_cons_of_mem _ hf)⟩
        · simp only [spec_l02Field.l0, ltd hi, cond_true, ixg hi, Option.bind_some, decide_eq_false he, cond_false, wup hi hl]; exact h1
        · simp only [impl_fieldOf.l0, ltd hi, cond_true, ixg hi, Option.bind_some, decide_eq_false he, cond_false, wup hi hl]; exact h2
  obtain ⟨v, h1, h2, h3⟩ := L _ 0 (Nat.le_refl _)
  rw [List.drop_zero] at h3
  exact ⟨v, Ev.step (by simp only [spec_l02Field.f]; exact h1), Ev.step (by simp only [impl_fieldOf.f]; exact h2), h3⟩
theorem pt2 (t : ByteArray) : ∃ (sv : S157) (iv : S164), Ev (fun k => spec_l01Read.f k t) sv ∧ Ev (fun k => impl_point.f k t) (iv, sv.f0 == 5) ∧ ((sv.f0 == 5) = true → iv.f1 = sv.f1 ∧ iv.f2 = sv.f2) := by
  rcases read_ t with ⟨sv, _, h1, h2⟩ | ⟨iv, h1, h2⟩
  · refine ⟨sv, toI sv, h1, ?_, fun _ => ⟨toI_1 _, toI_2 _⟩⟩
    simp only [impl_point.f]
    refine Ev.bind h2 ?_
    simp only [cond_true, toI_0]; exact Ev.ret _
  · refine ⟨_, iv, h1, ?_, fun h => by simp at h⟩
    simp only [impl_point.f]
    refine Ev.bind h2 ?_
    simp only [cond_false]; exact Ev.ret _
/-! What a right graph's nodes are -/
theorem nodes_ok {g : S31} (hl : g.f0.length ≤ 2000000) : ∀ (n i : Nat) (tb : List (Int × Int)), g.f0.length - i ≤ n → Ev (fun k => impl_graphOk.l0 k g (i : Int) tb) true → ∀ x ∈ g.f0.drop i, Ev (fun k => impl_nodeOk.f k x) true := by
  intro n
  induction n with
  | zero => intro i tb h _ x hx; rw [List.drop_of_length_le (by omega)] at hx; cases hx
  | succ n ih =>
    intro i tb h hT x hx
    by_cases hi : i < g.f0.length
    case neg => rw [List.drop_of_length_le (by omega)] at hx; cases hx
    obtain ⟨c, _, h2⟩ := node2 g.f0[i]
    have hc : c = true := by
      cases c with
      | true => rfl
      | false =>
        have : Ev (fun k => impl_graphOk.l0 k g (i : Int) tb) false := Ev.step (by
          simp only [impl_graphOk.l0, ltd hi, cond_true, ixg hi, Option.bind_some]
          exact Ev.bind h2 (Ev.ret _))
        exact hT.uniq this ▸ rfl
    subst hc
    have hnext : Ev (fun k => impl_graphOk.l0 k g ((i + 1 : Nat) : Int) (tput tb g.f0[i].f0 1)) true := by
      obtain ⟨K1, q1⟩ := hT
      obtain ⟨K2, q2⟩ := h2
      refine ⟨max K1 K2, fun k hk => ?_⟩
      have h1 := q1 (k + 2) (by omega)
      have h2' := q2 (k + 1) (by omega)
      by_cases h0 : 0 < i
      · simp only [impl_graphOk.l0, ltd hi, cond_true, ixg hi, Option.bind_some, h2', show decide ((0 : Int) < (i : Int)) = true by simpa using h0, wdn h0 hi hl, ixg (show i - 1 < g.f0.length by omega)] at h1
        by_cases hle : g.f0[i].f0 ≤ (g.f0[i - 1]'(by omega)).f0
        · simp only [decide_eq_true hle, cond_true] at h1
          cases h1
        · simp only [decide_eq_false hle, cond_false, impl_graphOk.j0, wup hi hl] at h1
          exact h1
      · simp only [impl_graphOk.l0, ltd hi, cond_true, ixg hi, Option.bind_some, h2', show decide ((0 : Int) < (i : Int)) = false by simp; omega, cond_false, impl_graphOk.j0, wup hi hl] at h1
        exact h1
    rw [List.drop_eq_getElem_cons hi] at hx
    rcases List.mem_cons.1 hx with rfl | hx
    · exact h2
    · exact ih (i + 1) _ (by omega) hnext x hx
theorem graph_nodeOk {g : S31} (h : Ev (fun k => impl_graphOk.f k g) true) : ∀ x ∈ g.f0, Ev (fun k => impl_nodeOk.f k x) true := by
  obtain ⟨h1, h2⟩ := graph_small h
  have : Ev (fun k => impl_graphOk.l0 k g ((0 : Nat) : Int) ([] : List (Int × Int))) true := by
    obtain ⟨K, q⟩ := h
    refine ⟨K, fun k hk => ?_⟩
    have := q (k + 1) (by omega)
    simp only [impl_graphOk.f, show decide ((200 : Int) < (g.f0.length : Int)) = false by simp; omega, show decide ((400 : Int) < (g.f1.length : Int)) = false by simp; omega, cond_false] at this
    exact this
  have := nodes_ok (g := g) (by omega) _ 0 _ (Nat.le_refl _) this
  rwa [List.drop_zero] at this
theorem fields_nm {l : List S193} (hl : l.length ≤ 2000000) : ∀ n i : Nat, l.length - i ≤ n → Ev (fun k => impl_fieldsOk.l0 k l (i : Int)) true → ∀ f ∈ l.drop i, nmB f.f0 = true := by
  intro n
  induction n with
  | zero => intro i h _ x hx; rw [List.drop_of_length_le (by omega)] at hx; cases hx
  | succ n ih =>
    intro i h hT x hx
    by_cases hi : i < l.length
    case neg => rw [List.drop_of_length_le (by omega)] at hx; cases hx
    obtain ⟨c, _, hc⟩ := fields_l0' hl _ (i + 1) (Nat.le_refl _)
    obtain ⟨d, _, hd⟩ := value2 l[i].f1
    have no : ∀ {r}, Ev (fun k => impl_fieldsOk.l0 k l (i : Int)) r → r = true := fun h => h.uniq hT
    cases hn : nmB l[i].f0 with
    | false =>
      have := no (r := false) (Ev.step (by
        simp only [impl_fieldsOk.l0, ltd hi, cond_true, ixg hi, Option.bind_some]
        refine Ev.bind (inm _) ?_
        simp only [hn, cond_false]; exact Ev.ret _))
      cases this
    | true =>
      have hdc : (d = true → c = true) ∧ (d = false → False) := by
        by_cases h0 : 0 < i
        · have hs : slt (l[i - 1]'(by omega)).f0 l[i].f0 = true := by
            cases hs : slt (l[i - 1]'(by omega)).f0 l[i].f0 with
            | true => rfl
            | false =>
              have := no (r := false) (Ev.step (by
                simp only [impl_fieldsOk.l0, ltd hi, cond_true, ixg hi, Option.bind_some]
                refine Ev.bind (inm _) ?_
                simp only [hn, cond_true, show decide ((0 : Int) < (i : Int)) = true by simpa using h0, wdn h0 hi hl, ixg (show i - 1 < l.length by omega), Option.bind_some, hs, cond_false]
                exact Ev.ret _))
              cases this
          have key : ∀ r, (d = true → r = c) → (d = false → r = false) → r = true := fun r h1 h2 => no (Ev.step (by
            simp only [impl_fieldsOk.l0, ltd hi, cond_true, ixg hi, Option.bind_some]
            refine Ev.bind (inm _) ?_
            simp only [hn, cond_true, show decide ((0 : Int) < (i : Int)) = true by simpa using h0, wdn h0 hi hl, ixg (show i - 1 < l.length by omega), Option.bind_some, hs]
            refine Ev.bind hd ?_
            cases d with
            | true => simp only [cond_true, wup hi hl]; rw [h1 rfl]; exact hc
            | false => simp only [cond_false]; rw [h2 rfl]; exact Ev.ret _))
          exact ⟨fun h => key c (fun _ => rfl) (fun h' => by rw [h] at h'; cases h'), fun h => by have := key false (fun h' => by rw [h] at h'; cases h') (fun _ => rfl); cases this⟩
        · have key : ∀ r, (d = true → r = c) → (d = false → r = false) → r = true := fun r h1 h2 => no (Ev.step (by
            simp only [impl_fieldsOk.l0, ltd hi, cond_true, ixg hi, Option.bind_some]
            refine Ev.bind (inm _) ?_
            simp only [hn, cond_true, show decide ((0 : Int) < (i : Int)) = false by simp; omega, cond_false]
            refine Ev.bind hd ?_
            cases d with
            | true => simp only [cond_true, wup hi hl]; rw [h1 rfl]; exact hc
            | false => simp only [cond_false]; rw [h2 rfl]; exact Ev.ret _))
          exact ⟨fun h => key c (fun _ => rfl) (fun h' => by rw [h] at h'; cases h'), fun h => by have := key false (fun h' => by rw [h] at h'; cases h') (fun _ => rfl); cases this⟩
      have hct : c = true := by
        cases d with
        | true => exact hdc.1 rfl
        | false => exact (hdc.2 rfl).elim
      subst hct
      rw [List.drop_eq_getElem_cons hi] at hx
      rcases List.mem_cons.1 hx with rfl | hx
      · exact hn
      · exact ih (i + 1) (by omega) hc x hx
theorem node_nm {x : S94} (h : Ev (fun k => impl_nodeOk.f k x) true) : (∀ l ∈ x.f1, nmB l = true) ∧ x.f1.length ≤ 10 ∧ (∀ f ∈ x.f2, nmB f.f0 = true) ∧ x.f2.length ≤ 20 := by
  obtain ⟨c, _, hc⟩ := idOk2 x.f0
  obtain ⟨d, _, hd⟩ := fields2 x.f2
  have no : ∀ {r}, Ev (fun k => impl_nodeOk.f k x) r → r = true := fun h' => h'.uniq h
  have hct : c = true := by
    cases c with
    | true => rfl
    | false =>
      have := no (r := false) (by simp only [impl_nodeOk.f]; exact Ev.bind hc (Ev.ret _))
      cases this
  subst hct
  have hl := ilab x.f1 (m := 10) (by omega)
  have hlt : labB 10 x.f1 = true := by
    cases hb : labB 10 x.f1 with
    | true => rfl
    | false =>
      have := no (r := false) (by
        simp only [impl_nodeOk.f]
        refine Ev.bind hc ?_
        simp only [cond_true]
        refine Ev.bind hl ?_
        rw [hb]; exact Ev.ret _)
      cases this
  have hdt : d = true := no (by
    simp only [impl_nodeOk.f]
    refine Ev.bind hc ?_
    simp only [cond_true]
    refine Ev.bind hl ?_
    rw [hlt]
    exact Ev.bind hd (Ev.ret _))
  subst hdt
  simp only [labB, Bool.and_eq_true, decide_eq_true_eq, List.all_eq_true] at hlt
  have h20 : x.f2.length ≤ 20 := by
    rcases Nat.lt_or_ge 20 x.f2.length with h' | h'
    · have : Ev (fun k => impl_fieldsOk.f k x.f2) false := Ev.step (by
        simp only [impl_fieldsOk.f, show decide ((20 : Int) < (x.f2.length : Int)) = true by simp; omega, cond_true]; exact Ev.ret _)
      cases hd.uniq this
    · exact h'
  refine ⟨hlt.2.1, hlt.1, ?_, h20⟩
  have : Ev (fun k => impl_fieldsOk.l0 k x.f2 ((0 : Nat) : Int)) true := by
    obtain ⟨K, q⟩ := hd
    refine ⟨K, fun k hk => ?_⟩
    have := q (k + 1) (by omega)
    simp only [impl_fieldsOk.f, show decide ((20 : Int) < (x.f2.length : Int)) = false by simp; omega, cond_false] at this
    exact this
  have := fields_nm (l := x.f2) (by omega) _ 0 (Nat.le_refl _) this
  rwa [List.drop_zero] at this
/-! The box -/
def inB (v a b : Int) : Bool := decide (min a b ≤ v) && decide (v ≤ max a b)
theorem betw_ (k : Nat) (v a b : Int) : spec_l05Between.f k v a b = some (inB v a b) := by
  have h1 : spec_l01Min.f k a b = some (min a b) := by
    unfold spec_l01Min.f
    by_cases h : a < b
    · rw [decide_eq_true h, cond_true]; congr 1; omega
    · rw [decide_eq_false h, cond_false]; congr 1; omega
  have h2 : spec_l01Max.f k a b = some (max a b) := by
    unfold spec_l01Max.f
    by_cases h : b < a
    · rw [decide_eq_true h, cond_true]; congr 1; omega
    · rw [decide_eq_false h, cond_false]; congr 1; omega
  unfold spec_l05Between.f inB
  rw [h1, h2]
  simp only [Option.bind_some]
  cases decide (min a b ≤ v) <;> rfl
def hit (x y v : S157) : Bool := (v.f0 == 5) && (inB v.f1 x.f1 y.f1 && inB v.f2 x.f2 y.f2)
theorem lab_s {g : S31} (hl : g.f0.length ≤ 200) (hn : ∀ x ∈ g.f0, x.f1.length ≤ 2000000) (a : ByteArray) : ∀ (n i : Nat) (o : List S94), g.f0.length - i ≤ n → o.length ≤ i → Ev (fun k => spec_l05Labelled.l0 k a o (i : Int) g) (o ++ (g.f0.drop i).filter (fun x => has x.f1 a)) := by
  intro n
  have fin : ∀ (i : Nat) (o : List S94), ¬ i < g.f0.length → Ev (fun k => spec_l05Labelled.l0 k a o (i : Int) g) (o ++ (g.f0.drop i).filter (fun x => has x.f1 a)) := fun i o hi => by
    refine Ev.step ?_
    rw [List.drop_of_length_le (by omega)]
    simp only [spec_l05Labelled.l0, ltn hi, cond_false, List.filter_nil, List.append_nil]
    exact Ev.ret _
  induction n with
  | zero => intro i o h _; exact fin i o (by omega)
  | succ n ih =>
    intro i o h ho
    by_cases hi : i < g.f0.length
    case neg => exact fin i o hi
    refine Ev.step ?_
    rw [List.drop_eq_getElem_cons hi, List.filter_cons]
    simp only [spec_l05Labelled.l0, ltd hi, cond_true, ixg hi, Option.bind_some, wup hi (show g.f0.length ≤ 2000000 by omega)]
    refine Ev.bind (smem (by have := hn _ (List.getElem_mem hi); omega) a) ?_
    cases has g.f0[i].f1 a with
    | true =>
      simp only [cond_true, if_true]
      rw [app1 (by omega)]
      simp only [Option.bind_some]
      refine (ih (i + 1) (o ++ [g.f0[i]]) (by omega) (by simp; omega)).eq (by simp)
    | false =>
      simp only [cond_false, Bool.false_eq_true, if_false]
      exact ih (i + 1) o (by omega) (by omega)
theorem box_s {L : List S94} (hl : L.length ≤ 200) (hf : ∀ x ∈ L, x.f2.length ≤ 2000000) (nm : ByteArray) {fv : List S193 → ByteArray} (hfv : ∀ l : List S193, l.length ≤ 2000000 → Ev (fun k => spec_l02Field.f k l nm) (fv l)) {rd : ByteArray → S157} (hrd : ∀ t, Ev (fun k => spec_l01Read.f k t) (rd t)) (x y : S157) :
  ∀ (n i : Nat) (o : List Int), L.length - i ≤ n → o.length ≤ i → Ev (fun k => spec_FindBox_O.l0 k nm o L (i : Int) x y) (o ++ ((L.drop i).filter (fun z => hit x y (rd (fv z.f2)))).map (·.f0)) := by
  intro n
  have fin : ∀ (i : Nat) (o : List Int), ¬ i < L.length → Ev (fun k => spec_FindBox_O.l0 k nm o L (i : Int) x y) (o ++ ((L.drop i).filter (fun z => hit x y (rd (fv z.f2)))).map (·.f0)) := fun i o hi => by
    refine Ev.step ?_
    rw [List.drop_of_length_le (by omega)]
    simp only [spec_FindBox_O.l0, ltn hi, cond_false, List.filter_nil, List.map_nil, List.append_nil]
    exact Ev.ret _
  induction n with
  | zero => intro i o h _; exact fin i o (by omega)
  | succ n ih =>
    intro i o h ho
    by_cases hi : i < L.length
    case neg => exact fin i o hi
    have g1 := ih (i + 1) o (by omega) (by omega)
    have g2 := ih (i + 1) (o ++ [L[i].f0]) (by omega) (by simp; omega)
    refine Ev.step ?_
    rw [List.drop_eq_getElem_cons hi, List.filter_cons]
    simp only [spec_FindBox_O.l0, ltd hi, cond_true, ixg hi, Option.bind_some, wup hi (show L.length ≤ 2000000 by omega), betw_]
    refine Ev.bind (hfv _ (hf _ (List.getElem_mem hi))) (Ev.bind (hrd _) ?_)
    rw [app1 (by omega)]
    unfold hit
    cases ((rd (fv L[i].f2)).f0 == 5) with
    | false => simp only [cond_false, Bool.false_and, Bool.false_eq_true, if_false]; exact g1
    | true =>
      cases inB (rd (fv L[i].f2)).f1 x.f1 y.f1 with
      | false => simp only [cond_true, cond_false, Bool.true_and, Bool.false_and, Bool.false_eq_true, if_false]; exact g1
      | true =>
        cases inB (rd (fv L[i].f2)).f2 x.f2 y.f2 with
        | false => simp only [cond_true, cond_false, Bool.true_and, Bool.false_eq_true, if_false]; exact g1
        | true =>
          simp only [cond_true, Bool.true_and, if_true, Option.bind_some]
          exact g2.eq (by simp [hit])
theorem box_i {g : S31} (hl : g.f0.length ≤ 200) (hf : ∀ x ∈ g.f0, x.f2.length ≤ 2000000 ∧ x.f1.length ≤ 2000000) (lb nm : ByteArray) {fv : List S193 → ByteArray} (hfv : ∀ l : List S193, l.length ≤ 2000000 → Ev (fun k => impl_fieldOf.f k l nm) (fv l)) {rd : ByteArray → S157} {pt : ByteArray → S164} (hpt : ∀ t, Ev (fun k => impl_point.f k t) (pt t, (rd t).f0 == 5) ∧ (((rd t).f0 == 5) = true → (pt t).f1 = (rd t).f1 ∧ (pt t).f2 = (rd t).f2)) {x y : S157} {p q : S164 × Bool} (hp : p.1.f1 = x.f1 ∧ p.1.f2 = x.f2) (hq : q.1.f1 = y.f1 ∧ q.1.f2 = y.f2) :
  ∀ (n i : Nat) (o : List Int), g.f0.length - i ≤ n → o.length ≤ i → Ev (fun k => impl_FindBox_O.l0 k lb nm o g (i : Int) p q) (o ++ ((g.f0.drop i).filter (fun z => has z.f1 lb && hit x y (rd (fv z.f2)))).map (·.f0)) := by
  intro n
  have fin : ∀ (i : Nat) (o : List Int), ¬ i < g.f0.length → Ev (fun k => impl_FindBox_O.l0 k lb nm o g (i : Int) p q) (o ++ ((g.f0.drop i).filter (fun z => has z.f1 lb && hit x y (rd (fv z.f2)))).map (·.f0)) := fun i o hi => by
    refine Ev.step ?_
    rw [List.drop_of_length_le (by omega)]
    simp only [impl_FindBox_O.l0, ltn hi, cond_false, List.filter_nil, List.map_nil, List.append_nil]
    exact Ev.ret _
  induction n with
  | zero => intro i o h _; exact fin i o (by omega)
  | succ n ih =>
    intro i o h ho
    by_cases hi : i < g.f0.length
    case neg => exact fin i o hi
    have hm := List.getElem_mem hi
    have g1 := ih (i + 1) o (by omega) (by omega)
    have g2 := ih (i + 1) (o ++ [g.f0[i].f0]) (by omega) (by simp; omega)
    refine Ev.step ?_
    rw [List.drop_eq_getElem_cons hi, List.filter_cons]
    obtain ⟨h1, h2⟩ := hpt (fv g.f0[i].f2)
    simp only [impl_FindBox_O.l0, ltd hi, cond_true, ixg hi, Option.bind_some, wup hi (show g.f0.length ≤ 2000000 by omega), hp.1, hp.2, hq.1, hq.2]
    refine Ev.bind (hfv _ (hf _ hm).1) (Ev.bind h1 ?_)
    refine Ev.bind (by simp only [impl_hasLabel.f]; exact Ev.bind (imem (by have := (hf _ hm).2; omega) lb) (Ev.ret _)) ?_
    rw [app1 (by omega)]
    unfold hit inB
    cases has g.f0[i].f1 lb with
    | false => simp only [cond_false, Bool.false_and, Bool.false_eq_true, if_false]; exact g1
    | true =>
      cases hk : ((rd (fv g.f0[i].f2)).f0 == 5) with
      | false => simp only [cond_true, cond_false, Bool.true_and, Bool.false_and, Bool.false_eq_true, if_false]; exact g1
      | true =>
        obtain ⟨e1, e2⟩ := h2 hk
        simp only [e1, e2, cond_true, Bool.true_and]
        cases decide (min x.f1 y.f1 ≤ (rd (fv g.f0[i].f2)).f1) <;> cases decide ((rd (fv g.f0[i].f2)).f1 ≤ max x.f1 y.f1) <;> cases decide (min x.f2 y.f2 ≤ (rd (fv g.f0[i].f2)).f2) <;> cases decide ((rd (fv g.f0[i].f2)).f2 ≤ max x.f2 y.f2) <;>
          simp only [cond_true, cond_false, Bool.true_and, Bool.and_true, Bool.false_and, Bool.and_false, Bool.false_eq_true, if_false, if_true, Option.bind_some] <;> first | exact g1 | exact g2.eq (by simp [hit, inB])
theorem box2 (g : S31) (lb nm a b : ByteArray) : ∃ R, R.length ≤ 2000000 ∧ Ev (fun k => spec_FindBox_O.f k g lb nm a b) R ∧ Ev (fun k => impl_FindBox_O.f k g lb nm a b) R := by
  obtain ⟨rd, hrd⟩ := Classical.axiomOfChoice pt2
  obtain ⟨pt, hpt⟩ := Classical.axiomOfChoice hrd
  have hf2 : ∀ l : List S193, ∃ v, l.length ≤ 2000000 → Ev (fun k => spec_l02Field.f k l nm) v ∧ Ev (fun k => impl_fieldOf.f k l nm) v ∧ ((∀ f ∈ l, f.f0 ≠ nm) → v = nullB) := fun l => by
    by_cases h : l.length ≤ 2000000
    · obtain ⟨v, hv⟩ := fld2 h nm
      exact ⟨v, fun _ => hv⟩
    · exact ⟨nullB, fun h' => absurd h' h⟩
  obtain ⟨fv, hfv⟩ := Classical.axiomOfChoice hf2
  have sA := (hpt a).1
  have sB := (hpt b).1
  have iA := (hpt a).2.1
  have iB := (hpt b).2.1
  obtain ⟨c, s1, s2⟩ := graph2 g
  have sempty : (65536 < lb.size ∨ 65536 < nm.size ∨ c = false ∨ ((rd a).f0 == 5) = false ∨ ((rd b).f0 == 5) = false) → Ev (fun k => spec_FindBox_O.f k g lb nm a b) [] := fun h => by
    refine Ev.step ?_
    simp only [spec_FindBox_O.f]
    refine Ev.bind sA (Ev.bind sB ?_)
    by_cases h1 : 65536 < lb.size
    · simp only [show decide ((65536 : Int) < (lb.size : Int)) = true by simp; omega, cond_true]; exact Ev.ret _
    simp only [show decide ((65536 : Int) < (lb.size : Int)) = false by simp; omega, cond_false]
    by_cases h2 : 65536 < nm.size
    · simp only [show decide ((65536 : Int) < (nm.size : Int)) = true by simp; omega, cond_true]; exact Ev.ret _
    simp only [show decide ((65536 : Int) < (nm.size : Int)) = false by simp; omega, cond_false]
    refine Ev.bind s1 ?_
    cases c with
    | false => exact Ev.ret _
    | true =>
      simp only [if_true, beq_self_eq_true, cond_true]
      cases h3 : ((rd a).f0 == 5) with
      | false => exact Ev.ret _
      | true =>
        cases h4 : ((rd b).f0 == 5) with
        | false => exact Ev.ret _
        | true =>
          rcases h with h | h | h | h | h
          · exact absurd h h1
          · exact absurd h h2
          · cases h
          · rw [h3] at h; cases h
          · rw [h4] at h; cases h
  have iempty : (((rd a).f0 == 5) = false ∨ ((rd b).f0 == 5) = false ∨ nmB lb = false ∨ nmB nm = false ∨ c = false) → Ev (fun k => impl_FindBox_O.f k g lb nm a b) [] := fun h => by
    refine Ev.step ?_
    simp only [impl_FindBox_O.f]
    refine Ev.bind iA (Ev.bind iB ?_)
    cases h3 : ((rd a).f0 == 5) with
    | false => exact Ev.ret _
    | true =>
      cases h4 : ((rd b).f0 == 5) with
      | false => exact Ev.ret _
      | true =>
        simp only [cond_true]
        refine Ev.bind (inm _) ?_
        cases h5 : nmB lb with
        | false => exact Ev.ret _
        | true =>
          simp only [cond_true]
          refine Ev.bind (inm _) ?_
          cases h6 : nmB nm with
          | false => exact Ev.ret _
          | true =>
            simp only [cond_true]
            refine Ev.bind s2 ?_
            cases c with
            | false => exact Ev.ret _
            | true =>
              rcases h with h | h | h | h | h
              · rw [h3] at h; cases h
              · rw [h4] at h; cases h
              · rw [h5] at h; cases h
              · rw [h6] at h; cases h
              · cases h
  cases hc : c with
  | false => exact ⟨[], by simp, sempty (by simp [hc]), iempty (by simp [hc])⟩
  | true =>
    subst hc
    cases hA : ((rd a).f0 == 5) with
    | false => exact ⟨[], by simp, sempty (by simp [hA]), iempty (by simp [hA])⟩
    | true =>
      cases hB : ((rd b).f0 == 5) with
      | false => exact ⟨[], by simp, sempty (by simp [hB]), iempty (by simp [hB])⟩
      | true =>
        have hsm := (graph_small s2).1
        have hno := fun x hx => node_nm (graph_nodeOk s2 x hx)
        have hfl : ∀ x ∈ g.f0, x.f2.length ≤ 2000000 ∧ x.f1.length ≤ 2000000 := fun x hx => by have := hno x hx; omega
        have hsp : lb.size ≤ 65536 → nm.size ≤ 65536 → Ev (fun k => spec_FindBox_O.f k g lb nm a b) (((g.f0.filter (fun x => has x.f1 lb)).filter (fun z => hit (rd a) (rd b) (rd (fv z.f2)))).map (·.f0)) := fun h1 h2 => by
          refine Ev.step ?_
          simp only [spec_FindBox_O.f]
          refine Ev.bind sA (Ev.bind sB ?_)
          simp only [show decide ((65536 : Int) < (lb.size : Int)) = false by simp; omega, show decide ((65536 : Int) < (nm.size : Int)) = false by simp; omega, cond_false]
          refine Ev.bind s1 ?_
          simp only [if_true, beq_self_eq_true, cond_true, hA, hB]
          have hL : Ev (fun k => spec_l05Labelled.f k g lb) (g.f0.filter (fun x => has x.f1 lb)) := Ev.step (by
            simp only [spec_l05Labelled.f]
            have := lab_s hsm (fun x hx => (hfl x hx).2) lb _ 0 [] (Nat.le_refl _) (Nat.le_refl _)
            rw [List.drop_zero, List.nil_append] at this
            exact this)
          refine Ev.bind hL ?_
          have hlen : (g.f0.filter (fun x => has x.f1 lb)).length ≤ 200 := Nat.le_trans (List.length_filter_le ..) hsm
          have := box_s hlen (fun x hx => (hfl x (List.mem_filter.1 hx).1).1) nm (fun l hl => (hfv l hl).1) (fun t => (hpt t).1) (rd a) (rd b) _ 0 [] (Nat.le_refl _) (Nat.le_refl _)
          rw [List.drop_zero, List.nil_append] at this
          exact this
        have hlen2 : (((g.f0.filter (fun x => has x.f1 lb)).filter (fun z => hit (rd a) (rd b) (rd (fv z.f2)))).map (·.f0)).length ≤ 2000000 := by
          rw [List.length_map]
          exact Nat.le_trans (List.length_filter_le ..) (Nat.le_trans (List.length_filter_le ..) (by omega))
        have szn : ∀ {s : ByteArray}, nmB s = true → s.size ≤ 65536 := fun {s} h => by
          simp only [nmB, nameOk, Bool.and_eq_true, decide_eq_true_eq] at h
          rw [size_list]; omega
        cases h5 : nmB lb with
        | false =>
          refine ⟨[], by simp, ?_, iempty (by simp [h5])⟩
          by_cases h1 : 65536 < lb.size
          · exact sempty (.inl h1)
          by_cases h2 : 65536 < nm.size
          · exact sempty (.inr (.inl h2))
          refine (hsp (by omega) (by omega)).eq ?_
          have : g.f0.filter (fun x => has x.f1 lb) = [] := List.filter_eq_nil_iff.2 fun x hx hh => by
            have := (hno x hx).1 lb (has_iff.1 hh)
            rw [h5] at this; cases this
          rw [this]; rfl
        | true =>
          cases h6 : nmB nm with
          | false =>
            refine ⟨[], by simp, ?_, iempty (by simp [h6])⟩
            by_cases h2 : 65536 < nm.size
            · exact sempty (.inr (.inl h2))
            refine (hsp (szn h5) (by omega)).eq ?_
            have hnul : rd nullB = ⟨0, 0, 0, ⟨#[]⟩, [], []⟩ := ((hpt nullB).1).uniq ⟨60, fun k hk => by
              obtain ⟨j, rfl⟩ : ∃ j, k = j + 60 := ⟨k - 60, by omega⟩
              exact null_s j⟩
            have : (g.f0.filter (fun x => has x.f1 lb)).filter (fun z => hit (rd a) (rd b) (rd (fv z.f2))) = [] := List.filter_eq_nil_iff.2 fun x hx hh => by
              have hx' := (List.mem_filter.1 hx).1
              have hv := (hfv x.f2 (hfl x hx').1).2.2 fun f hf e => by
                have := (hno x hx').2.2.1 f hf
                rw [e, h6] at this; cases this
              rw [hv, hnul] at hh
              simp [hit] at hh
            rw [this]; rfl
          | true =>
            refine ⟨_, hlen2, hsp (szn h5) (szn h6), Ev.step ?_⟩
            simp only [impl_FindBox_O.f]
            refine Ev.bind iA (Ev.bind iB ?_)
            simp only [hA, hB, cond_true]
            refine Ev.bind (inm _) ?_
            simp only [h5, cond_true]
            refine Ev.bind (inm _) ?_
            simp only [h6, cond_true]
            refine Ev.bind s2 ?_
            simp only [cond_true]
            have := box_i hsm hfl lb nm (fun l hl => (hfv l hl).2.1) (rd := rd) (pt := pt) (fun t => (hpt t).2) (x := rd a) (y := rd b) (p := (pt a, true)) (q := (pt b, true)) ((hpt a).2.2 hA) ((hpt b).2.2 hB) _ 0 [] (Nat.le_refl _) (Nat.le_refl _)
            rw [List.drop_zero, List.nil_append] at this
            refine this.eq ?_
            rw [List.filter_filter]
            congr 1
            refine List.filter_congr fun x _ => ?_
            rw [Bool.and_comm]
theorem said_FnExactFindBox (x : S24) (h : wf24 x) (lb nm a b : ByteArray) : ∃ k, laws_FnExactFindBox.f k x lb nm a b = some true := by
  refine Ev.at_ (f := fun k => laws_FnExactFindBox.f k x lb nm a b) ?_
  unfold laws_FnExactFindBox.f
  by_cases z1 : (1048576 : Int) < (lb.size : Int)
  · simp only [decide_eq_true z1, cond_true]; exact Ev.ret _
  by_cases z2 : (1048576 : Int) < (nm.size : Int)
  · simp only [decide_eq_false z1, cond_false, decide_eq_true z2, cond_true]; exact Ev.ret _
  by_cases z3 : (1048576 : Int) < (a.size : Int)
  · simp only [decide_eq_false z1, decide_eq_false z2, cond_false, decide_eq_true z3, cond_true]; exact Ev.ret _
  by_cases z4 : (1048576 : Int) < (b.size : Int)
  · simp only [decide_eq_false z1, decide_eq_false z2, decide_eq_false z3, cond_false, decide_eq_true z4, cond_true]; exact Ev.ret _
  simp only [decide_eq_false z1, decide_eq_false z2, decide_eq_false z3, decide_eq_false z4, cond_false]
  obtain ⟨r, h1, h2, h3⟩ := sz_Graph x h lftO
  refine Ev.bind h1 ?_
  by_cases hr : r < 0
  · simp only [decide_eq_true hr, cond_true]; exact Ev.ret _
  have hb := h3 (by omega)
  obtain ⟨R, hR, s1, s2⟩ := box2 (trGraph x) lb nm a b
  obtain ⟨m, m1, m2, m3⟩ := mk_Graph x hb 1 (by omega) (by omega)
  obtain ⟨v', q, q1, q2, q3⟩ := mh_Int64S R 1 hR (by omega) (by omega)
  have e := eqb_Int64S R hR
  simp only [decide_eq_false hr, cond_false]
  refine Ev.bind (to_Graph x hb) (Ev.bind s1 (Ev.bind (to_Graph x hb) (Ev.bind s2 (Ev.bind e ?_))))
  simp only [cond_true]
  refine Ev.bind (to_Graph x hb) (Ev.bind (eq_Graph x hb) ?_)
  simp only [cond_true]
  refine Ev.bind m1 ?_
  simp only [decide_eq_false (show ¬ m < 0 by omega), cond_false]
  refine Ev.bind e ?_
  simp only [cond_true]
  refine Ev.bind q2 (Ev.bind q3 ?_)
  simp only [decide_eq_false (show ¬ q < 0 by omega), cond_false, beq_self_eq_true, cond_true]
  refine Ev.bind (to_Graph x hb) (Ev.bind s2 (Ev.bind e ?_))
  simp only [cond_true]
  refine Ev.bind q3 ?_
  simp only [decide_eq_false (show ¬ q < 0 by omega), cond_false, beq_self_eq_true, cond_true]
  exact Ev.ret _
end Go.Ab
