/- Sizes, copies and comparisons of the arguments of FnExactGraphFault, FnExactIndexFault, FnExactFindFirst, FnExactOutOf, FnExactInOf, FnExactFindRange. No condition. -/
import Derived.Test.YtfjckgcbgepndaaGreatDoorAbH0
import Derived.Test.YtfjckgcbgepndaaGreatDoorAbG1
namespace Go.Ab
open Go.Proofs
set_option linter.unusedVariables false
set_option linter.unusedSimpArgs false
def wf178 (x : S178) : Prop := Str x.f0 ∧ Str x.f1
def wf145 (x : S145) : Prop := (InK .i64) x.f0 ∧ (Lst Str) x.f1 ∧ (Lst wf178) x.f2
def wf148 (x : S148) : Prop := (InK .i64) x.f0 ∧ Str x.f1 ∧ (InK .i64) x.f2 ∧ (InK .i64) x.f3 ∧ (Lst wf178) x.f4
def wf43 (x : S43) : Prop := (Lst wf145) x.f0 ∧ (Lst wf148) x.f1
def bdStringS (v : (List ByteArray)) : Prop := v.length ≤ 1048576 ∧ ∀ x ∈ v, x.size ≤ 1048576
theorem sz_StringS (v : (List ByteArray)) (h : Lst Str v) {a : Int} (ha : Lft a) : Sz (fun k => laws_szStringS.f k v a) a (bdStringS v) := Sz.slice (l := laws_szStringS.l0) h.1 (fun _ _ _ => by simp only [laws_szStringS.f]) (fun hl => Sz.strs (fun _ _ _ _ => by simp only [laws_szStringS.l0]) v h.2 hl) ha
def bdField (x : S178) : Prop := x.f0.size ≤ 1048576 ∧ x.f1.size ≤ 1048576 ∧ True
theorem sz_Field (x : S178) (h : wf178 x) {a : Int} (ha : Lft a) : Sz (fun k => laws_szField.f k x a) a (bdField x) := by
  simp only [laws_szField.f]; unfold bdField
  exact Sz.len ha (fun _ h1 => Sz.len h1 (fun _ h2 => Sz.ret) h.2) h.1
def bdFieldS (v : (List S178)) : Prop := v.length ≤ 1048576 ∧ ∀ x ∈ v, bdField x
theorem sz_FieldS (v : (List S178)) (h : Lst wf178 v) {a : Int} (ha : Lft a) : Sz (fun k => laws_szFieldS.f k v a) a (bdFieldS v) := Sz.slice (l := laws_szFieldS.l0) h.1 (fun _ _ _ => by simp only [laws_szFieldS.f]) (fun hl => Sz.loop (fun _ _ _ _ => by simp only [laws_szFieldS.l0]) (fun x a hx ha => sz_Field x hx ha) v h.2 hl) ha
def bdNode (x : S145) : Prop := bdStringS x.f1 ∧ bdFieldS x.f2 ∧ True
theorem sz_Node (x : S145) (h : wf145 x) {a : Int} (ha : Lft a) : Sz (fun k => laws_szNode.f k x a) a (bdNode x) := by
  simp only [laws_szNode.f]; unfold bdNode
  exact Sz.call ha (sz_StringS _ h.2.1 ha) fun v1 h1 => Sz.call h1 (sz_FieldS _ h.2.2 h1) fun v2 h2 => Sz.ret
def bdNodeS (v : (List S145)) : Prop := v.length ≤ 1048576 ∧ ∀ x ∈ v, bdNode x
theorem sz_NodeS (v : (List S145)) (h : Lst wf145 v) {a : Int} (ha : Lft a) : Sz (fun k => laws_szNodeS.f k v a) a (bdNodeS v) := Sz.slice (l := laws_szNodeS.l0) h.1 (fun _ _ _ => by simp only [laws_szNodeS.f]) (fun hl => Sz.loop (fun _ _ _ _ => by simp only [laws_szNodeS.l0]) (fun x a hx ha => sz_Node x hx ha) v h.2 hl) ha
def bdEdge (x : S148) : Prop := x.f1.size ≤ 1048576 ∧ bdFieldS x.f4 ∧ True
theorem sz_Edge (x : S148) (h : wf148 x) {a : Int} (ha : Lft a) : Sz (fun k => laws_szEdge.f k x a) a (bdEdge x) := by
  simp only [laws_szEdge.f]; unfold bdEdge
  exact Sz.len ha (fun _ h1 => Sz.call h1 (sz_FieldS _ h.2.2.2.2 h1) fun v2 h2 => Sz.ret) h.2.1
def bdEdgeS (v : (List S148)) : Prop := v.length ≤ 1048576 ∧ ∀ x ∈ v, bdEdge x
theorem sz_EdgeS (v : (List S148)) (h : Lst wf148 v) {a : Int} (ha : Lft a) : Sz (fun k => laws_szEdgeS.f k v a) a (bdEdgeS v) := Sz.slice (l := laws_szEdgeS.l0) h.1 (fun _ _ _ => by simp only [laws_szEdgeS.f]) (fun hl => Sz.loop (fun _ _ _ _ => by simp only [laws_szEdgeS.l0]) (fun x a hx ha => sz_Edge x hx ha) v h.2 hl) ha
def bdGraph (x : S43) : Prop := bdNodeS x.f0 ∧ bdEdgeS x.f1 ∧ True
theorem sz_Graph (x : S43) (h : wf43 x) {a : Int} (ha : Lft a) : Sz (fun k => laws_szGraph.f k x a) a (bdGraph x) := by
  simp only [laws_szGraph.f]; unfold bdGraph
  exact Sz.call ha (sz_NodeS _ h.1 ha) fun v1 h1 => Sz.call h1 (sz_EdgeS _ h.2 h1) fun v2 h2 => Sz.ret
theorem to_StringS (v : (List ByteArray)) (h : bdStringS v) : Ev (fun k => laws_toStringS.f k v) v := by
  have := to_f (f := laws_toStringS.f) (l := laws_toStringS.l0) (tr := id) h.1 (fun _ _ => by simp only [laws_toStringS.f]; rfl) (to_strs (fun _ _ _ _ _ => by simp only [laws_toStringS.l0]) v h.1)
  rwa [List.map_id] at this
theorem eq_StringS (v : (List ByteArray)) (h : bdStringS v) : Ev (fun k => laws_eqStringS.f k v v) true := eq_f (l := laws_eqStringS.l0) (fun _ _ _ => by simp only [laws_eqStringS.f]) (eq_strs (fun _ _ _ _ => by simp only [laws_eqStringS.l0]) _ h.1)
def trField (x : S178) : S178 := x
theorem to_Field (x : S178) (h : bdField x) : Ev (fun k => laws_toField.f k x) (trField x) := by
  simp only [laws_toField.f, trField]; exact Ev.ret _
theorem eq_Field (x : S178) (h : bdField x) : Ev (fun k => laws_eqField.f k (trField x) (trField x)) true := by
  simp only [laws_eqField.f, trField, beq_self_eq_true, decide_true, cond_true]
  exact Ev.ret _
theorem to_FieldS (v : (List S178)) (h : bdFieldS v) : Ev (fun k => laws_toFieldS.f k v) (v.map trField) := to_f (l := laws_toFieldS.l0) h.1 (fun _ _ => by simp only [laws_toFieldS.f]; rfl) (to_loop (B := bdField) (fun _ _ _ _ _ => by simp only [laws_toFieldS.l0]) (fun x hx => to_Field x hx) v h.2 h.1)
theorem eq_FieldS (v : (List S178)) (h : bdFieldS v) : Ev (fun k => laws_eqFieldS.f k (v.map trField) (v.map trField)) true := eq_f (l := laws_eqFieldS.l0) (fun _ _ _ => by simp only [laws_eqFieldS.f]) (eq_loop (e := laws_eqField.f) (fun _ _ _ _ => by simp only [laws_eqFieldS.l0]) _ (by intro y hy; obtain ⟨x, hx, rfl⟩ := List.mem_map.1 hy; exact eq_Field x (h.2 x hx)) (by simpa using h.1))
def trNode (x : S145) : S88 := ⟨x.f0, x.f1, (x.f2.map trField)⟩
theorem to_Node (x : S145) (h : bdNode x) : Ev (fun k => laws_toNode.f k x) (trNode x) := by
  simp only [laws_toNode.f, trNode]; exact Ev.bind (to_StringS _ h.1) (Ev.bind (to_FieldS _ h.2.1) (Ev.ret _))
theorem eq_Node (x : S145) (h : bdNode x) : Ev (fun k => laws_eqNode.f k (trNode x) (trNode x)) true := by
  simp only [laws_eqNode.f, trNode, beq_self_eq_true, decide_true, cond_true]
  refine Ev.bind (eq_StringS _ h.1) ?_
  simp only [beq_self_eq_true, decide_true, cond_true]
  refine Ev.bind (eq_FieldS _ h.2.1) ?_
  simp only [beq_self_eq_true, decide_true, cond_true]
  exact Ev.ret _
theorem to_NodeS (v : (List S145)) (h : bdNodeS v) : Ev (fun k => laws_toNodeS.f k v) (v.map trNode) := to_f (l := laws_toNodeS.l0) h.1 (fun _ _ => by simp only [laws_toNodeS.f]; rfl) (to_loop (B := bdNode) (fun _ _ _ _ _ => by simp only [laws_toNodeS.l0]) (fun x hx => to_Node x hx) v h.2 h.1)
theorem eq_NodeS (v : (List S145)) (h : bdNodeS v) : Ev (fun k => laws_eqNodeS.f k (v.map trNode) (v.map trNode)) true := eq_f (l := laws_eqNodeS.l0) (fun _ _ _ => by simp only [laws_eqNodeS.f]) (eq_loop (e := laws_eqNode.f) (fun _ _ _ _ => by simp only [laws_eqNodeS.l0]) _ (by intro y hy; obtain ⟨x, hx, rfl⟩ := List.mem_map.1 hy; exact eq_Node x (h.2 x hx)) (by simpa using h.1))
def trEdge (x : S148) : S90 := ⟨x.f0, x.f1, x.f2, x.f3, (x.f4.map trField)⟩
theorem to_Edge (x : S148) (h : bdEdge x) : Ev (fun k => laws_toEdge.f k x) (trEdge x) := by
  simp only [laws_toEdge.f, trEdge]; exact Ev.bind (to_FieldS _ h.2.1) (Ev.ret _)
theorem eq_Edge (x : S148) (h : bdEdge x) : Ev (fun k => laws_eqEdge.f k (trEdge x) (trEdge x)) true := by
  simp only [laws_eqEdge.f, trEdge, beq_self_eq_true, decide_true, cond_true]
  refine Ev.bind (eq_FieldS _ h.2.1) ?_
  simp only [beq_self_eq_true, decide_true, cond_true]
  exact Ev.ret _
theorem to_EdgeS (v : (List S148)) (h : bdEdgeS v) : Ev (fun k => laws_toEdgeS.f k v) (v.map trEdge) := to_f (l := laws_toEdgeS.l0) h.1 (fun _ _ => by simp only [laws_toEdgeS.f]; rfl) (to_loop (B := bdEdge) (fun _ _ _ _ _ => by simp only [laws_toEdgeS.l0]) (fun x hx => to_Edge x hx) v h.2 h.1)
theorem eq_EdgeS (v : (List S148)) (h : bdEdgeS v) : Ev (fun k => laws_eqEdgeS.f k (v.map trEdge) (v.map trEdge)) true := eq_f (l := laws_eqEdgeS.l0) (fun _ _ _ => by simp only [laws_eqEdgeS.f]) (eq_loop (e := laws_eqEdge.f) (fun _ _ _ _ => by simp only [laws_eqEdgeS.l0]) _ (by intro y hy; obtain ⟨x, hx, rfl⟩ := List.mem_map.1 hy; exact eq_Edge x (h.2 x hx)) (by simpa using h.1))
def trGraph (x : S43) : S49 := ⟨(x.f0.map trNode), (x.f1.map trEdge)⟩
theorem to_Graph (x : S43) (h : bdGraph x) : Ev (fun k => laws_toGraph.f k x) (trGraph x) := by
  simp only [laws_toGraph.f, trGraph]; exact Ev.bind (to_NodeS _ h.1) (Ev.bind (to_EdgeS _ h.2.1) (Ev.ret _))
theorem eq_Graph (x : S43) (h : bdGraph x) : Ev (fun k => laws_eqGraph.f k (trGraph x) (trGraph x)) true := by
  simp only [laws_eqGraph.f, trGraph, beq_self_eq_true, decide_true, cond_true]
  refine Ev.bind (eq_NodeS _ h.1) ?_
  simp only [beq_self_eq_true, decide_true, cond_true]
  refine Ev.bind (eq_EdgeS _ h.2.1) ?_
  simp only [beq_self_eq_true, decide_true, cond_true]
  exact Ev.ret _
def wf73 (x : S73) : Prop := (Lst Str) x.f0 ∧ (InK .i64) x.f1
def bdIndexEntry (x : S73) : Prop := bdStringS x.f0 ∧ True
theorem sz_IndexEntry (x : S73) (h : wf73 x) {a : Int} (ha : Lft a) : Sz (fun k => laws_szIndexEntry.f k x a) a (bdIndexEntry x) := by
  simp only [laws_szIndexEntry.f]; unfold bdIndexEntry
  exact Sz.call ha (sz_StringS _ h.1 ha) fun v1 h1 => Sz.ret
def bdIndexEntryS (v : (List S73)) : Prop := v.length ≤ 1048576 ∧ ∀ x ∈ v, bdIndexEntry x
theorem sz_IndexEntryS (v : (List S73)) (h : Lst wf73 v) {a : Int} (ha : Lft a) : Sz (fun k => laws_szIndexEntryS.f k v a) a (bdIndexEntryS v) := Sz.slice (l := laws_szIndexEntryS.l0) h.1 (fun _ _ _ => by simp only [laws_szIndexEntryS.f]) (fun hl => Sz.loop (fun _ _ _ _ => by simp only [laws_szIndexEntryS.l0]) (fun x a hx ha => sz_IndexEntry x hx ha) v h.2 hl) ha
def trIndexEntry (x : S73) : S73 := ⟨x.f0, x.f1⟩
theorem to_IndexEntry (x : S73) (h : bdIndexEntry x) : Ev (fun k => laws_toIndexEntry.f k x) (trIndexEntry x) := by
  simp only [laws_toIndexEntry.f, trIndexEntry]; exact Ev.bind (to_StringS _ h.1) (Ev.ret _)
theorem eq_IndexEntry (x : S73) (h : bdIndexEntry x) : Ev (fun k => laws_eqIndexEntry.f k (trIndexEntry x) (trIndexEntry x)) true := by
  simp only [laws_eqIndexEntry.f, trIndexEntry, beq_self_eq_true, decide_true, cond_true]
  refine Ev.bind (eq_StringS _ h.1) ?_
  simp only [beq_self_eq_true, decide_true, cond_true]
  exact Ev.ret _
theorem to_IndexEntryS (v : (List S73)) (h : bdIndexEntryS v) : Ev (fun k => laws_toIndexEntryS.f k v) (v.map trIndexEntry) := to_f (l := laws_toIndexEntryS.l0) h.1 (fun _ _ => by simp only [laws_toIndexEntryS.f]; rfl) (to_loop (B := bdIndexEntry) (fun _ _ _ _ _ => by simp only [laws_toIndexEntryS.l0]) (fun x hx => to_IndexEntry x hx) v h.2 h.1)
theorem eq_IndexEntryS (v : (List S73)) (h : bdIndexEntryS v) : Ev (fun k => laws_eqIndexEntryS.f k (v.map trIndexEntry) (v.map trIndexEntry)) true := eq_f (l := laws_eqIndexEntryS.l0) (fun _ _ _ => by simp only [laws_eqIndexEntryS.f]) (eq_loop (e := laws_eqIndexEntry.f) (fun _ _ _ _ => by simp only [laws_eqIndexEntryS.l0]) _ (by intro y hy; obtain ⟨x, hx, rfl⟩ := List.mem_map.1 hy; exact eq_IndexEntry x (h.2 x hx)) (by simpa using h.1))
end Go.Ab
namespace Go.Ab
open Go.Proofs
set_option linter.unusedVariables false
set_option linter.unusedSimpArgs false
theorem mh_Int64S : Mh (fun k N c (w : List Int) => laws_markInt64S_bv.f k N c w) (fun k N c w => laws_heldInt64S_bv.f k N c w) :=
  Mh.of (ml := fun k N c i w => laws_markInt64S_bv.l0 k N c i w) (hl := fun k N c i w => laws_heldInt64S_bv.l0 k N c i w) (Be := 1) (by omega) (fun _ _ _ _ => by simp only [laws_markInt64S_bv.f]) (fun _ _ _ _ => by simp only [laws_heldInt64S_bv.f])
   (fun N w i c hN hw hi h0 h1 => by
    have ec0 := wm1 (a := c) (by omega) (by omega)
    have hiw : i < w.length := by omega
    refine ⟨?_, c + 1, by omega, by omega, fun R hR => ?_, fun v' R hv hR => ?_⟩
    rotate_left
    · refine Ev.step ?_
      simp only [laws_markInt64S_bv.l0, List.getElem?_eq_getElem hiw, setr_get hiw, Option.bind_some, Int.toNat_natCast, cond_true, beq_self_eq_true, decide_true, setr_two, wup hi hN, inr_ hi, ltd hi, ec0]
      exact hR
    · refine Ev.step ?_
      simp only [laws_heldInt64S_bv.l0, hv, Option.bind_some, Int.toNat_natCast, cond_true, beq_self_eq_true, decide_true, setr_two, wup hi hN, inr_ hi, ltd hi, ec0]
      exact hR)
   (fun N w i c hi => ⟨Ev.step (by simp only [laws_markInt64S_bv.l0, ltn hi, cond_false]; exact Ev.ret _), Ev.step (by simp only [laws_heldInt64S_bv.l0, ltn hi, cond_false]; exact Ev.ret _)⟩)
theorem eqb_Int64S (v : List Int) (hv : v.length ≤ 2000000) : Ev (fun k => laws_eqInt64S_bb.f k v.length v.length v v) true := by
  refine Ev.step ?_
  simp only [laws_eqInt64S_bb.f, beq_self_eq_true, cond_true]
  exact eqb_loop (l := fun k n m i v _ => laws_eqInt64S_bb.l0 k n m i v v) hv (fun i hi R hR => Ev.step (by simp only [laws_eqInt64S_bb.l0, ltd hi, cond_true, inr_ hi, Option.bind_some, Int.toNat_natCast, List.getElem?_eq_getElem hi, beq_self_eq_true, decide_true, wup hi hv]; exact hR)) (fun i hi => Ev.step (by simp only [laws_eqInt64S_bb.l0, ltn hi, cond_false]; exact Ev.ret _)) _ 0 (Nat.le_refl _)
theorem mk_StringS (v : (List ByteArray)) (h : bdStringS v) : Mk (fun k c => laws_markStringS_sv.f k v c) 1048576 := by
  generalize hu : v = u
  have hlen : u.length ≤ 1048576 := by rw [← hu]; exact h.1
  refine Mk.slice (f := laws_markStringS_sv.f) (l := fun k u c i => laws_markStringS_sv.l0 k u c i) (v := u) (Be := 1) hlen (by omega) (fun k c => by simp only [laws_markStringS_sv.f]) (fun k c i => by simp only [laws_markStringS_sv.l0]; rfl) (fun i hi c h0 h1 => ?_)
  obtain ⟨t1, q1⟩ := markText_ev (c) (by omega) (by omega)
  have ec0 := wm1 (a := c) (by omega) (by omega)
  refine ⟨c + 1, by omega, by omega, fun R hR => ?_⟩
  simp only [ixg hi, Option.bind_some, wup hi (show u.length ≤ 2000000 by omega), ec0]
  refine Ev.bind q1 ?_
  try simp only [ec0]
  exact hR
theorem mk_FieldS (v : (List S178)) (h : bdFieldS v) : Mk (fun k c => laws_markFieldS_sv.f k (v.map trField) c) 2097152 := by
  generalize hu : (v.map trField) = u
  have hlen : u.length ≤ 1048576 := by rw [← hu]; simpa using h.1
  refine Mk.slice (f := laws_markFieldS_sv.f) (l := fun k u c i => laws_markFieldS_sv.l0 k u c i) (v := u) (Be := 2) hlen (by omega) (fun k c => by simp only [laws_markFieldS_sv.f]) (fun k c i => by simp only [laws_markFieldS_sv.l0]; rfl) (fun i hi c h0 h1 => ?_)
  obtain ⟨y, hy, ey⟩ : ∃ y, bdField y ∧ u[i] = (trField y) := by
      have hm : u[i] ∈ (v.map trField) := by rw [hu]; exact List.getElem_mem hi
      obtain ⟨y, hy, e⟩ := List.mem_map.1 hm
      exact ⟨y, h.2 y hy, e.symm⟩
  obtain ⟨t1, q1⟩ := markText_ev (c) (by omega) (by omega)
  have ec0 := wm1 (a := c) (by omega) (by omega)
  obtain ⟨t2, q2⟩ := markText_ev (c + 1) (by omega) (by omega)
  have ec1 := wm1 (a := c + 1) (by omega) (by omega)
  refine ⟨c + 1 + 1, by omega, by omega, fun R hR => ?_⟩
  simp only [ixg hi, Option.bind_some, wup hi (show u.length ≤ 2000000 by omega), ey, ec0, ec1]
  refine Ev.bind q1 ?_
  refine Ev.bind q2 ?_
  try simp only [ec0, ec1]
  exact hR
theorem mk_NodeS (v : (List S145)) (h : bdNodeS v) : Mk (fun k c => laws_markNodeS_sv.f k (v.map trNode) c) 3298535931904 := by
  generalize hu : (v.map trNode) = u
  have hlen : u.length ≤ 1048576 := by rw [← hu]; simpa using h.1
  refine Mk.slice (f := laws_markNodeS_sv.f) (l := fun k u c i => laws_markNodeS_sv.l0 k u c i) (v := u) (Be := 3145729) hlen (by omega) (fun k c => by simp only [laws_markNodeS_sv.f]) (fun k c i => by simp only [laws_markNodeS_sv.l0]; rfl) (fun i hi c h0 h1 => ?_)
  obtain ⟨y, hy, ey⟩ : ∃ y, bdNode y ∧ u[i] = (trNode y) := by
      have hm : u[i] ∈ (v.map trNode) := by rw [hu]; exact List.getElem_mem hi
      obtain ⟨y, hy, e⟩ := List.mem_map.1 hm
      exact ⟨y, h.2 y hy, e.symm⟩
  have ec0 := wm1 (a := c) (by omega) (by omega)
  obtain ⟨r1, q1, l1, u1⟩ := mk_StringS _ hy.1 (c + 1) (by omega) (by omega)
  obtain ⟨r2, q2, l2, u2⟩ := mk_FieldS _ hy.2.1 (r1) (by omega) (by omega)
  refine ⟨r2, by omega, by omega, fun R hR => ?_⟩
  simp only [ixg hi, Option.bind_some, wup hi (show u.length ≤ 2000000 by omega), ey, ec0]
  refine Ev.bind q1 ?_
  refine Ev.bind q2 ?_
  try simp only [ec0]
  exact hR
theorem mk_EdgeS (v : (List S148)) (h : bdEdgeS v) : Mk (fun k c => laws_markEdgeS_sv.f k (v.map trEdge) c) 2199027449856 := by
  generalize hu : (v.map trEdge) = u
  have hlen : u.length ≤ 1048576 := by rw [← hu]; simpa using h.1
  refine Mk.slice (f := laws_markEdgeS_sv.f) (l := fun k u c i => laws_markEdgeS_sv.l0 k u c i) (v := u) (Be := 2097156) hlen (by omega) (fun k c => by simp only [laws_markEdgeS_sv.f]) (fun k c i => by simp only [laws_markEdgeS_sv.l0]; rfl) (fun i hi c h0 h1 => ?_)
  obtain ⟨y, hy, ey⟩ : ∃ y, bdEdge y ∧ u[i] = (trEdge y) := by
      have hm : u[i] ∈ (v.map trEdge) := by rw [hu]; exact List.getElem_mem hi
      obtain ⟨y, hy, e⟩ := List.mem_map.1 hm
      exact ⟨y, h.2 y hy, e.symm⟩
  have ec0 := wm1 (a := c) (by omega) (by omega)
  obtain ⟨t1, q1⟩ := markText_ev (c + 1) (by omega) (by omega)
  have ec1 := wm1 (a := c + 1) (by omega) (by omega)
  have ec2 := wm1 (a := c + 1 + 1) (by omega) (by omega)
  have ec3 := wm1 (a := c + 1 + 1 + 1) (by omega) (by omega)
  obtain ⟨r2, q2, l2, u2⟩ := mk_FieldS _ hy.2.1 (c + 1 + 1 + 1 + 1) (by omega) (by omega)
  refine ⟨r2, by omega, by omega, fun R hR => ?_⟩
  simp only [ixg hi, Option.bind_some, wup hi (show u.length ≤ 2000000 by omega), ey, ec0, ec1, ec2, ec3]
  refine Ev.bind q1 ?_
  refine Ev.bind q2 ?_
  try simp only [ec0, ec1, ec2, ec3]
  exact hR
theorem mk_Graph (x : S43) (h : bdGraph x) : Mk (fun k c => laws_markGraph_sv.f k ((trGraph x)).f0 ((trGraph x)).f1 c) 5497563381760 := fun c h0 h1 => by
  obtain ⟨r1, q1, l1, u1⟩ := mk_NodeS _ h.1 (c) (by omega) (by omega)
  obtain ⟨r2, q2, l2, u2⟩ := mk_EdgeS _ h.2.1 (r1) (by omega) (by omega)
  refine ⟨r2, ?_, by omega, by omega⟩
  simp only [laws_markGraph_sv.f]
  refine Ev.bind q1 ?_
  refine Ev.bind q2 ?_
  exact Ev.ret _
theorem mk_IndexEntryS (v : (List S73)) (h : bdIndexEntryS v) : Mk (fun k c => laws_markIndexEntryS_sv.f k (v.map trIndexEntry) c) 1099512676352 := by
  generalize hu : (v.map trIndexEntry) = u
  have hlen : u.length ≤ 1048576 := by rw [← hu]; simpa using h.1
  refine Mk.slice (f := laws_markIndexEntryS_sv.f) (l := fun k u c i => laws_markIndexEntryS_sv.l0 k u c i) (v := u) (Be := 1048577) hlen (by omega) (fun k c => by simp only [laws_markIndexEntryS_sv.f]) (fun k c i => by simp only [laws_markIndexEntryS_sv.l0]; rfl) (fun i hi c h0 h1 => ?_)
  obtain ⟨y, hy, ey⟩ : ∃ y, bdIndexEntry y ∧ u[i] = (trIndexEntry y) := by
      have hm : u[i] ∈ (v.map trIndexEntry) := by rw [hu]; exact List.getElem_mem hi
      obtain ⟨y, hy, e⟩ := List.mem_map.1 hm
      exact ⟨y, h.2 y hy, e.symm⟩
  obtain ⟨r1, q1, l1, u1⟩ := mk_StringS _ hy.1 (c) (by omega) (by omega)
  have er10 := wm1 (a := r1) (by omega) (by omega)
  refine ⟨r1 + 1, by omega, by omega, fun R hR => ?_⟩
  simp only [ixg hi, Option.bind_some, wup hi (show u.length ≤ 2000000 by omega), ey, er10]
  refine Ev.bind q1 ?_
  try simp only [er10]
  exact hR
end Go.Ab
namespace Go.Ab
open Go.Proofs
set_option linter.unusedVariables false
set_option linter.unusedSimpArgs false
theorem lft0 : Lft 1048576 := by unfold Lft; omega
theorem said_FnExactGraphFault (x : S43) (h : wf43 x) : ∃ k, laws_FnExactGraphFault.f k x = some true := by
  refine Ev.at_ (f := fun k => laws_FnExactGraphFault.f k x) ?_
  unfold laws_FnExactGraphFault.f
  obtain ⟨r, h1, h2, h3⟩ := sz_Graph x h lft0
  refine Ev.bind h1 ?_
  by_cases hr : r < 0
  · simp only [decide_eq_true hr, cond_true]; exact Ev.ret _
  · have hb := h3 (by omega)
    obtain ⟨c, s1, s2⟩ := graph2 (trGraph x)
    have s3 : Ev (fun k => impl_GraphFault.f k (trGraph x)) (if c then 0 else 1) := by
      unfold impl_GraphFault.f
      exact Ev.bind s2 (by cases c <;> exact Ev.ret _)
    simp only [decide_eq_false hr, cond_false]
    refine Ev.bind (to_Graph x hb) (Ev.bind s1 (Ev.bind (to_Graph x hb) (Ev.bind s3 ?_)))
    simp only [beq_self_eq_true, cond_true]
    refine Ev.bind (to_Graph x hb) (Ev.bind (eq_Graph x hb) ?_)
    simp only [cond_true]; exact Ev.ret _
theorem said_FnExactIndexFault (x : List S73) (h : Lst wf73 x) : ∃ k, laws_FnExactIndexFault.f k x = some true := by
  refine Ev.at_ (f := fun k => laws_FnExactIndexFault.f k x) ?_
  unfold laws_FnExactIndexFault.f
  obtain ⟨r, h1, h2, h3⟩ := sz_IndexEntryS x h lft0
  refine Ev.bind h1 ?_
  by_cases hr : r < 0
  · simp only [decide_eq_true hr, cond_true]; exact Ev.ret _
  · have hb := h3 (by omega)
    obtain ⟨c, s1, s2⟩ := index2 (x.map trIndexEntry)
    simp only [decide_eq_false hr, cond_false]
    refine Ev.bind (to_IndexEntryS x hb) (Ev.bind s1 (Ev.bind (to_IndexEntryS x hb) (Ev.bind s2 ?_)))
    simp only [beq_self_eq_true, cond_true]
    refine Ev.bind (to_IndexEntryS x hb) (Ev.bind (eq_IndexEntryS x hb) ?_)
    simp only [cond_true]; exact Ev.ret _
theorem said_FnExactFindFirst (x : List S73) (h : Lst wf73 x) (e : List ByteArray) (he : Lst Str e) : ∃ k, laws_FnExactFindFirst.f k x e = some true := by
  refine Ev.at_ (f := fun k => laws_FnExactFindFirst.f k x e) ?_
  unfold laws_FnExactFindFirst.f
  obtain ⟨r, h1, h2, h3⟩ := sz_IndexEntryS x h lft0
  refine Ev.bind h1 ?_
  by_cases hr : r < 0
  · simp only [decide_eq_true hr, cond_true]; exact Ev.ret _
  have hb := h3 (by omega)
  simp only [decide_eq_false hr, cond_false]
  obtain ⟨q, q1, q2, q3⟩ := sz_StringS e he (show Lft r by unfold Lft; omega)
  refine Ev.bind q1 ?_
  by_cases hq : q < 0
  · simp only [decide_eq_true hq, cond_true]; exact Ev.ret _
  have hc := q3 (by omega)
  simp only [decide_eq_false hq, cond_false]
  obtain ⟨c, s1, s2⟩ := first2 (x.map trIndexEntry) e
  refine Ev.bind (to_IndexEntryS x hb) (Ev.bind (to_StringS e hc) (Ev.bind s1 (Ev.bind (to_IndexEntryS x hb) (Ev.bind (to_StringS e hc) (Ev.bind s2 ?_)))))
  simp only [beq_self_eq_true, cond_true]
  refine Ev.bind (to_IndexEntryS x hb) (Ev.bind (eq_IndexEntryS x hb) ?_)
  simp only [cond_true]
  refine Ev.bind (to_StringS e hc) (Ev.bind (eq_StringS e hc) ?_)
  simp only [cond_true]; exact Ev.ret _
end Go.Ab
namespace Go.Ab
open Go.Proofs
set_option linter.unusedVariables false
set_option linter.unusedSimpArgs false
theorem lftO : Lft 1048576 := by unfold Lft; omega
def Pe (b : Bool) (id : Int) (e : S90) : Bool := bif b then e.f2 == id else e.f3 == id
def around (b : Bool) (id : Int) (l : List S90) : List Int := (l.filter (Pe b id)).map (·.f0)
theorem app1 {α : Type} {a : List α} {x : α} (h : a.length ≤ 1000000) : app a [x] = some (a ++ [x]) := by unfold app; rw [if_pos (by simp; omega)]
theorem around_cons (b : Bool) (id : Int) (l : List S90) (i : Nat) (h : i < l.length) : around b id (l.drop i) = (bif Pe b id l[i] then [l[i].f0] else []) ++ around b id (l.drop (i + 1)) := by
  unfold around
  rw [List.drop_eq_getElem_cons h, List.filter_cons]
  cases Pe b id l[i] <;> rfl
theorem around_s (g : S49) (id : Int) (b : Bool) (hg : g.f1.length ≤ 400) : ∀ (n i : Nat) (acc : List Int), g.f1.length - i ≤ n → acc.length ≤ i → Ev (fun k => spec_l02Around_O.l0 k id b acc (i : Int) g) (acc ++ around b id (g.f1.drop i)) := by
  have fin : ∀ (i : Nat) (acc : List Int), ¬ i < g.f1.length → Ev (fun k => spec_l02Around_O.l0 k id b acc (i : Int) g) (acc ++ around b id (g.f1.drop i)) := fun i acc h => by
    rw [List.drop_of_length_le (by omega)]
    refine Ev.step ?_
    simp only [spec_l02Around_O.l0, ltn h, cond_false, around, List.filter_nil, List.map_nil, List.append_nil]; exact Ev.ret _
  intro n
  induction n with
  | zero => intro i acc h ha; exact fin i acc (by omega)
  | succ n ih =>
    intro i acc h ha
    by_cases hi : i < g.f1.length
    case neg => exact fin i acc hi
    rw [around_cons b id _ i hi]
    cases hp : Pe b id g.f1[i] with
    | true =>
      have hj : Ev (fun k => spec_l02Around_O.j0 k id b acc (i : Int) g) (acc ++ ([g.f1[i].f0] ++ around b id (g.f1.drop (i + 1)))) := by
        refine Ev.step ?_
        simp only [spec_l02Around_O.j0, ixg hi, Option.bind_some, app1 (show acc.length ≤ 1000000 by omega), wup hi (show g.f1.length ≤ 2000000 by omega)]
        rw [← List.append_assoc]
        exact ih (i + 1) _ (by omega) (by simp; omega)
      refine Ev.step ?_
      simp only [spec_l02Around_O.l0, ltd hi, cond_true, ixg hi, Option.bind_some]
      cases b with
      | true => simp only [Pe, cond_true] at hp; simp only [cond_true, hp]; exact hj
      | false => simp only [Pe, cond_false] at hp; simp only [cond_false, cond_true, hp]; exact hj
    | false =>
      have hj := ih (i + 1) acc (by omega) (by omega)
      simp only [cond_false, List.nil_append]
      refine Ev.step ?_
      simp only [spec_l02Around_O.l0, ltd hi, cond_true, ixg hi, Option.bind_some, wup hi (show g.f1.length ≤ 2000000 by omega)]
      cases b with
      | true => simp only [Pe, cond_true] at hp; simp only [cond_true, hp, cond_false]; exact hj
      | false => simp only [Pe, cond_false] at hp; simp only [cond_false, hp]; exact hj
theorem outOf_i (g : S49) (id : Int) (hg : g.f1.length ≤ 400) : ∀ (n i : Nat) (acc : List Int), g.f1.length - i ≤ n → acc.length ≤ i → Ev (fun k => impl_OutOf_O.l0 k id acc g (i : Int)) (acc ++ around true id (g.f1.drop i)) := by
  have fin : ∀ (i : Nat) (acc : List Int), ¬ i < g.f1.length → Ev (fun k => impl_OutOf_O.l0 k id acc g (i : Int)) (acc ++ around true id (g.f1.drop i)) := fun i acc h => by
    rw [List.drop_of_length_le (by omega)]
    refine Ev.step ?_
    simp only [impl_OutOf_O.l0, ltn h, cond_false, around, List.filter_nil, List.map_nil, List.append_nil]; exact Ev.ret _
  intro n
  induction n with
  | zero => intro i acc h ha; exact fin i acc (by omega)
  | succ n ih =>
    intro i acc h ha
    by_cases hi : i < g.f1.length
    case neg => exact fin i acc hi
    rw [around_cons true id _ i hi]
    refine Ev.step ?_
    simp only [impl_OutOf_O.l0, ltd hi, cond_true, ixg hi, Option.bind_some, wup hi (show g.f1.length ≤ 2000000 by omega), app1 (show acc.length ≤ 1000000 by omega), Pe]
    cases hp : (g.f1[i].f2 == id) with
    | true => simp only [cond_true]; rw [← List.append_assoc]; exact ih (i + 1) _ (by omega) (by simp; omega)
    | false => simp only [cond_false, List.nil_append]; exact ih (i + 1) acc (by omega) (by omega)
theorem inOf_i (g : S49) (id : Int) (hg : g.f1.length ≤ 400) : ∀ (n i : Nat) (acc : List Int), g.f1.length - i ≤ n → acc.length ≤ i → Ev (fun k => impl_InOf_O.l0 k id acc g (i : Int)) (acc ++ around false id (g.f1.drop i)) := by
  have fin : ∀ (i : Nat) (acc : List Int), ¬ i < g.f1.length → Ev (fun k => impl_InOf_O.l0 k id acc g (i : Int)) (acc ++ around false id (g.f1.drop i)) := fun i acc h => by
    rw [List.drop_of_length_le (by omega)]
    refine Ev.step ?_
    simp only [impl_InOf_O.l0, ltn h, cond_false, around, List.filter_nil, List.map_nil, List.append_nil]; exact Ev.ret _
  intro n
  induction n with
  | zero => intro i acc h ha; exact fin i acc (by omega)
  | succ n ih =>
    intro i acc h ha
    by_cases hi : i < g.f1.length
    case neg => exact fin i acc hi
    rw [around_cons false id _ i hi]
    refine Ev.step ?_
    simp only [impl_InOf_O.l0, ltd hi, cond_true, ixg hi, Option.bind_some, wup hi (show g.f1.length ≤ 2000000 by omega), app1 (show acc.length ≤ 1000000 by omega), Pe, cond_false]
    cases hp : (g.f1[i].f3 == id) with
    | true => simp only [cond_true]; rw [← List.append_assoc]; exact ih (i + 1) _ (by omega) (by simp; omega)
    | false => simp only [cond_false, List.nil_append]; exact ih (i + 1) acc (by omega) (by omega)
theorem graph_small {g : S49} (h : Ev (fun k => impl_graphOk.f k g) true) : g.f0.length ≤ 200 ∧ g.f1.length ≤ 400 := by
  have key : ¬ (200 < (g.f0.length : Int)) ∧ ¬ (400 < (g.f1.length : Int)) := by
    constructor
    · intro h1
      have : Ev (fun k => impl_graphOk.f k g) false := Ev.step (by simp only [impl_graphOk.f, decide_eq_true h1, cond_true]; exact Ev.ret _)
      cases h.uniq this
    · intro h1
      have : Ev (fun k => impl_graphOk.f k g) false := by
        refine Ev.step ?_
        simp only [impl_graphOk.f, decide_eq_true h1, cond_true]
        cases decide (200 < (g.f0.length : Int)) <;> exact Ev.ret _
      cases h.uniq this
  omega
theorem around_len (b : Bool) (id : Int) (l : List S90) : (around b id l).length ≤ l.length := by
  unfold around; rw [List.length_map]; exact List.length_filter_le _ _
theorem outOf2 (g : S49) (id : Int) : ∃ R, R.length ≤ 2000000 ∧ Ev (fun k => spec_OutOf_O.f k g id) R ∧ Ev (fun k => impl_OutOf_O.f k g id) R := by
  obtain ⟨c, s1, s2⟩ := graph2 g
  cases c with
  | false =>
    refine ⟨[], by simp, ?_, Ev.step ?_⟩
    · simp only [spec_OutOf_O.f]; exact Ev.bind s1 (Ev.ret _)
    · simp only [impl_OutOf_O.f]; exact Ev.bind s2 (Ev.ret _)
  | true =>
    have hg := (graph_small s2).2
    refine ⟨around true id g.f1, by have := around_len true id g.f1; omega, ?_, Ev.step ?_⟩
    · simp only [spec_OutOf_O.f]
      refine Ev.bind s1 ?_
      simp only [if_true, beq_self_eq_true, cond_true]
      refine Ev.bind (Ev.step ?_) (Ev.ret _)
      simp only [spec_l02Around_O.f]
      exact around_s g id true hg _ 0 [] (Nat.le_refl _) (Nat.le_refl _)
    · simp only [impl_OutOf_O.f]
      refine Ev.bind s2 ?_
      simp only [cond_true]
      exact outOf_i g id hg _ 0 [] (Nat.le_refl _) (Nat.le_refl _)
theorem inOf2 (g : S49) (id : Int) : ∃ R, R.length ≤ 2000000 ∧ Ev (fun k => spec_InOf_O.f k g id) R ∧ Ev (fun k => impl_InOf_O.f k g id) R := by
  obtain ⟨c, s1, s2⟩ := graph2 g
  cases c with
  | false =>
    refine ⟨[], by simp, ?_, Ev.step ?_⟩
    · simp only [spec_InOf_O.f]; exact Ev.bind s1 (Ev.ret _)
    · simp only [impl_InOf_O.f]; exact Ev.bind s2 (Ev.ret _)
  | true =>
    have hg := (graph_small s2).2
    refine ⟨around false id g.f1, by have := around_len false id g.f1; omega, ?_, Ev.step ?_⟩
    · simp only [spec_InOf_O.f]
      refine Ev.bind s1 ?_
      simp only [if_true, beq_self_eq_true, cond_true]
      refine Ev.bind (Ev.step ?_) (Ev.ret _)
      simp only [spec_l02Around_O.f]
      exact around_s g id false hg _ 0 [] (Nat.le_refl _) (Nat.le_refl _)
    · simp only [impl_InOf_O.f]
      refine Ev.bind s2 ?_
      simp only [cond_true]
      exact inOf_i g id hg _ 0 [] (Nat.le_refl _) (Nat.le_refl _)
theorem said_FnExactOutOf (x : S43) (h : wf43 x) (id : Int) (hid : InK .i64 id) : ∃ k, laws_FnExactOutOf.f k x id = some true := by
  refine Ev.at_ (f := fun k => laws_FnExactOutOf.f k x id) ?_
  unfold laws_FnExactOutOf.f
  obtain ⟨r, h1, h2, h3⟩ := sz_Graph x h lftO
  refine Ev.bind h1 ?_
  by_cases hr : r < 0
  · simp only [decide_eq_true hr, cond_true]; exact Ev.ret _
  have hb := h3 (by omega)
  obtain ⟨R, hR, s1, s2⟩ := outOf2 (trGraph x) id
  obtain ⟨m, m1, m2, m3⟩ := mk_Graph x hb 1 (by omega) (by omega)
  obtain ⟨v', q, q1, q2, q3⟩ := mh_Int64S R 1 hR (by omega) (by omega)
  have e := eqb_Int64S R hR
  simp only [decide_eq_false hr, cond_false]
  refine Ev.bind (to_Graph x hb) (Ev.bind s1 (Ev.bind (to_Graph x hb) (Ev.bind s2 (Ev.bind e ?_))))
  simp only [cond_true]
  refine Ev.bind (to_Graph x hb) (Ev.bind (eq_Graph x hb) ?_)
  simp only [cond_true]
  refine Ev.bind m1 ?_
  simp only [decide_eq_false (show ¬ m < 0 by omega), cond_false]
  refine Ev.bind e ?_
  simp only [cond_true]
  refine Ev.bind q2 (Ev.bind q3 ?_)
  simp only [decide_eq_false (show ¬ q < 0 by omega), cond_false, beq_self_eq_true, cond_true]
  refine Ev.bind (to_Graph x hb) (Ev.bind s2 (Ev.bind e ?_))
  simp only [cond_true]
  refine Ev.bind q3 ?_
  simp only [decide_eq_false (show ¬ q < 0 by omega), cond_false, beq_self_eq_true, cond_true]
  exact Ev.ret _
theorem said_FnExactInOf (x : S43) (h : wf43 x) (id : Int) (hid : InK .i64 id) : ∃ k, laws_FnExactInOf.f k x id = some true := by
  refine Ev.at_ (f := fun k => laws_FnExactInOf.f k x id) ?_
  unfold laws_FnExactInOf.f
  obtain ⟨r, h1, h2, h3⟩ := sz_Graph x h lftO
  refine Ev.bind h1 ?_
  by_cases hr : r < 0
  · simp only [decide_eq_true hr, cond_true]; exact Ev.ret _
  have hb := h3 (by omega)
  obtain ⟨R, hR, s1, s2⟩ := inOf2 (trGraph x) id
  obtain ⟨m, m1, m2, m3⟩ := mk_Graph x hb 1 (by omega) (by omega)
  obtain ⟨v', q, q1, q2, q3⟩ := mh_Int64S R 1 hR (by omega) (by omega)
  have e := eqb_Int64S R hR
  simp only [decide_eq_false hr, cond_false]
  refine Ev.bind (to_Graph x hb) (Ev.bind s1 (Ev.bind (to_Graph x hb) (Ev.bind s2 (Ev.bind e ?_))))
  simp only [cond_true]
  refine Ev.bind (to_Graph x hb) (Ev.bind (eq_Graph x hb) ?_)
  simp only [cond_true]
  refine Ev.bind m1 ?_
  simp only [decide_eq_false (show ¬ m < 0 by omega), cond_false]
  refine Ev.bind e ?_
  simp only [cond_true]
  refine Ev.bind q2 (Ev.bind q3 ?_)
  simp only [decide_eq_false (show ¬ q < 0 by omega), cond_false, beq_self_eq_true, cond_true]
  refine Ev.bind (to_Graph x hb) (Ev.bind s2 (Ev.bind e ?_))
  simp only [cond_true]
  refine Ev.bind q3 ?_
  simp only [decide_eq_false (show ¬ q < 0 by omega), cond_false, beq_self_eq_true, cond_true]
  exact Ev.ret _
end Go.Ab
