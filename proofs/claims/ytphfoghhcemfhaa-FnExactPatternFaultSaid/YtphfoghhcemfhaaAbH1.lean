/- Sizes, copies and comparisons of the arguments of FnExactPatternFault. No condition. -/
import Derived.Test.YtphfoghhcemfhaaAbH0
namespace Go.Ab
open Go.Proofs
set_option linter.unusedVariables false
set_option linter.unusedSimpArgs false
def wf179 (x : S179) : Prop := Str x.f0 ∧ Str x.f1
def wf183 (x : S183) : Prop := Str x.f0 ∧ (Lst Str) x.f1 ∧ (InK .i64) x.f2 ∧ Any x.f3 ∧ (InK .i64) x.f4 ∧ (InK .i64) x.f5
def wf72 (x : S72) : Prop := Str x.f0 ∧ (InK .i64) x.f1 ∧ Any x.f2 ∧ (Lst wf179) x.f3 ∧ (Lst wf183) x.f4
def bdPatNode (x : S179) : Prop := x.f0.size ≤ 1048576 ∧ x.f1.size ≤ 1048576 ∧ True
theorem sz_PatNode (x : S179) (h : wf179 x) {a : Int} (ha : Lft a) : Sz (fun k => laws_szPatNode.f k x a) a (bdPatNode x) := by
  simp only [laws_szPatNode.f]; unfold bdPatNode
  exact Sz.len ha (fun _ h1 => Sz.len h1 (fun _ h2 => Sz.ret) h.2) h.1
def bdPatNodeS (v : (List S179)) : Prop := v.length ≤ 1048576 ∧ ∀ x ∈ v, bdPatNode x
theorem sz_PatNodeS (v : (List S179)) (h : Lst wf179 v) {a : Int} (ha : Lft a) : Sz (fun k => laws_szPatNodeS.f k v a) a (bdPatNodeS v) := Sz.slice (l := laws_szPatNodeS.l0) h.1 (fun _ _ _ => by simp only [laws_szPatNodeS.f]) (fun hl => Sz.loop (fun _ _ _ _ => by simp only [laws_szPatNodeS.l0]) (fun x a hx ha => sz_PatNode x hx ha) v h.2 hl) ha
def bdStringS (v : (List ByteArray)) : Prop := v.length ≤ 1048576 ∧ ∀ x ∈ v, x.size ≤ 1048576
theorem sz_StringS (v : (List ByteArray)) (h : Lst Str v) {a : Int} (ha : Lft a) : Sz (fun k => laws_szStringS.f k v a) a (bdStringS v) := Sz.slice (l := laws_szStringS.l0) h.1 (fun _ _ _ => by simp only [laws_szStringS.f]) (fun hl => Sz.strs (fun _ _ _ _ => by simp only [laws_szStringS.l0]) v h.2 hl) ha
def bdPatEdge (x : S183) : Prop := x.f0.size ≤ 1048576 ∧ bdStringS x.f1 ∧ True
theorem sz_PatEdge (x : S183) (h : wf183 x) {a : Int} (ha : Lft a) : Sz (fun k => laws_szPatEdge.f k x a) a (bdPatEdge x) := by
  simp only [laws_szPatEdge.f]; unfold bdPatEdge
  exact Sz.len ha (fun _ h1 => Sz.call h1 (sz_StringS _ h.2.1 h1) fun v2 h2 => Sz.ret) h.1
def bdPatEdgeS (v : (List S183)) : Prop := v.length ≤ 1048576 ∧ ∀ x ∈ v, bdPatEdge x
theorem sz_PatEdgeS (v : (List S183)) (h : Lst wf183 v) {a : Int} (ha : Lft a) : Sz (fun k => laws_szPatEdgeS.f k v a) a (bdPatEdgeS v) := Sz.slice (l := laws_szPatEdgeS.l0) h.1 (fun _ _ _ => by simp only [laws_szPatEdgeS.f]) (fun hl => Sz.loop (fun _ _ _ _ => by simp only [laws_szPatEdgeS.l0]) (fun x a hx ha => sz_PatEdge x hx ha) v h.2 hl) ha
def bdPattern (x : S72) : Prop := x.f0.size ≤ 1048576 ∧ bdPatNodeS x.f3 ∧ bdPatEdgeS x.f4 ∧ True
theorem sz_Pattern (x : S72) (h : wf72 x) {a : Int} (ha : Lft a) : Sz (fun k => laws_szPattern.f k x a) a (bdPattern x) := by
  simp only [laws_szPattern.f]; unfold bdPattern
  exact Sz.len ha (fun _ h1 => Sz.call h1 (sz_PatNodeS _ h.2.2.2.1 h1) fun v2 h2 => Sz.call h2 (sz_PatEdgeS _ h.2.2.2.2 h2) fun v3 h3 => Sz.ret) h.1
def trPatNode (x : S179) : S179 := x
theorem to_PatNode (x : S179) (h : bdPatNode x) : Ev (fun k => laws_toPatNode.f k x) (trPatNode x) := by
  simp only [laws_toPatNode.f, trPatNode]; exact Ev.ret _
theorem eq_PatNode (x : S179) (h : bdPatNode x) : Ev (fun k => laws_eqPatNode.f k (trPatNode x) (trPatNode x)) true := by
  simp only [laws_eqPatNode.f, trPatNode, beq_self_eq_true, decide_true, cond_true]
  exact Ev.ret _
theorem to_PatNodeS (v : (List S179)) (h : bdPatNodeS v) : Ev (fun k => laws_toPatNodeS.f k v) (v.map trPatNode) := to_f (l := laws_toPatNodeS.l0) h.1 (fun _ _ => by simp only [laws_toPatNodeS.f]; rfl) (to_loop (B := bdPatNode) (fun _ _ _ _ _ => by simp only [laws_toPatNodeS.l0]) (fun x hx => to_PatNode x hx) v h.2 h.1)
theorem eq_PatNodeS (v : (List S179)) (h : bdPatNodeS v) : Ev (fun k => laws_eqPatNodeS.f k (v.map trPatNode) (v.map trPatNode)) true := eq_f (l := laws_eqPatNodeS.l0) (fun _ _ _ => by simp only [laws_eqPatNodeS.f]) (eq_loop (e := laws_eqPatNode.f) (fun _ _ _ _ => by simp only [laws_eqPatNodeS.l0]) _ (by intro y hy; obtain ⟨x, hx, rfl⟩ := List.mem_map.1 hy; exact eq_PatNode x (h.2 x hx)) (by simpa using h.1))
theorem to_StringS (v : (List ByteArray)) (h : bdStringS v) : Ev (fun k => laws_toStringS.f k v) v := by
  have := to_f (f := laws_toStringS.f) (l := laws_toStringS.l0) (tr := id) h.1 (fun _ _ => by simp only [laws_toStringS.f]; rfl) (to_strs (fun _ _ _ _ _ => by simp only [laws_toStringS.l0]) v h.1)
  rwa [List.map_id] at this
theorem eq_StringS (v : (List ByteArray)) (h : bdStringS v) : Ev (fun k => laws_eqStringS.f k v v) true := eq_f (l := laws_eqStringS.l0) (fun _ _ _ => by simp only [laws_eqStringS.f]) (eq_strs (fun _ _ _ _ => by simp only [laws_eqStringS.l0]) _ h.1)
def trPatEdge (x : S183) : S183 := ⟨x.f0, x.f1, x.f2, x.f3, x.f4, x.f5⟩
theorem to_PatEdge (x : S183) (h : bdPatEdge x) : Ev (fun k => laws_toPatEdge.f k x) (trPatEdge x) := by
  simp only [laws_toPatEdge.f, trPatEdge]; exact Ev.bind (to_StringS _ h.2.1) (Ev.ret _)
theorem eq_PatEdge (x : S183) (h : bdPatEdge x) : Ev (fun k => laws_eqPatEdge.f k (trPatEdge x) (trPatEdge x)) true := by
  simp only [laws_eqPatEdge.f, trPatEdge, beq_self_eq_true, decide_true, cond_true]
  refine Ev.bind (eq_StringS _ h.2.1) ?_
  simp only [beq_self_eq_true, decide_true, cond_true]
  exact Ev.ret _
theorem to_PatEdgeS (v : (List S183)) (h : bdPatEdgeS v) : Ev (fun k => laws_toPatEdgeS.f k v) (v.map trPatEdge) := to_f (l := laws_toPatEdgeS.l0) h.1 (fun _ _ => by simp only [laws_toPatEdgeS.f]; rfl) (to_loop (B := bdPatEdge) (fun _ _ _ _ _ => by simp only [laws_toPatEdgeS.l0]) (fun x hx => to_PatEdge x hx) v h.2 h.1)
theorem eq_PatEdgeS (v : (List S183)) (h : bdPatEdgeS v) : Ev (fun k => laws_eqPatEdgeS.f k (v.map trPatEdge) (v.map trPatEdge)) true := eq_f (l := laws_eqPatEdgeS.l0) (fun _ _ _ => by simp only [laws_eqPatEdgeS.f]) (eq_loop (e := laws_eqPatEdge.f) (fun _ _ _ _ => by simp only [laws_eqPatEdgeS.l0]) _ (by intro y hy; obtain ⟨x, hx, rfl⟩ := List.mem_map.1 hy; exact eq_PatEdge x (h.2 x hx)) (by simpa using h.1))
def trPattern (x : S72) : S78 := ⟨x.f0, x.f1, x.f2, (x.f3.map trPatNode), (x.f4.map trPatEdge)⟩
theorem to_Pattern (x : S72) (h : bdPattern x) : Ev (fun k => laws_toPattern.f k x) (trPattern x) := by
  simp only [laws_toPattern.f, trPattern]; exact Ev.bind (to_PatNodeS _ h.2.1) (Ev.bind (to_PatEdgeS _ h.2.2.1) (Ev.ret _))
theorem eq_Pattern (x : S72) (h : bdPattern x) : Ev (fun k => laws_eqPattern.f k (trPattern x) (trPattern x)) true := by
  simp only [laws_eqPattern.f, trPattern, beq_self_eq_true, decide_true, cond_true]
  refine Ev.bind (eq_PatNodeS _ h.2.1) ?_
  simp only [beq_self_eq_true, decide_true, cond_true]
  refine Ev.bind (eq_PatEdgeS _ h.2.2.1) ?_
  simp only [beq_self_eq_true, decide_true, cond_true]
  exact Ev.ret _
end Go.Ab
