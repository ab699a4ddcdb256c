/- Sizes, copies and comparisons of the arguments of FnExactMatchingFault. No condition. -/
import Derived.Test.YtkjoeomgnkfljaaGreatDoorAbH0
import Derived.Test.YtkjoeomgnkfljaaGreatDoorAbG1
namespace Go.Ab
open Go.Proofs
set_option linter.unusedVariables false
set_option linter.unusedSimpArgs false
def wf193 (x : S193) : Prop := Str x.f0 ∧ Str x.f1
def wf137 (x : S137) : Prop := (InK .i64) x.f0 ∧ (Lst Str) x.f1 ∧ (Lst wf193) x.f2
def wf139 (x : S139) : Prop := (InK .i64) x.f0 ∧ Str x.f1 ∧ (InK .i64) x.f2 ∧ (InK .i64) x.f3 ∧ (Lst wf193) x.f4
def wf24 (x : S24) : Prop := (Lst wf137) x.f0 ∧ (Lst wf139) x.f1
def bdStringS (v : (List ByteArray)) : Prop := v.length ≤ 1048576 ∧ ∀ x ∈ v, x.size ≤ 1048576
theorem sz_StringS (v : (List ByteArray)) (h : Lst Str v) {a : Int} (ha : Lft a) : Sz (fun k => laws_szStringS.f k v a) a (bdStringS v) := Sz.slice (l := laws_szStringS.l0) h.1 (fun _ _ _ => by simp only [laws_szStringS.f]) (fun hl => Sz.strs (fun _ _ _ _ => by simp only [laws_szStringS.l0]) v h.2 hl) ha
def bdField (x : S193) : Prop := x.f0.size ≤ 1048576 ∧ x.f1.size ≤ 1048576 ∧ True
theorem sz_Field (x : S193) (h : wf193 x) {a : Int} (ha : Lft a) : Sz (fun k => laws_szField.f k x a) a (bdField x) := by
  simp only [laws_szField.f]; unfold bdField
  exact Sz.len ha (fun _ h1 => Sz.len h1 (fun _ h2 => Sz.ret) h.2) h.1
def bdFieldS (v : (List S193)) : Prop := v.length ≤ 1048576 ∧ ∀ x ∈ v, bdField x
theorem sz_FieldS (v : (List S193)) (h : Lst wf193 v) {a : Int} (ha : Lft a) : Sz (fun k => laws_szFieldS.f k v a) a (bdFieldS v) := Sz.slice (l := laws_szFieldS.l0) h.1 (fun _ _ _ => by simp only [laws_szFieldS.f]) (fun hl => Sz.loop (fun _ _ _ _ => by simp only [laws_szFieldS.l0]) (fun x a hx ha => sz_Field x hx ha) v h.2 hl) ha
def bdNode (x : S137) : Prop := bdStringS x.f1 ∧ bdFieldS x.f2 ∧ True
theorem sz_Node (x : S137) (h : wf137 x) {a : Int} (ha : Lft a) : Sz (fun k => laws_szNode.f k x a) a (bdNode x) := by
  simp only [laws_szNode.f]; unfold bdNode
  exact Sz.call ha (sz_StringS _ h.2.1 ha) fun v1 h1 => Sz.call h1 (sz_FieldS _ h.2.2 h1) fun v2 h2 => Sz.ret
def bdNodeS (v : (List S137)) : Prop := v.length ≤ 1048576 ∧ ∀ x ∈ v, bdNode x
theorem sz_NodeS (v : (List S137)) (h : Lst wf137 v) {a : Int} (ha : Lft a) : Sz (fun k => laws_szNodeS.f k v a) a (bdNodeS v) := Sz.slice (l := laws_szNodeS.l0) h.1 (fun _ _ _ => by simp only [laws_szNodeS.f]) (fun hl => Sz.loop (fun _ _ _ _ => by simp only [laws_szNodeS.l0]) (fun x a hx ha => sz_Node x hx ha) v h.2 hl) ha
def bdEdge (x : S139) : Prop := x.f1.size ≤ 1048576 ∧ bdFieldS x.f4 ∧ True
theorem sz_Edge (x : S139) (h : wf139 x) {a : Int} (ha : Lft a) : Sz (fun k => laws_szEdge.f k x a) a (bdEdge x) := by
  simp only [laws_szEdge.f]; unfold bdEdge
  exact Sz.len ha (fun _ h1 => Sz.call h1 (sz_FieldS _ h.2.2.2.2 h1) fun v2 h2 => Sz.ret) h.2.1
def bdEdgeS (v : (List S139)) : Prop := v.length ≤ 1048576 ∧ ∀ x ∈ v, bdEdge x
theorem sz_EdgeS (v : (List S139)) (h : Lst wf139 v) {a : Int} (ha : Lft a) : Sz (fun k => laws_szEdgeS.f k v a) a (bdEdgeS v) := Sz.slice (l := laws_szEdgeS.l0) h.1 (fun _ _ _ => by simp only [laws_szEdgeS.f]) (fun hl => Sz.loop (fun _ _ _ _ => by simp only [laws_szEdgeS.l0]) (fun x a hx ha => sz_Edge x hx ha) v h.2 hl) ha
def bdGraph (x : S24) : Prop := bdNodeS x.f0 ∧ bdEdgeS x.f1 ∧ True
theorem sz_Graph (x : S24) (h : wf24 x) {a : Int} (ha : Lft a) : Sz (fun k => laws_szGraph.f k x a) a (bdGraph x) := by
  simp only [laws_szGraph.f]; unfold bdGraph
  exact Sz.call ha (sz_NodeS _ h.1 ha) fun v1 h1 => Sz.call h1 (sz_EdgeS _ h.2 h1) fun v2 h2 => Sz.ret
theorem to_StringS (v : (List ByteArray)) (h : bdStringS v) : Ev (fun k => laws_toStringS.f k v) v := by
  have := to_f (f := laws_toStringS.f) (l := laws_toStringS.l0) (tr := id) h.1 (fun _ _ => by simp only [laws_toStringS.f]; rfl) (to_strs (fun _ _ _ _ _ => by simp only [laws_toStringS.l0]) v h.1)
  rwa [List.map_id] at this
theorem eq_StringS (v : (List ByteArray)) (h : bdStringS v) : Ev (fun k => laws_eqStringS.f k v v) true := eq_f (l := laws_eqStringS.l0) (fun _ _ _ => by simp only [laws_eqStringS.f]) (eq_strs (fun _ _ _ _ => by simp only [laws_eqStringS.l0]) _ h.1)
def trField (x : S193) : S193 := x
theorem to_Field (x : S193) (h : bdField x) : Ev (fun k => laws_toField.f k x) (trField x) := by
  simp only [laws_toField.f, trField]; exact Ev.ret _
theorem eq_Field (x : S193) (h : bdField x) : Ev (fun k => laws_eqField.f k (trField x) (trField x)) true := by
  simp only [laws_eqField.f, trField, beq_self_eq_true, decide_true, cond_true]
  exact Ev.ret _
theorem to_FieldS (v : (List S193)) (h : bdFieldS v) : Ev (fun k => laws_toFieldS.f k v) (v.map trField) := to_f (l := laws_toFieldS.l0) h.1 (fun _ _ => by simp only [laws_toFieldS.f]; rfl) (to_loop (B := bdField) (fun _ _ _ _ _ => by simp only [laws_toFieldS.l0]) (fun x hx => to_Field x hx) v h.2 h.1)
theorem eq_FieldS (v : (List S193)) (h : bdFieldS v) : Ev (fun k => laws_eqFieldS.f k (v.map trField) (v.map trField)) true := eq_f (l := laws_eqFieldS.l0) (fun _ _ _ => by simp only [laws_eqFieldS.f]) (eq_loop (e := laws_eqField.f) (fun _ _ _ _ => by simp only [laws_eqFieldS.l0]) _ (by intro y hy; obtain ⟨x, hx, rfl⟩ := List.mem_map.1 hy; exact eq_Field x (h.2 x hx)) (by simpa using h.1))
def trNode (x : S137) : S94 := ⟨x.f0, x.f1, (x.f2.map trField)⟩
theorem to_Node (x : S137) (h : bdNode x) : Ev (fun k => laws_toNode.f k x) (trNode x) := by
  simp only [laws_toNode.f, trNode]; exact Ev.bind (to_StringS _ h.1) (Ev.bind (to_FieldS _ h.2.1) (Ev.ret _))
theorem eq_Node (x : S137) (h : bdNode x) : Ev (fun k => laws_eqNode.f k (trNode x) (trNode x)) true := by
  simp only [laws_eqNode.f, trNode, beq_self_eq_true, decide_true, cond_true]
  refine Ev.bind (eq_StringS _ h.1) ?_
  simp only [beq_self_eq_true, decide_true, cond_true]
  refine Ev.bind (eq_FieldS _ h.2.1) ?_
  simp only [beq_self_eq_true, decide_true, cond_true]
  exact Ev.ret _
theorem to_NodeS (v : (List S137)) (h : bdNodeS v) : Ev (fun k => laws_toNodeS.f k v) (v.map trNode) := to_f (l := laws_toNodeS.l0) h.1 (fun _ _ => by simp only [laws_toNodeS.f]; rfl) (to_loop (B := bdNode) (fun _ _ _ _ _ => by simp only [laws_toNodeS.l0]) (fun x hx => to_Node x hx) v h.2 h.1)
theorem eq_NodeS (v : (List S137)) (h : bdNodeS v) : Ev (fun k => laws_eqNodeS.f k (v.map trNode) (v.map trNode)) true := eq_f (l := laws_eqNodeS.l0) (fun _ _ _ => by simp only [laws_eqNodeS.f]) (eq_loop (e := laws_eqNode.f) (fun _ _ _ _ => by simp only [laws_eqNodeS.l0]) _ (by intro y hy; obtain ⟨x, hx, rfl⟩ := List.mem_map.1 hy; exact eq_Node x (h.2 x hx)) (by simpa using h.1))
def trEdge (x : S139) : S110 := ⟨x.f0, x.f1, x.f2, x.f3, (x.f4.map trField)⟩
theorem to_Edge (x : S139) (h : bdEdge x) : Ev (fun k => laws_toEdge.f k x) (trEdge x) := by
  simp only [laws_toEdge.f, trEdge]; exact Ev.bind (to_FieldS _ h.2.1) (Ev.ret _)
theorem eq_Edge (x : S139) (h : bdEdge x) : Ev (fun k => laws_eqEdge.f k (trEdge x) (trEdge x)) true := by
  simp only [laws_eqEdge.f, trEdge, beq_self_eq_true, decide_true, cond_true]
  refine Ev.bind (eq_FieldS _ h.2.1) ?_
  simp only [beq_self_eq_true, decide_true, cond_true]
  exact Ev.ret _
theorem to_EdgeS (v : (List S139)) (h : bdEdgeS v) : Ev (fun k => laws_toEdgeS.f k v) (v.map trEdge) := to_f (l := laws_toEdgeS.l0) h.1 (fun _ _ => by simp only [laws_toEdgeS.f]; rfl) (to_loop (B := bdEdge) (fun _ _ _ _ _ => by simp only [laws_toEdgeS.l0]) (fun x hx => to_Edge x hx) v h.2 h.1)
theorem eq_EdgeS (v : (List S139)) (h : bdEdgeS v) : Ev (fun k => laws_eqEdgeS.f k (v.map trEdge) (v.map trEdge)) true := eq_f (l := laws_eqEdgeS.l0) (fun _ _ _ => by simp only [laws_eqEdgeS.f]) (eq_loop (e := laws_eqEdge.f) (fun _ _ _ _ => by simp only [laws_eqEdgeS.l0]) _ (by intro y hy; obtain ⟨x, hx, rfl⟩ := List.mem_map.1 hy; exact eq_Edge x (h.2 x hx)) (by simpa using h.1))
def trGraph (x : S24) : S31 := ⟨(x.f0.map trNode), (x.f1.map trEdge)⟩
theorem to_Graph (x : S24) (h : bdGraph x) : Ev (fun k => laws_toGraph.f k x) (trGraph x) := by
  simp only [laws_toGraph.f, trGraph]; exact Ev.bind (to_NodeS _ h.1) (Ev.bind (to_EdgeS _ h.2.1) (Ev.ret _))
theorem eq_Graph (x : S24) (h : bdGraph x) : Ev (fun k => laws_eqGraph.f k (trGraph x) (trGraph x)) true := by
  simp only [laws_eqGraph.f, trGraph, beq_self_eq_true, decide_true, cond_true]
  refine Ev.bind (eq_NodeS _ h.1) ?_
  simp only [beq_self_eq_true, decide_true, cond_true]
  refine Ev.bind (eq_EdgeS _ h.2.1) ?_
  simp only [beq_self_eq_true, decide_true, cond_true]
  exact Ev.ret _
def wf80 (x : S80) : Prop := (InK .i64) x.f0 ∧ (Lst (InK .i64)) x.f1 ∧ (Lst (InK .i64)) x.f2
def bdInt64S (v : (List Int)) : Prop := v.length ≤ 1048576 ∧ True
theorem sz_Int64S (v : (List Int)) (h : Lst (InK .i64) v) {a : Int} (ha : Lft a) : Sz (fun k => laws_szInt64S.f k v a) a (bdInt64S v) := by
  simp only [laws_szInt64S.f]; exact Sz.len ha (fun _ _ => Sz.ret) h.1
def bdMatching (x : S80) : Prop := bdInt64S x.f1 ∧ bdInt64S x.f2 ∧ True
theorem sz_Matching (x : S80) (h : wf80 x) {a : Int} (ha : Lft a) : Sz (fun k => laws_szMatching.f k x a) a (bdMatching x) := by
  simp only [laws_szMatching.f]; unfold bdMatching
  exact Sz.call ha (sz_Int64S _ h.2.1 ha) fun v1 h1 => Sz.call h1 (sz_Int64S _ h.2.2 h1) fun v2 h2 => Sz.ret
theorem to_Int64S (v : (List Int)) (h : bdInt64S v) : Ev (fun k => laws_toInt64S.f k v) v := by
  have := to_f (f := laws_toInt64S.f) (l := laws_toInt64S.l0) (tr := id) h.1 (fun _ _ => by simp only [laws_toInt64S.f]; rfl) (to_ints (fun _ _ _ _ _ => by simp only [laws_toInt64S.l0]) v h.1)
  rwa [List.map_id] at this
theorem eq_Int64S (v : (List Int)) (h : bdInt64S v) : Ev (fun k => laws_eqInt64S.f k v v) true := eq_f (l := laws_eqInt64S.l0) (fun _ _ _ => by simp only [laws_eqInt64S.f]) (eq_ints (fun _ _ _ _ => by simp only [laws_eqInt64S.l0]) _ h.1)
def trMatching (x : S80) : S80 := ⟨x.f0, x.f1, x.f2⟩
theorem to_Matching (x : S80) (h : bdMatching x) : Ev (fun k => laws_toMatching.f k x) (trMatching x) := by
  simp only [laws_toMatching.f, trMatching]; exact Ev.bind (to_Int64S _ h.1) (Ev.bind (to_Int64S _ h.2.1) (Ev.ret _))
theorem eq_Matching (x : S80) (h : bdMatching x) : Ev (fun k => laws_eqMatching.f k (trMatching x) (trMatching x)) true := by
  simp only [laws_eqMatching.f, trMatching, beq_self_eq_true, decide_true, cond_true]
  refine Ev.bind (eq_Int64S _ h.1) ?_
  simp only [beq_self_eq_true, decide_true, cond_true]
  refine Ev.bind (eq_Int64S _ h.2.1) ?_
  simp only [beq_self_eq_true, decide_true, cond_true]
  exact Ev.ret _
end Go.Ab
namespace Go.Ab
open Go.Proofs
set_option linter.unusedVariables false
set_option linter.unusedSimpArgs false
theorem app1 {α : Type} {a : List α} {x : α} (h : a.length ≤ 1000000) : app a [x] = some (a ++ [x]) := by unfold app; rw [if_pos (by simp; omega)]
theorem lab_len {n : Nat} {l : List ByteArray} (h : labB n l = true) : l.length ≤ n := by unfold labB at h; simp only [Bool.and_eq_true, decide_eq_true_eq] at h; exact h.1
section
variable {g : S31} {nm : ByteArray}
/-- Has the node of that number the label? -/
def labOf (g : S31) (nm : ByteArray) (id : Int) : Bool := (g.f0.find? fun x => x.f0 == id).any fun x => has x.f1 nm
def kindB (g : S31) (nm : ByteArray) (e : S110) : Bool := !(labOf g nm e.f2 == labOf g nm e.f3)
theorem labOf_at (hg : GOk g) {j : Nat} (hj : j < g.f0.length) : labOf g nm g.f0[j].f0 = has g.f0[j].f1 nm := by
  unfold labOf
  rcases fnd_cases (fun x : S94 => x.f0 == g.f0[j].f0) g.f0 with ⟨_, _, h⟩ | ⟨q, hq, _, h2, h3⟩
  · have := h _ (List.getElem_mem hj); simp at this
  · have : q = j := rise_inj hg.nr hq hj (by simpa using h3)
    subst this
    rw [h2]; rfl
theorem sides_ (hg : GOk g) : Ev (fun k => spec_l17Sides.f k g nm) (g.f0.map fun x => has x.f1 nm) := by
  have hN := hg.n200
  have L : ∀ (n i : Nat) (acc : List Bool), g.f0.length - i ≤ n → acc = (g.f0.take i).map (fun x => has x.f1 nm) → Ev (fun k => spec_l17Sides.l0 k nm acc (i : Int) g) (g.f0.map fun x => has x.f1 nm) := by
    have fin : ∀ (i : Nat) (acc : List Bool), ¬ i < g.f0.length → acc = (g.f0.take i).map (fun x => has x.f1 nm) → Ev (fun k => spec_l17Sides.l0 k nm acc (i : Int) g) (g.f0.map fun x => has x.f1 nm) := fun i acc h ha => by
      refine Ev.step ?_
      simp only [spec_l17Sides.l0, ltn h, cond_false]
      rw [List.take_of_length_le (by omega)] at ha
      rw [ha]; exact Ev.ret _
    intro n
    induction n with
    | zero => intro i acc h ha; exact fin i acc (by omega) ha
    | succ n ih =>
      intro i acc h ha
      by_cases hi : i < g.f0.length
      case neg => exact fin i acc hi ha
      have hl := lab_len (hg.nd _ (List.getElem_mem hi)).2.1
      refine Ev.step ?_
      simp only [spec_l17Sides.l0, ltd hi, cond_true, ixg hi, Option.bind_some, wup hi (show g.f0.length ≤ 2000000 by omega)]
      refine Ev.bind (smem (by omega) nm) ?_
      rw [app1 (by rw [ha]; simp; omega)]
      refine ih (i + 1) _ (by omega) ?_
      rw [List.take_succ_eq_append_getElem hi, List.map_append, ha]; rfl
  refine Ev.step ?_
  simp only [spec_l17Sides.f]
  exact L _ 0 [] (Nat.le_refl _) rfl
/-- The place of a node. -/
theorem at_ (hg : GOk g) {id : Int} (h : id ∈ gN g) : ∃ (j : Nat) (hj : j < g.f0.length), g.f0[j].f0 = id ∧ Ev (fun k => spec_l02Node.f k g id) (j : Int) := by
  have hs := node_s (g := g) (by have := hg.n200; omega) id
  rcases fnd_cases (fun e : S94 => e.f0 == id) g.f0 with ⟨_, _, h3⟩ | ⟨j, hj, hc, _, hp⟩
  · unfold gN at h
    obtain ⟨x, hx, rfl⟩ := List.mem_map.1 h
    have := h3 x hx; simp at this
  · rw [hc] at hs
    exact ⟨j, hj, by simpa using hp, hs⟩
theorem new_ (hg : GOk g) : Ev (fun k => spec_l17New.f k g nm) (g.f0, g.f1, g.f0.map (fun x => has x.f1 nm), g.f1.map (kindB g nm), List.replicate g.f1.length false) := by
  have hN := hg.n200
  have hE := hg.e400
  have L : ∀ (n i : Nat) (acc : List Bool), g.f1.length - i ≤ n → acc = (g.f1.take i).map (kindB g nm) → Ev (fun k => spec_l17New.l0 k (i : Int) g (List.replicate g.f1.length false) (g.f0.map fun x => has x.f1 nm) acc) (g.f0, g.f1, g.f0.map (fun x => has x.f1 nm), g.f1.map (kindB g nm), List.replicate g.f1.length false) := by
    have fin : ∀ (i : Nat) (acc : List Bool), ¬ i < g.f1.length → acc = (g.f1.take i).map (kindB g nm) → Ev (fun k => spec_l17New.l0 k (i : Int) g (List.replicate g.f1.length false) (g.f0.map fun x => has x.f1 nm) acc) (g.f0, g.f1, g.f0.map (fun x => has x.f1 nm), g.f1.map (kindB g nm), List.replicate g.f1.length false) := fun i acc h ha => by
      refine Ev.step ?_
      simp only [spec_l17New.l0, ltn h, cond_false]
      rw [List.take_of_length_le (by omega)] at ha
      rw [ha]; exact Ev.ret _
    intro n
    induction n with
    | zero => intro i acc h ha; exact fin i acc (by omega) ha
    | succ n ih =>
      intro i acc h ha
      by_cases hi : i < g.f1.length
      case neg => exact fin i acc hi ha
      obtain ⟨e1, e2⟩ := hg.ends _ (List.getElem_mem hi)
      obtain ⟨a, ha1, ha2, ha3⟩ := at_ hg e1
      obtain ⟨b, hb1, hb2, hb3⟩ := at_ hg e2
      have hla := labOf_at (nm := nm) hg ha1
      have hlb := labOf_at (nm := nm) hg hb1
      rw [ha2] at hla
      rw [hb2] at hlb
      refine Ev.step ?_
      simp only [spec_l17New.l0, ltd hi, cond_true, ixg hi, Option.bind_some, wup hi (show g.f1.length ≤ 2000000 by omega)]
      refine Ev.bind ha3 ?_
      simp only [ixg (show a < (g.f0.map fun x => has x.f1 nm).length by simpa using ha1), Option.bind_some]
      refine Ev.bind hb3 ?_
      simp only [ixg (show b < (g.f0.map fun x => has x.f1 nm).length by simpa using hb1), Option.bind_some]
      rw [app1 (by rw [ha]; simp; omega)]
      refine ih (i + 1) _ (by omega) ?_
      rw [List.take_succ_eq_append_getElem hi, List.map_append, ha, List.getElem_map, List.getElem_map, ← hla, ← hlb]; rfl
  refine Ev.step ?_
  simp only [spec_l17New.f]
  refine Ev.bind (sides_ hg) ?_
  rw [mks_ false (by omega)]
  exact L _ 0 [] (Nat.le_refl _) rfl
theorem pairing_ (hg : GOk g) : ∃ R : (List S110 × List (Int × Bool) × List (Int × Bool) × List (Int × Int)), Ev (fun k => impl_newPairing.f k g nm) R ∧ R.1 = g.f1.filter (kindB g nm) := by
  have hN := hg.n200
  have hE := hg.e400
  have L1 : ∀ (n i : Nat) (M : List (Int × Bool)) (acc : List S110), g.f1.length - i ≤ n → (∀ id ∈ gN g, tget M id false = labOf g nm id) → acc = (g.f1.take i).filter (kindB g nm) → ∃ R : (List S110 × List (Int × Bool) × List (Int × Bool) × List (Int × Int)), Ev (fun k => impl_newPairing.l1 k g (i : Int) M acc) R ∧ R.1 = g.f1.filter (kindB g nm) := by
    have fin : ∀ (i : Nat) (M : List (Int × Bool)) (acc : List S110), ¬ i < g.f1.length → acc = (g.f1.take i).filter (kindB g nm) → ∃ R : (List S110 × List (Int × Bool) × List (Int × Bool) × List (Int × Int)), Ev (fun k => impl_newPairing.l1 k g (i : Int) M acc) R ∧ R.1 = g.f1.filter (kindB g nm) := fun i M acc h ha => by
      refine ⟨(acc, M, [], []), Ev.step ?_, ?_⟩
      · simp only [impl_newPairing.l1, ltn h, cond_false]; exact Ev.ret _
      · rw [List.take_of_length_le (by omega)] at ha; exact ha
    intro n
    induction n with
    | zero => intro i M acc h _ ha; exact fin i M acc (by omega) ha
    | succ n ih =>
      intro i M acc h hM ha
      by_cases hi : i < g.f1.length
      case neg => exact fin i M acc hi ha
      obtain ⟨e1, e2⟩ := hg.ends _ (List.getElem_mem hi)
      have ht : (g.f1.take (i + 1)).filter (kindB g nm) = acc ++ (if kindB g nm g.f1[i] then [g.f1[i]] else []) := by
        rw [List.take_succ_eq_append_getElem hi, List.filter_append, ← ha, List.filter_cons]; rfl
      have hlen : acc.length ≤ 400 := by rw [ha]; have := List.length_filter_le (kindB g nm) (g.f1.take i); rw [List.length_take] at this; omega
      cases hk : kindB g nm g.f1[i] with
      | true =>
        rw [hk, if_pos rfl] at ht
        obtain ⟨R, r1, r2⟩ := ih (i + 1) M (acc ++ [g.f1[i]]) (by omega) hM ht.symm
        refine ⟨R, Ev.step ?_, r2⟩
        unfold kindB at hk
        simp only [impl_newPairing.l1, ltd hi, cond_true, ixg hi, Option.bind_some, wup hi (show g.f1.length ≤ 2000000 by omega), hM _ e1, hM _ e2, show (labOf g nm g.f1[i].f2 == labOf g nm g.f1[i].f3) = false by simpa using hk, cond_false, app1 (show acc.length ≤ 1000000 by omega)]
        exact r1
      | false =>
        rw [hk] at ht
        simp only [Bool.false_eq_true, if_false, List.append_nil] at ht
        obtain ⟨R, r1, r2⟩ := ih (i + 1) M acc (by omega) hM ht.symm
        refine ⟨R, Ev.step ?_, r2⟩
        unfold kindB at hk
        simp only [impl_newPairing.l1, ltd hi, cond_true, ixg hi, Option.bind_some, wup hi (show g.f1.length ≤ 2000000 by omega), hM _ e1, hM _ e2, show (labOf g nm g.f1[i].f2 == labOf g nm g.f1[i].f3) = true by simpa using hk]
        exact r1
  have L0 : ∀ (n i : Nat) (M : List (Int × Bool)), g.f0.length - i ≤ n → (∀ j (h : j < g.f0.length), tget M g.f0[j].f0 false = if j < i then has g.f0[j].f1 nm else false) → ∃ R : (List S110 × List (Int × Bool) × List (Int × Bool) × List (Int × Int)), Ev (fun k => impl_newPairing.l0 k nm g (i : Int) M) R ∧ R.1 = g.f1.filter (kindB g nm) := by
    have fin : ∀ (i : Nat) (M : List (Int × Bool)), ¬ i < g.f0.length → (∀ j (h : j < g.f0.length), tget M g.f0[j].f0 false = if j < i then has g.f0[j].f1 nm else false) → ∃ R : (List S110 × List (Int × Bool) × List (Int × Bool) × List (Int × Int)), Ev (fun k => impl_newPairing.l0 k nm g (i : Int) M) R ∧ R.1 = g.f1.filter (kindB g nm) := fun i M h hM => by
      obtain ⟨R, r1, r2⟩ := L1 _ 0 M [] (Nat.le_refl _) (fun id hid => by
        unfold gN at hid
        obtain ⟨x, hx, rfl⟩ := List.mem_map.1 hid
        obtain ⟨j, hj, rfl⟩ := List.getElem_of_mem hx
        rw [hM j hj, if_pos (by omega), labOf_at hg hj]) rfl
      refine ⟨R, Ev.step ?_, r2⟩
      simp only [impl_newPairing.l0, ltn h, cond_false]
      exact r1
    intro n
    induction n with
    | zero => intro i M h hM; exact fin i M (by omega) hM
    | succ n ih =>
      intro i M h hM
      by_cases hi : i < g.f0.length
      case neg => exact fin i M hi hM
      have hl := lab_len (hg.nd _ (List.getElem_mem hi)).2.1
      have hlab : Ev (fun k => impl_hasLabel.f k g.f0[i] nm) (has g.f0[i].f1 nm) := by
        unfold impl_hasLabel.f
        exact Ev.bind (imem (by omega) nm) (Ev.ret _)
      cases hb : has g.f0[i].f1 nm with
      | true =>
        obtain ⟨R, r1, r2⟩ := ih (i + 1) (tput M g.f0[i].f0 true) (by omega) fun j hj => by
          rw [tget_tput, hM j hj]
          by_cases e : j = i
          · subst e; rw [if_pos rfl, if_pos (by omega), hb]
          · rw [if_neg fun e' => e (rise_inj hg.nr hj hi e')]
            by_cases hlt : j < i
            · rw [if_pos hlt, if_pos (by omega)]
            · rw [if_neg hlt, if_neg (by omega)]
        refine ⟨R, Ev.step ?_, r2⟩
        simp only [impl_newPairing.l0, ltd hi, cond_true, ixg hi, Option.bind_some]
        refine Ev.bind hlab ?_
        rw [hb]
        simp only [cond_true]
        refine Ev.step ?_
        simp only [impl_newPairing.j0, wup hi (show g.f0.length ≤ 2000000 by omega)]
        exact r1
      | false =>
        obtain ⟨R, r1, r2⟩ := ih (i + 1) M (by omega) fun j hj => by
          rw [hM j hj]
          by_cases e : j = i
          · subst e; rw [if_neg (by omega), if_pos (by omega), hb]
          · by_cases hlt : j < i
            · rw [if_pos hlt, if_pos (by omega)]
            · rw [if_neg hlt, if_neg (by omega)]
        refine ⟨R, Ev.step ?_, r2⟩
        simp only [impl_newPairing.l0, ltd hi, cond_true, ixg hi, Option.bind_some]
        refine Ev.bind hlab ?_
        rw [hb]
        simp only [cond_false]
        refine Ev.step ?_
        simp only [impl_newPairing.j0, wup hi (show g.f0.length ≤ 2000000 by omega)]
        exact r1
  obtain ⟨R, r1, r2⟩ := L0 _ 0 [] (Nat.le_refl _) fun j hj => by simp [tget, tfind]
  exact ⟨R, Ev.step (by simp only [impl_newPairing.f]; exact r1), r2⟩
theorem idxf_ {l : List S110} (hl : l.length ≤ 2000000) (id : Int) : Ev (fun k => slices_IndexFunc.f k l id) (fnd (fun e => e.f0 == id) l, id) := by
  refine Ev.step ?_
  simp only [slices_IndexFunc.f]
  have := search (p := fun x => x.f0 == id) (hit := fun i => (i, id)) (miss := (-1, id)) (F := fun k i => slices_IndexFunc.l0 k l i id) (l := l) (by omega) (fun k i => by simp only [slices_IndexFunc.l0, impl_matchingOk_1.f, Option.bind_some]) _ 0 (Nat.le_refl _)
  refine this.eq ?_
  rw [List.drop_zero]
  unfold fnd
  cases List.findIdx? (fun e : S110 => e.f0 == id) l <;> simp
/-- The edges that no cover has, at the end of both. -/
theorem cov_s {x : S80} {a b c d : List Bool} (hE : g.f1.length ≤ 400) (hc : x.f2.length ≤ 2000000) : ∀ (n i : Nat), g.f1.length - i ≤ n → Ev (fun k => spec_MatchingFault.l1 k (i : Int) g x g.f0 g.f1 a (g.f1.map (kindB g nm)) d) (if (g.f1.drop i).all (fun e => !kindB g nm e || (hasI x.f2 e.f2 || hasI x.f2 e.f3)) then 0 else 1) := by
  have fin : ∀ i : Nat, ¬ i < g.f1.length → Ev (fun k => spec_MatchingFault.l1 k (i : Int) g x g.f0 g.f1 a (g.f1.map (kindB g nm)) d) (if (g.f1.drop i).all (fun e => !kindB g nm e || (hasI x.f2 e.f2 || hasI x.f2 e.f3)) then 0 else 1) := fun i h => by
    refine Ev.step ?_
    rw [List.drop_of_length_le (by omega)]
    simp only [spec_MatchingFault.l1, List.length_map, ltn h, cond_false, List.all_nil, if_true]
    exact Ev.ret _
  intro n
  induction n with
  | zero => intro i h; exact fin i (by omega)
  | succ n ih =>
    intro i h
    by_cases hi : i < g.f1.length
    case neg => exact fin i hi
    have next := ih (i + 1) (by omega)
    refine Ev.step ?_
    rw [List.drop_eq_getElem_cons hi, List.all_cons]
    simp only [spec_MatchingFault.l1, List.length_map, ltd hi, cond_true, ixg (show i < (g.f1.map (kindB g nm)).length by simpa using hi), List.getElem_map, Option.bind_some, ixg hi, wup hi (show g.f1.length ≤ 2000000 by omega)]
    cases hk : kindB g nm g.f1[i] with
    | false => simp only [cond_false, Bool.not_false, Bool.true_or, Bool.true_and]; exact next
    | true =>
      simp only [cond_true, Bool.not_true, Bool.false_or]
      refine Ev.bind (in_s hc _) ?_
      cases hasI x.f2 g.f1[i].f2 with
      | true => simp only [cond_true, Bool.true_or, Bool.true_and]; exact next
      | false =>
        simp only [cond_false, Bool.false_or]
        refine Ev.bind (in_s hc _) ?_
        cases hasI x.f2 g.f1[i].f3 with
        | true => simp only [cond_true, Bool.true_and]; exact next
        | false => simp only [cond_false, Bool.false_and]; exact Ev.ret _
theorem cov_i {x : S80} {R : (List S110 × List (Int × Bool) × List (Int × Bool) × List (Int × Int))} (hE : R.1.length ≤ 400) (hc : x.f2.length ≤ 2000000) : ∀ (n i : Nat), R.1.length - i ≤ n → Ev (fun k => impl_matchingOk.l1 k R (i : Int) x) ((R.1.drop i).all (fun e => hasI x.f2 e.f2 || hasI x.f2 e.f3)) := by
  have fin : ∀ i : Nat, ¬ i < R.1.length → Ev (fun k => impl_matchingOk.l1 k R (i : Int) x) ((R.1.drop i).all (fun e => hasI x.f2 e.f2 || hasI x.f2 e.f3)) := fun i h => by
    refine Ev.step ?_
    rw [List.drop_of_length_le (by omega)]
    simp only [impl_matchingOk.l1, ltn h, cond_false, List.all_nil]
    exact Ev.ret _
  intro n
  induction n with
  | zero => intro i h; exact fin i (by omega)
  | succ n ih =>
    intro i h
    by_cases hi : i < R.1.length
    case neg => exact fin i hi
    have next := ih (i + 1) (by omega)
    refine Ev.step ?_
    rw [List.drop_eq_getElem_cons hi, List.all_cons]
    simp only [impl_matchingOk.l1, ltd hi, cond_true, ixg hi, Option.bind_some, wup hi (show R.1.length ≤ 2000000 by omega)]
    refine Ev.bind (in_i hc _) ?_
    cases hasI x.f2 R.1[i].f2 with
    | true => simp only [cond_true, Bool.true_or, Bool.true_and]; exact next
    | false =>
      simp only [cond_false, Bool.false_or]
      refine Ev.bind (in_i hc _) ?_
      cases hasI x.f2 R.1[i].f3 with
      | true => simp only [cond_true, Bool.true_and]; exact next
      | false => simp only [cond_false, Bool.false_and]; exact Ev.ret _
def UR (g : S31) (u : List Bool) (M : List (Int × Int)) : Prop := u.length = g.f0.length ∧ ∀ j (h : j < g.f0.length) (h' : j < u.length), tget M g.f0[j].f0 0 = if u[j] then 1 else 0
theorem match_l0 (hg : GOk g) {x : S80} {u0 ins : List Bool} {R : (List S110 × List (Int × Bool) × List (Int × Bool) × List (Int × Int))} (hR : R.1 = g.f1.filter (kindB g nm)) (hx : x.f1.length ≤ 2000000) (hu0 : u0.length = g.f0.length) {W : Bool}
  (hs : Ev (fun k => spec_MatchingFault.l1 k 0 g x g.f0 g.f1 (g.f0.map fun x => has x.f1 nm) (g.f1.map (kindB g nm)) ins) (if W then 0 else 1)) (hi' : Ev (fun k => impl_matchingOk.l1 k R 0 x) W) :
  ∀ (n i : Nat) (u : List Bool) (M : List (Int × Int)), x.f1.length - i ≤ n → UR g u M → ∃ c : Bool, Ev (fun k => spec_MatchingFault.l0 k u0 (i : Int) g x g.f0 g.f1 (g.f0.map fun x => has x.f1 nm) (g.f1.map (kindB g nm)) ins u) (if c then 0 else 1) ∧ Ev (fun k => impl_matchingOk.l0 k x (i : Int) R M) c := by
  have hN := hg.n200
  have hE := hg.e400
  have hRl : R.1.length ≤ 400 := by rw [hR]; have := List.length_filter_le (kindB g nm) g.f1; omega
  have fin : ∀ (i : Nat) (u : List Bool) (M : List (Int × Int)), ¬ i < x.f1.length → ∃ c : Bool, Ev (fun k => spec_MatchingFault.l0 k u0 (i : Int) g x g.f0 g.f1 (g.f0.map fun x => has x.f1 nm) (g.f1.map (kindB g nm)) ins u) (if c then 0 else 1) ∧ Ev (fun k => impl_matchingOk.l0 k x (i : Int) R M) c := fun i u M h => by
    refine ⟨W, Ev.step ?_, Ev.step ?_⟩
    · simp only [spec_MatchingFault.l0, ltn h, cond_false]; exact hs
    · simp only [impl_matchingOk.l0, ltn h, cond_false]; exact hi'
  intro n
  induction n with
  | zero => intro i u M h hU; exact fin i u M (by omega)
  | succ n ih =>
    intro i u M h hU
    by_cases hi : i < x.f1.length
    case neg => exact fin i u M hi
    have hes := edge_s (g := g) (by omega) x.f1[i]
    have hif := idxf_ (l := R.1) (by omega) x.f1[i]
    -- is it found among those of the kind?
    rcases fnd_cases (fun e : S110 => e.f0 == x.f1[i]) R.1 with ⟨hc, _, hno⟩ | ⟨q, hq, hc, _, hp⟩
    · rw [hc] at hif
      refine ⟨false, Ev.step ?_, Ev.step ?_⟩
      · simp only [spec_MatchingFault.l0, ltd hi, cond_true, ixg hi, Option.bind_some]
        refine Ev.bind hes ?_
        rcases fnd_cases (fun e : S110 => e.f0 == x.f1[i]) g.f1 with ⟨hc2, _, _⟩ | ⟨j, hj, hc2, _, hp2⟩
        · rw [hc2]
          simp only [show decide ((-1 : Int) < 0) = true from rfl, cond_true]; exact Ev.ret _
        · rw [hc2]
          have hk : kindB g nm g.f1[j] = false := by
            cases hk : kindB g nm g.f1[j] with
            | false => rfl
            | true =>
              have := hno g.f1[j] (by rw [hR]; exact List.mem_filter.2 ⟨List.getElem_mem hj, hk⟩)
              rw [this] at hp2; cases hp2
          simp only [show decide ((j : Int) < 0) = false by simp, cond_false, ixg (show j < (g.f1.map (kindB g nm)).length by simpa using hj), List.getElem_map, Option.bind_some, hk]
          exact Ev.ret _
      · simp only [impl_matchingOk.l0, ltd hi, cond_true, ixg hi, Option.bind_some]
        refine Ev.bind hif ?_
        simp only [show decide ((-1 : Int) < 0) = true from rfl, cond_true]; exact Ev.ret _
    · rw [hc] at hif
      have hmem : R.1[q] ∈ g.f1.filter (kindB g nm) := by rw [← hR]; exact List.getElem_mem hq
      obtain ⟨hm1, hm2⟩ := List.mem_filter.1 hmem
      obtain ⟨j, hj, hjq⟩ := List.getElem_of_mem hm1
      have hid : g.f1[j].f0 = x.f1[i] := by rw [hjq]; simpa using hp
      have hc2 : fnd (fun e : S110 => e.f0 == x.f1[i]) g.f1 = (j : Int) := by
        rcases fnd_cases (fun e : S110 => e.f0 == x.f1[i]) g.f1 with ⟨_, _, h3⟩ | ⟨j2, hj2, h4, _, h5⟩
        · have := h3 _ (List.getElem_mem hj); simp [hid] at this
        · have : j2 = j := rise_inj hg.er hj2 hj (by rw [hid]; simpa using h5)
          subst this; exact h4
      rw [hc2] at hes
      rw [← hjq] at hm2
      obtain ⟨e1, e2⟩ := hg.ends _ (List.getElem_mem hj)
      obtain ⟨a, ha1, ha2, ha3⟩ := at_ hg e1
      obtain ⟨b, hb1, hb2, hb3⟩ := at_ hg e2
      have hla := labOf_at (nm := nm) hg ha1
      have hlb := labOf_at (nm := nm) hg hb1
      rw [ha2] at hla
      rw [hb2] at hlb
      have hab : a ≠ b := fun e => by
        subst e
        unfold kindB at hm2
        rw [hla, hlb] at hm2
        simp at hm2
      have hfab : g.f1[j].f2 ≠ g.f1[j].f3 := fun e => hab (rise_inj hg.nr ha1 hb1 (by rw [ha2, hb2, e]))
      have hua : a < u.length := by rw [hU.1]; exact ha1
      have hub : b < u.length := by rw [hU.1]; exact hb1
      have hMa := hU.2 a ha1 hua
      have hMb := hU.2 b hb1 hub
      rw [ha2] at hMa
      rw [hb2] at hMb
      -- the ends, as the reference tells them
      have hends : ∃ p q : Nat, ((p = a ∧ q = b) ∨ (p = b ∧ q = a)) ∧ Ev (fun k => spec_l17Match_ends.f k (j : Int) ⟨⟨g.f0, g.f1⟩, g.f0.map (fun x => has x.f1 nm), g.f1.map (kindB g nm), ins⟩) ((p : Int), (q : Int), ⟨⟨g.f0, g.f1⟩, g.f0.map (fun x => has x.f1 nm), g.f1.map (kindB g nm), ins⟩) := by
        cases hh : has g.f0[a].f1 nm with
        | true =>
          refine ⟨a, b, .inl ⟨rfl, rfl⟩, ?_⟩
          simp only [spec_l17Match_ends.f, ixg hj, Option.bind_some]
          refine Ev.bind ha3 (Ev.bind hb3 ?_)
          simp only [ixg (show a < (g.f0.map fun x => has x.f1 nm).length by simpa using ha1), List.getElem_map, hh, Option.bind_some, cond_true]
          exact Ev.ret _
        | false =>
          refine ⟨b, a, .inr ⟨rfl, rfl⟩, ?_⟩
          simp only [spec_l17Match_ends.f, ixg hj, Option.bind_some]
          refine Ev.bind ha3 (Ev.bind hb3 ?_)
          simp only [ixg (show a < (g.f0.map fun x => has x.f1 nm).length by simpa using ha1), List.getElem_map, hh, Option.bind_some, cond_false]
          exact Ev.ret _
      obtain ⟨p, q2, hpq, hev⟩ := hends
      have hpl : p < u.length := by rcases hpq with ⟨h1, _⟩ | ⟨h1, _⟩ <;> omega
      have hql : q2 < u.length := by rcases hpq with ⟨_, h1⟩ | ⟨_, h1⟩ <;> omega
      have hp0 : p < u0.length := by rw [hu0, ← hU.1]; exact hpl
      have hq0 : q2 < u0.length := by rw [hu0, ← hU.1]; exact hql
      have hne : p ≠ q2 := by rcases hpq with ⟨h1, h2⟩ | ⟨h1, h2⟩ <;> omega
      -- the table behind both
      have t1 : tget M g.f1[j].f2 0 = if u[a] then 1 else 0 := hMa
      have t2 : tget M g.f1[j].f3 0 = if u[b] then 1 else 0 := hMb
      have w1 : IntKind.i64.wrap (tget M g.f1[j].f2 0 + 1) = tget M g.f1[j].f2 0 + 1 := by rw [t1]; split <;> rfl
      have g3 : tget (tput M g.f1[j].f2 (tget M g.f1[j].f2 0 + 1)) g.f1[j].f3 0 = tget M g.f1[j].f3 0 := by rw [tget_tput, if_neg (fun e => hfab e.symm)]
      have w2 : IntKind.i64.wrap (tget M g.f1[j].f3 0 + 1) = tget M g.f1[j].f3 0 + 1 := by rw [t2]; split <;> rfl
      have g4 : tget (tput (tput M g.f1[j].f2 (tget M g.f1[j].f2 0 + 1)) g.f1[j].f3 (tget M g.f1[j].f3 0 + 1)) g.f1[j].f2 0 = tget M g.f1[j].f2 0 + 1 := by rw [tget_tput, if_neg hfab, tget_tput, if_pos rfl]
      have g5 : tget (tput (tput M g.f1[j].f2 (tget M g.f1[j].f2 0 + 1)) g.f1[j].f3 (tget M g.f1[j].f3 0 + 1)) g.f1[j].f3 0 = tget M g.f1[j].f3 0 + 1 := by rw [tget_tput, if_pos rfl]
      have impl_ : ∀ c : Bool, (u[a] = true ∨ u[b] = true → c = false) → (u[a] = false → u[b] = false → Ev (fun k => impl_matchingOk.l0 k x ((i + 1 : Nat) : Int) R (tput (tput M g.f1[j].f2 (tget M g.f1[j].f2 0 + 1)) g.f1[j].f3 (tget M g.f1[j].f3 0 + 1))) c) → Ev (fun k => impl_matchingOk.l0 k x (i : Int) R M) c := fun c h1 h2 => by
        refine Ev.step ?_
        simp only [impl_matchingOk.l0, ltd hi, cond_true, ixg hi, Option.bind_some, wup hi hx]
        refine Ev.bind hif ?_
        simp only [show decide ((q : Int) < 0) = false by simp, cond_false, ixg hq, Option.bind_some, ← hjq]
        rw [w1, g3, w2, g4, g5, t1, t2]
        cases ca : u[a] with
        | true =>
          simp only [if_true, show decide ((1 : Int) < 1 + 1) = true from rfl, cond_true]
          rw [h1 (.inl ca)]; exact Ev.ret _
        | false =>
          simp only [Bool.false_eq_true, if_false, show decide ((1 : Int) < 0 + 1) = false from rfl, cond_false]
          cases cb : u[b] with
          | true =>
            simp only [if_true, show decide ((1 : Int) < 1 + 1) = true from rfl, cond_true]
            rw [h1 (.inr cb)]; exact Ev.ret _
          | false =>
            simp only [Bool.false_eq_true, if_false, show decide ((1 : Int) < 0 + 1) = false from rfl, cond_false]
            have := h2 ca cb
            rw [t1, t2, ca, cb] at this
            simpa using this
      have spec_ : ∀ c : Bool, (u[p] = true ∨ u[q2] = true → c = false) → (u[p] = false → u[q2] = false → Ev (fun k => spec_MatchingFault.l0 k u0 ((i + 1 : Nat) : Int) g x g.f0 g.f1 (g.f0.map fun x => has x.f1 nm) (g.f1.map (kindB g nm)) ins (setr (setr u p true) q2 true)) (if c then 0 else 1)) → Ev (fun k => spec_MatchingFault.l0 k u0 (i : Int) g x g.f0 g.f1 (g.f0.map fun x => has x.f1 nm) (g.f1.map (kindB g nm)) ins u) (if c then 0 else 1) := fun c h1 h2 => by
        refine Ev.step ?_
        simp only [spec_MatchingFault.l0, ltd hi, cond_true, ixg hi, Option.bind_some, wup hi hx]
        refine Ev.bind hes ?_
        simp only [show decide ((j : Int) < 0) = false by simp, cond_false, ixg (show j < (g.f1.map (kindB g nm)).length by simpa using hj), List.getElem_map, hm2, Option.bind_some, cond_true]
        refine Ev.bind hev ?_
        simp only [inr_ hp0, inr_ hq0, Option.bind_some, Int.toNat_natCast, List.getElem?_eq_getElem hpl, List.getElem?_eq_getElem hql]
        cases cp : u[p] with
        | true => simp only [cond_true]; rw [h1 (.inl cp)]; exact Ev.ret _
        | false =>
          simp only [cond_false]
          cases cq : u[q2] with
          | true => simp only [cond_true]; rw [h1 (.inr cq)]; exact Ev.ret _
          | false =>
            simp only [cond_false]
            have hq3 : q2 < (setr u p true).length := by unfold setr; rw [List.length_set]; exact hql
            simp only [List.getElem?_eq_getElem hq3, Option.bind_some]
            exact h2 cp cq
      by_cases hbad : u[a] = true ∨ u[b] = true
      · refine ⟨false, spec_ false (fun _ => rfl) (fun h1 h2 => ?_), impl_ false (fun _ => rfl) (fun h1 h2 => ?_)⟩
        · exfalso
          rcases hpq with ⟨e1, e2⟩ | ⟨e1, e2⟩ <;> subst e1 <;> subst e2 <;> rcases hbad with h | h <;> simp_all
        · rcases hbad with h | h <;> simp_all
      · have fa : u[a] = false := by cases h : u[a] <;> simp_all
        have fb : u[b] = false := by cases h : u[b] <;> simp_all
        have hU' : UR g (setr (setr u p true) q2 true) (tput (tput M g.f1[j].f2 (tget M g.f1[j].f2 0 + 1)) g.f1[j].f3 (tget M g.f1[j].f3 0 + 1)) := by
          refine ⟨by unfold setr; simp [hU.1], fun y hy hy' => ?_⟩
          unfold setr at hy' ⊢
          simp only [List.length_set] at hy'
          rw [List.getElem_set, List.getElem_set, tget_tput, tget_tput, t1, t2, fa, fb]
          simp only [Bool.false_eq_true, if_false]
          have yb : (g.f0[y].f0 = g.f1[j].f3) ↔ y = b := ⟨fun e => rise_inj hg.nr hy hb1 (by rw [e, hb2]), fun e => by subst e; exact hb2⟩
          have ya : (g.f0[y].f0 = g.f1[j].f2) ↔ y = a := ⟨fun e => rise_inj hg.nr hy ha1 (by rw [e, ha2]), fun e => by subst e; exact ha2⟩
          have old := hU.2 y hy (by rw [hU.1]; exact hy)
          by_cases e1 : y = b
          · rw [if_pos (yb.2 e1)]
            by_cases e3 : q2 = y
            · simp [e3]
            · have e4 : p = y := by rcases hpq with ⟨r1, r2⟩ | ⟨r1, r2⟩ <;> omega
              simp [e3, e4]
          · rw [if_neg fun e => e1 (yb.1 e)]
            by_cases e2 : y = a
            · rw [if_pos (ya.2 e2)]
              by_cases e3 : q2 = y
              · simp [e3]
              · have e4 : p = y := by rcases hpq with ⟨r1, r2⟩ | ⟨r1, r2⟩ <;> omega
                simp [e3, e4]
            · rw [if_neg fun e => e2 (ya.1 e), old]
              have n1 : ¬ q2 = y := by rcases hpq with ⟨r1, r2⟩ | ⟨r1, r2⟩ <;> omega
              have n2 : ¬ p = y := by rcases hpq with ⟨r1, r2⟩ | ⟨r1, r2⟩ <;> omega
              simp [n1, n2]
        obtain ⟨c, c1, c2⟩ := ih (i + 1) _ _ (by omega) hU'
        refine ⟨c, spec_ c (fun h => ?_) (fun _ _ => c1), impl_ c (fun h => absurd h hbad) (fun _ _ => c2)⟩
        exfalso
        rcases hpq with ⟨e1, e2⟩ | ⟨e1, e2⟩ <;> subst e1 <;> subst e2 <;> rcases h with h | h <;> simp_all
end
theorem matching2 (g : S31) (nm : ByteArray) (x : S80) (h1 : x.f1.length ≤ 2000000) (h2 : x.f2.length ≤ 2000000) : ∃ c : Bool, Ev (fun k => spec_MatchingFault.f k g nm x) (if c then 0 else 1) ∧ Ev (fun k => impl_matchingOk.f k g nm x) c := by
  by_cases hs : (65536 : Int) < (nm.size : Int)
  · refine ⟨false, Ev.step ?_, Ev.step ?_⟩
    · simp only [spec_MatchingFault.f, decide_eq_true hs, cond_true]; exact Ev.ret _
    · simp only [impl_matchingOk.f, decide_eq_true hs, cond_true]; exact Ev.ret _
  obtain ⟨c, hc, s1, s2⟩ := graphP g
  have go : ∀ c : Bool, Ev (fun k => (spec_GraphFault.f k g).bind fun v3 => (bif (v3 == 0) then (bif (x.f0 == 0) then ((spec_l17Rising.f k x.f1).bind fun v4 => (bif v4 then ((spec_l17Nodes.f k g x.f2).bind fun v5 => (bif v5 then (bif ((x.f1.length : Int) == (x.f2.length : Int)) then ((spec_l17New.f k g nm).bind fun v6 => ((mks false (g.f0.length : Int) (g.f0.length : Int)).bind fun v7 => (spec_MatchingFault.l0 k v7 0 g x v6.1 v6.2.1 v6.2.2.1 v6.2.2.2.1 v6.2.2.2.2 v7))) else (some 1)) else (some 1))) else (some 1))) else (some 1)) else (some 1))) (if c then 0 else 1) → Ev (fun k => (impl_graphOk.f k g).bind fun v3 => (bif v3 then (bif (x.f0 == 0) then ((impl_rises.f k x.f1).bind fun v4 => (bif v4 then ((impl_nodesOk.f k g x.f2).bind fun v5 => (bif v5 then (bif ((x.f1.length : Int) == (x.f2.length : Int)) then ((impl_newPairing.f k g nm).bind fun v6 => (impl_matchingOk.l0 k x 0 v6 ([] : List (Int × Int)))) else (some false)) else (some false))) else (some false))) else (some false)) else (some false))) c → ∃ c : Bool, Ev (fun k => spec_MatchingFault.f k g nm x) (if c then 0 else 1) ∧ Ev (fun k => impl_matchingOk.f k g nm x) c := fun c q1 q2 => by
    refine ⟨c, Ev.step ?_, Ev.step ?_⟩
    · simp only [spec_MatchingFault.f, decide_eq_false hs, cond_false]; exact q1
    · simp only [impl_matchingOk.f, decide_eq_false hs, cond_false]; exact q2
  cases c with
  | false =>
    refine go false (Ev.bind s1 ?_) (Ev.bind s2 ?_)
    · simp only [Bool.false_eq_true, if_false, show ((1 : Int) == 0) = false from rfl, cond_false]; exact Ev.ret _
    · simp only [cond_false]; exact Ev.ret _
  | true =>
    have hg := hc rfl
    have hN := hg.n200
    by_cases h0 : x.f0 = 0
    case neg =>
      refine go false (Ev.bind s1 ?_) (Ev.bind s2 ?_)
      · simp only [if_true, show ((0 : Int) == 0) = true from rfl, cond_true, show (x.f0 == 0) = false by simpa using h0, cond_false]; exact Ev.ret _
      · simp only [cond_true, show (x.f0 == 0) = false by simpa using h0, cond_false]; exact Ev.ret _
    obtain ⟨r, r1, r2⟩ := rises2 (l := x.f1) h1
    obtain ⟨d, d1, d2⟩ := nodes2 (g := g) (l := x.f2) (by omega) h2
    obtain ⟨R, p1, p2⟩ := pairing_ (nm := nm) hg
    have hRl : R.1.length ≤ 400 := by rw [p2]; have := List.length_filter_le (kindB g nm) g.f1; have := hg.e400; omega
    have e1 := cov_s (g := g) (nm := nm) (x := x) (a := g.f0.map fun x => has x.f1 nm) (b := []) (c := []) (d := List.replicate g.f1.length false) hg.e400 h2 _ 0 (Nat.le_refl _)
    have e2 := cov_i (x := x) (R := R) hRl h2 _ 0 (Nat.le_refl _)
    rw [List.drop_zero] at e1 e2
    have e3 : R.1.all (fun e => hasI x.f2 e.f2 || hasI x.f2 e.f3) = g.f1.all (fun e => !kindB g nm e || (hasI x.f2 e.f2 || hasI x.f2 e.f3)) := by
      rw [p2, List.all_filter]
    rw [e3] at e2
    have hz : UR g (List.replicate g.f0.length false) [] := ⟨by simp, fun j h h' => by simp [tget, tfind]⟩
    obtain ⟨c, c1, c2⟩ := match_l0 hg p2 h1 (u0 := List.replicate g.f0.length false) (by simp) e1 e2 _ 0 _ _ (Nat.le_refl _) hz
    have mk : mks false (g.f0.length : Int) (g.f0.length : Int) = some (List.replicate g.f0.length false) := mks_ false (by omega)
    cases hl : ((x.f1.length : Int) == (x.f2.length : Int)) with
    | false =>
      refine go false (Ev.bind s1 ?_) (Ev.bind s2 ?_)
      · simp only [if_true, show ((0 : Int) == 0) = true from rfl, cond_true, show (x.f0 == 0) = true by simpa using h0, hl, cond_false]
        refine Ev.bind r1 ?_
        cases r with
        | false => exact Ev.ret _
        | true =>
          simp only [cond_true]
          refine Ev.bind d1 ?_
          cases d <;> exact Ev.ret _
      · simp only [cond_true, show (x.f0 == 0) = true by simpa using h0, hl, cond_false]
        refine Ev.bind r2 ?_
        cases r with
        | false => exact Ev.ret _
        | true =>
          simp only [cond_true]
          refine Ev.bind d2 ?_
          cases d <;> exact Ev.ret _
    | true =>
      refine go (r && (d && c)) (Ev.bind s1 ?_) (Ev.bind s2 ?_)
      · simp only [if_true, show ((0 : Int) == 0) = true from rfl, cond_true, show (x.f0 == 0) = true by simpa using h0, hl]
        refine Ev.bind r1 ?_
        cases r with
        | false => exact Ev.ret _
        | true =>
          simp only [cond_true, Bool.true_and]
          refine Ev.bind d1 ?_
          cases d with
          | false => exact Ev.ret _
          | true =>
            simp only [cond_true, Bool.true_and]
            refine Ev.bind (new_ hg) ?_
            simp only [mk, Option.bind_some]
            exact c1
      · simp only [cond_true, show (x.f0 == 0) = true by simpa using h0, hl]
        refine Ev.bind r2 ?_
        cases r with
        | false => exact Ev.ret _
        | true =>
          simp only [cond_true, Bool.true_and]
          refine Ev.bind d2 ?_
          cases d with
          | false => exact Ev.ret _
          | true =>
            simp only [cond_true, Bool.true_and]
            exact Ev.bind p1 c2
theorem lftM : Lft 1048576 := by unfold Lft; omega
theorem said_FnExactMatchingFault (x : S24) (h : wf24 x) (nm : ByteArray) (f : S80) (hf : wf80 f) : ∃ k, laws_FnExactMatchingFault.f k x nm f = some true := by
  refine Ev.at_ (f := fun k => laws_FnExactMatchingFault.f k x nm f) ?_
  unfold laws_FnExactMatchingFault.f
  by_cases hs : (1048576 : Int) < (nm.size : Int)
  · simp only [decide_eq_true hs, cond_true]; exact Ev.ret _
  simp only [decide_eq_false hs, cond_false]
  obtain ⟨r, h1, h2, h3⟩ := sz_Graph x h lftM
  refine Ev.bind h1 ?_
  by_cases hr : r < 0
  · simp only [decide_eq_true hr, cond_true]; exact Ev.ret _
  have hbg := h3 (by omega)
  simp only [decide_eq_false hr, cond_false]
  obtain ⟨q, q1, q2, q3⟩ := sz_Matching f hf (show Lft r by unfold Lft; omega)
  refine Ev.bind q1 ?_
  by_cases hq : q < 0
  · simp only [decide_eq_true hq, cond_true]; exact Ev.ret _
  have hbf := q3 (by omega)
  simp only [decide_eq_false hq, cond_false]
  obtain ⟨c, s1, s2⟩ := matching2 (trGraph x) nm (trMatching f) (by have := hbf.1.1; unfold trMatching; simp only; omega) (by have := hbf.2.1.1; unfold trMatching; simp only; omega)
  have s3 : Ev (fun k => impl_MatchingFault.f k (trGraph x) nm (trMatching f)) (if c then 0 else 1) := by
    unfold impl_MatchingFault.f
    exact Ev.bind s2 (by cases c <;> exact Ev.ret _)
  refine Ev.bind (to_Graph x hbg) (Ev.bind (to_Matching f hbf) (Ev.bind s1 (Ev.bind (to_Graph x hbg) (Ev.bind (to_Matching f hbf) (Ev.bind s3 ?_)))))
  simp only [beq_self_eq_true, cond_true]
  refine Ev.bind (to_Graph x hbg) (Ev.bind (eq_Graph x hbg) ?_)
  simp only [cond_true]
  refine Ev.bind (to_Matching f hbf) (Ev.bind (eq_Matching f hbf) ?_)
  simp only [cond_true]; exact Ev.ret _
end Go.Ab
