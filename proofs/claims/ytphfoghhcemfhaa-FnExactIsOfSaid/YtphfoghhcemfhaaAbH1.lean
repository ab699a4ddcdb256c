/- Sizes, copies and comparisons of the arguments of FnExactSchemaFault, FnExactIsOf, FnExactWeaker. No condition. -/
import Derived.Test.YtphfoghhcemfhaaAbH0
import Derived.Test.YtphfoghhcemfhaaAbSC5
namespace Go.Ab
open Go.Proofs
set_option linter.unusedVariables false
set_option linter.unusedSimpArgs false
def wf280 (x : S280) : Prop := Str x.f0 ∧ (InK .i64) x.f1 ∧ Any x.f2
def wf267 (x : S267) : Prop := Str x.f0 ∧ (Lst Str) x.f1 ∧ (Lst wf280) x.f2 ∧ Any x.f3
def wf270 (x : S270) : Prop := Str x.f0 ∧ Str x.f1 ∧ Str x.f2 ∧ (Lst wf280) x.f3 ∧ (InK .i64) x.f4 ∧ (InK .i64) x.f5 ∧ (InK .i64) x.f6
def wf166 (x : S166) : Prop := Str x.f0 ∧ (Lst Str) x.f1
def wf58 (x : S58) : Prop := (Lst wf267) x.f0 ∧ (Lst wf270) x.f1 ∧ (Lst wf166) x.f2 ∧ Any x.f3
def bdStringS (v : (List ByteArray)) : Prop := v.length ≤ 1048576 ∧ ∀ x ∈ v, x.size ≤ 1048576
theorem sz_StringS (v : (List ByteArray)) (h : Lst Str v) {a : Int} (ha : Lft a) : Sz (fun k => laws_szStringS.f k v a) a (bdStringS v) := Sz.slice (l := laws_szStringS.l0) h.1 (fun _ _ _ => by simp only [laws_szStringS.f]) (fun hl => Sz.strs (fun _ _ _ _ => by simp only [laws_szStringS.l0]) v h.2 hl) ha
def bdRule (x : S280) : Prop := x.f0.size ≤ 1048576 ∧ True
theorem sz_Rule (x : S280) (h : wf280 x) {a : Int} (ha : Lft a) : Sz (fun k => laws_szRule.f k x a) a (bdRule x) := by
  simp only [laws_szRule.f]; unfold bdRule
  exact Sz.len ha (fun _ h1 => Sz.ret) h.1
def bdRuleS (v : (List S280)) : Prop := v.length ≤ 1048576 ∧ ∀ x ∈ v, bdRule x
theorem sz_RuleS (v : (List S280)) (h : Lst wf280 v) {a : Int} (ha : Lft a) : Sz (fun k => laws_szRuleS.f k v a) a (bdRuleS v) := Sz.slice (l := laws_szRuleS.l0) h.1 (fun _ _ _ => by simp only [laws_szRuleS.f]) (fun hl => Sz.loop (fun _ _ _ _ => by simp only [laws_szRuleS.l0]) (fun x a hx ha => sz_Rule x hx ha) v h.2 hl) ha
def bdNodeType (x : S267) : Prop := x.f0.size ≤ 1048576 ∧ bdStringS x.f1 ∧ bdRuleS x.f2 ∧ True
theorem sz_NodeType (x : S267) (h : wf267 x) {a : Int} (ha : Lft a) : Sz (fun k => laws_szNodeType.f k x a) a (bdNodeType x) := by
  simp only [laws_szNodeType.f]; unfold bdNodeType
  exact Sz.len ha (fun _ h1 => Sz.call h1 (sz_StringS _ h.2.1 h1) fun v2 h2 => Sz.call h2 (sz_RuleS _ h.2.2.1 h2) fun v3 h3 => Sz.ret) h.1
def bdNodeTypeS (v : (List S267)) : Prop := v.length ≤ 1048576 ∧ ∀ x ∈ v, bdNodeType x
theorem sz_NodeTypeS (v : (List S267)) (h : Lst wf267 v) {a : Int} (ha : Lft a) : Sz (fun k => laws_szNodeTypeS.f k v a) a (bdNodeTypeS v) := Sz.slice (l := laws_szNodeTypeS.l0) h.1 (fun _ _ _ => by simp only [laws_szNodeTypeS.f]) (fun hl => Sz.loop (fun _ _ _ _ => by simp only [laws_szNodeTypeS.l0]) (fun x a hx ha => sz_NodeType x hx ha) v h.2 hl) ha
def bdEdgeType (x : S270) : Prop := x.f0.size ≤ 1048576 ∧ x.f1.size ≤ 1048576 ∧ x.f2.size ≤ 1048576 ∧ bdRuleS x.f3 ∧ True
theorem sz_EdgeType (x : S270) (h : wf270 x) {a : Int} (ha : Lft a) : Sz (fun k => laws_szEdgeType.f k x a) a (bdEdgeType x) := by
  simp only [laws_szEdgeType.f]; unfold bdEdgeType
  exact Sz.len ha (fun _ h1 => Sz.len h1 (fun _ h2 => Sz.len h2 (fun _ h3 => Sz.call h3 (sz_RuleS _ h.2.2.2.1 h3) fun v4 h4 => Sz.ret) h.2.2.1) h.2.1) h.1
def bdEdgeTypeS (v : (List S270)) : Prop := v.length ≤ 1048576 ∧ ∀ x ∈ v, bdEdgeType x
theorem sz_EdgeTypeS (v : (List S270)) (h : Lst wf270 v) {a : Int} (ha : Lft a) : Sz (fun k => laws_szEdgeTypeS.f k v a) a (bdEdgeTypeS v) := Sz.slice (l := laws_szEdgeTypeS.l0) h.1 (fun _ _ _ => by simp only [laws_szEdgeTypeS.f]) (fun hl => Sz.loop (fun _ _ _ _ => by simp only [laws_szEdgeTypeS.l0]) (fun x a hx ha => sz_EdgeType x hx ha) v h.2 hl) ha
def bdKey (x : S166) : Prop := x.f0.size ≤ 1048576 ∧ bdStringS x.f1 ∧ True
theorem sz_Key (x : S166) (h : wf166 x) {a : Int} (ha : Lft a) : Sz (fun k => laws_szKey.f k x a) a (bdKey x) := by
  simp only [laws_szKey.f]; unfold bdKey
  exact Sz.len ha (fun _ h1 => Sz.call h1 (sz_StringS _ h.2 h1) fun v2 h2 => Sz.ret) h.1
def bdKeyS (v : (List S166)) : Prop := v.length ≤ 1048576 ∧ ∀ x ∈ v, bdKey x
theorem sz_KeyS (v : (List S166)) (h : Lst wf166 v) {a : Int} (ha : Lft a) : Sz (fun k => laws_szKeyS.f k v a) a (bdKeyS v) := Sz.slice (l := laws_szKeyS.l0) h.1 (fun _ _ _ => by simp only [laws_szKeyS.f]) (fun hl => Sz.loop (fun _ _ _ _ => by simp only [laws_szKeyS.l0]) (fun x a hx ha => sz_Key x hx ha) v h.2 hl) ha
def bdSchema (x : S58) : Prop := bdNodeTypeS x.f0 ∧ bdEdgeTypeS x.f1 ∧ bdKeyS x.f2 ∧ True
theorem sz_Schema (x : S58) (h : wf58 x) {a : Int} (ha : Lft a) : Sz (fun k => laws_szSchema.f k x a) a (bdSchema x) := by
  simp only [laws_szSchema.f]; unfold bdSchema
  exact Sz.call ha (sz_NodeTypeS _ h.1 ha) fun v1 h1 => Sz.call h1 (sz_EdgeTypeS _ h.2.1 h1) fun v2 h2 => Sz.call h2 (sz_KeyS _ h.2.2.1 h2) fun v3 h3 => Sz.ret
theorem to_StringS (v : (List ByteArray)) (h : bdStringS v) : Ev (fun k => laws_toStringS.f k v) v := by
  have := to_f (f := laws_toStringS.f) (l := laws_toStringS.l0) (tr := id) h.1 (fun _ _ => by simp only [laws_toStringS.f]; rfl) (to_strs (fun _ _ _ _ _ => by simp only [laws_toStringS.l0]) v h.1)
  rwa [List.map_id] at this
theorem eq_StringS (v : (List ByteArray)) (h : bdStringS v) : Ev (fun k => laws_eqStringS.f k v v) true := eq_f (l := laws_eqStringS.l0) (fun _ _ _ => by simp only [laws_eqStringS.f]) (eq_strs (fun _ _ _ _ => by simp only [laws_eqStringS.l0]) _ h.1)
def trRule (x : S280) : S280 := x
theorem to_Rule (x : S280) (h : bdRule x) : Ev (fun k => laws_toRule.f k x) (trRule x) := by
  simp only [laws_toRule.f, trRule]; exact Ev.ret _
theorem eq_Rule (x : S280) (h : bdRule x) : Ev (fun k => laws_eqRule.f k (trRule x) (trRule x)) true := by
  simp only [laws_eqRule.f, trRule, beq_self_eq_true, decide_true, cond_true]
  exact Ev.ret _
theorem to_RuleS (v : (List S280)) (h : bdRuleS v) : Ev (fun k => laws_toRuleS.f k v) (v.map trRule) := to_f (l := laws_toRuleS.l0) h.1 (fun _ _ => by simp only [laws_toRuleS.f]; rfl) (to_loop (B := bdRule) (fun _ _ _ _ _ => by simp only [laws_toRuleS.l0]) (fun x hx => to_Rule x hx) v h.2 h.1)
theorem eq_RuleS (v : (List S280)) (h : bdRuleS v) : Ev (fun k => laws_eqRuleS.f k (v.map trRule) (v.map trRule)) true := eq_f (l := laws_eqRuleS.l0) (fun _ _ _ => by simp only [laws_eqRuleS.f]) (eq_loop (e := laws_eqRule.f) (fun _ _ _ _ => by simp only [laws_eqRuleS.l0]) _ (by intro y hy; obtain ⟨x, hx, rfl⟩ := List.mem_map.1 hy; exact eq_Rule x (h.2 x hx)) (by simpa using h.1))
def trNodeType (x : S267) : S160 := ⟨x.f0, x.f1, (x.f2.map trRule), x.f3⟩
theorem to_NodeType (x : S267) (h : bdNodeType x) : Ev (fun k => laws_toNodeType.f k x) (trNodeType x) := by
  simp only [laws_toNodeType.f, trNodeType]; exact Ev.bind (to_StringS _ h.2.1) (Ev.bind (to_RuleS _ h.2.2.1) (Ev.ret _))
theorem eq_NodeType (x : S267) (h : bdNodeType x) : Ev (fun k => laws_eqNodeType.f k (trNodeType x) (trNodeType x)) true := by
  simp only [laws_eqNodeType.f, trNodeType, beq_self_eq_true, decide_true, cond_true]
  refine Ev.bind (eq_StringS _ h.2.1) ?_
  simp only [beq_self_eq_true, decide_true, cond_true]
  refine Ev.bind (eq_RuleS _ h.2.2.1) ?_
  simp only [beq_self_eq_true, decide_true, cond_true]
  exact Ev.ret _
theorem to_NodeTypeS (v : (List S267)) (h : bdNodeTypeS v) : Ev (fun k => laws_toNodeTypeS.f k v) (v.map trNodeType) := to_f (l := laws_toNodeTypeS.l0) h.1 (fun _ _ => by simp only [laws_toNodeTypeS.f]; rfl) (to_loop (B := bdNodeType) (fun _ _ _ _ _ => by simp only [laws_toNodeTypeS.l0]) (fun x hx => to_NodeType x hx) v h.2 h.1)
theorem eq_NodeTypeS (v : (List S267)) (h : bdNodeTypeS v) : Ev (fun k => laws_eqNodeTypeS.f k (v.map trNodeType) (v.map trNodeType)) true := eq_f (l := laws_eqNodeTypeS.l0) (fun _ _ _ => by simp only [laws_eqNodeTypeS.f]) (eq_loop (e := laws_eqNodeType.f) (fun _ _ _ _ => by simp only [laws_eqNodeTypeS.l0]) _ (by intro y hy; obtain ⟨x, hx, rfl⟩ := List.mem_map.1 hy; exact eq_NodeType x (h.2 x hx)) (by simpa using h.1))
def trEdgeType (x : S270) : S163 := ⟨x.f0, x.f1, x.f2, (x.f3.map trRule), x.f4, x.f5, x.f6⟩
theorem to_EdgeType (x : S270) (h : bdEdgeType x) : Ev (fun k => laws_toEdgeType.f k x) (trEdgeType x) := by
  simp only [laws_toEdgeType.f, trEdgeType]; exact Ev.bind (to_RuleS _ h.2.2.2.1) (Ev.ret _)
theorem eq_EdgeType (x : S270) (h : bdEdgeType x) : Ev (fun k => laws_eqEdgeType.f k (trEdgeType x) (trEdgeType x)) true := by
  simp only [laws_eqEdgeType.f, trEdgeType, beq_self_eq_true, decide_true, cond_true]
  refine Ev.bind (eq_RuleS _ h.2.2.2.1) ?_
  simp only [beq_self_eq_true, decide_true, cond_true]
  exact Ev.ret _
theorem to_EdgeTypeS (v : (List S270)) (h : bdEdgeTypeS v) : Ev (fun k => laws_toEdgeTypeS.f k v) (v.map trEdgeType) := to_f (l := laws_toEdgeTypeS.l0) h.1 (fun _ _ => by simp only [laws_toEdgeTypeS.f]; rfl) (to_loop (B := bdEdgeType) (fun _ _ _ _ _ => by simp only [laws_toEdgeTypeS.l0]) (fun x hx => to_EdgeType x hx) v h.2 h.1)
theorem eq_EdgeTypeS (v : (List S270)) (h : bdEdgeTypeS v) : Ev (fun k => laws_eqEdgeTypeS.f k (v.map trEdgeType) (v.map trEdgeType)) true := eq_f (l := laws_eqEdgeTypeS.l0) (fun _ _ _ => by simp only [laws_eqEdgeTypeS.f]) (eq_loop (e := laws_eqEdgeType.f) (fun _ _ _ _ => by simp only [laws_eqEdgeTypeS.l0]) _ (by intro y hy; obtain ⟨x, hx, rfl⟩ := List.mem_map.1 hy; exact eq_EdgeType x (h.2 x hx)) (by simpa using h.1))
def trKey (x : S166) : S166 := ⟨x.f0, x.f1⟩
theorem to_Key (x : S166) (h : bdKey x) : Ev (fun k => laws_toKey.f k x) (trKey x) := by
  simp only [laws_toKey.f, trKey]; exact Ev.bind (to_StringS _ h.2.1) (Ev.ret _)
theorem eq_Key (x : S166) (h : bdKey x) : Ev (fun k => laws_eqKey.f k (trKey x) (trKey x)) true := by
  simp only [laws_eqKey.f, trKey, beq_self_eq_true, decide_true, cond_true]
  refine Ev.bind (eq_StringS _ h.2.1) ?_
  simp only [beq_self_eq_true, decide_true, cond_true]
  exact Ev.ret _
theorem to_KeyS (v : (List S166)) (h : bdKeyS v) : Ev (fun k => laws_toKeyS.f k v) (v.map trKey) := to_f (l := laws_toKeyS.l0) h.1 (fun _ _ => by simp only [laws_toKeyS.f]; rfl) (to_loop (B := bdKey) (fun _ _ _ _ _ => by simp only [laws_toKeyS.l0]) (fun x hx => to_Key x hx) v h.2 h.1)
theorem eq_KeyS (v : (List S166)) (h : bdKeyS v) : Ev (fun k => laws_eqKeyS.f k (v.map trKey) (v.map trKey)) true := eq_f (l := laws_eqKeyS.l0) (fun _ _ _ => by simp only [laws_eqKeyS.f]) (eq_loop (e := laws_eqKey.f) (fun _ _ _ _ => by simp only [laws_eqKeyS.l0]) _ (by intro y hy; obtain ⟨x, hx, rfl⟩ := List.mem_map.1 hy; exact eq_Key x (h.2 x hx)) (by simpa using h.1))
def trSchema (x : S58) : S65 := ⟨(x.f0.map trNodeType), (x.f1.map trEdgeType), (x.f2.map trKey), x.f3⟩
theorem to_Schema (x : S58) (h : bdSchema x) : Ev (fun k => laws_toSchema.f k x) (trSchema x) := by
  simp only [laws_toSchema.f, trSchema]; exact Ev.bind (to_NodeTypeS _ h.1) (Ev.bind (to_EdgeTypeS _ h.2.1) (Ev.bind (to_KeyS _ h.2.2.1) (Ev.ret _)))
theorem eq_Schema (x : S58) (h : bdSchema x) : Ev (fun k => laws_eqSchema.f k (trSchema x) (trSchema x)) true := by
  simp only [laws_eqSchema.f, trSchema, beq_self_eq_true, decide_true, cond_true]
  refine Ev.bind (eq_NodeTypeS _ h.1) ?_
  simp only [beq_self_eq_true, decide_true, cond_true]
  refine Ev.bind (eq_EdgeTypeS _ h.2.1) ?_
  simp only [beq_self_eq_true, decide_true, cond_true]
  refine Ev.bind (eq_KeyS _ h.2.2.1) ?_
  simp only [beq_self_eq_true, decide_true, cond_true]
  exact Ev.ret _
end Go.Ab
namespace Go.Ab
open Go.Proofs
set_option linter.unusedVariables false
set_option linter.unusedSimpArgs false
theorem lft0 : Lft 1048576 := by unfold Lft; omega
theorem bd_tr {x : S58} (h : bdSchema x) : Bd (trSchema x).f0 ∧ (trSchema x).f1.length ≤ 2000000 ∧ (∀ e ∈ (trSchema x).f1, e.f3.length ≤ 2000000) ∧ (trSchema x).f2.length ≤ 2000000 ∧ ∀ k ∈ (trSchema x).f2, k.f1.length ≤ 2000000 := by
  obtain ⟨⟨h1, h2⟩, ⟨h3, h4⟩, ⟨h5, h6⟩, _⟩ := h
  refine ⟨⟨?_, fun t ht => ?_, fun t ht => ?_⟩, ?_, fun e he => ?_, ?_, fun k hk => ?_⟩
  · simp only [trSchema, List.length_map]; omega
  · simp only [trSchema] at ht
    obtain ⟨u, hu, rfl⟩ := List.mem_map.1 ht
    have := (h2 u hu).2.1.1
    simp only [trNodeType]; omega
  · simp only [trSchema] at ht
    obtain ⟨u, hu, rfl⟩ := List.mem_map.1 ht
    have := (h2 u hu).2.2.1.1
    simp only [trNodeType, List.length_map]; omega
  · simp only [trSchema, List.length_map]; omega
  · simp only [trSchema] at he
    obtain ⟨u, hu, rfl⟩ := List.mem_map.1 he
    have := (h4 u hu).2.2.2.1.1
    simp only [trEdgeType, List.length_map]; omega
  · simp only [trSchema, List.length_map]; omega
  · simp only [trSchema] at hk
    obtain ⟨u, hu, rfl⟩ := List.mem_map.1 hk
    have := (h6 u hu).2.1.1
    simp only [trKey]; omega
theorem faultT {x : S58} (h : bdSchema x) : ∃ b : Bool, Ev (fun k => spec_SchemaFault.f k (trSchema x)) (if b then 0 else 1) ∧ Ev (fun k => impl_schemaOk.f k (trSchema x)) b ∧ (b = true → Ok (trSchema x).f0) := by
  obtain ⟨h1, h2, h3, h4, h5⟩ := bd_tr h
  exact fault3 (N := (trSchema x).f0) (E := (trSchema x).f1) (K := (trSchema x).f2) (c := (trSchema x).f3) h1 h2 h3 h4 h5
theorem said_FnExactSchemaFault (x : S58) (h : wf58 x) : ∃ k, laws_FnExactSchemaFault.f k x = some true := by
  refine Ev.at_ (f := fun k => laws_FnExactSchemaFault.f k x) ?_
  unfold laws_FnExactSchemaFault.f
  obtain ⟨r, h1, h2, h3⟩ := sz_Schema x h lft0
  refine Ev.bind h1 ?_
  by_cases hr : r < 0
  · simp only [decide_eq_true hr, cond_true]; exact Ev.ret _
  · have hb := h3 (by omega)
    obtain ⟨b, s1, s2, _⟩ := faultT hb
    have s3 : Ev (fun k => impl_SchemaFault.f k (trSchema x)) (if b then 0 else 1) := by
      unfold impl_SchemaFault.f
      exact Ev.bind s2 (by cases b <;> exact Ev.ret _)
    simp only [decide_eq_false hr, cond_false]
    refine Ev.bind (to_Schema x hb) (Ev.bind s1 (Ev.bind (to_Schema x hb) (Ev.bind s3 ?_)))
    simp only [beq_self_eq_true, cond_true]
    refine Ev.bind (to_Schema x hb) (Ev.bind (eq_Schema x hb) ?_)
    simp only [cond_true]; exact Ev.ret _
section
variable {N : List S160} {E : List S163} {K : List S166} {c : Bool}
theorem of_ (hb : Bd N) (hok : Ok N) {ls : List ByteArray} (hl : ls.length ≤ 1000) : ∃ r, Ev (fun k => spec_l03Of.f k ⟨N, E, K, c⟩ ls) r ∧ (∀ x, x ∈ r ↔ ∃ l ∈ ls, Reach N l x) ∧ r.length ≤ 20000 := by
  have L : ∀ (n i : Nat) (o : List ByteArray), ls.length - i ≤ n → i ≤ ls.length → o.length ≤ i * 20 → (∀ x, x ∈ o ↔ ∃ l ∈ ls.take i, Reach N l x) → ∃ r, Ev (fun k => spec_l03Of.l0 k ls o (i : Int) ⟨N, E, K, c⟩) r ∧ (∀ x, x ∈ r ↔ ∃ l ∈ ls, Reach N l x) ∧ r.length ≤ 20000 := by
    intro n
    have fin : ∀ (i : Nat) (o : List ByteArray), ¬ i < ls.length → i ≤ ls.length → o.length ≤ i * 20 → (∀ x, x ∈ o ↔ ∃ l ∈ ls.take i, Reach N l x) → ∃ r, Ev (fun k => spec_l03Of.l0 k ls o (i : Int) ⟨N, E, K, c⟩) r ∧ (∀ x, x ∈ r ↔ ∃ l ∈ ls, Reach N l x) ∧ r.length ≤ 20000 := fun i o hi hle ho hm => by
      obtain ⟨r, s1, s2, s3⟩ := sort_ (l := o) (by omega)
      refine ⟨r, Ev.step ?_, fun x => ?_, by omega⟩
      · simp only [spec_l03Of.l0, ltn hi, cond_false]
        exact Ev.bind s1 (Ev.ret _)
      · rw [s2, hm, List.take_of_length_le (by omega)]
    induction n with
    | zero => intro i o h hle ho hm; exact fin i o (by omega) hle ho hm
    | succ n ih =>
      intro i o h hle ho hm
      by_cases hi : i < ls.length
      case neg => exact fin i o hi hle ho hm
      obtain ⟨l, s1, s2, s3⟩ := sline (E := E) (K := K) (c := c) hb.n hb.p ls[i]
      obtain ⟨s4, s5⟩ := s3 hok
      obtain ⟨r, g1, g2, g3⟩ := ih (i + 1) (o ++ l) (by omega) (by omega) (by rw [List.length_append]; omega) (fun x => by
        have e : ls.take (i + 1) = ls.take i ++ [ls[i]] := by rw [List.take_add_one, List.getElem?_eq_getElem hi]; rfl
        rw [List.mem_append, hm, s4, e]
        constructor
        · rintro (⟨l, h1, h2⟩ | h)
          · exact ⟨l, List.mem_append.2 (.inl h1), h2⟩
          · exact ⟨_, List.mem_append.2 (.inr (List.mem_singleton.2 rfl)), h⟩
        · rintro ⟨l, h1, h2⟩
          rcases List.mem_append.1 h1 with h1 | h1
          · exact .inl ⟨l, h1, h2⟩
          · rw [List.mem_singleton.1 h1] at h2; exact .inr h2)
      refine ⟨r, Ev.step ?_, g2, g3⟩
      simp only [spec_l03Of.l0, ltd hi, cond_true, ixg hi, Option.bind_some]
      refine Ev.bind s1 ?_
      rw [app_b (by omega)]
      simp only [Option.bind_some, wup hi (show ls.length ≤ 2000000 by omega)]
      exact g1
  obtain ⟨r, h1, h2, h3⟩ := L _ 0 [] (Nat.le_refl _) (Nat.zero_le _) (by simp) (by simp)
  exact ⟨r, Ev.step (by simp only [spec_l03Of.f]; exact h1), h2, h3⟩
theorem isof_ (hb : Bd N) (a : ByteArray) {ls : List ByteArray} (hl : ls.length ≤ 1000) : ∃ b, Ev (fun k => impl_isOf.f k ⟨N, E, K, c⟩ ls a) b ∧ (b = true ↔ ∃ l ∈ ls, Reach N l a) := by
  have L : ∀ n i : Nat, ls.length - i ≤ n → ∃ b, Ev (fun k => impl_isOf.l0 k a ls (i : Int) ⟨N, E, K, c⟩) b ∧ (b = true ↔ ∃ l ∈ ls.drop i, Reach N l a) := by
    intro n
    have fin : ∀ i : Nat, ¬ i < ls.length → ∃ b, Ev (fun k => impl_isOf.l0 k a ls (i : Int) ⟨N, E, K, c⟩) b ∧ (b = true ↔ ∃ l ∈ ls.drop i, Reach N l a) := fun i hi => by
      refine ⟨false, Ev.step ?_, by rw [List.drop_of_length_le (by omega)]; simp⟩
      simp only [impl_isOf.l0, ltn hi, cond_false]; exact Ev.ret _
    induction n with
    | zero => intro i h; exact fin i (by omega)
    | succ n ih =>
      intro i h
      by_cases hi : i < ls.length
      case neg => exact fin i hi
      obtain ⟨b, g1, g2⟩ := ih (i + 1) (by omega)
      obtain ⟨l, s1, s2, s3⟩ := iline (E := E) (K := K) (c := c) hb.n hb.p ls[i]
      have hn := hb.n
      rw [List.drop_eq_getElem_cons hi]
      cases hh : has l a with
      | true =>
        refine ⟨true, Ev.step ?_, ⟨fun _ => ⟨_, List.mem_cons_self .., (s2 _).1 (has_iff.1 hh)⟩, fun _ => rfl⟩⟩
        simp only [impl_isOf.l0, ltd hi, cond_true, ixg hi, Option.bind_some]
        refine Ev.bind s1 (Ev.bind (imem (by omega) _) ?_)
        simp only [hh, cond_true]; exact Ev.ret _
      | false =>
        refine ⟨b, Ev.step ?_, ?_⟩
        · simp only [impl_isOf.l0, ltd hi, cond_true, ixg hi, Option.bind_some]
          refine Ev.bind s1 (Ev.bind (imem (by omega) _) ?_)
          simp only [hh, cond_false, wup hi (show ls.length ≤ 2000000 by omega)]; exact g1
        · rw [g2]
          constructor
          · rintro ⟨l, h1, h2⟩; exact ⟨l, List.mem_cons_of_mem _ h1, h2⟩
          · rintro ⟨l', h1, h2⟩
            rcases List.mem_cons.1 h1 with rfl | h1
            · exact absurd ((s2 _).2 h2) (has_no.1 hh)
            · exact ⟨l', h1, h2⟩
  obtain ⟨b, h1, h2⟩ := L _ 0 (Nat.le_refl _)
  rw [List.drop_zero] at h2
  exact ⟨b, Ev.step (by simp only [impl_isOf.f]; exact h1), h2⟩
end
theorem isOf2 {x : S58} (h : bdSchema x) (ls : List ByteArray) (a : ByteArray) : B2 (fun k => spec_IsOf.f k (trSchema x) ls a) (fun k => impl_IsOf.f k (trSchema x) ls a) := by
  unfold spec_IsOf.f impl_IsOf.f
  by_cases h1 : ls.length ≤ 1000
  case neg =>
    simp only [show decide ((1000 : Int) < (ls.length : Int)) = true by simp; omega, show decide ((ls.length : Int) ≤ 1000) = false by simp; omega, cond_true, cond_false]
    exact B2.ret _
  simp only [show decide ((1000 : Int) < (ls.length : Int)) = false by simp; omega, show decide ((ls.length : Int) ≤ 1000) = true by simp; omega, cond_true, cond_false]
  by_cases h2 : a.size ≤ 65536
  case neg =>
    simp only [show decide ((65536 : Int) < (a.size : Int)) = true by simp; omega, show decide ((a.size : Int) ≤ 65536) = false by simp; omega, cond_true, cond_false]
    exact B2.ret _
  simp only [show decide ((65536 : Int) < (a.size : Int)) = false by simp; omega, show decide ((a.size : Int) ≤ 65536) = true by simp; omega, cond_true, cond_false]
  obtain ⟨b, s1, s2, s3⟩ := faultT h
  cases b with
  | false => exact ⟨false, Ev.bind s1 (Ev.ret _), Ev.bind s2 (Ev.ret _)⟩
  | true =>
    have hb := (bd_tr h).1
    obtain ⟨r, r1, r2, r3⟩ := of_ (N := (trSchema x).f0) (E := (trSchema x).f1) (K := (trSchema x).f2) (c := (trSchema x).f3) hb (s3 rfl) h1
    obtain ⟨q, q1, q2⟩ := isof_ (N := (trSchema x).f0) (E := (trSchema x).f1) (K := (trSchema x).f2) (c := (trSchema x).f3) hb a h1
    have e : has r a = q := by
      cases hq : q with
      | true => exact has_iff.2 ((r2 a).2 (q2.1 hq))
      | false =>
        refine has_no.2 fun hm => ?_
        have := q2.2 ((r2 a).1 hm)
        rw [hq] at this; cases this
    refine ⟨q, Ev.bind s1 ?_, Ev.bind s2 ?_⟩
    · simp only [if_true, beq_self_eq_true, cond_true]
      refine Ev.bind r1 (Ev.bind (smem (by omega) a) ?_)
      rw [e]; exact Ev.ret _
    · simp only [cond_true]
      exact Ev.bind q1 (Ev.ret _)
theorem said_FnExactIsOf (x : S58) (h : wf58 x) (ls : List ByteArray) (hl : Lst Str ls) (a : ByteArray) : ∃ k, laws_FnExactIsOf.f k x ls a = some true := by
  refine Ev.at_ (f := fun k => laws_FnExactIsOf.f k x ls a) ?_
  unfold laws_FnExactIsOf.f
  by_cases hs : (1048576 : Int) < (a.size : Int)
  · simp only [decide_eq_true hs, cond_true]; exact Ev.ret _
  simp only [decide_eq_false hs, cond_false]
  obtain ⟨r, h1, h2, h3⟩ := sz_Schema x h lft0
  refine Ev.bind h1 ?_
  by_cases hr : r < 0
  · simp only [decide_eq_true hr, cond_true]; exact Ev.ret _
  have hb := h3 (by omega)
  simp only [decide_eq_false hr, cond_false]
  obtain ⟨r', g1, g2, g3⟩ := sz_StringS ls hl (a := r) (by unfold Lft; omega)
  refine Ev.bind g1 ?_
  by_cases hr' : r' < 0
  · simp only [decide_eq_true hr', cond_true]; exact Ev.ret _
  have hb' := g3 (by omega)
  simp only [decide_eq_false hr', cond_false]
  obtain ⟨q, s1, s2⟩ := isOf2 hb ls a
  refine Ev.bind (to_Schema x hb) (Ev.bind (to_StringS ls hb') (Ev.bind s1 (Ev.bind (to_Schema x hb) (Ev.bind (to_StringS ls hb') (Ev.bind s2 ?_)))))
  simp only [beq_self_eq_true, cond_true]
  refine Ev.bind (to_Schema x hb) (Ev.bind (eq_Schema x hb) ?_)
  simp only [cond_true]
  refine Ev.bind (to_StringS ls hb') (Ev.bind (eq_StringS ls hb') ?_)
  simp only [cond_true]; exact Ev.ret _
end Go.Ab
namespace Go.Ab
open Go.Proofs
set_option linter.unusedVariables false
set_option linter.unusedSimpArgs false
theorem len_eq {n m : Nat} : ((n : Int) == (m : Int)) = decide (n = m) := by
  by_cases h : n = m
  · simp [h]
  · rw [decide_eq_false h, beq_eq_false_iff_ne]; omega
theorem same2t (a b : List ByteArray) (ha : a.length ≤ 2000000) : B2 (fun k => spec_l02SameTexts.f k a b) (fun k => slices_Equal.f k a b) := by
  refine B2.step ?_
  simp only [spec_l02SameTexts.f, slices_Equal.f, len_eq]
  refine B2.cond (fun h => ?_) fun _ => B2.ret _
  have hl : a.length = b.length := by simpa using h
  have L : ∀ n i : Nat, a.length - i ≤ n → B2 (fun k => spec_l02SameTexts.l0 k a b (i : Int)) (fun k => slices_Equal.l0 k a b (i : Int)) := by
    intro n
    have fin : ∀ i : Nat, ¬ i < a.length → B2 (fun k => spec_l02SameTexts.l0 k a b (i : Int)) (fun k => slices_Equal.l0 k a b (i : Int)) := fun i hi => by
      refine B2.step ?_
      simp only [spec_l02SameTexts.l0, slices_Equal.l0, ltn hi, cond_false]; exact B2.ret _
    induction n with
    | zero => intro i h; exact fin i (by omega)
    | succ n ih =>
      intro i h
      by_cases hi : i < a.length
      case neg => exact fin i hi
      refine B2.step ?_
      simp only [spec_l02SameTexts.l0, slices_Equal.l0, ltd hi, cond_true, ixg hi, ixg (show i < b.length by omega), Option.bind_some, wup hi ha]
      exact B2.cond (fun _ => ih (i + 1) (by omega)) fun _ => B2.ret _
  exact L _ 0 (Nat.le_refl _)
theorem weakR2 (a b : List S280) (ha : a.length ≤ 2000000) : B2 (fun k => spec_l03WeakerRules.f k a b) (fun k => impl_rulesWeaker.f k a b) := by
  refine B2.step ?_
  simp only [spec_l03WeakerRules.f, impl_rulesWeaker.f, len_eq]
  refine B2.cond (fun h => ?_) fun _ => B2.ret _
  have hl : a.length = b.length := by simpa using h
  have L : ∀ n i : Nat, a.length - i ≤ n → B2 (fun k => spec_l03WeakerRules.l0 k a b (i : Int)) (fun k => impl_rulesWeaker.l0 k a b (i : Int)) := by
    intro n
    have fin : ∀ i : Nat, ¬ i < a.length → B2 (fun k => spec_l03WeakerRules.l0 k a b (i : Int)) (fun k => impl_rulesWeaker.l0 k a b (i : Int)) := fun i hi => by
      refine B2.step ?_
      simp only [spec_l03WeakerRules.l0, impl_rulesWeaker.l0, ltn hi, cond_false]; exact B2.ret _
    induction n with
    | zero => intro i h; exact fin i (by omega)
    | succ n ih =>
      intro i h
      by_cases hi : i < a.length
      case neg => exact fin i hi
      have g := ih (i + 1) (by omega)
      refine B2.step ?_
      simp only [spec_l03WeakerRules.l0, impl_rulesWeaker.l0, ltd hi, cond_true, ixg hi, ixg (show i < b.length by omega), Option.bind_some, wup hi ha]
      exact B2.cond (fun _ => B2.cond (fun _ => B2.cond (fun _ => B2.cond (fun _ => g) fun _ => B2.ret _) fun _ => g) fun _ => B2.cond (fun _ => B2.cond (fun _ => B2.cond (fun _ => g) fun _ => B2.ret _) fun _ => g) fun _ => B2.ret _) fun _ => B2.ret _
  exact L _ 0 (Nat.le_refl _)
theorem most2 (a b : Int) : B2 (fun k => spec_l03Most.f k a b) (fun k => impl_mostWeaker.f k a b) := by
  unfold spec_l03Most.f impl_mostWeaker.f
  exact B2.cond (fun _ => B2.ret _) fun _ => B2.cond (fun _ => B2.ret _) fun _ => B2.ret _
section
variable {s t : S65} {b1 b2 : Bool}
theorem weak_l2 (hs : s.f2.length ≤ 2000000) (ht : t.f2.length ≤ 2000000) (hn : ∀ k ∈ s.f2, k.f1.length ≤ 2000000) : ∀ n j : Nat, t.f2.length - j ≤ n → B2 (fun k => spec_Weaker.l2 k (j : Int) s b1 t b2) (fun k => impl_Weaker.l2 k t (j : Int) s b1) := by
  intro n
  have fin : ∀ j : Nat, ¬ j < t.f2.length → B2 (fun k => spec_Weaker.l2 k (j : Int) s b1 t b2) (fun k => impl_Weaker.l2 k t (j : Int) s b1) := fun j hj => by
    refine B2.step ?_
    simp only [spec_Weaker.l2, impl_Weaker.l2, ltn hj, cond_false]; exact B2.ret _
  induction n with
  | zero => intro j h; exact fin j (by omega)
  | succ n ih =>
    intro j h
    by_cases hj : j < t.f2.length
    case neg => exact fin j hj
    have g := ih (j + 1) (by omega)
    have L : ∀ (m i : Nat) (f : Bool), s.f2.length - i ≤ m → B2 (fun k => spec_Weaker.l3 k (j : Int) f (i : Int) s b1 t b2) (fun k => impl_Weaker.l3 k f t (j : Int) s (i : Int) b1 t.f2[j]) := by
      intro m
      have fin : ∀ (i : Nat) (f : Bool), ¬ i < s.f2.length → B2 (fun k => spec_Weaker.l3 k (j : Int) f (i : Int) s b1 t b2) (fun k => impl_Weaker.l3 k f t (j : Int) s (i : Int) b1 t.f2[j]) := fun i f hi => by
        refine B2.step ?_
        simp only [spec_Weaker.l3, impl_Weaker.l3, ltn hi, cond_false, wup hj ht]
        exact B2.cond (fun _ => g) fun _ => B2.ret _
      induction m with
      | zero => intro i f h; exact fin i f (by omega)
      | succ m ihm =>
        intro i f h
        by_cases hi : i < s.f2.length
        case neg => exact fin i f hi
        refine B2.step ?_
        simp only [spec_Weaker.l3, impl_Weaker.l3, ltd hi, cond_true, ixg hi, ixg hj, Option.bind_some, wup hi hs]
        refine B2.cond (fun _ => ihm (i + 1) true (by omega)) fun _ => B2.cond (fun _ => ?_) fun _ => ihm (i + 1) false (by omega)
        exact (same2t _ _ (hn _ (List.getElem_mem hi))).bind fun v => ihm (i + 1) v (by omega)
    refine B2.step ?_
    simp only [spec_Weaker.l2, impl_Weaker.l2, ltd hj, cond_true, ixg hj, Option.bind_some]
    exact L _ 0 false (Nat.le_refl _)
theorem weak_l1 (hs : s.f2.length ≤ 2000000) (ht : t.f2.length ≤ 2000000) (hn : ∀ k ∈ s.f2, k.f1.length ≤ 2000000) (he : s.f1.length ≤ 2000000) (hr : ∀ e ∈ s.f1, e.f3.length ≤ 2000000) (hl : s.f1.length = t.f1.length) :
   ∀ n i : Nat, s.f1.length - i ≤ n → B2 (fun k => spec_Weaker.l1 k (i : Int) s b1 t b2) (fun k => impl_Weaker.l1 k s (i : Int) b1 t b2) := by
  intro n
  have fin : ∀ i : Nat, ¬ i < s.f1.length → B2 (fun k => spec_Weaker.l1 k (i : Int) s b1 t b2) (fun k => impl_Weaker.l1 k s (i : Int) b1 t b2) := fun i hi => by
    refine B2.step ?_
    simp only [spec_Weaker.l1, impl_Weaker.l1, ltn hi, cond_false]
    exact weak_l2 hs ht hn _ 0 (Nat.le_refl _)
  induction n with
  | zero => intro i h; exact fin i (by omega)
  | succ n ih =>
    intro i h
    by_cases hi : i < s.f1.length
    case neg => exact fin i hi
    have g := ih (i + 1) (by omega)
    refine B2.step ?_
    simp only [spec_Weaker.l1, impl_Weaker.l1, ltd hi, cond_true, ixg hi, ixg (show i < t.f1.length by omega), Option.bind_some, wup hi he]
    refine B2.cond (fun _ => B2.cond (fun _ => B2.cond (fun _ => ?_) fun _ => B2.ret _) fun _ => B2.ret _) fun _ => B2.ret _
    refine (weakR2 _ _ (hr _ (List.getElem_mem hi))).bind fun v => B2.cond (fun _ => ?_) fun _ => B2.ret _
    refine (most2 _ _).bind fun v => B2.cond (fun _ => ?_) fun _ => B2.ret _
    refine (most2 _ _).bind fun v => B2.cond (fun _ => ?_) fun _ => B2.ret _
    exact B2.cond (fun _ => B2.ret _) fun _ => g
theorem weak_l0 (hs : s.f2.length ≤ 2000000) (ht : t.f2.length ≤ 2000000) (hn : ∀ k ∈ s.f2, k.f1.length ≤ 2000000) (he : s.f1.length ≤ 2000000) (hr : ∀ e ∈ s.f1, e.f3.length ≤ 2000000) (hl : s.f1.length = t.f1.length) (hb : Bd s.f0) (hl0 : s.f0.length = t.f0.length) :
   ∀ n i : Nat, s.f0.length - i ≤ n → B2 (fun k => spec_Weaker.l0 k (i : Int) s b1 t b2) (fun k => impl_Weaker.l0 k s (i : Int) b1 t b2) := by
  intro n
  have fin : ∀ i : Nat, ¬ i < s.f0.length → B2 (fun k => spec_Weaker.l0 k (i : Int) s b1 t b2) (fun k => impl_Weaker.l0 k s (i : Int) b1 t b2) := fun i hi => by
    refine B2.step ?_
    simp only [spec_Weaker.l0, impl_Weaker.l0, ltn hi, cond_false]
    exact weak_l1 hs ht hn he hr hl _ 0 (Nat.le_refl _)
  induction n with
  | zero => intro i h; exact fin i (by omega)
  | succ n ih =>
    intro i h
    by_cases hi : i < s.f0.length
    case neg => exact fin i hi
    have hm := List.getElem_mem hi
    have g := ih (i + 1) (by omega)
    have j : B2 (fun k => spec_Weaker.j1 k (i : Int) s b1 t b2) (fun k => impl_Weaker.j1 k s (i : Int) b1 t b2) := by
      refine B2.step ?_
      simp only [spec_Weaker.j1, impl_Weaker.j1, wup hi hb.n]; exact g
    refine B2.step ?_
    simp only [spec_Weaker.l0, impl_Weaker.l0, ltd hi, cond_true, ixg hi, ixg (show i < t.f0.length by omega), Option.bind_some]
    refine B2.cond (fun _ => ?_) fun _ => B2.ret _
    refine (same2t _ _ (hb.p _ hm)).bind fun v => B2.cond (fun _ => ?_) fun _ => B2.ret _
    have r := (weakR2 _ t.f0[i].f2 (hb.r _ hm)).bind (f' := fun k v => bif v then spec_Weaker.j1 k (i : Int) s b1 t b2 else some false) (g' := fun k v => bif v then impl_Weaker.j1 k s (i : Int) b1 t b2 else some false) fun v => B2.cond (fun _ => j) fun _ => B2.ret _
    exact B2.cond (fun _ => B2.cond (fun _ => r) fun _ => B2.ret _) fun _ => r
end
theorem weaker2 {x y : S58} (hx : bdSchema x) (hy : bdSchema y) : B2 (fun k => spec_Weaker.f k (trSchema x) (trSchema y)) (fun k => impl_Weaker.f k (trSchema x) (trSchema y)) := by
  refine B2.step ?_
  simp only [spec_Weaker.f, impl_Weaker.f]
  obtain ⟨b, s1, s2, _⟩ := faultT hx
  obtain ⟨q, t1, t2, _⟩ := faultT hy
  obtain ⟨h1, h2, h3, h4, h5⟩ := bd_tr hx
  obtain ⟨_, _, _, g4, _⟩ := bd_tr hy
  cases b with
  | false => exact ⟨false, Ev.bind s1 (Ev.ret _), Ev.bind s2 (Ev.ret _)⟩
  | true =>
    cases q with
    | false => exact ⟨false, Ev.bind s1 (Ev.bind t1 (Ev.ret _)), Ev.bind s2 (Ev.bind t2 (Ev.ret _))⟩
    | true =>
      have main : B2 (fun k => (bif (((trSchema x).f0.length : Int) == ((trSchema y).f0.length : Int)) then (bif (((trSchema x).f1.length : Int) == ((trSchema y).f1.length : Int)) then (bif (trSchema y).f3 then (bif (trSchema x).f3 then (spec_Weaker.j0 k (trSchema x) true (trSchema y) true) else (some false)) else (spec_Weaker.j0 k (trSchema x) (trSchema x).f3 (trSchema y) false)) else (some false)) else (some false)))
         (fun k => (bif (((trSchema x).f0.length : Int) == ((trSchema y).f0.length : Int)) then (bif (((trSchema x).f1.length : Int) == ((trSchema y).f1.length : Int)) then (bif (trSchema y).f3 then (bif (trSchema x).f3 then (impl_Weaker.j0 k (trSchema x) true (trSchema y) true) else (some false)) else (impl_Weaker.j0 k (trSchema x) (trSchema x).f3 (trSchema y) false)) else (some false)) else (some false))) := by
        simp only [len_eq]
        refine B2.cond (fun e1 => B2.cond (fun e2 => ?_) fun _ => B2.ret _) fun _ => B2.ret _
        have j : ∀ c d, B2 (fun k => spec_Weaker.j0 k (trSchema x) c (trSchema y) d) (fun k => impl_Weaker.j0 k (trSchema x) c (trSchema y) d) := fun c d => by
          refine B2.step ?_
          simp only [spec_Weaker.j0, impl_Weaker.j0]
          exact weak_l0 h4 g4 h5 h2 h3 (by simpa using e2) h1 (by simpa using e1) _ 0 (Nat.le_refl _)
        exact B2.cond (fun _ => B2.cond (fun _ => j _ _) fun _ => B2.ret _) fun _ => j _ _
      obtain ⟨v, m1, m2⟩ := main
      refine ⟨v, Ev.bind s1 ?_, Ev.bind s2 (Ev.bind t2 m2)⟩
      exact Ev.bind t1 m1
theorem said_FnExactWeaker (x : S58) (h : wf58 x) (y : S58) (hy : wf58 y) : ∃ k, laws_FnExactWeaker.f k x y = some true := by
  refine Ev.at_ (f := fun k => laws_FnExactWeaker.f k x y) ?_
  unfold laws_FnExactWeaker.f
  obtain ⟨r, h1, h2, h3⟩ := sz_Schema x h lft0
  refine Ev.bind h1 ?_
  by_cases hr : r < 0
  · simp only [decide_eq_true hr, cond_true]; exact Ev.ret _
  have hb := h3 (by omega)
  simp only [decide_eq_false hr, cond_false]
  obtain ⟨r', g1, g2, g3⟩ := sz_Schema y hy (a := r) (by unfold Lft; omega)
  refine Ev.bind g1 ?_
  by_cases hr' : r' < 0
  · simp only [decide_eq_true hr', cond_true]; exact Ev.ret _
  have hb' := g3 (by omega)
  simp only [decide_eq_false hr', cond_false]
  obtain ⟨q, s1, s2⟩ := weaker2 hb hb'
  refine Ev.bind (to_Schema x hb) (Ev.bind (to_Schema y hb') (Ev.bind s1 (Ev.bind (to_Schema x hb) (Ev.bind (to_Schema y hb') (Ev.bind s2 ?_)))))
  simp only [beq_self_eq_true, cond_true]
  refine Ev.bind (to_Schema x hb) (Ev.bind (eq_Schema x hb) ?_)
  simp only [cond_true]
  refine Ev.bind (to_Schema y hb') (Ev.bind (eq_Schema y hb') ?_)
  simp only [cond_true]; exact Ev.ret _
end Go.Ab
