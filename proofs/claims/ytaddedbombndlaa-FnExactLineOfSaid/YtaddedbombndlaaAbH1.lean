/- Sizes, copies and comparisons of the arguments of FnExactLineOf. No condition. -/
import Derived.Test.YtaddedbombndlaaAbH0
import Derived.Test.YtaddedbombndlaaAbSC6
import Derived.Test.YtaddedbombndlaaAbSC2
namespace Go.Ab
open Go.Proofs
set_option linter.unusedVariables false
set_option linter.unusedSimpArgs false
def wf113 (x : S113) : Prop := Str x.f0 ∧ (InK .i64) x.f1 ∧ Any x.f2
def wf86 (x : S86) : Prop := Str x.f0 ∧ (Lst Str) x.f1 ∧ (Lst wf113) x.f2 ∧ Any x.f3
def wf89 (x : S89) : Prop := Str x.f0 ∧ Str x.f1 ∧ Str x.f2 ∧ (Lst wf113) x.f3 ∧ (InK .i64) x.f4 ∧ (InK .i64) x.f5 ∧ (InK .i64) x.f6
def wf92 (x : S92) : Prop := Str x.f0 ∧ (Lst Str) x.f1
def wf25 (x : S25) : Prop := (Lst wf86) x.f0 ∧ (Lst wf89) x.f1 ∧ (Lst wf92) x.f2 ∧ Any x.f3
def bdStringS (v : (List ByteArray)) : Prop := v.length ≤ 1048576 ∧ ∀ x ∈ v, x.size ≤ 1048576
theorem sz_StringS (v : (List ByteArray)) (h : Lst Str v) {a : Int} (ha : Lft a) : Sz (fun k => laws_szStringS.f k v a) a (bdStringS v) := Sz.slice (l := laws_szStringS.l0) h.1 (fun _ _ _ => by simp only [laws_szStringS.f]) (fun hl => Sz.strs (fun _ _ _ _ => by simp only [laws_szStringS.l0]) v h.2 hl) ha
def bdRule (x : S113) : Prop := x.f0.size ≤ 1048576 ∧ True
theorem sz_Rule (x : S113) (h : wf113 x) {a : Int} (ha : Lft a) : Sz (fun k => laws_szRule.f k x a) a (bdRule x) := by
  simp only [laws_szRule.f]; unfold bdRule
  exact Sz.len ha (fun _ h1 => Sz.ret) h.1
def bdRuleS (v : (List S113)) : Prop := v.length ≤ 1048576 ∧ ∀ x ∈ v, bdRule x
theorem sz_RuleS (v : (List S113)) (h : Lst wf113 v) {a : Int} (ha : Lft a) : Sz (fun k => laws_szRuleS.f k v a) a (bdRuleS v) := Sz.slice (l := laws_szRuleS.l0) h.1 (fun _ _ _ => by simp only [laws_szRuleS.f]) (fun hl => Sz.loop (fun _ _ _ _ => by simp only [laws_szRuleS.l0]) (fun x a hx ha => sz_Rule x hx ha) v h.2 hl) ha
def bdNodeType (x : S86) : Prop := x.f0.size ≤ 1048576 ∧ bdStringS x.f1 ∧ bdRuleS x.f2 ∧ True
theorem sz_NodeType (x : S86) (h : wf86 x) {a : Int} (ha : Lft a) : Sz (fun k => laws_szNodeType.f k x a) a (bdNodeType x) := by
  simp only [laws_szNodeType.f]; unfold bdNodeType
  exact Sz.len ha (fun _ h1 => Sz.call h1 (sz_StringS _ h.2.1 h1) fun v2 h2 => Sz.call h2 (sz_RuleS _ h.2.2.1 h2) fun v3 h3 => Sz.ret) h.1
def bdNodeTypeS (v : (List S86)) : Prop := v.length ≤ 1048576 ∧ ∀ x ∈ v, bdNodeType x
theorem sz_NodeTypeS (v : (List S86)) (h : Lst wf86 v) {a : Int} (ha : Lft a) : Sz (fun k => laws_szNodeTypeS.f k v a) a (bdNodeTypeS v) := Sz.slice (l := laws_szNodeTypeS.l0) h.1 (fun _ _ _ => by simp only [laws_szNodeTypeS.f]) (fun hl => Sz.loop (fun _ _ _ _ => by simp only [laws_szNodeTypeS.l0]) (fun x a hx ha => sz_NodeType x hx ha) v h.2 hl) ha
def bdEdgeType (x : S89) : Prop := x.f0.size ≤ 1048576 ∧ x.f1.size ≤ 1048576 ∧ x.f2.size ≤ 1048576 ∧ bdRuleS x.f3 ∧ True
theorem sz_EdgeType (x : S89) (h : wf89 x) {a : Int} (ha : Lft a) : Sz (fun k => laws_szEdgeType.f k x a) a (bdEdgeType x) := by
  simp only [laws_szEdgeType.f]; unfold bdEdgeType
  exact Sz.len ha (fun _ h1 => Sz.len h1 (fun _ h2 => Sz.len h2 (fun _ h3 => Sz.call h3 (sz_RuleS _ h.2.2.2.1 h3) fun v4 h4 => Sz.ret) h.2.2.1) h.2.1) h.1
def bdEdgeTypeS (v : (List S89)) : Prop := v.length ≤ 1048576 ∧ ∀ x ∈ v, bdEdgeType x
theorem sz_EdgeTypeS (v : (List S89)) (h : Lst wf89 v) {a : Int} (ha : Lft a) : Sz (fun k => laws_szEdgeTypeS.f k v a) a (bdEdgeTypeS v) := Sz.slice (l := laws_szEdgeTypeS.l0) h.1 (fun _ _ _ => by simp only [laws_szEdgeTypeS.f]) (fun hl => Sz.loop (fun _ _ _ _ => by simp only [laws_szEdgeTypeS.l0]) (fun x a hx ha => sz_EdgeType x hx ha) v h.2 hl) ha
def bdKey (x : S92) : Prop := x.f0.size ≤ 1048576 ∧ bdStringS x.f1 ∧ True
theorem sz_Key (x : S92) (h : wf92 x) {a : Int} (ha : Lft a) : Sz (fun k => laws_szKey.f k x a) a (bdKey x) := by
  simp only [laws_szKey.f]; unfold bdKey
  exact Sz.len ha (fun _ h1 => Sz.call h1 (sz_StringS _ h.2 h1) fun v2 h2 => Sz.ret) h.1
def bdKeyS (v : (List S92)) : Prop := v.length ≤ 1048576 ∧ ∀ x ∈ v, bdKey x
theorem sz_KeyS (v : (List S92)) (h : Lst wf92 v) {a : Int} (ha : Lft a) : Sz (fun k => laws_szKeyS.f k v a) a (bdKeyS v) := Sz.slice (l := laws_szKeyS.l0) h.1 (fun _ _ _ => by simp only [laws_szKeyS.f]) (fun hl => Sz.loop (fun _ _ _ _ => by simp only [laws_szKeyS.l0]) (fun x a hx ha => sz_Key x hx ha) v h.2 hl) ha
def bdSchema (x : S25) : Prop := bdNodeTypeS x.f0 ∧ bdEdgeTypeS x.f1 ∧ bdKeyS x.f2 ∧ True
theorem sz_Schema (x : S25) (h : wf25 x) {a : Int} (ha : Lft a) : Sz (fun k => laws_szSchema.f k x a) a (bdSchema x) := by
  simp only [laws_szSchema.f]; unfold bdSchema
  exact Sz.call ha (sz_NodeTypeS _ h.1 ha) fun v1 h1 => Sz.call h1 (sz_EdgeTypeS _ h.2.1 h1) fun v2 h2 => Sz.call h2 (sz_KeyS _ h.2.2.1 h2) fun v3 h3 => Sz.ret
theorem to_StringS (v : (List ByteArray)) (h : bdStringS v) : Ev (fun k => laws_toStringS.f k v) v := by
  have := to_f (f := laws_toStringS.f) (l := laws_toStringS.l0) (tr := id) h.1 (fun _ _ => by simp only [laws_toStringS.f]; rfl) (to_strs (fun _ _ _ _ _ => by simp only [laws_toStringS.l0]) v h.1)
  rwa [List.map_id] at this
theorem eq_StringS (v : (List ByteArray)) (h : bdStringS v) : Ev (fun k => laws_eqStringS.f k v v) true := eq_f (l := laws_eqStringS.l0) (fun _ _ _ => by simp only [laws_eqStringS.f]) (eq_strs (fun _ _ _ _ => by simp only [laws_eqStringS.l0]) _ h.1)
def trRule (x : S113) : S113 := x
theorem to_Rule (x : S113) (h : bdRule x) : Ev (fun k => laws_toRule.f k x) (trRule x) := by
  simp only [laws_toRule.f, trRule]; exact Ev.ret _
theorem eq_Rule (x : S113) (h : bdRule x) : Ev (fun k => laws_eqRule.f k (trRule x) (trRule x)) true := by
  simp only [laws_eqRule.f, trRule, beq_self_eq_true, decide_true, cond_true]
  exact Ev.ret _
theorem to_RuleS (v : (List S113)) (h : bdRuleS v) : Ev (fun k => laws_toRuleS.f k v) (v.map trRule) := to_f (l := laws_toRuleS.l0) h.1 (fun _ _ => by simp only [laws_toRuleS.f]; rfl) (to_loop (B := bdRule) (fun _ _ _ _ _ => by simp only [laws_toRuleS.l0]) (fun x hx => to_Rule x hx) v h.2 h.1)
theorem eq_RuleS (v : (List S113)) (h : bdRuleS v) : Ev (fun k => laws_eqRuleS.f k (v.map trRule) (v.map trRule)) true := eq_f (l := laws_eqRuleS.l0) (fun _ _ _ => by simp only [laws_eqRuleS.f]) (eq_loop (e := laws_eqRule.f) (fun _ _ _ _ => by simp only [laws_eqRuleS.l0]) _ (by intro y hy; obtain ⟨x, hx, rfl⟩ := List.mem_map.1 hy; exact eq_Rule x (h.2 x hx)) (by simpa using h.1))
def trNodeType (x : S86) : S96 := ⟨x.f0, x.f1, (x.f2.map trRule), x.f3⟩
theorem to_NodeType (x : S86) (h : bdNodeType x) : Ev (fun k => laws_toNodeType.f k x) (trNodeType x) := by
  simp only [laws_toNodeType.f, trNodeType]; exact Ev.bind (to_StringS _ h.2.1) (Ev.bind (to_RuleS _ h.2.2.1) (Ev.ret _))
theorem eq_NodeType (x : S86) (h : bdNodeType x) : Ev (fun k => laws_eqNodeType.f k (trNodeType x) (trNodeType x)) true := by
  simp only [laws_eqNodeType.f, trNodeType, beq_self_eq_true, decide_true, cond_true]
  refine Ev.bind (eq_StringS _ h.2.1) ?_
  simp only [beq_self_eq_true, decide_true, cond_true]
  refine Ev.bind (eq_RuleS _ h.2.2.1) ?_
  simp only [beq_self_eq_true, decide_true, cond_true]
  exact Ev.ret _
theorem to_NodeTypeS (v : (List S86)) (h : bdNodeTypeS v) : Ev (fun k => laws_toNodeTypeS.f k v) (v.map trNodeType) := to_f (l := laws_toNodeTypeS.l0) h.1 (fun _ _ => by simp only [laws_toNodeTypeS.f]; rfl) (to_loop (B := bdNodeType) (fun _ _ _ _ _ => by simp only [laws_toNodeTypeS.l0]) (fun x hx => to_NodeType x hx) v h.2 h.1)
theorem eq_NodeTypeS (v : (List S86)) (h : bdNodeTypeS v) : Ev (fun k => laws_eqNodeTypeS.f k (v.map trNodeType) (v.map trNodeType)) true := eq_f (l := laws_eqNodeTypeS.l0) (fun _ _ _ => by simp only [laws_eqNodeTypeS.f]) (eq_loop (e := laws_eqNodeType.f) (fun _ _ _ _ => by simp only [laws_eqNodeTypeS.l0]) _ (by intro y hy; obtain ⟨x, hx, rfl⟩ := List.mem_map.1 hy; exact eq_NodeType x (h.2 x hx)) (by simpa using h.1))
def trEdgeType (x : S89) : S99 := ⟨x.f0, x.f1, x.f2, (x.f3.map trRule), x.f4, x.f5, x.f6⟩
theorem to_EdgeType (x : S89) (h : bdEdgeType x) : Ev (fun k => laws_toEdgeType.f k x) (trEdgeType x) := by
  simp only [laws_toEdgeType.f, trEdgeType]; exact Ev.bind (to_RuleS _ h.2.2.2.1) (Ev.ret _)
theorem eq_EdgeType (x : S89) (h : bdEdgeType x) : Ev (fun k => laws_eqEdgeType.f k (trEdgeType x) (trEdgeType x)) true := by
  simp only [laws_eqEdgeType.f, trEdgeType, beq_self_eq_true, decide_true, cond_true]
  refine Ev.bind (eq_RuleS _ h.2.2.2.1) ?_
  simp only [beq_self_eq_true, decide_true, cond_true]
  exact Ev.ret _
theorem to_EdgeTypeS (v : (List S89)) (h : bdEdgeTypeS v) : Ev (fun k => laws_toEdgeTypeS.f k v) (v.map trEdgeType) := to_f (l := laws_toEdgeTypeS.l0) h.1 (fun _ _ => by simp only [laws_toEdgeTypeS.f]; rfl) (to_loop (B := bdEdgeType) (fun _ _ _ _ _ => by simp only [laws_toEdgeTypeS.l0]) (fun x hx => to_EdgeType x hx) v h.2 h.1)
theorem eq_EdgeTypeS (v : (List S89)) (h : bdEdgeTypeS v) : Ev (fun k => laws_eqEdgeTypeS.f k (v.map trEdgeType) (v.map trEdgeType)) true := eq_f (l := laws_eqEdgeTypeS.l0) (fun _ _ _ => by simp only [laws_eqEdgeTypeS.f]) (eq_loop (e := laws_eqEdgeType.f) (fun _ _ _ _ => by simp only [laws_eqEdgeTypeS.l0]) _ (by intro y hy; obtain ⟨x, hx, rfl⟩ := List.mem_map.1 hy; exact eq_EdgeType x (h.2 x hx)) (by simpa using h.1))
def trKey (x : S92) : S92 := ⟨x.f0, x.f1⟩
theorem to_Key (x : S92) (h : bdKey x) : Ev (fun k => laws_toKey.f k x) (trKey x) := by
  simp only [laws_toKey.f, trKey]; exact Ev.bind (to_StringS _ h.2.1) (Ev.ret _)
theorem eq_Key (x : S92) (h : bdKey x) : Ev (fun k => laws_eqKey.f k (trKey x) (trKey x)) true := by
  simp only [laws_eqKey.f, trKey, beq_self_eq_true, decide_true, cond_true]
  refine Ev.bind (eq_StringS _ h.2.1) ?_
  simp only [beq_self_eq_true, decide_true, cond_true]
  exact Ev.ret _
theorem to_KeyS (v : (List S92)) (h : bdKeyS v) : Ev (fun k => laws_toKeyS.f k v) (v.map trKey) := to_f (l := laws_toKeyS.l0) h.1 (fun _ _ => by simp only [laws_toKeyS.f]; rfl) (to_loop (B := bdKey) (fun _ _ _ _ _ => by simp only [laws_toKeyS.l0]) (fun x hx => to_Key x hx) v h.2 h.1)
theorem eq_KeyS (v : (List S92)) (h : bdKeyS v) : Ev (fun k => laws_eqKeyS.f k (v.map trKey) (v.map trKey)) true := eq_f (l := laws_eqKeyS.l0) (fun _ _ _ => by simp only [laws_eqKeyS.f]) (eq_loop (e := laws_eqKey.f) (fun _ _ _ _ => by simp only [laws_eqKeyS.l0]) _ (by intro y hy; obtain ⟨x, hx, rfl⟩ := List.mem_map.1 hy; exact eq_Key x (h.2 x hx)) (by simpa using h.1))
def trSchema (x : S25) : S33 := ⟨(x.f0.map trNodeType), (x.f1.map trEdgeType), (x.f2.map trKey), x.f3⟩
theorem to_Schema (x : S25) (h : bdSchema x) : Ev (fun k => laws_toSchema.f k x) (trSchema x) := by
  simp only [laws_toSchema.f, trSchema]; exact Ev.bind (to_NodeTypeS _ h.1) (Ev.bind (to_EdgeTypeS _ h.2.1) (Ev.bind (to_KeyS _ h.2.2.1) (Ev.ret _)))
theorem eq_Schema (x : S25) (h : bdSchema x) : Ev (fun k => laws_eqSchema.f k (trSchema x) (trSchema x)) true := by
  simp only [laws_eqSchema.f, trSchema, beq_self_eq_true, decide_true, cond_true]
  refine Ev.bind (eq_NodeTypeS _ h.1) ?_
  simp only [beq_self_eq_true, decide_true, cond_true]
  refine Ev.bind (eq_EdgeTypeS _ h.2.1) ?_
  simp only [beq_self_eq_true, decide_true, cond_true]
  refine Ev.bind (eq_KeyS _ h.2.2.1) ?_
  simp only [beq_self_eq_true, decide_true, cond_true]
  exact Ev.ret _
end Go.Ab
namespace Go.Ab
open Go.Proofs
set_option linter.unusedVariables false
set_option linter.unusedSimpArgs false
theorem markText_fin (t : ByteArray) (h1 : (t.size : Int) ≤ 5000000000000000000) : ∃ r, Ev (fun k => laws_markText.l0 k 0 t) r := by
  refine ⟨(⟨#[109]⟩ : ByteArray) ++ t, Ev.step ?_⟩
  have hs1 : (⟨#[109]⟩ : ByteArray).size = 1 := rfl
  have e : cat (⟨#[109]⟩ : ByteArray) t = some ((⟨#[109]⟩ : ByteArray) ++ t) := by unfold cat; rw [if_pos (by omega)]
  simp only [laws_markText.l0, Int.lt_irrefl, decide_false, cond_false, e, Option.bind_some]
  exact Ev.ret _
theorem markText_l0 : ∀ (n : Nat) (a : Int) (t : ByteArray), a.toNat ≤ n → 0 ≤ a → a + t.size ≤ 5000000000000000000 → ∃ r, Ev (fun k => laws_markText.l0 k a t) r := by
  intro n
  induction n with
  | zero =>
    intro a t h h0 h1
    have : a = 0 := by omega
    subst this
    exact markText_fin t (by omega)
  | succ n ih =>
    intro a t h h0 h1
    by_cases ha : 0 < a
    · have e1 : rem a 10 = some (a.tmod 10) := by unfold Ab.rem; rw [if_neg (by decide)]
      have e2 : quo .i64 a 10 = some (a.tdiv 10) := by
        unfold quo; rw [if_neg (by decide), wI]
        · have : 0 ≤ a.tdiv 10 := Int.tdiv_nonneg h0 (by decide)
          omega
        · rw [Int.tdiv_eq_ediv_of_nonneg h0]; omega
      have hb : ∀ x : Int, (bstr [x]).size = 1 := fun x => rfl
      have hd : a.tdiv 10 + 1 ≤ a ∧ 0 ≤ a.tdiv 10 := by rw [Int.tdiv_eq_ediv_of_nonneg h0]; omega
      obtain ⟨r, hr⟩ := ih (a.tdiv 10) (bstr [IntKind.u8.wrap (IntKind.i64.wrap (48 + a.tmod 10))] ++ t) (by omega) (by omega) (by rw [ByteArray.size_append, hb]; omega)
      refine ⟨r, Ev.step ?_⟩
      simp only [laws_markText.l0, decide_eq_true ha, cond_true, e1, e2, Option.bind_some]
      unfold cat
      rw [if_pos (by rw [hb]; omega)]
      exact hr
    · have : a = 0 := by omega
      subst this
      exact markText_fin t (by omega)
theorem markText_ev (a : Int) (h0 : 0 ≤ a) (h1 : a ≤ 4600000000000000000) : ∃ r, Ev (fun k => laws_markText.f k a) r := by
  by_cases h : a ≤ 0
  · exact ⟨_, Ev.step (by simp only [laws_markText.f, decide_eq_true h, cond_true]; exact Ev.ret _)⟩
  · obtain ⟨r, hr⟩ := markText_l0 a.toNat a (⟨#[]⟩ : ByteArray) (Nat.le_refl _) h0 (by have : (⟨#[]⟩ : ByteArray).size = 0 := rfl; omega)
    exact ⟨r, Ev.step (by simp only [laws_markText.f, decide_eq_false h, cond_false]; exact hr)⟩
theorem wm1 {a : Int} (h0 : 0 ≤ a) (h1 : a ≤ 4600000000000000000) : IntKind.i64.wrap (a + 1) = a + 1 := wI (by omega) (by omega)
/-- Marks are counted up, by at most so many. -/
def Mk (f : Nat → Int → Option Int) (B : Int) : Prop := ∀ c, 0 ≤ c → c + B ≤ 4500000000000000000 → ∃ r, Ev (fun k => f k c) r ∧ c ≤ r ∧ r ≤ c + B
theorem Mk.loop {α : Type} {l : Nat → List α → Int → Int → Option Int} {body : Nat → List α → Int → Int → Option Int} {v : List α} {Be : Int} (hBe : 0 ≤ Be)
    (hl : ∀ k c i, l (k + 1) v c i = bif decide (i < (v.length : Int)) then body k v c i else some c)
    (hb : ∀ (i : Nat), i < v.length → ∀ c, 0 ≤ c → c + Be ≤ 4500000000000000000 → ∃ c', c ≤ c' ∧ c' ≤ c + Be ∧ ∀ R, Ev (fun k => l k v c' ((i + 1 : Nat) : Int)) R → Ev (fun k => body k v c (i : Int)) R) :
    ∀ (n i : Nat) (c : Int), v.length - i ≤ n → 0 ≤ c → c + (n : Int) * Be ≤ 4500000000000000000 → ∃ r, Ev (fun k => l k v c (i : Int)) r ∧ c ≤ r ∧ r ≤ c + (n : Int) * Be := by
  intro n
  induction n with
  | zero =>
    intro i c h h0 h1
    refine ⟨c, Ev.step ?_, Int.le_refl _, by simp⟩
    simp only [hl, ltn (show ¬ i < v.length by omega), cond_false]; exact Ev.ret _
  | succ n ih =>
    intro i c h h0 h1
    have e : ((n + 1 : Nat) : Int) * Be = (n : Int) * Be + Be := by rw [Int.natCast_succ, Int.add_mul, Int.one_mul]
    have hp : 0 ≤ (n : Int) * Be := Int.mul_nonneg (by omega) hBe
    rw [e] at h1
    by_cases hi : i < v.length
    · obtain ⟨c', q1, q2, q3⟩ := hb i hi c h0 (by omega)
      obtain ⟨r, r1, r2, r3⟩ := ih (i + 1) c' (by omega) (by omega) (by omega)
      refine ⟨r, Ev.step ?_, by omega, by omega⟩
      simp only [hl, ltd hi, cond_true]; exact q3 _ r1
    · refine ⟨c, Ev.step ?_, Int.le_refl _, by omega⟩
      simp only [hl, ltn hi, cond_false]; exact Ev.ret _
theorem Mk.slice {α : Type} {f : Nat → List α → Int → Option Int} {l : Nat → List α → Int → Int → Option Int} {body : Nat → List α → Int → Int → Option Int} {v : List α} {Be : Int} (hv : v.length ≤ 1048576) (hBe : 0 ≤ Be)
    (hf : ∀ k c, f (k + 1) v c = l k v c 0) (hl : ∀ k c i, l (k + 1) v c i = bif decide (i < (v.length : Int)) then body k v c i else some c)
    (hb : ∀ (i : Nat), i < v.length → ∀ c, 0 ≤ c → c + Be ≤ 4500000000000000000 → ∃ c', c ≤ c' ∧ c' ≤ c + Be ∧ ∀ R, Ev (fun k => l k v c' ((i + 1 : Nat) : Int)) R → Ev (fun k => body k v c (i : Int)) R) :
    Mk (fun k c => f k v c) (1048576 * Be) := fun c h0 h1 => by
  have hle : (v.length : Int) * Be ≤ 1048576 * Be := Int.mul_le_mul_of_nonneg_right (by omega) hBe
  obtain ⟨r, r1, r2, r3⟩ := Mk.loop hBe hl hb v.length 0 c (by omega) h0 (by omega)
  exact ⟨r, Ev.step (by simp only [hf]; exact r1), r2, by omega⟩
/-- A mark in rows is there again. -/
theorem setr_get {α : Type} {w : List α} {i : Nat} {x : α} (h : i < w.length) : (setr w i x)[i]? = some x := by
  unfold setr; rw [List.getElem?_set_self h]
theorem setr_two {α : Type} {w : List α} {i : Nat} {x y : α} : setr (setr w i x) i y = setr w i y := by
  unfold setr; rw [List.set_set]
theorem setr_len {α : Type} {w : List α} {i : Nat} {x : α} : (setr w i x).length = w.length := by unfold setr; rw [List.length_set]
/-- Rows that are marked, and are held to be. -/
def Mh {α : Type} (m : Nat → Nat → Int → List α → Option (Int × List α)) (h : Nat → Nat → Int → List α → Option Int) : Prop :=
  ∀ (v : List α) (c : Int), v.length ≤ 2000000 → 0 ≤ c → c ≤ 1000000000000 → ∃ v' r, 0 ≤ r ∧ Ev (fun k => m k v.length c v) (r, v') ∧ Ev (fun k => h k v.length c v') r
theorem Mh.loop {α : Type} {ml : Nat → Nat → Int → Int → List α → Option (Int × List α)} {hl : Nat → Nat → Int → Int → List α → Option Int} {N : Nat} {Be : Int} (hBe : 0 ≤ Be ∧ Be ≤ 1000)
    (hN : N ≤ 2000000)
    (step : ∀ (w : List α) (i : Nat) (c : Int), w.length = N → i < N → 0 ≤ c → c ≤ 4000000000000000000 → ∃ x c', c ≤ c' ∧ c' ≤ c + Be ∧
      (∀ R, Ev (fun k => ml k N c' ((i + 1 : Nat) : Int) (setr w i x)) R → Ev (fun k => ml k N c (i : Int) w) R) ∧
      (∀ (v' : List α) R, v'[i]? = some x → Ev (fun k => hl k N c' ((i + 1 : Nat) : Int) v') R → Ev (fun k => hl k N c (i : Int) v') R))
    (stop : ∀ (w : List α) (i : Nat) (c : Int), ¬ i < N → Ev (fun k => ml k N c (i : Int) w) (c, w) ∧ Ev (fun k => hl k N c (i : Int) w) c) :
    ∀ (n i : Nat) (c : Int) (w : List α), N - i ≤ n → w.length = N → 0 ≤ c → c + (n : Int) * 1000 ≤ 4000000000000000000 → ∃ v' r, v'.length = N ∧ c ≤ r ∧ (∀ j, j < i → v'[j]? = w[j]?) ∧ Ev (fun k => ml k N c (i : Int) w) (r, v') ∧ Ev (fun k => hl k N c (i : Int) v') r := by
  intro n
  induction n with
  | zero =>
    intro i c w h hw h0 h1
    obtain ⟨q1, q2⟩ := stop w i c (by omega)
    exact ⟨w, c, hw, Int.le_refl _, fun _ _ => rfl, q1, q2⟩
  | succ n ih =>
    intro i c w h hw h0 h1
    by_cases hi : i < N
    · obtain ⟨x, c', q1, q2, q3, q4⟩ := step w i c hw hi h0 (by omega)
      obtain ⟨v', r, r1, r2, r3, r4, r5⟩ := ih (i + 1) c' (setr w i x) (by omega) (by rw [setr_len]; exact hw) (by omega) (by omega)
      refine ⟨v', r, r1, by omega, fun j hj => ?_, q3 _ r4, q4 _ _ (by rw [r3 i (by omega)]; exact setr_get (by omega)) r5⟩
      rw [r3 j (by omega)]; unfold setr; rw [List.getElem?_set_ne (by omega)]
    · obtain ⟨q1, q2⟩ := stop w i c hi
      exact ⟨w, c, hw, Int.le_refl _, fun _ _ => rfl, q1, q2⟩
theorem Mh.of {α : Type} {m : Nat → Nat → Int → List α → Option (Int × List α)} {h : Nat → Nat → Int → List α → Option Int} {ml : Nat → Nat → Int → Int → List α → Option (Int × List α)} {hl : Nat → Nat → Int → Int → List α → Option Int} {Be : Int} (hBe : 0 ≤ Be ∧ Be ≤ 1000)
    (hm : ∀ k N c w, m (k + 1) N c w = ml k N c 0 w) (hh : ∀ k N c w, h (k + 1) N c w = hl k N c 0 w)
    (step : ∀ (N : Nat) (w : List α) (i : Nat) (c : Int), N ≤ 2000000 → w.length = N → i < N → 0 ≤ c → c ≤ 4000000000000000000 → ∃ x c', c ≤ c' ∧ c' ≤ c + Be ∧
      (∀ R, Ev (fun k => ml k N c' ((i + 1 : Nat) : Int) (setr w i x)) R → Ev (fun k => ml k N c (i : Int) w) R) ∧
      (∀ (v' : List α) R, v'[i]? = some x → Ev (fun k => hl k N c' ((i + 1 : Nat) : Int) v') R → Ev (fun k => hl k N c (i : Int) v') R))
    (stop : ∀ (N : Nat) (w : List α) (i : Nat) (c : Int), ¬ i < N → Ev (fun k => ml k N c (i : Int) w) (c, w) ∧ Ev (fun k => hl k N c (i : Int) w) c) : Mh m h := fun v c hv h0 h1 => by
  obtain ⟨v', r, r1, r2, _, r4, r5⟩ := Mh.loop hBe hv (fun w i c => step v.length w i c hv) (fun w i c => stop v.length w i c) v.length 0 c v (by omega) rfl h0 (by omega)
  exact ⟨v', r, by omega, Ev.step (by simp only [hm]; exact r4), Ev.step (by simp only [hh]; exact r5)⟩
/-- Own rows compared with own rows. -/
theorem eqb_loop {α : Type} {l : Nat → Nat → Nat → Int → List α → List α → Option Bool} {v : List α} (hv : v.length ≤ 2000000)
    (step : ∀ (i : Nat), i < v.length → ∀ R, Ev (fun k => l k v.length v.length ((i + 1 : Nat) : Int) v v) R → Ev (fun k => l k v.length v.length (i : Int) v v) R)
    (stop : ∀ (i : Nat), ¬ i < v.length → Ev (fun k => l k v.length v.length (i : Int) v v) true) : ∀ (n i : Nat), v.length - i ≤ n → Ev (fun k => l k v.length v.length (i : Int) v v) true := by
  intro n
  induction n with
  | zero => intro i h; exact stop i (by omega)
  | succ n ih =>
    intro i h
    by_cases hi : i < v.length
    · exact step i hi _ (ih (i + 1) (by omega))
    · exact stop i hi
end Go.Ab
namespace Go.Ab
open Go.Proofs
set_option linter.unusedVariables false
set_option linter.unusedSimpArgs false
theorem rem3_ (a : Int) : rem a 3 = some (a.tmod 3) := rfl
theorem mh_StringS : Mh (fun k N c (w : List ByteArray) => laws_markStringS_bv.f k N c w) (fun k N c w => laws_heldStringS_bv.f k N c w) :=
  Mh.of (ml := fun k N c i w => laws_markStringS_bv.l0 k N c i w) (hl := fun k N c i w => laws_heldStringS_bv.l0 k N c i w) (Be := 1) (by omega) (fun _ _ _ _ => by simp only [laws_markStringS_bv.f]) (fun _ _ _ _ => by simp only [laws_heldStringS_bv.f])
   (fun N w i c hN hw hi h0 h1 => by
    obtain ⟨t1, q1⟩ := markText_ev (c) (by omega) (by omega)
    have ec0 := wm1 (a := c) (by omega) (by omega)
    have hiw : i < w.length := by omega
    refine ⟨?_, c + 1, by omega, by omega, fun R hR => ?_, fun v' R hv hR => ?_⟩
    rotate_left
    · refine Ev.step ?_
      simp only [laws_markStringS_bv.l0, List.getElem?_eq_getElem hiw, setr_get hiw, Option.bind_some, Int.toNat_natCast, cond_true, beq_self_eq_true, decide_true, setr_two, wup hi hN, inr_ hi, ltd hi, ec0]
      refine Ev.bind q1 ?_
      try simp only [setr_get hiw, Option.bind_some, Int.toNat_natCast, cond_true, beq_self_eq_true, decide_true, setr_two, wup hi hN, inr_ hi, ltd hi, ec0]
      exact hR
    · refine Ev.step ?_
      simp only [laws_heldStringS_bv.l0, hv, Option.bind_some, Int.toNat_natCast, cond_true, beq_self_eq_true, decide_true, setr_two, wup hi hN, inr_ hi, ltd hi, ec0]
      refine Ev.bind q1 ?_
      try simp only [Option.bind_some, Int.toNat_natCast, cond_true, beq_self_eq_true, decide_true, setr_two, wup hi hN, inr_ hi, ltd hi, ec0]
      exact hR)
   (fun N w i c hi => ⟨Ev.step (by simp only [laws_markStringS_bv.l0, ltn hi, cond_false]; exact Ev.ret _), Ev.step (by simp only [laws_heldStringS_bv.l0, ltn hi, cond_false]; exact Ev.ret _)⟩)
theorem eqb_StringS (v : List ByteArray) (hv : v.length ≤ 2000000) : Ev (fun k => laws_eqStringS_bb.f k v.length v.length v v) true := by
  refine Ev.step ?_
  simp only [laws_eqStringS_bb.f, beq_self_eq_true, cond_true]
  exact eqb_loop (l := fun k n m i v _ => laws_eqStringS_bb.l0 k n m i v v) hv (fun i hi R hR => Ev.step (by simp only [laws_eqStringS_bb.l0, ltd hi, cond_true, inr_ hi, Option.bind_some, Int.toNat_natCast, List.getElem?_eq_getElem hi, beq_self_eq_true, decide_true, wup hi hv]; exact hR)) (fun i hi => Ev.step (by simp only [laws_eqStringS_bb.l0, ltn hi, cond_false]; exact Ev.ret _)) _ 0 (Nat.le_refl _)
theorem mk_StringS (v : (List ByteArray)) (h : bdStringS v) : Mk (fun k c => laws_markStringS_sv.f k v c) 1048576 := by
  generalize hu : v = u
  have hlen : u.length ≤ 1048576 := by rw [← hu]; exact h.1
  refine Mk.slice (f := laws_markStringS_sv.f) (l := fun k u c i => laws_markStringS_sv.l0 k u c i) (v := u) (Be := 1) hlen (by omega) (fun k c => by simp only [laws_markStringS_sv.f]) (fun k c i => by simp only [laws_markStringS_sv.l0]; rfl) (fun i hi c h0 h1 => ?_)
  obtain ⟨t1, q1⟩ := markText_ev (c) (by omega) (by omega)
  have ec0 := wm1 (a := c) (by omega) (by omega)
  refine ⟨c + 1, by omega, by omega, fun R hR => ?_⟩
  simp only [ixg hi, Option.bind_some, rem3_, wup hi (show u.length ≤ 2000000 by omega), ec0]
  refine Ev.bind q1 ?_
  try simp only [ec0]
  exact hR
theorem mk_RuleS (v : (List S113)) (h : bdRuleS v) : Mk (fun k c => laws_markRuleS_sv.f k (v.map trRule) c) 3145728 := by
  generalize hu : (v.map trRule) = u
  have hlen : u.length ≤ 1048576 := by rw [← hu]; simpa using h.1
  refine Mk.slice (f := laws_markRuleS_sv.f) (l := fun k u c i => laws_markRuleS_sv.l0 k u c i) (v := u) (Be := 3) hlen (by omega) (fun k c => by simp only [laws_markRuleS_sv.f]) (fun k c i => by simp only [laws_markRuleS_sv.l0]; rfl) (fun i hi c h0 h1 => ?_)
  obtain ⟨y, hy, ey⟩ : ∃ y, bdRule y ∧ u[i] = (trRule y) := by
      have hm : u[i] ∈ (v.map trRule) := by rw [hu]; exact List.getElem_mem hi
      obtain ⟨y, hy, e⟩ := List.mem_map.1 hm
      exact ⟨y, h.2 y hy, e.symm⟩
  obtain ⟨t1, q1⟩ := markText_ev (c) (by omega) (by omega)
  have ec0 := wm1 (a := c) (by omega) (by omega)
  have ec1 := wm1 (a := c + 1) (by omega) (by omega)
  have ec2 := wm1 (a := c + 1 + 1) (by omega) (by omega)
  refine ⟨c + 1 + 1 + 1, by omega, by omega, fun R hR => ?_⟩
  simp only [ixg hi, Option.bind_some, rem3_, wup hi (show u.length ≤ 2000000 by omega), ey, ec0, ec1, ec2]
  refine Ev.bind q1 ?_
  try simp only [ec0, ec1, ec2]
  exact hR
theorem mk_NodeTypeS (v : (List S86)) (h : bdNodeTypeS v) : Mk (fun k c => laws_markNodeTypeS_sv.f k (v.map trNodeType) c) 4398048608256 := by
  generalize hu : (v.map trNodeType) = u
  have hlen : u.length ≤ 1048576 := by rw [← hu]; simpa using h.1
  refine Mk.slice (f := laws_markNodeTypeS_sv.f) (l := fun k u c i => laws_markNodeTypeS_sv.l0 k u c i) (v := u) (Be := 4194306) hlen (by omega) (fun k c => by simp only [laws_markNodeTypeS_sv.f]) (fun k c i => by simp only [laws_markNodeTypeS_sv.l0]; rfl) (fun i hi c h0 h1 => ?_)
  obtain ⟨y, hy, ey⟩ : ∃ y, bdNodeType y ∧ u[i] = (trNodeType y) := by
      have hm : u[i] ∈ (v.map trNodeType) := by rw [hu]; exact List.getElem_mem hi
      obtain ⟨y, hy, e⟩ := List.mem_map.1 hm
      exact ⟨y, h.2 y hy, e.symm⟩
  obtain ⟨t1, q1⟩ := markText_ev (c) (by omega) (by omega)
  have ec0 := wm1 (a := c) (by omega) (by omega)
  obtain ⟨r2, q2, l2, u2⟩ := mk_StringS _ hy.2.1 (c + 1) (by omega) (by omega)
  obtain ⟨r3, q3, l3, u3⟩ := mk_RuleS _ hy.2.2.1 (r2) (by omega) (by omega)
  have er30 := wm1 (a := r3) (by omega) (by omega)
  refine ⟨r3 + 1, by omega, by omega, fun R hR => ?_⟩
  simp only [ixg hi, Option.bind_some, rem3_, wup hi (show u.length ≤ 2000000 by omega), ey, ec0, er30]
  refine Ev.bind q1 ?_
  refine Ev.bind q2 ?_
  refine Ev.bind q3 ?_
  try simp only [ec0, er30]
  exact hR
theorem mk_EdgeTypeS (v : (List S89)) (h : bdEdgeTypeS v) : Mk (fun k c => laws_markEdgeTypeS_sv.f k (v.map trEdgeType) c) 3298541174784 := by
  generalize hu : (v.map trEdgeType) = u
  have hlen : u.length ≤ 1048576 := by rw [← hu]; simpa using h.1
  refine Mk.slice (f := laws_markEdgeTypeS_sv.f) (l := fun k u c i => laws_markEdgeTypeS_sv.l0 k u c i) (v := u) (Be := 3145734) hlen (by omega) (fun k c => by simp only [laws_markEdgeTypeS_sv.f]) (fun k c i => by simp only [laws_markEdgeTypeS_sv.l0]; rfl) (fun i hi c h0 h1 => ?_)
  obtain ⟨y, hy, ey⟩ : ∃ y, bdEdgeType y ∧ u[i] = (trEdgeType y) := by
      have hm : u[i] ∈ (v.map trEdgeType) := by rw [hu]; exact List.getElem_mem hi
      obtain ⟨y, hy, e⟩ := List.mem_map.1 hm
      exact ⟨y, h.2 y hy, e.symm⟩
  obtain ⟨t1, q1⟩ := markText_ev (c) (by omega) (by omega)
  have ec0 := wm1 (a := c) (by omega) (by omega)
  obtain ⟨t2, q2⟩ := markText_ev (c + 1) (by omega) (by omega)
  have ec1 := wm1 (a := c + 1) (by omega) (by omega)
  obtain ⟨t3, q3⟩ := markText_ev (c + 1 + 1) (by omega) (by omega)
  have ec2 := wm1 (a := c + 1 + 1) (by omega) (by omega)
  obtain ⟨r4, q4, l4, u4⟩ := mk_RuleS _ hy.2.2.2.1 (c + 1 + 1 + 1) (by omega) (by omega)
  have er40 := wm1 (a := r4) (by omega) (by omega)
  have er41 := wm1 (a := r4 + 1) (by omega) (by omega)
  have er42 := wm1 (a := r4 + 1 + 1) (by omega) (by omega)
  refine ⟨r4 + 1 + 1 + 1, by omega, by omega, fun R hR => ?_⟩
  simp only [ixg hi, Option.bind_some, rem3_, wup hi (show u.length ≤ 2000000 by omega), ey, ec0, ec1, ec2, er40, er41, er42]
  refine Ev.bind q1 ?_
  refine Ev.bind q2 ?_
  refine Ev.bind q3 ?_
  refine Ev.bind q4 ?_
  try simp only [ec0, ec1, ec2, er40, er41, er42]
  exact hR
theorem mk_KeyS (v : (List S92)) (h : bdKeyS v) : Mk (fun k c => laws_markKeyS_sv.f k (v.map trKey) c) 1099512676352 := by
  generalize hu : (v.map trKey) = u
  have hlen : u.length ≤ 1048576 := by rw [← hu]; simpa using h.1
  refine Mk.slice (f := laws_markKeyS_sv.f) (l := fun k u c i => laws_markKeyS_sv.l0 k u c i) (v := u) (Be := 1048577) hlen (by omega) (fun k c => by simp only [laws_markKeyS_sv.f]) (fun k c i => by simp only [laws_markKeyS_sv.l0]; rfl) (fun i hi c h0 h1 => ?_)
  obtain ⟨y, hy, ey⟩ : ∃ y, bdKey y ∧ u[i] = (trKey y) := by
      have hm : u[i] ∈ (v.map trKey) := by rw [hu]; exact List.getElem_mem hi
      obtain ⟨y, hy, e⟩ := List.mem_map.1 hm
      exact ⟨y, h.2 y hy, e.symm⟩
  obtain ⟨t1, q1⟩ := markText_ev (c) (by omega) (by omega)
  have ec0 := wm1 (a := c) (by omega) (by omega)
  obtain ⟨r2, q2, l2, u2⟩ := mk_StringS _ hy.2.1 (c + 1) (by omega) (by omega)
  refine ⟨r2, by omega, by omega, fun R hR => ?_⟩
  simp only [ixg hi, Option.bind_some, rem3_, wup hi (show u.length ≤ 2000000 by omega), ey, ec0]
  refine Ev.bind q1 ?_
  refine Ev.bind q2 ?_
  try simp only [ec0]
  exact hR
theorem mk_Schema (x : S25) (h : bdSchema x) : Mk (fun k c => laws_markSchema_sv.f k ((trSchema x)).f0 ((trSchema x)).f1 ((trSchema x)).f2 c) 8796102459392 := fun c h0 h1 => by
  obtain ⟨r1, q1, l1, u1⟩ := mk_NodeTypeS _ h.1 (c) (by omega) (by omega)
  obtain ⟨r2, q2, l2, u2⟩ := mk_EdgeTypeS _ h.2.1 (r1) (by omega) (by omega)
  obtain ⟨r3, q3, l3, u3⟩ := mk_KeyS _ h.2.2.1 (r2) (by omega) (by omega)
  refine ⟨r3, ?_, by omega, by omega⟩
  simp only [laws_markSchema_sv.f]
  refine Ev.bind q1 ?_
  refine Ev.bind q2 ?_
  refine Ev.bind q3 ?_
  exact Ev.ret _
end Go.Ab
namespace Go.Ab
open Go.Proofs
set_option linter.unusedVariables false
set_option linter.unusedSimpArgs false
theorem lft0 : Lft 1048576 := by unfold Lft; omega
theorem bd_tr {x : S25} (h : bdSchema x) : Bd (trSchema x).f0 ∧ (trSchema x).f1.length ≤ 2000000 ∧ (∀ e ∈ (trSchema x).f1, e.f3.length ≤ 2000000) ∧ (trSchema x).f2.length ≤ 2000000 ∧ ∀ k ∈ (trSchema x).f2, k.f1.length ≤ 2000000 := by
  obtain ⟨⟨h1, h2⟩, ⟨h3, h4⟩, ⟨h5, h6⟩, _⟩ := h
  refine ⟨⟨?_, fun t ht => ?_, fun t ht => ?_⟩, ?_, fun e he => ?_, ?_, fun k hk => ?_⟩
  · simp only [trSchema, List.length_map]; omega
  · simp only [trSchema] at ht
    obtain ⟨u, hu, rfl⟩ := List.mem_map.1 ht
    have := (h2 u hu).2.1.1
    simp only [trNodeType]; omega
  · simp only [trSchema] at ht
    obtain ⟨u, hu, rfl⟩ := List.mem_map.1 ht
    have := (h2 u hu).2.2.1.1
    simp only [trNodeType, List.length_map]; omega
  · simp only [trSchema, List.length_map]; omega
  · simp only [trSchema] at he
    obtain ⟨u, hu, rfl⟩ := List.mem_map.1 he
    have := (h4 u hu).2.2.2.1.1
    simp only [trEdgeType, List.length_map]; omega
  · simp only [trSchema, List.length_map]; omega
  · simp only [trSchema] at hk
    obtain ⟨u, hu, rfl⟩ := List.mem_map.1 hk
    have := (h6 u hu).2.1.1
    simp only [trKey]; omega
theorem faultT {x : S25} (h : bdSchema x) : ∃ b : Bool, Ev (fun k => spec_SchemaFault.f k (trSchema x)) (if b then 0 else 1) ∧ Ev (fun k => impl_schemaOk.f k (trSchema x)) b ∧ (b = true → Ok (trSchema x).f0) := by
  obtain ⟨h1, h2, h3, h4, h5⟩ := bd_tr h
  exact fault3 (N := (trSchema x).f0) (E := (trSchema x).f1) (K := (trSchema x).f2) (c := (trSchema x).f3) h1 h2 h3 h4 h5
theorem line2 {x : S25} (h : bdSchema x) (a : ByteArray) : ∃ R, R.length ≤ 2000000 ∧ Ev (fun k => spec_LineOf_O.f k (trSchema x) a) R ∧ Ev (fun k => impl_LineOf_O.f k (trSchema x) a) R := by
  unfold spec_LineOf_O.f impl_LineOf_O.f
  obtain ⟨b, s1, s2, s3⟩ := faultT h
  by_cases h2 : a.size ≤ 65536
  case neg =>
    refine ⟨[], by simp, ?_, ?_⟩
    · simp only [show decide ((65536 : Int) < (a.size : Int)) = true by simp; omega, cond_true]
      exact Ev.ret _
    · refine Ev.bind s2 ?_
      cases b <;> simp only [show decide ((65536 : Int) < (a.size : Int)) = true by simp; omega, cond_true, cond_false] <;> exact Ev.ret _
  simp only [show decide ((65536 : Int) < (a.size : Int)) = false by simp; omega, cond_false]
  cases b with
  | false => exact ⟨[], by simp, Ev.bind s1 (Ev.ret _), Ev.bind s2 (Ev.ret _)⟩
  | true =>
    have hb := (bd_tr h).1
    have hok := s3 rfl
    obtain ⟨r, r1, _, r2⟩ := slineo (N := (trSchema x).f0) (E := (trSchema x).f1) (K := (trSchema x).f2) (c := (trSchema x).f3) hb.n hb.p a
    obtain ⟨r3, r4, r5⟩ := r2 hok
    have h20 := hok.1
    obtain ⟨q, q1, q2, q3, q4⟩ := iline (N := (trSchema x).f0) (E := (trSchema x).f1) (K := (trSchema x).f2) (c := (trSchema x).f3) hb.n hb.p a
    have e : q = r := Bv.strict_ext q r q4 r5 (fun y => by rw [q2, r3])
    subst e
    refine ⟨q, by omega, Ev.bind s1 ?_, Ev.bind s2 ?_⟩
    · simp only [if_true, beq_self_eq_true, cond_true]
      exact Ev.bind r1 (Ev.ret _)
    · simp only [cond_true]
      exact Ev.bind (by simp only [impl_line.f] at q1; simp only [impl_line_O.f]; exact q1) (Ev.ret _)
theorem said_FnExactLineOf (x : S25) (h : wf25 x) (a : ByteArray) : ∃ k, laws_FnExactLineOf.f k x a = some true := by
  refine Ev.at_ (f := fun k => laws_FnExactLineOf.f k x a) ?_
  unfold laws_FnExactLineOf.f
  by_cases hs : (1048576 : Int) < (a.size : Int)
  · simp only [decide_eq_true hs, cond_true]; exact Ev.ret _
  simp only [decide_eq_false hs, cond_false]
  obtain ⟨r, h1, h2, h3⟩ := sz_Schema x h lft0
  refine Ev.bind h1 ?_
  by_cases hr : r < 0
  · simp only [decide_eq_true hr, cond_true]; exact Ev.ret _
  have hb := h3 (by omega)
  obtain ⟨R, hR, s1, s2⟩ := line2 hb a
  obtain ⟨m, m1, m2, m3⟩ := mk_Schema x hb 1 (by omega) (by omega)
  obtain ⟨v', q, q1, q2, q3⟩ := mh_StringS R 1 hR (by omega) (by omega)
  have e := eqb_StringS R hR
  simp only [decide_eq_false hr, cond_false]
  refine Ev.bind (to_Schema x hb) (Ev.bind s1 (Ev.bind (to_Schema x hb) (Ev.bind s2 (Ev.bind e ?_))))
  simp only [cond_true]
  refine Ev.bind (to_Schema x hb) (Ev.bind (eq_Schema x hb) ?_)
  simp only [cond_true]
  refine Ev.bind m1 ?_
  simp only [decide_eq_false (show ¬ m < 0 by omega), cond_false]
  refine Ev.bind e ?_
  simp only [cond_true]
  refine Ev.bind q2 (Ev.bind q3 ?_)
  simp only [decide_eq_false (show ¬ q < 0 by omega), cond_false, beq_self_eq_true, cond_true]
  refine Ev.bind (to_Schema x hb) (Ev.bind s2 (Ev.bind e ?_))
  simp only [cond_true]
  refine Ev.bind q3 ?_
  simp only [decide_eq_false (show ¬ q < 0 by omega), cond_false, beq_self_eq_true, cond_true]
  exact Ev.ret _
end Go.Ab
