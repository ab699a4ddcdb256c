/- Sizes, copies and comparisons of the arguments of FnExactShowChanges. No condition. -/
import Derived.Test.YtkjoeomgnkfljaaGreatDoorAbH0
import Derived.Test.YtkjoeomgnkfljaaGreatDoorAbG1
import Derived.Lib.ItoaLen
namespace Go.Ab
open Go.Proofs
set_option linter.unusedVariables false
set_option linter.unusedSimpArgs false
def wf193 (x : S193) : Prop := Str x.f0 ∧ Str x.f1
def wf137 (x : S137) : Prop := (InK .i64) x.f0 ∧ (Lst Str) x.f1 ∧ (Lst wf193) x.f2
def wf139 (x : S139) : Prop := (InK .i64) x.f0 ∧ Str x.f1 ∧ (InK .i64) x.f2 ∧ (InK .i64) x.f3 ∧ (Lst wf193) x.f4
def wf141 (x : S141) : Prop := (InK .i64) x.f0 ∧ wf137 x.f1 ∧ wf139 x.f2 ∧ Str x.f3 ∧ Str x.f4 ∧ Str x.f5
def bdStringS (v : (List ByteArray)) : Prop := v.length ≤ 1048576 ∧ ∀ x ∈ v, x.size ≤ 1048576
theorem sz_StringS (v : (List ByteArray)) (h : Lst Str v) {a : Int} (ha : Lft a) : Sz (fun k => laws_szStringS.f k v a) a (bdStringS v) := Sz.slice (l := laws_szStringS.l0) h.1 (fun _ _ _ => by simp only [laws_szStringS.f]) (fun hl => Sz.strs (fun _ _ _ _ => by simp only [laws_szStringS.l0]) v h.2 hl) ha
def bdField (x : S193) : Prop := x.f0.size ≤ 1048576 ∧ x.f1.size ≤ 1048576 ∧ True
theorem sz_Field (x : S193) (h : wf193 x) {a : Int} (ha : Lft a) : Sz (fun k => laws_szField.f k x a) a (bdField x) := by
  simp only [laws_szField.f]; unfold bdField
  exact Sz.len ha (fun _ h1 => Sz.len h1 (fun _ h2 => Sz.ret) h.2) h.1
def bdFieldS (v : (List S193)) : Prop := v.length ≤ 1048576 ∧ ∀ x ∈ v, bdField x
theorem sz_FieldS (v : (List S193)) (h : Lst wf193 v) {a : Int} (ha : Lft a) : Sz (fun k => laws_szFieldS.f k v a) a (bdFieldS v) := Sz.slice (l := laws_szFieldS.l0) h.1 (fun _ _ _ => by simp only [laws_szFieldS.f]) (fun hl => Sz.loop (fun _ _ _ _ => by simp only [laws_szFieldS.l0]) (fun x a hx ha => sz_Field x hx ha) v h.2 hl) ha
def bdNode (x : S137) : Prop := bdStringS x.f1 ∧ bdFieldS x.f2 ∧ True
theorem sz_Node (x : S137) (h : wf137 x) {a : Int} (ha : Lft a) : Sz (fun k => laws_szNode.f k x a) a (bdNode x) := by
  simp only [laws_szNode.f]; unfold bdNode
  exact Sz.call ha (sz_StringS _ h.2.1 ha) fun v1 h1 => Sz.call h1 (sz_FieldS _ h.2.2 h1) fun v2 h2 => Sz.ret
def bdEdge (x : S139) : Prop := x.f1.size ≤ 1048576 ∧ bdFieldS x.f4 ∧ True
theorem sz_Edge (x : S139) (h : wf139 x) {a : Int} (ha : Lft a) : Sz (fun k => laws_szEdge.f k x a) a (bdEdge x) := by
  simp only [laws_szEdge.f]; unfold bdEdge
  exact Sz.len ha (fun _ h1 => Sz.call h1 (sz_FieldS _ h.2.2.2.2 h1) fun v2 h2 => Sz.ret) h.2.1
def bdChange (x : S141) : Prop := bdNode x.f1 ∧ bdEdge x.f2 ∧ x.f3.size ≤ 1048576 ∧ x.f4.size ≤ 1048576 ∧ x.f5.size ≤ 1048576 ∧ True
theorem sz_Change (x : S141) (h : wf141 x) {a : Int} (ha : Lft a) : Sz (fun k => laws_szChange.f k x a) a (bdChange x) := by
  simp only [laws_szChange.f]; unfold bdChange
  exact Sz.call ha (sz_Node _ h.2.1 ha) fun v1 h1 => Sz.call h1 (sz_Edge _ h.2.2.1 h1) fun v2 h2 => Sz.len h2 (fun _ h3 => Sz.len h3 (fun _ h4 => Sz.len h4 (fun _ h5 => Sz.ret) h.2.2.2.2.2) h.2.2.2.2.1) h.2.2.2.1
def bdChangeS (v : (List S141)) : Prop := v.length ≤ 1048576 ∧ ∀ x ∈ v, bdChange x
theorem sz_ChangeS (v : (List S141)) (h : Lst wf141 v) {a : Int} (ha : Lft a) : Sz (fun k => laws_szChangeS.f k v a) a (bdChangeS v) := Sz.slice (l := laws_szChangeS.l0) h.1 (fun _ _ _ => by simp only [laws_szChangeS.f]) (fun hl => Sz.loop (fun _ _ _ _ => by simp only [laws_szChangeS.l0]) (fun x a hx ha => sz_Change x hx ha) v h.2 hl) ha
theorem to_StringS (v : (List ByteArray)) (h : bdStringS v) : Ev (fun k => laws_toStringS.f k v) v := by
  have := to_f (f := laws_toStringS.f) (l := laws_toStringS.l0) (tr := id) h.1 (fun _ _ => by simp only [laws_toStringS.f]; rfl) (to_strs (fun _ _ _ _ _ => by simp only [laws_toStringS.l0]) v h.1)
  rwa [List.map_id] at this
theorem eq_StringS (v : (List ByteArray)) (h : bdStringS v) : Ev (fun k => laws_eqStringS.f k v v) true := eq_f (l := laws_eqStringS.l0) (fun _ _ _ => by simp only [laws_eqStringS.f]) (eq_strs (fun _ _ _ _ => by simp only [laws_eqStringS.l0]) _ h.1)
def trField (x : S193) : S193 := x
theorem to_Field (x : S193) (h : bdField x) : Ev (fun k => laws_toField.f k x) (trField x) := by
  simp only [laws_toField.f, trField]; exact Ev.ret _
theorem eq_Field (x : S193) (h : bdField x) : Ev (fun k => laws_eqField.f k (trField x) (trField x)) true := by
  simp only [laws_eqField.f, trField, beq_self_eq_true, decide_true, cond_true]
  exact Ev.ret _
theorem to_FieldS (v : (List S193)) (h : bdFieldS v) : Ev (fun k => laws_toFieldS.f k v) (v.map trField) := to_f (l := laws_toFieldS.l0) h.1 (fun _ _ => by simp only [laws_toFieldS.f]; rfl) (to_loop (B := bdField) (fun _ _ _ _ _ => by simp only [laws_toFieldS.l0]) (fun x hx => to_Field x hx) v h.2 h.1)
theorem eq_FieldS (v : (List S193)) (h : bdFieldS v) : Ev (fun k => laws_eqFieldS.f k (v.map trField) (v.map trField)) true := eq_f (l := laws_eqFieldS.l0) (fun _ _ _ => by simp only [laws_eqFieldS.f]) (eq_loop (e := laws_eqField.f) (fun _ _ _ _ => by simp only [laws_eqFieldS.l0]) _ (by intro y hy; obtain ⟨x, hx, rfl⟩ := List.mem_map.1 hy; exact eq_Field x (h.2 x hx)) (by simpa using h.1))
def trNode (x : S137) : S94 := ⟨x.f0, x.f1, (x.f2.map trField)⟩
theorem to_Node (x : S137) (h : bdNode x) : Ev (fun k => laws_toNode.f k x) (trNode x) := by
  simp only [laws_toNode.f, trNode]; exact Ev.bind (to_StringS _ h.1) (Ev.bind (to_FieldS _ h.2.1) (Ev.ret _))
theorem eq_Node (x : S137) (h : bdNode x) : Ev (fun k => laws_eqNode.f k (trNode x) (trNode x)) true := by
  simp only [laws_eqNode.f, trNode, beq_self_eq_true, decide_true, cond_true]
  refine Ev.bind (eq_StringS _ h.1) ?_
  simp only [beq_self_eq_true, decide_true, cond_true]
  refine Ev.bind (eq_FieldS _ h.2.1) ?_
  simp only [beq_self_eq_true, decide_true, cond_true]
  exact Ev.ret _
def trEdge (x : S139) : S110 := ⟨x.f0, x.f1, x.f2, x.f3, (x.f4.map trField)⟩
theorem to_Edge (x : S139) (h : bdEdge x) : Ev (fun k => laws_toEdge.f k x) (trEdge x) := by
  simp only [laws_toEdge.f, trEdge]; exact Ev.bind (to_FieldS _ h.2.1) (Ev.ret _)
theorem eq_Edge (x : S139) (h : bdEdge x) : Ev (fun k => laws_eqEdge.f k (trEdge x) (trEdge x)) true := by
  simp only [laws_eqEdge.f, trEdge, beq_self_eq_true, decide_true, cond_true]
  refine Ev.bind (eq_FieldS _ h.2.1) ?_
  simp only [beq_self_eq_true, decide_true, cond_true]
  exact Ev.ret _
def trChange (x : S141) : S145 := ⟨x.f0, (trNode x.f1), (trEdge x.f2), x.f3, x.f4, x.f5⟩
theorem to_Change (x : S141) (h : bdChange x) : Ev (fun k => laws_toChange.f k x) (trChange x) := by
  simp only [laws_toChange.f, trChange]; exact Ev.bind (to_Node _ h.1) (Ev.bind (to_Edge _ h.2.1) (Ev.ret _))
theorem eq_Change (x : S141) (h : bdChange x) : Ev (fun k => laws_eqChange.f k (trChange x) (trChange x)) true := by
  simp only [laws_eqChange.f, trChange, beq_self_eq_true, decide_true, cond_true]
  refine Ev.bind (eq_Node _ h.1) ?_
  simp only [beq_self_eq_true, decide_true, cond_true]
  refine Ev.bind (eq_Edge _ h.2.1) ?_
  simp only [beq_self_eq_true, decide_true, cond_true]
  exact Ev.ret _
theorem to_ChangeS (v : (List S141)) (h : bdChangeS v) : Ev (fun k => laws_toChangeS.f k v) (v.map trChange) := to_f (l := laws_toChangeS.l0) h.1 (fun _ _ => by simp only [laws_toChangeS.f]; rfl) (to_loop (B := bdChange) (fun _ _ _ _ _ => by simp only [laws_toChangeS.l0]) (fun x hx => to_Change x hx) v h.2 h.1)
theorem eq_ChangeS (v : (List S141)) (h : bdChangeS v) : Ev (fun k => laws_eqChangeS.f k (v.map trChange) (v.map trChange)) true := eq_f (l := laws_eqChangeS.l0) (fun _ _ _ => by simp only [laws_eqChangeS.f]) (eq_loop (e := laws_eqChange.f) (fun _ _ _ _ => by simp only [laws_eqChangeS.l0]) _ (by intro y hy; obtain ⟨x, hx, rfl⟩ := List.mem_map.1 hy; exact eq_Change x (h.2 x hx)) (by simpa using h.1))
end Go.Ab
namespace Go.Ab
open Go.Proofs
set_option linter.unusedVariables false
set_option linter.unusedSimpArgs false
theorem fields_nm {l : List S193} (hl : l.length ≤ 2000000) : ∀ n i : Nat, l.length - i ≤ n → Ev (fun k => impl_fieldsOk.l0 k l (i : Int)) true → ∀ f ∈ l.drop i, nmB f.f0 = true := by
  intro n
  induction n with
  | zero => intro i h _ x hx; rw [List.drop_of_length_le (by omega)] at hx; cases hx
  | succ n ih =>
    intro i h hT x hx
    by_cases hi : i < l.length
    case neg => rw [List.drop_of_length_le (by omega)] at hx; cases hx
    obtain ⟨c, _, hc⟩ := fields_l0' hl _ (i + 1) (Nat.le_refl _)
    obtain ⟨d, _, hd⟩ := value2 l[i].f1
    have no : ∀ {r}, Ev (fun k => impl_fieldsOk.l0 k l (i : Int)) r → r = true := fun h => h.uniq hT
    cases hn : nmB l[i].f0 with
    | false =>
      have := no (r := false) (Ev.step (by
        simp only [impl_fieldsOk.l0, ltd hi, cond_true, ixg hi, Option.bind_some]
        refine Ev.bind (inm _) ?_
        simp only [hn, cond_false]; exact Ev.ret _))
      cases this
    | true =>
      have hdc : (d = true → c = true) ∧ (d = false → False) := by
        by_cases h0 : 0 < i
        · have hs : slt (l[i - 1]'(by omega)).f0 l[i].f0 = true := by
            cases hs : slt (l[i - 1]'(by omega)).f0 l[i].f0 with
            | true => rfl
            | false =>
              have := no (r := false) (Ev.step (by
                simp only [impl_fieldsOk.l0, ltd hi, cond_true, ixg hi, Option.bind_some]
                refine Ev.bind (inm _) ?_
                simp only [hn, cond_true, show decide ((0 : Int) < (i : Int)) = true by simpa using h0, wdn h0 hi hl, ixg (show i - 1 < l.length by omega), Option.bind_some, hs, cond_false]
                exact Ev.ret _))
              cases this
          have key : ∀ r, (d = true → r = c) → (d = false → r = false) → r = true := fun r h1 h2 => no (Ev.step (by
            simp only [impl_fieldsOk.l0, ltd hi, cond_true, ixg hi, Option.bind_some]
            refine Ev.bind (inm _) ?_
            simp only [hn, cond_true, show decide ((0 : Int) < (i : Int)) = true by simpa using h0, wdn h0 hi hl, ixg (show i - 1 < l.length by omega), Option.bind_some, hs]
            refine Ev.bind hd ?_
            cases d with
            | true => simp only [cond_true, wup hi hl]; rw [h1 rfl]; exact hc
            | false => simp only [cond_false]; rw [h2 rfl]; exact Ev.ret _))
          exact ⟨fun h => key c (fun _ => rfl) (fun h' => by rw [h] at h'; cases h'), fun h => by have := key false (fun h' => by rw [h] at h'; cases h') (fun _ => rfl); cases this⟩
        · have key : ∀ r, (d = true → r = c) → (d = false → r = false) → r = true := fun r h1 h2 => no (Ev.step (by
            simp only [impl_fieldsOk.l0, ltd hi, cond_true, ixg hi, Option.bind_some]
            refine Ev.bind (inm _) ?_
            simp only [hn, cond_true, show decide ((0 : Int) < (i : Int)) = false by simp; omega, cond_false]
            refine Ev.bind hd ?_
            cases d with
            | true => simp only [cond_true, wup hi hl]; rw [h1 rfl]; exact hc
            | false => simp only [cond_false]; rw [h2 rfl]; exact Ev.ret _))
          exact ⟨fun h => key c (fun _ => rfl) (fun h' => by rw [h] at h'; cases h'), fun h => by have := key false (fun h' => by rw [h] at h'; cases h') (fun _ => rfl); cases this⟩
      have hct : c = true := by
        cases d with
        | true => exact hdc.1 rfl
        | false => exact (hdc.2 rfl).elim
      subst hct
      rw [List.drop_eq_getElem_cons hi] at hx
      rcases List.mem_cons.1 hx with rfl | hx
      · exact hn
      · exact ih (i + 1) (by omega) hc x hx
theorem node_nm {x : S94} (h : Ev (fun k => impl_nodeOk.f k x) true) : (∀ l ∈ x.f1, nmB l = true) ∧ x.f1.length ≤ 10 ∧ (∀ f ∈ x.f2, nmB f.f0 = true) ∧ x.f2.length ≤ 20 := by
  obtain ⟨c, _, hc⟩ := idOk2 x.f0
  obtain ⟨d, _, hd⟩ := fields2 x.f2
  have no : ∀ {r}, Ev (fun k => impl_nodeOk.f k x) r → r = true := fun h' => h'.uniq h
  have hct : c = true := by
    cases c with
    | true => rfl
    | false =>
      have := no (r := false) (by simp only [impl_nodeOk.f]; exact Ev.bind hc (Ev.ret _))
      cases this
  subst hct
  have hl := ilab x.f1 (m := 10) (by omega)
  have hlt : labB 10 x.f1 = true := by
    cases hb : labB 10 x.f1 with
    | true => rfl
    | false =>
      have := no (r := false) (by
        simp only [impl_nodeOk.f]
        refine Ev.bind hc ?_
        simp only [cond_true]
        refine Ev.bind hl ?_
        rw [hb]; exact Ev.ret _)
      cases this
  have hdt : d = true := no (by
    simp only [impl_nodeOk.f]
    refine Ev.bind hc ?_
    simp only [cond_true]
    refine Ev.bind hl ?_
    rw [hlt]
    exact Ev.bind hd (Ev.ret _))
  subst hdt
  simp only [labB, Bool.and_eq_true, decide_eq_true_eq, List.all_eq_true] at hlt
  have h20 : x.f2.length ≤ 20 := by
    rcases Nat.lt_or_ge 20 x.f2.length with h' | h'
    · have : Ev (fun k => impl_fieldsOk.f k x.f2) false := Ev.step (by
        simp only [impl_fieldsOk.f, show decide ((20 : Int) < (x.f2.length : Int)) = true by simp; omega, cond_true]; exact Ev.ret _)
      cases hd.uniq this
    · exact h'
  refine ⟨hlt.2.1, hlt.1, ?_, h20⟩
  have : Ev (fun k => impl_fieldsOk.l0 k x.f2 ((0 : Nat) : Int)) true := by
    obtain ⟨K, q⟩ := hd
    refine ⟨K, fun k hk => ?_⟩
    have := q (k + 1) (by omega)
    simp only [impl_fieldsOk.f, show decide ((20 : Int) < (x.f2.length : Int)) = false by simp; omega, cond_false] at this
    exact this
  have := fields_nm (l := x.f2) (by omega) _ 0 (Nat.le_refl _) this
  rwa [List.drop_zero] at this
/-! The box -/
def inB (v a b : Int) : Bool := decide (min a b ≤ v) && decide (v ≤ max a b)
theorem edge_f20 {x : S110} (h : Ev (fun k => impl_edgeOk.f k x) true) : x.f4.length ≤ 20 := by
  rcases Nat.lt_or_ge 20 x.f4.length with h' | h'
  · exfalso
    have hd : Ev (fun k => impl_fieldsOk.f k x.f4) false := Ev.step (by
      simp only [impl_fieldsOk.f, show decide ((20 : Int) < (x.f4.length : Int)) = true by simp; omega, cond_true]; exact Ev.ret _)
    obtain ⟨c1, _, h1⟩ := idOk2 x.f0
    obtain ⟨c2, _, h2⟩ := idOk2 x.f2
    obtain ⟨c3, _, h3⟩ := idOk2 x.f3
    have : Ev (fun k => impl_edgeOk.f k x) false := by
      simp only [impl_edgeOk.f]
      refine Ev.bind h1 ?_
      cases c1 with
      | false => exact Ev.ret _
      | true =>
        simp only [cond_true]
        refine Ev.bind (inm _) ?_
        cases nmB x.f1 with
        | false => exact Ev.ret _
        | true =>
          simp only [cond_true]
          refine Ev.bind h2 ?_
          cases c2 with
          | false => exact Ev.ret _
          | true =>
            simp only [cond_true]
            refine Ev.bind h3 ?_
            cases c3 with
            | false => exact Ev.ret _
            | true =>
              simp only [cond_true]
              exact Ev.bind hd (Ev.ret _)
    cases h.uniq this
  · exact h'
/-! Texts -/
theorem catb {a b : ByteArray} (h : a.size + b.size ≤ 1000000000000000) : cat a b = some (a ++ b) := by unfold cat; rw [if_pos (by omega)]
theorem bws (k : Nat) {t s : ByteArray} (h : s.size + t.size ≤ 100000000000000) : strings_Builder_WriteString.f k t s = some ((t.size : Int), true, s ++ t) := by unfold strings_Builder_WriteString.f; rw [if_pos (by omega)]
theorem bwb (k : Nat) {s : ByteArray} (h : s.size ≤ 100000000000000) : strings_Builder_WriteByte.f k 10 s = some (true, s ++ ⟨#[10]⟩) := by
  unfold strings_Builder_WriteByte.f; rw [if_pos (by omega)]; rfl
theorem nilc (s : ByteArray) : (⟨#[]⟩ : ByteArray) ++ s = s := by
  apply ByteArray.ext
  simp
theorem cnil (s : ByteArray) : s ++ (⟨#[]⟩ : ByteArray) = s := by
  apply ByteArray.ext
  simp
def numT (n : Int) : ByteArray := bs (Lib.itoa n)
def In64 (n : Int) : Prop := -9223372036854775808 ≤ n ∧ n ≤ 9223372036854775807
theorem num_size {n : Int} (h : In64 n) : (numT n).size ≤ 21 := by
  unfold numT; rw [bs_size]; exact Lib.itoa_length_le n h.1 h.2
theorem snum {n : Int} (h : In64 n) : Ev (fun k => spec_l01Dec.f k n) (numT n) := dec_ h.1 h.2
theorem inum {n : Int} (h : In64 n) : Ev (fun k => impl_num.f k n) (numT n) := by
  simp only [impl_num.f, strconv_FormatInt.f]
  have := h.1; have := h.2
  simp only [true_and]
  rw [if_pos (by exact ⟨h.1, h.2⟩)]
  exact Ev.ret _
def item (f : S193) : ByteArray := (f.f0 ++ ⟨#[58]⟩) ++ f.f1
def FB1 (f : S193) : Prop := f.f0.size ≤ 1048576 ∧ f.f1.size ≤ 1048576
theorem item_size1 {f : S193} (h : FB1 f) : (item f).size ≤ 2097153 := by
  have h1 : (⟨#[58]⟩ : ByteArray).size = 1 := rfl
  unfold item; rw [ByteArray.size_append, ByteArray.size_append, h1]; have := h.1; have := h.2; omega
def tl : List S193 → ByteArray
 | [] => ⟨#[]⟩
 | f :: r => (⟨#[44]⟩ ++ item f) ++ tl r
def inner : List S193 → ByteArray
 | [] => ⟨#[]⟩
 | f :: r => item f ++ tl r
def mapT (l : List S193) : ByteArray := (⟨#[123]⟩ ++ inner l) ++ ⟨#[125]⟩
def beh (l : List S193) : ByteArray := if l.length = 0 then ⟨#[10]⟩ else (⟨#[32]⟩ ++ mapT l) ++ ⟨#[10]⟩
theorem tl_size : ∀ (l : List S193), (∀ f ∈ l, FB1 f) → (tl l).size ≤ l.length * 2097154
 | [], _ => Nat.zero_le _
 | f :: r, h => by
   have h1 := item_size1 (h f (List.mem_cons_self ..))
   have h2 := tl_size r fun g hg => h g (List.mem_cons_of_mem _ hg)
   have h3 : (⟨#[44]⟩ : ByteArray).size = 1 := rfl
   have h4 : (r.length + 1) * 2097154 = r.length * 2097154 + 2097154 := Nat.succ_mul _ _
   simp only [tl, List.length_cons]
   rw [ByteArray.size_append, ByteArray.size_append, h3, h4]; omega
theorem inner_size {l : List S193} (h : ∀ f ∈ l, FB1 f) (hl : l.length ≤ 20) : (inner l).size ≤ 42000000 := by
  cases l with
  | nil => exact Nat.zero_le _
  | cons f r =>
    have h1 := item_size1 (h f (List.mem_cons_self ..))
    have h2 := tl_size r fun g hg => h g (List.mem_cons_of_mem _ hg)
    have h5 : r.length * 2097154 ≤ 19 * 2097154 := Nat.mul_le_mul_right _ (by simp at hl; omega)
    simp only [inner]
    rw [ByteArray.size_append]; omega
theorem mapT_size {l : List S193} (h : ∀ f ∈ l, FB1 f) (hl : l.length ≤ 20) : (mapT l).size ≤ 42000002 := by
  have h1 := inner_size h hl
  have h2 : (⟨#[123]⟩ : ByteArray).size = 1 := rfl
  have h3 : (⟨#[125]⟩ : ByteArray).size = 1 := rfl
  unfold mapT; rw [ByteArray.size_append, ByteArray.size_append, h2, h3]; omega
theorem beh_size {l : List S193} (h : ∀ f ∈ l, FB1 f) (hl : l.length ≤ 20) : (beh l).size ≤ 42000004 := by
  have h1 := mapT_size h hl
  have h2 : (⟨#[32]⟩ : ByteArray).size = 1 := rfl
  have h3 : (⟨#[10]⟩ : ByteArray).size = 1 := rfl
  unfold beh
  split
  · rw [h3]; omega
  · rw [ByteArray.size_append, ByteArray.size_append, h2, h3]; omega
def rmn (l : List S193) (i : Nat) : ByteArray := if i = 0 then inner l else tl (l.drop i)
theorem rem_end {l : List S193} {i : Nat} (h : ¬ i < l.length) : rmn l i = ⟨#[]⟩ := by
  unfold rmn
  split
  · rename_i h0
    have : l = [] := List.eq_nil_of_length_eq_zero (by omega)
    rw [this]; rfl
  · rw [List.drop_of_length_le (by omega)]; rfl
theorem rem_step {l : List S193} {i : Nat} (h : i < l.length) (o : ByteArray) : o ++ rmn l i = (if i = 0 then o ++ item l[i] else (o ++ ⟨#[44]⟩) ++ item l[i]) ++ rmn l (i + 1) := by
  unfold rmn
  rw [if_neg (show ¬ i + 1 = 0 by omega)]
  by_cases h0 : i = 0
  · subst h0
    rw [if_pos rfl, if_pos rfl]
    cases l with
    | nil => simp at h
    | cons f r => simp only [inner, List.getElem_cons_zero, List.drop_succ_cons, List.drop_zero, ByteArray.append_assoc]
  · rw [if_neg h0, if_neg h0, List.drop_eq_getElem_cons h]
    simp only [tl, ByteArray.append_assoc]
theorem smap_ {l : List S193} (h : ∀ f ∈ l, FB1 f) (hl : l.length ≤ 20) : Ev (fun k => spec_l02Map.f k l) (mapT l) := by
  have h123 : (⟨#[123]⟩ : ByteArray).size = 1 := rfl
  have h44 : (⟨#[44]⟩ : ByteArray).size = 1 := rfl
  have h58 : (⟨#[58]⟩ : ByteArray).size = 1 := rfl
  have h125 : (⟨#[125]⟩ : ByteArray).size = 1 := rfl
  have L : ∀ (n i : Nat) (o : ByteArray), l.length - i ≤ n → i ≤ l.length → o.size ≤ i * 3000000 → Ev (fun k => spec_l02Map.l0 k l o (i : Int)) ((⟨#[123]⟩ ++ (o ++ rmn l i)) ++ ⟨#[125]⟩) := by
    intro n
    have fin : ∀ (i : Nat) (o : ByteArray), ¬ i < l.length → i ≤ l.length → o.size ≤ i * 3000000 → Ev (fun k => spec_l02Map.l0 k l o (i : Int)) ((⟨#[123]⟩ ++ (o ++ rmn l i)) ++ ⟨#[125]⟩) := fun i o hi hle ho => by
      refine Ev.step ?_
      rw [rem_end hi, cnil]
      simp only [spec_l02Map.l0, ltn hi, cond_false]
      rw [catb (by omega)]
      simp only [Option.bind_some]
      rw [catb (by rw [ByteArray.size_append]; omega)]
      simp only [Option.bind_some]
      exact Ev.ret _
    induction n with
    | zero => intro i o hn hle ho; exact fin i o (by omega) hle ho
    | succ n ih =>
      intro i o hn hle ho
      by_cases hi : i < l.length
      case neg => exact fin i o hi hle ho
      have hf := h _ (List.getElem_mem hi)
      have hf1 := hf.1
      have hf2 := hf.2
      have hs := item_size1 hf
      rw [rem_step hi]
      have j : ∀ o1 : ByteArray, o1.size ≤ i * 3000000 + 1 → Ev (fun k => spec_l02Map.j0 k l o1 (i : Int)) ((⟨#[123]⟩ ++ ((o1 ++ item l[i]) ++ rmn l (i + 1))) ++ ⟨#[125]⟩) := fun o1 ho1 => by
        have g := ih (i + 1) (o1 ++ item l[i]) (by omega) (by omega) (by rw [ByteArray.size_append]; omega)
        refine Ev.step ?_
        simp only [spec_l02Map.j0, ixg hi, Option.bind_some]
        rw [catb (by omega)]
        simp only [Option.bind_some]
        rw [catb (by rw [ByteArray.size_append]; omega)]
        simp only [Option.bind_some]
        rw [catb (by rw [ByteArray.size_append, ByteArray.size_append]; omega)]
        simp only [Option.bind_some, wup hi (show l.length ≤ 2000000 by omega)]
        have e : ((o1 ++ l[i].f0) ++ ⟨#[58]⟩) ++ l[i].f1 = o1 ++ item l[i] := by simp only [item, ByteArray.append_assoc]
        rw [e]
        exact g
      refine Ev.step ?_
      by_cases h0 : i = 0
      · subst h0
        rw [if_pos rfl]
        simp only [spec_l02Map.l0, ltd hi, cond_true, show decide ((0 : Int) < ((0 : Nat) : Int)) = false from rfl, cond_false]
        exact j o (by omega)
      · rw [if_neg h0]
        simp only [spec_l02Map.l0, ltd hi, cond_true, show decide ((0 : Int) < (i : Int)) = true by simp; omega]
        rw [catb (by omega)]
        simp only [Option.bind_some]
        exact j _ (by rw [ByteArray.size_append]; omega)
  have := L _ 0 ⟨#[]⟩ (Nat.le_refl _) (Nat.zero_le _) (Nat.zero_le _)
  rw [nilc] at this
  refine Ev.step ?_
  simp only [spec_l02Map.f]
  exact this
theorem imap_ {l : List S193} (h : ∀ f ∈ l, FB1 f) (hl : l.length ≤ 20) : Ev (fun k => impl_mapText.f k l) (mapT l) := by
  have h123 : (⟨#[123]⟩ : ByteArray).size = 1 := rfl
  have h44 : (⟨#[44]⟩ : ByteArray).size = 1 := rfl
  have h58 : (⟨#[58]⟩ : ByteArray).size = 1 := rfl
  have h125 : (⟨#[125]⟩ : ByteArray).size = 1 := rfl
  have L : ∀ (n i : Nat) (o : ByteArray), l.length - i ≤ n → i ≤ l.length → o.size ≤ 1 + i * 3000000 → Ev (fun k => impl_mapText.l0 k o l (i : Int)) ((o ++ rmn l i) ++ ⟨#[125]⟩) := by
    intro n
    have fin : ∀ (i : Nat) (o : ByteArray), ¬ i < l.length → i ≤ l.length → o.size ≤ 1 + i * 3000000 → Ev (fun k => impl_mapText.l0 k o l (i : Int)) ((o ++ rmn l i) ++ ⟨#[125]⟩) := fun i o hi hle ho => by
      refine Ev.step ?_
      rw [rem_end hi, cnil]
      simp only [impl_mapText.l0, ltn hi, cond_false]
      rw [catb (by omega)]
      simp only [Option.bind_some]
      exact Ev.ret _
    induction n with
    | zero => intro i o hn hle ho; exact fin i o (by omega) hle ho
    | succ n ih =>
      intro i o hn hle ho
      by_cases hi : i < l.length
      case neg => exact fin i o hi hle ho
      have hf := h _ (List.getElem_mem hi)
      have hf1 := hf.1
      have hf2 := hf.2
      have hs := item_size1 hf
      have c1 : cat l[i].f0 (⟨#[58]⟩ : ByteArray) = some (l[i].f0 ++ ⟨#[58]⟩) := catb (by omega)
      have c2 : cat (l[i].f0 ++ ⟨#[58]⟩) l[i].f1 = some (item l[i]) := catb (by rw [ByteArray.size_append]; omega)
      rw [rem_step hi]
      refine Ev.step ?_
      by_cases h0 : i = 0
      · subst h0
        rw [if_pos rfl]
        simp only [impl_mapText.l0, ltd hi, cond_true, ixg hi, Option.bind_some, show decide ((0 : Int) < ((0 : Nat) : Int)) = false from rfl, cond_false, c1, c2]
        rw [catb (by omega)]
        simp only [Option.bind_some, wup hi (show l.length ≤ 2000000 by omega)]
        exact ih 1 _ (by omega) (by omega) (by rw [ByteArray.size_append]; omega)
      · rw [if_neg h0]
        simp only [impl_mapText.l0, ltd hi, cond_true, ixg hi, Option.bind_some, show decide ((0 : Int) < (i : Int)) = true by simp; omega, c1, c2]
        rw [catb (by omega)]
        simp only [Option.bind_some]
        rw [catb (by rw [ByteArray.size_append]; omega)]
        simp only [Option.bind_some, wup hi (show l.length ≤ 2000000 by omega)]
        exact ih (i + 1) _ (by omega) (by omega) (by rw [ByteArray.size_append, ByteArray.size_append]; omega)
  have := L _ 0 ⟨#[123]⟩ (Nat.le_refl _) (Nat.zero_le _) (by rw [h123]; omega)
  refine Ev.step ?_
  simp only [impl_mapText.f]
  exact this
theorem sbeh_ {l : List S193} (h : ∀ f ∈ l, FB1 f) (hl : l.length ≤ 20) : Ev (fun k => spec_l02Behind.f k l) (beh l) := by
  have hm := mapT_size h hl
  have h32 : (⟨#[32]⟩ : ByteArray).size = 1 := rfl
  have h10 : (⟨#[10]⟩ : ByteArray).size = 1 := rfl
  unfold beh spec_l02Behind.f
  by_cases h0 : l.length = 0
  · rw [if_pos h0]
    simp only [show ((l.length : Int) == 0) = true by simp; exact List.eq_nil_of_length_eq_zero h0, cond_true]
    exact Ev.ret _
  · rw [if_neg h0]
    simp only [show ((l.length : Int) == 0) = false by simp; exact fun e => h0 (by rw [e]; rfl), cond_false]
    refine Ev.bind (smap_ h hl) ?_
    rw [catb (by omega)]
    simp only [Option.bind_some]
    rw [catb (by rw [ByteArray.size_append]; omega)]
    simp only [Option.bind_some]
    exact Ev.ret _
/-- What the program writes behind a node or an edge. -/
theorem ibeh_ {l : List S193} (h : ∀ f ∈ l, FB1 f) (hl : l.length ≤ 20) {o : ByteArray} (ho : o.size ≤ 90000000000000) {R : Nat → ByteArray → Option ByteArray} {r : ByteArray} (hr : Ev (fun k => R k (o ++ beh l)) r) :
   Ev (fun k => bif decide (0 < (l.length : Int)) then ((impl_mapText.f k l).bind fun v13 => ((cat (⟨#[32]⟩ : ByteArray) v13).bind fun v14 => ((strings_Builder_WriteString.f k v14 o).bind fun v15 => ((strings_Builder_WriteByte.f k 10 v15.2.2).bind fun v17 => R k v17.2)))) else ((strings_Builder_WriteByte.f k 10 o).bind fun v17 => R k v17.2)) r := by
  have hm := mapT_size h hl
  have h32 : (⟨#[32]⟩ : ByteArray).size = 1 := rfl
  have h10 : (⟨#[10]⟩ : ByteArray).size = 1 := rfl
  unfold beh at hr
  by_cases h0 : l.length = 0
  · rw [if_pos h0] at hr
    simp only [show decide ((0 : Int) < (l.length : Int)) = false by simp; exact List.eq_nil_of_length_eq_zero h0, cond_false]
    simp only [bwb _ (show o.size ≤ 100000000000000 by omega), Option.bind_some]
    exact hr
  · rw [if_neg h0] at hr
    simp only [show decide ((0 : Int) < (l.length : Int)) = true by simp; omega, cond_true]
    refine Ev.bind (imap_ h hl) ?_
    rw [catb (by omega)]
    simp only [Option.bind_some]
    have hsz : (⟨#[32]⟩ ++ mapT l : ByteArray).size = 1 + (mapT l).size := by rw [ByteArray.size_append, h32]
    simp only [bws _ (show o.size + (⟨#[32]⟩ ++ mapT l : ByteArray).size ≤ 100000000000000 by omega), Option.bind_some]
    simp only [bwb _ (show (o ++ (⟨#[32]⟩ ++ mapT l) : ByteArray).size ≤ 100000000000000 by rw [ByteArray.size_append]; omega), Option.bind_some]
    rw [ByteArray.append_assoc]
    exact hr
/-! Nodes and edges -/
def labs : List ByteArray → ByteArray
 | [] => ⟨#[]⟩
 | a :: r => (⟨#[32, 58]⟩ ++ a) ++ labs r
def nodeT (n : S94) : ByteArray := ((⟨#[110]⟩ ++ numT n.f0) ++ labs n.f1) ++ beh n.f2
def nodesT : List S94 → ByteArray
 | [] => ⟨#[]⟩
 | n :: r => nodeT n ++ nodesT r
def eh (e : S110) : ByteArray := ((((((⟨#[101]⟩ ++ numT e.f0) ++ ⟨#[32, 110]⟩) ++ numT e.f2) ++ ⟨#[32, 45]⟩) ++ e.f1) ++ ⟨#[45, 62, 32, 110]⟩) ++ numT e.f3
def edgesT : List S110 → ByteArray
 | [] => ⟨#[]⟩
 | e :: r => (eh e ++ beh e.f4) ++ edgesT r
structure NOk (n : S94) : Prop where
 id : In64 n.f0
 lab : ∀ a ∈ n.f1, a.size ≤ 1048576
 l10 : n.f1.length ≤ 10
 fld : ∀ f ∈ n.f2, FB1 f
 f20 : n.f2.length ≤ 20
structure EOk (e : S110) : Prop where
 id : In64 e.f0
 fr : In64 e.f2
 tgt : In64 e.f3
 ty : e.f1.size ≤ 1048576
 fld : ∀ f ∈ e.f4, FB1 f
 f20 : e.f4.length ≤ 20
theorem labs_size : ∀ l : List ByteArray, (∀ a ∈ l, a.size ≤ 1048576) → (labs l).size ≤ l.length * 1048578
 | [], _ => Nat.zero_le _
 | a :: r, h => by
   have h1 := h a (List.mem_cons_self ..)
   have h2 := labs_size r fun b hb => h b (List.mem_cons_of_mem _ hb)
   have h3 : (⟨#[32, 58]⟩ : ByteArray).size = 2 := rfl
   have h4 : (r.length + 1) * 1048578 = r.length * 1048578 + 1048578 := Nat.succ_mul _ _
   simp only [labs, List.length_cons]
   rw [ByteArray.size_append, ByteArray.size_append, h3, h4]; omega
theorem labs10 {n : S94} (h : NOk n) : (labs n.f1).size ≤ 10485780 := by
  have h1 := labs_size _ h.lab
  have h2 : n.f1.length * 1048578 ≤ 10 * 1048578 := Nat.mul_le_mul_right _ h.l10
  omega
theorem eh_size {e : S110} (h : EOk e) : (eh e).size ≤ 1049000 := by
  have a1 : (⟨#[101]⟩ : ByteArray).size = 1 := rfl
  have a2 : (⟨#[32, 110]⟩ : ByteArray).size = 2 := rfl
  have a3 : (⟨#[32, 45]⟩ : ByteArray).size = 2 := rfl
  have a4 : (⟨#[45, 62, 32, 110]⟩ : ByteArray).size = 4 := rfl
  have h1 := num_size h.id
  have h2 := num_size h.fr
  have h3 := num_size h.tgt
  have h4 := h.ty
  unfold eh
  simp only [ByteArray.size_append, a1, a2, a3, a4]
  omega
section
variable {g : S31}
theorem inodes_ (hn : ∀ n ∈ g.f0, NOk n) (hl : g.f0.length ≤ 200) : ∀ (m i : Nat) (o : ByteArray), g.f0.length - i ≤ m → i ≤ g.f0.length → o.size ≤ i * 60000000 → ∀ r, Ev (fun k => impl_showGraph.l2 k g 0 (o ++ nodesT (g.f0.drop i))) r → Ev (fun k => impl_showGraph.l0 k g (i : Int) o) r := by
  intro m
  have fin : ∀ (i : Nat) (o : ByteArray), ¬ i < g.f0.length → ∀ r, Ev (fun k => impl_showGraph.l2 k g 0 (o ++ nodesT (g.f0.drop i))) r → Ev (fun k => impl_showGraph.l0 k g (i : Int) o) r := fun i o hi r hr => by
    rw [List.drop_of_length_le (by omega)] at hr
    simp only [nodesT, cnil] at hr
    refine Ev.step ?_
    simp only [impl_showGraph.l0, ltn hi, cond_false]
    exact hr
  induction m with
  | zero => intro i o h hle ho; exact fin i o (by omega)
  | succ m ih =>
    intro i o h hle ho r hr
    by_cases hi : i < g.f0.length
    case neg => exact fin i o hi r hr
    have hk := hn _ (List.getElem_mem hi)
    have b1 := num_size hk.id
    have b2 := labs10 hk
    have b3 := beh_size hk.fld hk.f20
    have h110 : (⟨#[110]⟩ : ByteArray).size = 1 := rfl
    have h3258 : (⟨#[32, 58]⟩ : ByteArray).size = 2 := rfl
    have hi6 : (i + 1) * 60000000 = i * 60000000 + 60000000 := Nat.succ_mul _ _
    have hi7 : i * 60000000 ≤ 200 * 60000000 := Nat.mul_le_mul_right _ (by omega)
    rw [List.drop_eq_getElem_cons hi] at hr
    have e : o ++ nodesT (g.f0[i] :: g.f0.drop (i + 1)) = (((o ++ (⟨#[110]⟩ ++ numT g.f0[i].f0)) ++ labs g.f0[i].f1) ++ beh g.f0[i].f2) ++ nodesT (g.f0.drop (i + 1)) := by
      simp only [nodesT, nodeT, ByteArray.append_assoc]
    rw [e] at hr
    have hsz : ((((o ++ (⟨#[110]⟩ ++ numT g.f0[i].f0)) ++ labs g.f0[i].f1) ++ beh g.f0[i].f2)).size ≤ (i + 1) * 60000000 := by
      rw [hi6]
      simp only [ByteArray.size_append, h110]
      revert b1 b2 b3
      generalize (numT g.f0[i].f0).size = z1
      generalize (labs g.f0[i].f1).size = z2
      generalize (beh g.f0[i].f2).size = z3
      intros
      omega
    have hnext := ih (i + 1) _ (by omega) (by omega) hsz r hr
    have hj0 : ∀ p : ByteArray, p.size ≤ 90000000000000 → Ev (fun k => impl_showGraph.l0 k g ((i + 1 : Nat) : Int) (p ++ ⟨#[10]⟩)) r → Ev (fun k => impl_showGraph.j0 k g (i : Int) p) r := fun p hp hg => by
      refine Ev.step ?_
      simp only [impl_showGraph.j0, bwb _ (show p.size ≤ 100000000000000 by omega), Option.bind_some, wup hi (show g.f0.length ≤ 2000000 by omega)]
      exact hg
    have L : ∀ (q j : Nat) (p : ByteArray), g.f0[i].f1.length - j ≤ q → p.size + (labs (g.f0[i].f1.drop j)).size ≤ i * 60000000 + 20000000 → Ev (fun k => impl_showGraph.l0 k g ((i + 1 : Nat) : Int) ((p ++ labs (g.f0[i].f1.drop j)) ++ beh g.f0[i].f2)) r → Ev (fun k => impl_showGraph.l1 k g (i : Int) g.f0[i] (j : Int) p) r := by
      intro q
      have fin : ∀ (j : Nat) (p : ByteArray), ¬ j < g.f0[i].f1.length → p.size ≤ i * 60000000 + 20000000 → Ev (fun k => impl_showGraph.l0 k g ((i + 1 : Nat) : Int) ((p ++ labs (g.f0[i].f1.drop j)) ++ beh g.f0[i].f2)) r → Ev (fun k => impl_showGraph.l1 k g (i : Int) g.f0[i] (j : Int) p) r := fun j p hj hp hg => by
        rw [List.drop_of_length_le (by omega)] at hg
        simp only [labs, cnil] at hg
        have hm := mapT_size hk.fld hk.f20
        have h32 : (⟨#[32]⟩ : ByteArray).size = 1 := rfl
        refine Ev.step ?_
        simp only [impl_showGraph.l1, ltn hj, cond_false]
        unfold beh at hg
        by_cases h0 : g.f0[i].f2.length = 0
        · rw [if_pos h0] at hg
          simp only [show decide ((0 : Int) < (g.f0[i].f2.length : Int)) = false by simp; exact List.eq_nil_of_length_eq_zero h0, cond_false]
          exact hj0 p (by omega) hg
        · rw [if_neg h0] at hg
          simp only [show decide ((0 : Int) < (g.f0[i].f2.length : Int)) = true by simp; omega, cond_true]
          refine Ev.bind (imap_ hk.fld hk.f20) ?_
          rw [catb (by omega)]
          simp only [Option.bind_some]
          have hsz : (⟨#[32]⟩ ++ mapT g.f0[i].f2 : ByteArray).size = 1 + (mapT g.f0[i].f2).size := by rw [ByteArray.size_append, h32]
          simp only [bws _ (show p.size + (⟨#[32]⟩ ++ mapT g.f0[i].f2 : ByteArray).size ≤ 100000000000000 by omega), Option.bind_some]
          refine hj0 _ (by rw [ByteArray.size_append]; omega) ?_
          rw [ByteArray.append_assoc]
          exact hg
      induction q with
      | zero => intro j p h hp hg; exact fin j p (by omega) (by omega) hg
      | succ q ihq =>
        intro j p h hp hg
        by_cases hj : j < g.f0[i].f1.length
        case neg => exact fin j p hj (by omega) hg
        rw [List.drop_eq_getElem_cons hj] at hg hp
        have e2 : p ++ labs (g.f0[i].f1[j] :: g.f0[i].f1.drop (j + 1)) = (p ++ (⟨#[32, 58]⟩ ++ g.f0[i].f1[j])) ++ labs (g.f0[i].f1.drop (j + 1)) := by
          simp only [labs, ByteArray.append_assoc]
        rw [e2] at hg
        simp only [labs, ByteArray.size_append, h3258] at hp
        refine Ev.step ?_
        simp only [impl_showGraph.l1, ltd hj, cond_true, ixg hj, Option.bind_some]
        rw [catb (by omega)]
        simp only [Option.bind_some]
        simp only [bws _ (show p.size + (⟨#[32, 58]⟩ ++ g.f0[i].f1[j] : ByteArray).size ≤ 100000000000000 by rw [ByteArray.size_append]; omega), Option.bind_some, wup hj (show g.f0[i].f1.length ≤ 2000000 by have := hk.l10; omega)]
        exact ihq (j + 1) _ (by omega) (by simp only [ByteArray.size_append, h3258]; omega) hg
    refine Ev.step ?_
    simp only [impl_showGraph.l0, ltd hi, cond_true, ixg hi, Option.bind_some]
    refine Ev.bind (inum hk.id) ?_
    rw [catb (by omega)]
    simp only [Option.bind_some]
    simp only [bws _ (show o.size + (⟨#[110]⟩ ++ numT g.f0[i].f0 : ByteArray).size ≤ 100000000000000 by rw [ByteArray.size_append]; omega), Option.bind_some]
    refine L _ 0 _ (Nat.le_refl _) ?_ ?_
    · rw [List.drop_zero]; simp only [ByteArray.size_append, h110]; omega
    · rw [List.drop_zero]; exact hnext
theorem iedges_ (he : ∀ e ∈ g.f1, EOk e) (hl : g.f1.length ≤ 400) : ∀ (m i : Nat) (o : ByteArray), g.f1.length - i ≤ m → i ≤ g.f1.length → o.size ≤ 20000000000 + i * 60000000 → Ev (fun k => impl_showGraph.l2 k g (i : Int) o) (o ++ edgesT (g.f1.drop i)) := by
  intro m
  have fin : ∀ (i : Nat) (o : ByteArray), ¬ i < g.f1.length → Ev (fun k => impl_showGraph.l2 k g (i : Int) o) (o ++ edgesT (g.f1.drop i)) := fun i o hi => by
    rw [List.drop_of_length_le (by omega)]
    simp only [edgesT, cnil]
    refine Ev.step ?_
    simp only [impl_showGraph.l2, ltn hi, cond_false, strings_Builder_String.f, Option.bind_some]
    exact Ev.ret _
  induction m with
  | zero => intro i o h hle ho; exact fin i o (by omega)
  | succ m ih =>
    intro i o h hle ho
    by_cases hi : i < g.f1.length
    case neg => exact fin i o hi
    have hk := he _ (List.getElem_mem hi)
    have b1 := num_size hk.id
    have b2 := num_size hk.fr
    have b3 := num_size hk.tgt
    have b4 := hk.ty
    have b5 := beh_size hk.fld hk.f20
    have b6 := eh_size hk
    have a1 : (⟨#[101]⟩ : ByteArray).size = 1 := rfl
    have a2 : (⟨#[32, 110]⟩ : ByteArray).size = 2 := rfl
    have a3 : (⟨#[32, 45]⟩ : ByteArray).size = 2 := rfl
    have a4 : (⟨#[45, 62, 32, 110]⟩ : ByteArray).size = 4 := rfl
    have hi6 : (i + 1) * 60000000 = i * 60000000 + 60000000 := Nat.succ_mul _ _
    have hi7 : i * 60000000 ≤ 400 * 60000000 := Nat.mul_le_mul_right _ (by omega)
    have e : o ++ edgesT (g.f1[i] :: g.f1.drop (i + 1)) = ((o ++ eh g.f1[i]) ++ beh g.f1[i].f4) ++ edgesT (g.f1.drop (i + 1)) := by
      simp only [edgesT, ByteArray.append_assoc]
    rw [List.drop_eq_getElem_cons hi, e]
    have hnext := ih (i + 1) ((o ++ eh g.f1[i]) ++ beh g.f1[i].f4) (by omega) (by omega) (by simp only [ByteArray.size_append]; omega)
    refine Ev.step ?_
    simp only [impl_showGraph.l2, ltd hi, cond_true, ixg hi, Option.bind_some]
    refine Ev.bind (inum hk.id) ?_
    rw [catb (by omega)]
    simp only [Option.bind_some]
    rw [catb (by simp only [ByteArray.size_append, a1, a2]; omega)]
    simp only [Option.bind_some]
    refine Ev.bind (inum hk.fr) ?_
    rw [catb (by simp only [ByteArray.size_append, a1, a2]; omega)]
    simp only [Option.bind_some]
    rw [catb (by simp only [ByteArray.size_append, a1, a2, a3]; omega)]
    simp only [Option.bind_some]
    rw [catb (by simp only [ByteArray.size_append, a1, a2, a3]; omega)]
    simp only [Option.bind_some]
    rw [catb (by simp only [ByteArray.size_append, a1, a2, a3, a4]; omega)]
    simp only [Option.bind_some]
    refine Ev.bind (inum hk.tgt) ?_
    rw [catb (by simp only [ByteArray.size_append, a1, a2, a3, a4]; omega)]
    simp only [Option.bind_some]
    have hw : ∀ k, strings_Builder_WriteString.f k (((((((⟨#[101]⟩ ++ numT g.f1[i].f0) ++ ⟨#[32, 110]⟩) ++ numT g.f1[i].f2) ++ ⟨#[32, 45]⟩) ++ g.f1[i].f1) ++ ⟨#[45, 62, 32, 110]⟩) ++ numT g.f1[i].f3) o = some (((eh g.f1[i]).size : Int), true, o ++ eh g.f1[i]) := fun k => bws k (t := eh g.f1[i]) (by omega)
    simp only [hw, Option.bind_some, wup hi (show g.f1.length ≤ 2000000 by omega)]
    exact ibeh_ hk.fld hk.f20 (o := o ++ eh g.f1[i]) (by rw [ByteArray.size_append]; omega) (R := fun k p => impl_showGraph.l2 k g ((i + 1 : Nat) : Int) p) hnext
end
/-! Changes -/
theorem form2 (c : S145) : B2 (fun k => spec_l02Form.f k c) (fun k => impl_Change_ok.f k c) := by
  simp only [spec_l02Form.f, impl_Change_ok.f]
  refine B2.cond (fun _ => (node2 c.f1).pass) fun _ => ?_
  refine B2.cond (fun _ => (idOk2 c.f1.f0).pass) fun _ => ?_
  refine B2.cond (fun _ => (edge2 c.f2).pass) fun _ => ?_
  refine B2.cond (fun _ => (idOk2 c.f2.f0).pass) fun _ => ?_
  refine B2.cond (fun _ => (idOk2 c.f1.f0).bind fun a => B2.cond (fun _ => (lab2 c.f1.f1).pass) fun _ => B2.ret _) fun _ => ?_
  refine B2.cond (fun _ => ?_) fun _ => B2.ret _
  have tail := (nm2 c.f4).bind fun a => B2.cond (c := a) (fun _ => B2.cond (c := decide (c.f5 = (⟨#[110, 117, 108, 108]⟩ : ByteArray))) (fun _ => B2.ret true) fun _ => (value2 c.f5).pass) fun _ => B2.ret false
  rcases read_ c.f3 with ⟨sv, hw, h1, h2⟩ | ⟨iv, h1, h2⟩
  · have t0 : (toI sv).f0 = sv.f0 := by rw [toI_eq]
    obtain ⟨r, t1, t2⟩ := B2.cond (c := sv.f0 == 8) (fun _ => tail) fun _ => B2.cond (c := sv.f0 == 9) (fun _ => tail) fun _ => B2.ret false
    refine ⟨r, Ev.bind h1 t1, Ev.bind h2 ?_⟩
    simp only [t0, cond_true]
    exact t2
  · refine ⟨false, Ev.bind h1 ?_, Ev.bind h2 ?_⟩
    · simp only [show ((-1 : Int) == 8) = false from rfl, show ((-1 : Int) == 9) = false from rfl, cond_false]; exact Ev.ret _
    · simp only [cond_false]; exact Ev.ret _
def lnB (l : List S193) : ByteArray := if l.length = 0 then ⟨#[]⟩ else ⟨#[32]⟩ ++ mapT l
theorem beh_ln (l : List S193) : beh l = lnB l ++ ⟨#[10]⟩ := by
  unfold beh lnB
  split
  · rw [nilc]
  · rfl
theorem trim_ (k : Nat) {x : ByteArray} (h : x.size ≤ 1000000000000) : strings_TrimSuffix.f k (x ++ ⟨#[10]⟩) ⟨#[10]⟩ = some x := by
  have h1 : (⟨#[10]⟩ : ByteArray).size = 1 := rfl
  have hs : (x ++ ⟨#[10]⟩ : ByteArray).size = x.size + 1 := by rw [ByteArray.size_append, h1]
  have w : IntKind.i64.wrap (((x.size + 1 : Nat) : Int) - 1) = (x.size : Int) := by
    rw [show ((x.size + 1 : Nat) : Int) - 1 = (x.size : Int) by omega]
    exact wI (by omega) (by omega)
  have e1 : sub (x ++ ⟨#[10]⟩) (x.size : Int) ((x.size + 1 : Nat) : Int) = some ⟨#[10]⟩ := by
    unfold sub; rw [if_pos (by omega)]
    congr 1
    exact ByteArray.extract_append_eq_right (by omega) (by rw [h1]; omega)
  have e2 : sub (x ++ ⟨#[10]⟩) 0 (x.size : Int) = some x := by
    unfold sub; rw [if_pos (by omega)]
    congr 1
    apply ByteArray.ext
    simp
  simp only [strings_TrimSuffix.f, internal_stringslite_TrimSuffix.f, internal_stringslite_HasSuffix.f, hs, h1]
  simp only [Int.natCast_one, show decide ((1 : Int) ≤ ((x.size + 1 : Nat) : Int)) = true from decide_eq_true (by omega), cond_true, w, e1, e2, Option.bind_some, decide_true]
theorem snode_ {n : S94} (h : NOk n) : Ev (fun k => spec_l14Node.f k n) (nodeT n) := by
  have hb := beh_size h.fld h.f20
  have hlb := labs10 h
  have b1 := num_size h.id
  have a1 : (⟨#[110]⟩ : ByteArray).size = 1 := rfl
  have a2 : (⟨#[32, 58]⟩ : ByteArray).size = 2 := rfl
  have L : ∀ (m i : Nat) (o : ByteArray), n.f1.length - i ≤ m → o.size ≤ 100 + i * 1048578 → i ≤ n.f1.length → Ev (fun k => spec_l14Node.l0 k o (i : Int) n) ((o ++ labs (n.f1.drop i)) ++ beh n.f2) := by
    intro m
    have l10 := h.l10
    have fin : ∀ (i : Nat) (o : ByteArray), ¬ i < n.f1.length → o.size ≤ 100 + i * 1048578 → i ≤ n.f1.length → Ev (fun k => spec_l14Node.l0 k o (i : Int) n) ((o ++ labs (n.f1.drop i)) ++ beh n.f2) := fun i o hi ho hle => by
      rw [List.drop_of_length_le (by omega)]
      simp only [labs, cnil]
      refine Ev.step ?_
      simp only [spec_l14Node.l0, ltn hi, cond_false]
      refine Ev.bind (sbeh_ h.fld h.f20) ?_
      rw [catb (by omega)]
      exact Ev.ret _
    induction m with
    | zero => intro i o hm ho hle; exact fin i o (by omega) ho hle
    | succ m ih =>
      intro i o hm ho hle
      by_cases hi : i < n.f1.length
      case neg => exact fin i o hi ho hle
      have hla := h.lab _ (List.getElem_mem hi)
      rw [List.drop_eq_getElem_cons hi]
      refine Ev.step ?_
      simp only [spec_l14Node.l0, ltd hi, cond_true]
      rw [catb (by omega)]
      simp only [ixg hi, Option.bind_some]
      rw [catb (by rw [ByteArray.size_append]; omega)]
      simp only [Option.bind_some, wup hi (show n.f1.length ≤ 2000000 by omega)]
      have g := ih (i + 1) ((o ++ ⟨#[32, 58]⟩) ++ n.f1[i]) (by omega) (by rw [ByteArray.size_append, ByteArray.size_append]; omega) (by omega)
      simp only [labs, ByteArray.append_assoc] at g ⊢
      exact g
  refine Ev.step ?_
  simp only [spec_l14Node.f]
  refine Ev.bind (snum h.id) ?_
  rw [catb (by omega)]
  simp only [Option.bind_some]
  have := L _ 0 (⟨#[110]⟩ ++ numT n.f0) (Nat.le_refl _) (by rw [ByteArray.size_append]; omega) (Nat.zero_le _)
  rw [List.drop_zero] at this
  exact this
theorem iline_ {n : S94} (h : NOk n) : Ev (fun k => impl_lineOfNode.f k n) (((⟨#[110]⟩ ++ numT n.f0) ++ labs n.f1) ++ lnB n.f2) := by
  have hb := beh_size h.fld h.f20
  have hlb := labs10 h
  have b1 := num_size h.id
  have a1 : (⟨#[110]⟩ : ByteArray).size = 1 := rfl
  have a2 : (⟨#[10]⟩ : ByteArray).size = 1 := rfl
  rw [beh_ln, ByteArray.size_append, a2] at hb
  simp only [impl_lineOfNode.f]
  have hN : ∀ x ∈ ([n] : List S94), NOk x := fun x hx => by rw [List.mem_singleton.1 hx]; exact h
  have hie := iedges_ (g := ⟨[n], []⟩) (fun _ h => nomatch h) (Nat.zero_le _) _ 0 (nodesT [n]) (Nat.le_refl _) (Nat.zero_le _) (by
    simp only [nodesT, nodeT, beh_ln, cnil, ByteArray.size_append, a1, a2]; omega)
  have hin := inodes_ (g := ⟨[n], []⟩) hN (by simp) _ 0 ⟨#[]⟩ (Nat.le_refl _) (Nat.zero_le _) (Nat.zero_le _) _ (by rw [List.drop_zero, nilc]; exact hie)
  refine Ev.bind (Ev.step (by simp only [impl_showGraph.f]; exact hin)) ?_
  simp only [List.drop_nil, edgesT, nodesT, cnil, nodeT, beh_ln]
  rw [← ByteArray.append_assoc]
  simp only [trim_ _ (show (((⟨#[110]⟩ ++ numT n.f0) ++ labs n.f1) ++ lnB n.f2 : ByteArray).size ≤ 1000000000000 by simp only [ByteArray.size_append, a1]; omega), Option.bind_some]
  exact Ev.ret _
theorem sedge_ {e : S110} (h : EOk e) : Ev (fun k => spec_l14Edge.f k e) (eh e ++ beh e.f4) := by
  have a1 : (⟨#[101]⟩ : ByteArray).size = 1 := rfl
  have a2 : (⟨#[32, 110]⟩ : ByteArray).size = 2 := rfl
  have a3 : (⟨#[32, 45]⟩ : ByteArray).size = 2 := rfl
  have a4 : (⟨#[45, 62, 32, 110]⟩ : ByteArray).size = 4 := rfl
  have b1 := num_size h.id
  have b2 := num_size h.fr
  have b3 := num_size h.tgt
  have b4 := h.ty
  have hb := beh_size h.fld h.f20
  simp only [spec_l14Edge.f]
  refine Ev.bind (snum h.id) ?_
  rw [catb (by omega)]
  simp only [Option.bind_some]
  rw [catb (by simp only [ByteArray.size_append]; omega)]
  simp only [Option.bind_some]
  refine Ev.bind (snum h.fr) ?_
  rw [catb (by simp only [ByteArray.size_append]; omega)]
  simp only [Option.bind_some]
  rw [catb (by simp only [ByteArray.size_append]; omega)]
  simp only [Option.bind_some]
  rw [catb (by simp only [ByteArray.size_append]; omega)]
  simp only [Option.bind_some]
  rw [catb (by simp only [ByteArray.size_append]; omega)]
  simp only [Option.bind_some]
  refine Ev.bind (snum h.tgt) ?_
  rw [catb (by simp only [ByteArray.size_append]; omega)]
  simp only [Option.bind_some]
  refine Ev.bind (sbeh_ h.fld h.f20) ?_
  rw [catb (by simp only [ByteArray.size_append]; omega)]
  exact Ev.ret _
theorem ieline_ {e : S110} (h : EOk e) : Ev (fun k => impl_lineOfEdge.f k e) (eh e ++ lnB e.f4) := by
  have hb := beh_size h.fld h.f20
  have he := eh_size h
  have a2 : (⟨#[10]⟩ : ByteArray).size = 1 := rfl
  rw [beh_ln, ByteArray.size_append, a2] at hb
  simp only [impl_lineOfEdge.f]
  have hE : ∀ x ∈ ([e] : List S110), EOk x := fun x hx => by rw [List.mem_singleton.1 hx]; exact h
  have hie := iedges_ (g := ⟨[], [e]⟩) hE (by simp) _ 0 ⟨#[]⟩ (Nat.le_refl _) (Nat.zero_le _) (Nat.zero_le _)
  have hin := inodes_ (g := ⟨[], [e]⟩) (fun _ h => nomatch h) (Nat.zero_le _) _ 0 ⟨#[]⟩ (Nat.le_refl _) (Nat.zero_le _) (Nat.zero_le _) _ (by rw [List.drop_zero]; simp only [nodesT, nilc]; exact hie)
  refine Ev.bind (Ev.step (by simp only [impl_showGraph.f]; exact hin)) ?_
  simp only [List.drop_zero, edgesT, cnil, nilc, beh_ln]
  rw [← ByteArray.append_assoc]
  simp only [trim_ _ (show (eh e ++ lnB e.f4 : ByteArray).size ≤ 1000000000000 by simp only [ByteArray.size_append]; omega), Option.bind_some]
  exact Ev.ret _
structure CB (c : S145) : Prop where
 n0 : In64 c.f1.f0
 n1 : ∀ a ∈ c.f1.f1, a.size ≤ 1048576
 n2 : ∀ f ∈ c.f1.f2, FB1 f
 e0 : In64 c.f2.f0
 e1 : c.f2.f1.size ≤ 1048576
 e2 : In64 c.f2.f2
 e3 : In64 c.f2.f3
 e4 : ∀ f ∈ c.f2.f4, FB1 f
 s3 : c.f3.size ≤ 1048576
 s4 : c.f4.size ≤ 1048576
 s5 : c.f5.size ≤ 1048576
theorem pass_ {α : Type} {f : Nat → Option α} {v r : α} (h : Ev f v) (h2 : Ev (fun k => (f k).bind fun v => some v) r) : v = r := (Ev.bind h (Ev.ret _)).uniq h2
theorem chg_ {c : S145} (hb : CB c) (hf : Ev (fun k => impl_Change_ok.f k c) true) : ∃ s : ByteArray, s.size ≤ 59000000 ∧ Ev (fun k => spec_l14Change.f k c) (s ++ ⟨#[10]⟩) ∧ Ev (fun k => impl_Change_show.f k c) s := by
  have a1 : ∀ x : UInt8, (⟨#[x]⟩ : ByteArray).size = 1 := fun _ => rfl
  have a2 : ∀ x y : UInt8, (⟨#[x, y]⟩ : ByteArray).size = 2 := fun _ _ => rfl
  have g3 := hb.s3
  have g4 := hb.s4
  have g5 := hb.s5
  simp only [impl_Change_ok.f] at hf
  simp only [spec_l14Change.f, impl_Change_show.f]
  by_cases k1 : c.f0 = 1
  · simp only [k1, beq_self_eq_true, cond_true] at hf ⊢
    obtain ⟨b, _, q⟩ := node2 c.f1
    have := pass_ q hf
    subst this
    have w := node_nm q
    have ok : NOk c.f1 := ⟨hb.n0, hb.n1, w.2.1, hb.n2, w.2.2.2⟩
    have z1 := labs10 ok
    have z2 := beh_size ok.fld ok.f20
    have z3 := num_size ok.id
    rw [beh_ln, ByteArray.size_append, a1] at z2
    refine ⟨⟨#[43]⟩ ++ (((⟨#[110]⟩ ++ numT c.f1.f0) ++ labs c.f1.f1) ++ lnB c.f1.f2), by simp only [ByteArray.size_append, a1]; omega, ?_, ?_⟩
    · refine Ev.bind (snode_ ok) ?_
      rw [catb (by simp only [nodeT, beh_ln, ByteArray.size_append, a1]; omega)]
      simp only [Option.bind_some, nodeT, beh_ln, ByteArray.append_assoc]
      exact Ev.ret _
    · refine Ev.bind (iline_ ok) ?_
      rw [catb (by simp only [ByteArray.size_append, a1]; omega)]
      exact Ev.ret _
  rw [show (c.f0 == 1) = false by simpa using k1] at hf ⊢
  simp only [cond_false] at hf ⊢
  by_cases k3 : c.f0 = 3
  · simp only [k3, beq_self_eq_true, cond_true, show ((3 : Int) == 2) = false from rfl, cond_false] at hf ⊢
    obtain ⟨b, _, q⟩ := edge2 c.f2
    have := pass_ q hf
    subst this
    have ok : EOk c.f2 := ⟨hb.e0, hb.e2, hb.e3, hb.e1, hb.e4, edge_f20 q⟩
    have z1 := eh_size ok
    have z2 := beh_size ok.fld ok.f20
    rw [beh_ln, ByteArray.size_append, a1] at z2
    refine ⟨⟨#[43]⟩ ++ (eh c.f2 ++ lnB c.f2.f4), by simp only [ByteArray.size_append, a1]; omega, ?_, ?_⟩
    · refine Ev.bind (sedge_ ok) ?_
      rw [catb (by simp only [beh_ln, ByteArray.size_append, a1]; omega)]
      simp only [Option.bind_some, beh_ln, ByteArray.append_assoc]
      exact Ev.ret _
    · refine Ev.bind (ieline_ ok) ?_
      rw [catb (by simp only [ByteArray.size_append, a1]; omega)]
      exact Ev.ret _
  rw [show (c.f0 == 3) = false by simpa using k3] at hf ⊢
  simp only [cond_false] at hf ⊢
  by_cases k2 : c.f0 = 2
  · simp only [k2, beq_self_eq_true, cond_true]
    have z := num_size hb.n0
    refine ⟨⟨#[45, 110]⟩ ++ numT c.f1.f0, by simp only [ByteArray.size_append, a2]; omega, ?_, ?_⟩
    · refine Ev.bind (snum hb.n0) ?_
      rw [catb (by simp only [a2]; omega)]
      simp only [Option.bind_some]
      rw [catb (by simp only [ByteArray.size_append, a1, a2]; omega)]
      exact Ev.ret _
    · refine Ev.bind (inum hb.n0) ?_
      rw [catb (by simp only [a2]; omega)]
      exact Ev.ret _
  rw [show (c.f0 == 2) = false by simpa using k2] at hf ⊢
  simp only [cond_false] at hf ⊢
  by_cases k4 : c.f0 = 4
  · simp only [k4, beq_self_eq_true, cond_true]
    have z := num_size hb.e0
    refine ⟨⟨#[45, 101]⟩ ++ numT c.f2.f0, by simp only [ByteArray.size_append, a2]; omega, ?_, ?_⟩
    · refine Ev.bind (snum hb.e0) ?_
      rw [catb (by simp only [a2]; omega)]
      simp only [Option.bind_some]
      rw [catb (by simp only [ByteArray.size_append, a1, a2]; omega)]
      exact Ev.ret _
    · refine Ev.bind (inum hb.e0) ?_
      rw [catb (by simp only [a2]; omega)]
      exact Ev.ret _
  rw [show (c.f0 == 4) = false by simpa using k4] at hf ⊢
  simp only [cond_false] at hf ⊢
  by_cases k5 : c.f0 = 5
  · simp only [k5, beq_self_eq_true, cond_true] at hf ⊢
    obtain ⟨b, _, q⟩ := idOk2 c.f1.f0
    have hl := ilab c.f1.f1 (m := 10) (by omega)
    have hlt : labB 10 c.f1.f1 = true := by
      cases b with
      | false => cases (Ev.bind (g := fun k v5 => bif v5 then ((impl_risingNames.f k c.f1.f1 10).bind fun v6 => some v6) else some false) q (Ev.ret false)).uniq hf
      | true => exact (Ev.bind (g := fun k v5 => bif v5 then ((impl_risingNames.f k c.f1.f1 10).bind fun v6 => some v6) else some false) q (Ev.bind hl (Ev.ret _))).uniq hf
    simp only [labB, Bool.and_eq_true, decide_eq_true_eq] at hlt
    have ok : NOk ⟨c.f1.f0, c.f1.f1, []⟩ := ⟨hb.n0, hb.n1, hlt.1, (fun _ h => nomatch h), Nat.zero_le _⟩
    have z1 : (labs c.f1.f1).size ≤ 10485780 := labs10 (n := ⟨c.f1.f0, c.f1.f1, []⟩) ok
    have z3 : (numT c.f1.f0).size ≤ 21 := num_size ok.id
    have z2 : (lnB []).size = 0 := rfl
    refine ⟨⟨#[61]⟩ ++ (((⟨#[110]⟩ ++ numT c.f1.f0) ++ labs c.f1.f1) ++ lnB []), by simp only [ByteArray.size_append, a1]; omega, ?_, ?_⟩
    · refine Ev.bind (snode_ ok) ?_
      rw [catb (by simp only [nodeT, beh_ln, ByteArray.size_append, a1]; omega)]
      simp only [Option.bind_some, nodeT, beh_ln, ByteArray.append_assoc]
      exact Ev.ret _
    · refine Ev.bind (iline_ ok) ?_
      rw [catb (by simp only [ByteArray.size_append, a1]; omega)]
      exact Ev.ret _
  rw [show (c.f0 == 5) = false by simpa using k5]
  simp only [cond_false]
  refine ⟨((((⟨#[46]⟩ ++ c.f3) ++ ⟨#[32]⟩) ++ c.f4) ++ ⟨#[32]⟩) ++ c.f5, by simp only [ByteArray.size_append, a1]; omega, ?_, ?_⟩
  all_goals
    rw [catb (by simp only [a1]; omega)]
    simp only [Option.bind_some]
    rw [catb (by simp only [ByteArray.size_append, a1]; omega)]
    simp only [Option.bind_some]
    rw [catb (by simp only [ByteArray.size_append, a1]; omega)]
    simp only [Option.bind_some]
    rw [catb (by simp only [ByteArray.size_append, a1]; omega)]
    simp only [Option.bind_some]
    rw [catb (by simp only [ByteArray.size_append, a1]; omega)]
    simp only [Option.bind_some]
    first
      | exact Ev.ret _
      | (rw [catb (by simp only [ByteArray.size_append, a1]; omega)]; exact Ev.ret _)
section
variable {l : List S145}
theorem big_ (hc : ∀ c ∈ l, CB c) (hl : l.length ≤ 1000) : ∀ (n i : Nat) (o : ByteArray), l.length - i ≤ n → i ≤ l.length → o.size ≤ 60000000 * i → 65536 < o.size → ∃ r b, Ev (fun k => impl_changesText.l0 k l (i : Int) o) (r, b) ∧ (b = true → 65536 < r.size) := by
  intro n
  have fin : ∀ (i : Nat) (o : ByteArray), ¬ i < l.length → 65536 < o.size → ∃ r b, Ev (fun k => impl_changesText.l0 k l (i : Int) o) (r, b) ∧ (b = true → 65536 < r.size) := fun i o hi ho => ⟨o, true, Ev.step (by
    simp only [impl_changesText.l0, ltn hi, cond_false, strings_Builder_String.f, Option.bind_some]; exact Ev.ret _), fun _ => ho⟩
  induction n with
  | zero => intro i o hn hle hs ho; exact fin i o (by omega) ho
  | succ n ih =>
    intro i o hn hle hs ho
    by_cases hi : i < l.length
    case neg => exact fin i o hi ho
    obtain ⟨b, _, q⟩ := form2 l[i]
    cases b with
    | false => exact ⟨_, false, Ev.step (by
        simp only [impl_changesText.l0, ltd hi, cond_true, ixg hi, Option.bind_some]
        refine Ev.bind q ?_
        simp only [cond_false]; exact Ev.ret _), fun h => nomatch h⟩
    | true =>
      obtain ⟨s, z, _, t⟩ := chg_ (hc _ (List.getElem_mem hi)) q
      have a1 : (⟨#[10]⟩ : ByteArray).size = 1 := rfl
      have z2 : (s ++ ⟨#[10]⟩ : ByteArray).size = s.size + 1 := by rw [ByteArray.size_append, a1]
      obtain ⟨r, b, h1, h2⟩ := ih (i + 1) (o ++ (s ++ ⟨#[10]⟩)) (by omega) (by omega) (by rw [ByteArray.size_append]; omega) (by rw [ByteArray.size_append]; omega)
      refine ⟨r, b, Ev.step ?_, h2⟩
      simp only [impl_changesText.l0, ltd hi, cond_true, ixg hi, Option.bind_some]
      refine Ev.bind q ?_
      simp only [cond_true]
      refine Ev.bind t ?_
      rw [catb (by omega)]
      simp only [Option.bind_some]
      simp only [bws _ (show o.size + (s ++ ⟨#[10]⟩ : ByteArray).size ≤ 100000000000000 by omega), Option.bind_some, wup hi (show l.length ≤ 2000000 by omega)]
      exact h1
def fi (r : ByteArray) (b : Bool) : ByteArray := if b = true then (if 65536 < r.size then ⟨#[]⟩ else r) else ⟨#[]⟩
theorem both_ (hc : ∀ c ∈ l, CB c) (hl : l.length ≤ 1000) : ∀ (n i : Nat) (o : ByteArray), l.length - i ≤ n → i ≤ l.length → o.size ≤ 60000000 * i → o.size ≤ 65536 → ∃ r b r' b', Ev (fun k => spec_l14Show.l0 k l o (i : Int)) (r, b) ∧ Ev (fun k => impl_changesText.l0 k l (i : Int) o) (r', b') ∧ r = fi r' b' := by
  intro n
  have fin : ∀ (i : Nat) (o : ByteArray), ¬ i < l.length → o.size ≤ 65536 → ∃ r b r' b', Ev (fun k => spec_l14Show.l0 k l o (i : Int)) (r, b) ∧ Ev (fun k => impl_changesText.l0 k l (i : Int) o) (r', b') ∧ r = fi r' b' := fun i o hi ho => ⟨o, true, o, true, Ev.step (by
    simp only [spec_l14Show.l0, ltn hi, cond_false]; exact Ev.ret _), Ev.step (by
    simp only [impl_changesText.l0, ltn hi, cond_false, strings_Builder_String.f, Option.bind_some]; exact Ev.ret _), by unfold fi; rw [if_pos rfl, if_neg (by omega)]⟩
  induction n with
  | zero => intro i o hn hle hs ho; exact fin i o (by omega) ho
  | succ n ih =>
    intro i o hn hle hs ho
    by_cases hi : i < l.length
    case neg => exact fin i o hi ho
    obtain ⟨b, q0, q⟩ := form2 l[i]
    cases b with
    | false => exact ⟨_, false, _, false, Ev.step (by
        simp only [spec_l14Show.l0, ltd hi, cond_true, ixg hi, Option.bind_some]
        refine Ev.bind q0 ?_
        simp only [cond_false]; exact Ev.ret _), Ev.step (by
        simp only [impl_changesText.l0, ltd hi, cond_true, ixg hi, Option.bind_some]
        refine Ev.bind q ?_
        simp only [cond_false]; exact Ev.ret _), rfl⟩
    | true =>
      obtain ⟨s, z, t0, t⟩ := chg_ (hc _ (List.getElem_mem hi)) q
      have a1 : (⟨#[10]⟩ : ByteArray).size = 1 := rfl
      have z2 : (s ++ ⟨#[10]⟩ : ByteArray).size = s.size + 1 := by rw [ByteArray.size_append, a1]
      have z3 : (o ++ (s ++ ⟨#[10]⟩) : ByteArray).size = o.size + (s ++ ⟨#[10]⟩ : ByteArray).size := ByteArray.size_append ..
      have I : ∀ r b, Ev (fun k => impl_changesText.l0 k l ((i + 1 : Nat) : Int) (o ++ (s ++ ⟨#[10]⟩))) (r, b) → Ev (fun k => impl_changesText.l0 k l (i : Int) o) (r, b) := fun r b h1 => by
        refine Ev.step ?_
        simp only [impl_changesText.l0, ltd hi, cond_true, ixg hi, Option.bind_some]
        refine Ev.bind q ?_
        simp only [cond_true]
        refine Ev.bind t ?_
        rw [catb (by omega)]
        simp only [Option.bind_some]
        simp only [bws _ (show o.size + (s ++ ⟨#[10]⟩ : ByteArray).size ≤ 100000000000000 by omega), Option.bind_some, wup hi (show l.length ≤ 2000000 by omega)]
        exact h1
      by_cases hz : 65536 < (o ++ (s ++ ⟨#[10]⟩) : ByteArray).size
      · obtain ⟨r, b, h1, h2⟩ := big_ hc hl _ (i + 1) _ (Nat.le_refl _) (by omega) (by omega) hz
        refine ⟨⟨#[]⟩, false, r, b, Ev.step ?_, I _ _ h1, ?_⟩
        · simp only [spec_l14Show.l0, ltd hi, cond_true, ixg hi, Option.bind_some]
          refine Ev.bind q0 ?_
          simp only [cond_true]
          refine Ev.bind t0 ?_
          rw [catb (by omega)]
          simp only [Option.bind_some, show decide ((65536 : Int) < ((o ++ (s ++ ⟨#[10]⟩) : ByteArray).size : Int)) = true from decide_eq_true (by omega), cond_true]
          exact Ev.ret _
        · unfold fi
          split
          · rename_i hbt; rw [if_pos (h2 hbt)]
          · rfl
      · obtain ⟨r, b, r', b', h1, h2, h3⟩ := ih (i + 1) (o ++ (s ++ ⟨#[10]⟩)) (by omega) (by omega) (by omega) (by omega)
        refine ⟨r, b, r', b', Ev.step ?_, I _ _ h2, h3⟩
        simp only [spec_l14Show.l0, ltd hi, cond_true, ixg hi, Option.bind_some]
        refine Ev.bind q0 ?_
        simp only [cond_true]
        refine Ev.bind t0 ?_
        rw [catb (by omega)]
        simp only [Option.bind_some, show decide ((65536 : Int) < ((o ++ (s ++ ⟨#[10]⟩) : ByteArray).size : Int)) = false from decide_eq_false (by omega), cond_false, wup hi (show l.length ≤ 2000000 by omega)]
        exact h1
end
theorem show2 (l : List S145) (hc : ∀ c ∈ l, CB c) : ∃ r, Ev (fun k => spec_ShowChanges.f k l) r ∧ Ev (fun k => impl_ShowChanges.f k l) r := by
  simp only [spec_ShowChanges.f, impl_ShowChanges.f]
  rcases Nat.lt_or_ge 1000 l.length with h | h
  · refine ⟨⟨#[]⟩, ?_, ?_⟩
    all_goals
      simp only [show decide ((1000 : Int) < (l.length : Int)) = true from decide_eq_true (by omega), cond_true]
      exact Ev.ret _
  · simp only [show decide ((1000 : Int) < (l.length : Int)) = false from decide_eq_false (by omega), cond_false]
    obtain ⟨r, b, r', b', h1, h2, h3⟩ := both_ hc h _ 0 ⟨#[]⟩ (Nat.le_refl _) (Nat.zero_le _) (Nat.zero_le _) (Nat.zero_le _)
    refine ⟨r, Ev.bind (Ev.step (by simp only [spec_l14Show.f]; exact h1)) (Ev.ret _), Ev.bind (Ev.step (by simp only [impl_changesText.f]; exact h2)) ?_⟩
    subst h3
    unfold fi
    cases b' with
    | false => simp only [cond_false]; exact Ev.ret _
    | true =>
      simp only [cond_true, if_true]
      by_cases hz : 65536 < r'.size
      · rw [if_pos hz]; simp only [show decide ((65536 : Int) < (r'.size : Int)) = true from decide_eq_true (by omega), cond_true]; exact Ev.ret _
      · rw [if_neg hz]; simp only [show decide ((65536 : Int) < (r'.size : Int)) = false from decide_eq_false (by omega), cond_false]; exact Ev.ret _
theorem fld_tr {l : List S193} (h : bdFieldS l) : ∀ f ∈ l, FB1 f := fun f hf => ⟨(h.2 f hf).1, (h.2 f hf).2.1⟩
theorem lftS : Lft 1048576 := by unfold Lft; omega
theorem said_FnExactShowChanges (x : List S141) (h : Lst wf141 x) : ∃ k, laws_FnExactShowChanges.f k x = some true := by
  refine Ev.at_ (f := fun k => laws_FnExactShowChanges.f k x) ?_
  unfold laws_FnExactShowChanges.f
  obtain ⟨r, h1, h2, h3⟩ := sz_ChangeS x h lftS
  refine Ev.bind h1 ?_
  by_cases hr : r < 0
  · simp only [decide_eq_true hr, cond_true]; exact Ev.ret _
  · have hb := h3 (by omega)
    obtain ⟨q, s1, s2⟩ := show2 (x.map trChange) (fun c hc => by
      obtain ⟨u, hu, rfl⟩ := List.mem_map.1 hc
      have w := h.2 u hu
      have b := hb.2 u hu
      refine ⟨w.2.1.1, b.1.1.2, fun f hf => ?_, w.2.2.1.1, b.2.1.1, w.2.2.1.2.2.1, w.2.2.1.2.2.2.1, fun f hf => ?_, b.2.2.1, b.2.2.2.1, b.2.2.2.2.1⟩
      · simp only [trChange, trNode] at hf
        first
          | exact fld_tr b.1.2.1 f hf
          | (obtain ⟨v, hv, rfl⟩ := List.mem_map.1 hf; exact fld_tr b.1.2.1 v hv)
      · simp only [trChange, trEdge] at hf
        first
          | exact fld_tr b.2.1.2.1 f hf
          | (obtain ⟨v, hv, rfl⟩ := List.mem_map.1 hf; exact fld_tr b.2.1.2.1 v hv))
    simp only [decide_eq_false hr, cond_false]
    refine Ev.bind (to_ChangeS x hb) (Ev.bind s1 (Ev.bind (to_ChangeS x hb) (Ev.bind s2 ?_)))
    simp only [decide_true, cond_true]
    refine Ev.bind (to_ChangeS x hb) (Ev.bind (eq_ChangeS x hb) ?_)
    simp only [cond_true]; exact Ev.ret _
end Go.Ab
