/- Sizes, copies and comparisons of the arguments of FnExactRankOf. No condition. -/
import Derived.Test.YtaddedbombndlaaGreatDoorAbH0
import Derived.Test.YtaddedbombndlaaGreatDoorAbG1
namespace Go.Ab
open Go.Proofs
set_option linter.unusedVariables false
set_option linter.unusedSimpArgs false
def wf92 (x : S92) : Prop := Str x.f0 ∧ Str x.f1
def wf67 (x : S67) : Prop := (InK .i64) x.f0 ∧ (Lst Str) x.f1 ∧ (Lst wf92) x.f2
def wf70 (x : S70) : Prop := (InK .i64) x.f0 ∧ Str x.f1 ∧ (InK .i64) x.f2 ∧ (InK .i64) x.f3 ∧ (Lst wf92) x.f4
def wf24 (x : S24) : Prop := (Lst wf67) x.f0 ∧ (Lst wf70) x.f1
def bdStringS (v : (List ByteArray)) : Prop := v.length ≤ 1048576 ∧ ∀ x ∈ v, x.size ≤ 1048576
theorem sz_StringS (v : (List ByteArray)) (h : Lst Str v) {a : Int} (ha : Lft a) : Sz (fun k => laws_szStringS.f k v a) a (bdStringS v) := Sz.slice (l := laws_szStringS.l0) h.1 (fun _ _ _ => by simp only [laws_szStringS.f]) (fun hl => Sz.strs (fun _ _ _ _ => by simp only [laws_szStringS.l0]) v h.2 hl) ha
def bdField (x : S92) : Prop := x.f0.size ≤ 1048576 ∧ x.f1.size ≤ 1048576 ∧ True
theorem sz_Field (x : S92) (h : wf92 x) {a : Int} (ha : Lft a) : Sz (fun k => laws_szField.f k x a) a (bdField x) := by
  simp only [laws_szField.f]; unfold bdField
  exact Sz.len ha (fun _ h1 => Sz.len h1 (fun _ h2 => Sz.ret) h.2) h.1
def bdFieldS (v : (List S92)) : Prop := v.length ≤ 1048576 ∧ ∀ x ∈ v, bdField x
theorem sz_FieldS (v : (List S92)) (h : Lst wf92 v) {a : Int} (ha : Lft a) : Sz (fun k => laws_szFieldS.f k v a) a (bdFieldS v) := Sz.slice (l := laws_szFieldS.l0) h.1 (fun _ _ _ => by simp only [laws_szFieldS.f]) (fun hl => Sz.loop (fun _ _ _ _ => by simp only [laws_szFieldS.l0]) (fun x a hx ha => sz_Field x hx ha) v h.2 hl) ha
def bdNode (x : S67) : Prop := bdStringS x.f1 ∧ bdFieldS x.f2 ∧ True
theorem sz_Node (x : S67) (h : wf67 x) {a : Int} (ha : Lft a) : Sz (fun k => laws_szNode.f k x a) a (bdNode x) := by
  simp only [laws_szNode.f]; unfold bdNode
  exact Sz.call ha (sz_StringS _ h.2.1 ha) fun v1 h1 => Sz.call h1 (sz_FieldS _ h.2.2 h1) fun v2 h2 => Sz.ret
def bdNodeS (v : (List S67)) : Prop := v.length ≤ 1048576 ∧ ∀ x ∈ v, bdNode x
theorem sz_NodeS (v : (List S67)) (h : Lst wf67 v) {a : Int} (ha : Lft a) : Sz (fun k => laws_szNodeS.f k v a) a (bdNodeS v) := Sz.slice (l := laws_szNodeS.l0) h.1 (fun _ _ _ => by simp only [laws_szNodeS.f]) (fun hl => Sz.loop (fun _ _ _ _ => by simp only [laws_szNodeS.l0]) (fun x a hx ha => sz_Node x hx ha) v h.2 hl) ha
def bdEdge (x : S70) : Prop := x.f1.size ≤ 1048576 ∧ bdFieldS x.f4 ∧ True
theorem sz_Edge (x : S70) (h : wf70 x) {a : Int} (ha : Lft a) : Sz (fun k => laws_szEdge.f k x a) a (bdEdge x) := by
  simp only [laws_szEdge.f]; unfold bdEdge
  exact Sz.len ha (fun _ h1 => Sz.call h1 (sz_FieldS _ h.2.2.2.2 h1) fun v2 h2 => Sz.ret) h.2.1
def bdEdgeS (v : (List S70)) : Prop := v.length ≤ 1048576 ∧ ∀ x ∈ v, bdEdge x
theorem sz_EdgeS (v : (List S70)) (h : Lst wf70 v) {a : Int} (ha : Lft a) : Sz (fun k => laws_szEdgeS.f k v a) a (bdEdgeS v) := Sz.slice (l := laws_szEdgeS.l0) h.1 (fun _ _ _ => by simp only [laws_szEdgeS.f]) (fun hl => Sz.loop (fun _ _ _ _ => by simp only [laws_szEdgeS.l0]) (fun x a hx ha => sz_Edge x hx ha) v h.2 hl) ha
def bdGraph (x : S24) : Prop := bdNodeS x.f0 ∧ bdEdgeS x.f1 ∧ True
theorem sz_Graph (x : S24) (h : wf24 x) {a : Int} (ha : Lft a) : Sz (fun k => laws_szGraph.f k x a) a (bdGraph x) := by
  simp only [laws_szGraph.f]; unfold bdGraph
  exact Sz.call ha (sz_NodeS _ h.1 ha) fun v1 h1 => Sz.call h1 (sz_EdgeS _ h.2 h1) fun v2 h2 => Sz.ret
theorem to_StringS (v : (List ByteArray)) (h : bdStringS v) : Ev (fun k => laws_toStringS.f k v) v := by
  have := to_f (f := laws_toStringS.f) (l := laws_toStringS.l0) (tr := id) h.1 (fun _ _ => by simp only [laws_toStringS.f]; rfl) (to_strs (fun _ _ _ _ _ => by simp only [laws_toStringS.l0]) v h.1)
  rwa [List.map_id] at this
theorem eq_StringS (v : (List ByteArray)) (h : bdStringS v) : Ev (fun k => laws_eqStringS.f k v v) true := eq_f (l := laws_eqStringS.l0) (fun _ _ _ => by simp only [laws_eqStringS.f]) (eq_strs (fun _ _ _ _ => by simp only [laws_eqStringS.l0]) _ h.1)
def trField (x : S92) : S92 := x
theorem to_Field (x : S92) (h : bdField x) : Ev (fun k => laws_toField.f k x) (trField x) := by
  simp only [laws_toField.f, trField]; exact Ev.ret _
theorem eq_Field (x : S92) (h : bdField x) : Ev (fun k => laws_eqField.f k (trField x) (trField x)) true := by
  simp only [laws_eqField.f, trField, beq_self_eq_true, decide_true, cond_true]
  exact Ev.ret _
theorem to_FieldS (v : (List S92)) (h : bdFieldS v) : Ev (fun k => laws_toFieldS.f k v) (v.map trField) := to_f (l := laws_toFieldS.l0) h.1 (fun _ _ => by simp only [laws_toFieldS.f]; rfl) (to_loop (B := bdField) (fun _ _ _ _ _ => by simp only [laws_toFieldS.l0]) (fun x hx => to_Field x hx) v h.2 h.1)
theorem eq_FieldS (v : (List S92)) (h : bdFieldS v) : Ev (fun k => laws_eqFieldS.f k (v.map trField) (v.map trField)) true := eq_f (l := laws_eqFieldS.l0) (fun _ _ _ => by simp only [laws_eqFieldS.f]) (eq_loop (e := laws_eqField.f) (fun _ _ _ _ => by simp only [laws_eqFieldS.l0]) _ (by intro y hy; obtain ⟨x, hx, rfl⟩ := List.mem_map.1 hy; exact eq_Field x (h.2 x hx)) (by simpa using h.1))
def trNode (x : S67) : S46 := ⟨x.f0, x.f1, (x.f2.map trField)⟩
theorem to_Node (x : S67) (h : bdNode x) : Ev (fun k => laws_toNode.f k x) (trNode x) := by
  simp only [laws_toNode.f, trNode]; exact Ev.bind (to_StringS _ h.1) (Ev.bind (to_FieldS _ h.2.1) (Ev.ret _))
theorem eq_Node (x : S67) (h : bdNode x) : Ev (fun k => laws_eqNode.f k (trNode x) (trNode x)) true := by
  simp only [laws_eqNode.f, trNode, beq_self_eq_true, decide_true, cond_true]
  refine Ev.bind (eq_StringS _ h.1) ?_
  simp only [beq_self_eq_true, decide_true, cond_true]
  refine Ev.bind (eq_FieldS _ h.2.1) ?_
  simp only [beq_self_eq_true, decide_true, cond_true]
  exact Ev.ret _
theorem to_NodeS (v : (List S67)) (h : bdNodeS v) : Ev (fun k => laws_toNodeS.f k v) (v.map trNode) := to_f (l := laws_toNodeS.l0) h.1 (fun _ _ => by simp only [laws_toNodeS.f]; rfl) (to_loop (B := bdNode) (fun _ _ _ _ _ => by simp only [laws_toNodeS.l0]) (fun x hx => to_Node x hx) v h.2 h.1)
theorem eq_NodeS (v : (List S67)) (h : bdNodeS v) : Ev (fun k => laws_eqNodeS.f k (v.map trNode) (v.map trNode)) true := eq_f (l := laws_eqNodeS.l0) (fun _ _ _ => by simp only [laws_eqNodeS.f]) (eq_loop (e := laws_eqNode.f) (fun _ _ _ _ => by simp only [laws_eqNodeS.l0]) _ (by intro y hy; obtain ⟨x, hx, rfl⟩ := List.mem_map.1 hy; exact eq_Node x (h.2 x hx)) (by simpa using h.1))
def trEdge (x : S70) : S49 := ⟨x.f0, x.f1, x.f2, x.f3, (x.f4.map trField)⟩
theorem to_Edge (x : S70) (h : bdEdge x) : Ev (fun k => laws_toEdge.f k x) (trEdge x) := by
  simp only [laws_toEdge.f, trEdge]; exact Ev.bind (to_FieldS _ h.2.1) (Ev.ret _)
theorem eq_Edge (x : S70) (h : bdEdge x) : Ev (fun k => laws_eqEdge.f k (trEdge x) (trEdge x)) true := by
  simp only [laws_eqEdge.f, trEdge, beq_self_eq_true, decide_true, cond_true]
  refine Ev.bind (eq_FieldS _ h.2.1) ?_
  simp only [beq_self_eq_true, decide_true, cond_true]
  exact Ev.ret _
theorem to_EdgeS (v : (List S70)) (h : bdEdgeS v) : Ev (fun k => laws_toEdgeS.f k v) (v.map trEdge) := to_f (l := laws_toEdgeS.l0) h.1 (fun _ _ => by simp only [laws_toEdgeS.f]; rfl) (to_loop (B := bdEdge) (fun _ _ _ _ _ => by simp only [laws_toEdgeS.l0]) (fun x hx => to_Edge x hx) v h.2 h.1)
theorem eq_EdgeS (v : (List S70)) (h : bdEdgeS v) : Ev (fun k => laws_eqEdgeS.f k (v.map trEdge) (v.map trEdge)) true := eq_f (l := laws_eqEdgeS.l0) (fun _ _ _ => by simp only [laws_eqEdgeS.f]) (eq_loop (e := laws_eqEdge.f) (fun _ _ _ _ => by simp only [laws_eqEdgeS.l0]) _ (by intro y hy; obtain ⟨x, hx, rfl⟩ := List.mem_map.1 hy; exact eq_Edge x (h.2 x hx)) (by simpa using h.1))
def trGraph (x : S24) : S31 := ⟨(x.f0.map trNode), (x.f1.map trEdge)⟩
theorem to_Graph (x : S24) (h : bdGraph x) : Ev (fun k => laws_toGraph.f k x) (trGraph x) := by
  simp only [laws_toGraph.f, trGraph]; exact Ev.bind (to_NodeS _ h.1) (Ev.bind (to_EdgeS _ h.2.1) (Ev.ret _))
theorem eq_Graph (x : S24) (h : bdGraph x) : Ev (fun k => laws_eqGraph.f k (trGraph x) (trGraph x)) true := by
  simp only [laws_eqGraph.f, trGraph, beq_self_eq_true, decide_true, cond_true]
  refine Ev.bind (eq_NodeS _ h.1) ?_
  simp only [beq_self_eq_true, decide_true, cond_true]
  refine Ev.bind (eq_EdgeS _ h.2.1) ?_
  simp only [beq_self_eq_true, decide_true, cond_true]
  exact Ev.ret _
end Go.Ab
namespace Go.Ab
open Go.Proofs
set_option linter.unusedVariables false
set_option linter.unusedSimpArgs false
theorem markText_fin (t : ByteArray) (h1 : (t.size : Int) ≤ 5000000000000000000) : ∃ r, Ev (fun k => laws_markText.l0 k 0 t) r := by
  refine ⟨(⟨#[109]⟩ : ByteArray) ++ t, Ev.step ?_⟩
  have hs1 : (⟨#[109]⟩ : ByteArray).size = 1 := rfl
  have e : cat (⟨#[109]⟩ : ByteArray) t = some ((⟨#[109]⟩ : ByteArray) ++ t) := by unfold cat; rw [if_pos (by omega)]
  simp only [laws_markText.l0, Int.lt_irrefl, decide_false, cond_false, e, Option.bind_some]
  exact Ev.ret _
theorem markText_l0 : ∀ (n : Nat) (a : Int) (t : ByteArray), a.toNat ≤ n → 0 ≤ a → a + t.size ≤ 5000000000000000000 → ∃ r, Ev (fun k => laws_markText.l0 k a t) r := by
  intro n
  induction n with
  | zero =>
    intro a t h h0 h1
    have : a = 0 := by omega
    subst this
    exact markText_fin t (by omega)
  | succ n ih =>
    intro a t h h0 h1
    by_cases ha : 0 < a
    · have e1 : rem a 10 = some (a.tmod 10) := by unfold Ab.rem; rw [if_neg (by decide)]
      have e2 : quo .i64 a 10 = some (a.tdiv 10) := by
        unfold quo; rw [if_neg (by decide), wI]
        · have : 0 ≤ a.tdiv 10 := Int.tdiv_nonneg h0 (by decide)
          omega
        · rw [Int.tdiv_eq_ediv_of_nonneg h0]; omega
      have hb : ∀ x : Int, (bstr [x]).size = 1 := fun x => rfl
      have hd : a.tdiv 10 + 1 ≤ a ∧ 0 ≤ a.tdiv 10 := by rw [Int.tdiv_eq_ediv_of_nonneg h0]; omega
      obtain ⟨r, hr⟩ := ih (a.tdiv 10) (bstr [IntKind.u8.wrap (IntKind.i64.wrap (48 + a.tmod 10))] ++ t) (by omega) (by omega) (by rw [ByteArray.size_append, hb]; omega)
      refine ⟨r, Ev.step ?_⟩
      simp only [laws_markText.l0, decide_eq_true ha, cond_true, e1, e2, Option.bind_some]
      unfold cat
      rw [if_pos (by rw [hb]; omega)]
      exact hr
    · have : a = 0 := by omega
      subst this
      exact markText_fin t (by omega)
theorem markText_ev (a : Int) (h0 : 0 ≤ a) (h1 : a ≤ 4600000000000000000) : ∃ r, Ev (fun k => laws_markText.f k a) r := by
  by_cases h : a ≤ 0
  · exact ⟨_, Ev.step (by simp only [laws_markText.f, decide_eq_true h, cond_true]; exact Ev.ret _)⟩
  · obtain ⟨r, hr⟩ := markText_l0 a.toNat a (⟨#[]⟩ : ByteArray) (Nat.le_refl _) h0 (by have : (⟨#[]⟩ : ByteArray).size = 0 := rfl; omega)
    exact ⟨r, Ev.step (by simp only [laws_markText.f, decide_eq_false h, cond_false]; exact hr)⟩
theorem wm1 {a : Int} (h0 : 0 ≤ a) (h1 : a ≤ 4600000000000000000) : IntKind.i64.wrap (a + 1) = a + 1 := wI (by omega) (by omega)
/-- Marks are counted up, by at most so many. -/
def Mk (f : Nat → Int → Option Int) (B : Int) : Prop := ∀ c, 0 ≤ c → c + B ≤ 4500000000000000000 → ∃ r, Ev (fun k => f k c) r ∧ c ≤ r ∧ r ≤ c + B
theorem Mk.loop {α : Type} {l : Nat → List α → Int → Int → Option Int} {body : Nat → List α → Int → Int → Option Int} {v : List α} {Be : Int} (hBe : 0 ≤ Be)
    (hl : ∀ k c i, l (k + 1) v c i = bif decide (i < (v.length : Int)) then body k v c i else some c)
    (hb : ∀ (i : Nat), i < v.length → ∀ c, 0 ≤ c → c + Be ≤ 4500000000000000000 → ∃ c', c ≤ c' ∧ c' ≤ c + Be ∧ ∀ R, Ev (fun k => l k v c' ((i + 1 : Nat) : Int)) R → Ev (fun k => body k v c (i : Int)) R) :
    ∀ (n i : Nat) (c : Int), v.length - i ≤ n → 0 ≤ c → c + (n : Int) * Be ≤ 4500000000000000000 → ∃ r, Ev (fun k => l k v c (i : Int)) r ∧ c ≤ r ∧ r ≤ c + (n : Int) * Be := by
  intro n
  induction n with
  | zero =>
    intro i c h h0 h1
    refine ⟨c, Ev.step ?_, Int.le_refl _, by simp⟩
    simp only [hl, ltn (show ¬ i < v.length by omega), cond_false]; exact Ev.ret _
  | succ n ih =>
    intro i c h h0 h1
    have e : ((n + 1 : Nat) : Int) * Be = (n : Int) * Be + Be := by rw [Int.natCast_succ, Int.add_mul, Int.one_mul]
    have hp : 0 ≤ (n : Int) * Be := Int.mul_nonneg (by omega) hBe
    rw [e] at h1
    by_cases hi : i < v.length
    · obtain ⟨c', q1, q2, q3⟩ := hb i hi c h0 (by omega)
      obtain ⟨r, r1, r2, r3⟩ := ih (i + 1) c' (by omega) (by omega) (by omega)
      refine ⟨r, Ev.step ?_, by omega, by omega⟩
      simp only [hl, ltd hi, cond_true]; exact q3 _ r1
    · refine ⟨c, Ev.step ?_, Int.le_refl _, by omega⟩
      simp only [hl, ltn hi, cond_false]; exact Ev.ret _
theorem Mk.slice {α : Type} {f : Nat → List α → Int → Option Int} {l : Nat → List α → Int → Int → Option Int} {body : Nat → List α → Int → Int → Option Int} {v : List α} {Be : Int} (hv : v.length ≤ 1048576) (hBe : 0 ≤ Be)
    (hf : ∀ k c, f (k + 1) v c = l k v c 0) (hl : ∀ k c i, l (k + 1) v c i = bif decide (i < (v.length : Int)) then body k v c i else some c)
    (hb : ∀ (i : Nat), i < v.length → ∀ c, 0 ≤ c → c + Be ≤ 4500000000000000000 → ∃ c', c ≤ c' ∧ c' ≤ c + Be ∧ ∀ R, Ev (fun k => l k v c' ((i + 1 : Nat) : Int)) R → Ev (fun k => body k v c (i : Int)) R) :
    Mk (fun k c => f k v c) (1048576 * Be) := fun c h0 h1 => by
  have hle : (v.length : Int) * Be ≤ 1048576 * Be := Int.mul_le_mul_of_nonneg_right (by omega) hBe
  obtain ⟨r, r1, r2, r3⟩ := Mk.loop hBe hl hb v.length 0 c (by omega) h0 (by omega)
  exact ⟨r, Ev.step (by simp only [hf]; exact r1), r2, by omega⟩
/-- A mark in rows is there again. -/
theorem setr_get {α : Type} {w : List α} {i : Nat} {x : α} (h : i < w.length) : (setr w i x)[i]? = some x := by
  unfold setr; rw [List.getElem?_set_self h]
theorem setr_two {α : Type} {w : List α} {i : Nat} {x y : α} : setr (setr w i x) i y = setr w i y := by
  unfold setr; rw [List.set_set]
theorem setr_len {α : Type} {w : List α} {i : Nat} {x : α} : (setr w i x).length = w.length := by unfold setr; rw [List.length_set]
/-- Rows that are marked, and are held to be. -/
def Mh {α : Type} (m : Nat → Nat → Int → List α → Option (Int × List α)) (h : Nat → Nat → Int → List α → Option Int) : Prop :=
  ∀ (v : List α) (c : Int), v.length ≤ 2000000 → 0 ≤ c → c ≤ 1000000000000 → ∃ v' r, 0 ≤ r ∧ Ev (fun k => m k v.length c v) (r, v') ∧ Ev (fun k => h k v.length c v') r
theorem Mh.loop {α : Type} {ml : Nat → Nat → Int → Int → List α → Option (Int × List α)} {hl : Nat → Nat → Int → Int → List α → Option Int} {N : Nat} {Be : Int} (hBe : 0 ≤ Be ∧ Be ≤ 1000)
    (hN : N ≤ 2000000)
    (step : ∀ (w : List α) (i : Nat) (c : Int), w.length = N → i < N → 0 ≤ c → c ≤ 4000000000000000000 → ∃ x c', c ≤ c' ∧ c' ≤ c + Be ∧
      (∀ R, Ev (fun k => ml k N c' ((i + 1 : Nat) : Int) (setr w i x)) R → Ev (fun k => ml k N c (i : Int) w) R) ∧
      (∀ (v' : List α) R, v'[i]? = some x → Ev (fun k => hl k N c' ((i + 1 : Nat) : Int) v') R → Ev (fun k => hl k N c (i : Int) v') R))
    (stop : ∀ (w : List α) (i : Nat) (c : Int), ¬ i < N → Ev (fun k => ml k N c (i : Int) w) (c, w) ∧ Ev (fun k => hl k N c (i : Int) w) c) :
    ∀ (n i : Nat) (c : Int) (w : List α), N - i ≤ n → w.length = N → 0 ≤ c → c + (n : Int) * 1000 ≤ 4000000000000000000 → ∃ v' r, v'.length = N ∧ c ≤ r ∧ (∀ j, j < i → v'[j]? = w[j]?) ∧ Ev (fun k => ml k N c (i : Int) w) (r, v') ∧ Ev (fun k => hl k N c (i : Int) v') r := by
  intro n
  induction n with
  | zero =>
    intro i c w h hw h0 h1
    obtain ⟨q1, q2⟩ := stop w i c (by omega)
    exact ⟨w, c, hw, Int.le_refl _, fun _ _ => rfl, q1, q2⟩
  | succ n ih =>
    intro i c w h hw h0 h1
    by_cases hi : i < N
    · obtain ⟨x, c', q1, q2, q3, q4⟩ := step w i c hw hi h0 (by omega)
      obtain ⟨v', r, r1, r2, r3, r4, r5⟩ := ih (i + 1) c' (setr w i x) (by omega) (by rw [setr_len]; exact hw) (by omega) (by omega)
      refine ⟨v', r, r1, by omega, fun j hj => ?_, q3 _ r4, q4 _ _ (by rw [r3 i (by omega)]; exact setr_get (by omega)) r5⟩
      rw [r3 j (by omega)]; unfold setr; rw [List.getElem?_set_ne (by omega)]
    · obtain ⟨q1, q2⟩ := stop w i c hi
      exact ⟨w, c, hw, Int.le_refl _, fun _ _ => rfl, q1, q2⟩
theorem Mh.of {α : Type} {m : Nat → Nat → Int → List α → Option (Int × List α)} {h : Nat → Nat → Int → List α → Option Int} {ml : Nat → Nat → Int → Int → List α → Option (Int × List α)} {hl : Nat → Nat → Int → Int → List α → Option Int} {Be : Int} (hBe : 0 ≤ Be ∧ Be ≤ 1000)
    (hm : ∀ k N c w, m (k + 1) N c w = ml k N c 0 w) (hh : ∀ k N c w, h (k + 1) N c w = hl k N c 0 w)
    (step : ∀ (N : Nat) (w : List α) (i : Nat) (c : Int), N ≤ 2000000 → w.length = N → i < N → 0 ≤ c → c ≤ 4000000000000000000 → ∃ x c', c ≤ c' ∧ c' ≤ c + Be ∧
      (∀ R, Ev (fun k => ml k N c' ((i + 1 : Nat) : Int) (setr w i x)) R → Ev (fun k => ml k N c (i : Int) w) R) ∧
      (∀ (v' : List α) R, v'[i]? = some x → Ev (fun k => hl k N c' ((i + 1 : Nat) : Int) v') R → Ev (fun k => hl k N c (i : Int) v') R))
    (stop : ∀ (N : Nat) (w : List α) (i : Nat) (c : Int), ¬ i < N → Ev (fun k => ml k N c (i : Int) w) (c, w) ∧ Ev (fun k => hl k N c (i : Int) w) c) : Mh m h := fun v c hv h0 h1 => by
  obtain ⟨v', r, r1, r2, _, r4, r5⟩ := Mh.loop hBe hv (fun w i c => step v.length w i c hv) (fun w i c => stop v.length w i c) v.length 0 c v (by omega) rfl h0 (by omega)
  exact ⟨v', r, by omega, Ev.step (by simp only [hm]; exact r4), Ev.step (by simp only [hh]; exact r5)⟩
/-- Own rows compared with own rows. -/
theorem eqb_loop {α : Type} {l : Nat → Nat → Nat → Int → List α → List α → Option Bool} {v : List α} (hv : v.length ≤ 2000000)
    (step : ∀ (i : Nat), i < v.length → ∀ R, Ev (fun k => l k v.length v.length ((i + 1 : Nat) : Int) v v) R → Ev (fun k => l k v.length v.length (i : Int) v v) R)
    (stop : ∀ (i : Nat), ¬ i < v.length → Ev (fun k => l k v.length v.length (i : Int) v v) true) : ∀ (n i : Nat), v.length - i ≤ n → Ev (fun k => l k v.length v.length (i : Int) v v) true := by
  intro n
  induction n with
  | zero => intro i h; exact stop i (by omega)
  | succ n ih =>
    intro i h
    by_cases hi : i < v.length
    · exact step i hi _ (ih (i + 1) (by omega))
    · exact stop i hi
end Go.Ab
namespace Go.Ab
open Go.Proofs
set_option linter.unusedVariables false
set_option linter.unusedSimpArgs false
theorem mh_PartS : Mh (fun k N c (w : List S59) => laws_markPartS_bv.f k N c w) (fun k N c w => laws_heldPartS_bv.f k N c w) :=
  Mh.of (ml := fun k N c i w => laws_markPartS_bv.l0 k N c i w) (hl := fun k N c i w => laws_heldPartS_bv.l0 k N c i w) (Be := 2) (by omega) (fun _ _ _ _ => by simp only [laws_markPartS_bv.f]) (fun _ _ _ _ => by simp only [laws_heldPartS_bv.f])
   (fun N w i c hN hw hi h0 h1 => by
    have ec0 := wm1 (a := c) (by omega) (by omega)
    have ec1 := wm1 (a := c + 1) (by omega) (by omega)
    have hiw : i < w.length := by omega
    refine ⟨?_, c + 1 + 1, by omega, by omega, fun R hR => ?_, fun v' R hv hR => ?_⟩
    rotate_left
    · refine Ev.step ?_
      simp only [laws_markPartS_bv.l0, List.getElem?_eq_getElem hiw, setr_get hiw, Option.bind_some, Int.toNat_natCast, cond_true, beq_self_eq_true, decide_true, setr_two, wup hi hN, inr_ hi, ltd hi, ec0, ec1]
      exact hR
    · refine Ev.step ?_
      simp only [laws_heldPartS_bv.l0, hv, Option.bind_some, Int.toNat_natCast, cond_true, beq_self_eq_true, decide_true, setr_two, wup hi hN, inr_ hi, ltd hi, ec0, ec1]
      exact hR)
   (fun N w i c hi => ⟨Ev.step (by simp only [laws_markPartS_bv.l0, ltn hi, cond_false]; exact Ev.ret _), Ev.step (by simp only [laws_heldPartS_bv.l0, ltn hi, cond_false]; exact Ev.ret _)⟩)
theorem eqb_PartS (v : List S59) (hv : v.length ≤ 2000000) : Ev (fun k => laws_eqPartS_bb.f k v.length v.length v v) true := by
  refine Ev.step ?_
  simp only [laws_eqPartS_bb.f, beq_self_eq_true, cond_true]
  exact eqb_loop (l := fun k n m i v _ => laws_eqPartS_bb.l0 k n m i v v) hv (fun i hi R hR => Ev.step (by simp only [laws_eqPartS_bb.l0, ltd hi, cond_true, inr_ hi, Option.bind_some, Int.toNat_natCast, List.getElem?_eq_getElem hi, beq_self_eq_true, decide_true, wup hi hv, laws_eqPart.f, Option.bind_some]; exact hR)) (fun i hi => Ev.step (by simp only [laws_eqPartS_bb.l0, ltn hi, cond_false]; exact Ev.ret _)) _ 0 (Nat.le_refl _)
theorem mk_StringS (v : (List ByteArray)) (h : bdStringS v) : Mk (fun k c => laws_markStringS_sv.f k v c) 1048576 := by
  generalize hu : v = u
  have hlen : u.length ≤ 1048576 := by rw [← hu]; exact h.1
  refine Mk.slice (f := laws_markStringS_sv.f) (l := fun k u c i => laws_markStringS_sv.l0 k u c i) (v := u) (Be := 1) hlen (by omega) (fun k c => by simp only [laws_markStringS_sv.f]) (fun k c i => by simp only [laws_markStringS_sv.l0]; rfl) (fun i hi c h0 h1 => ?_)
  obtain ⟨t1, q1⟩ := markText_ev (c) (by omega) (by omega)
  have ec0 := wm1 (a := c) (by omega) (by omega)
  refine ⟨c + 1, by omega, by omega, fun R hR => ?_⟩
  simp only [ixg hi, Option.bind_some, wup hi (show u.length ≤ 2000000 by omega), ec0]
  refine Ev.bind q1 ?_
  try simp only [ec0]
  exact hR
theorem mk_FieldS (v : (List S92)) (h : bdFieldS v) : Mk (fun k c => laws_markFieldS_sv.f k (v.map trField) c) 2097152 := by
  generalize hu : (v.map trField) = u
  have hlen : u.length ≤ 1048576 := by rw [← hu]; simpa using h.1
  refine Mk.slice (f := laws_markFieldS_sv.f) (l := fun k u c i => laws_markFieldS_sv.l0 k u c i) (v := u) (Be := 2) hlen (by omega) (fun k c => by simp only [laws_markFieldS_sv.f]) (fun k c i => by simp only [laws_markFieldS_sv.l0]; rfl) (fun i hi c h0 h1 => ?_)
  obtain ⟨y, hy, ey⟩ : ∃ y, bdField y ∧ u[i] = (trField y) := by
      have hm : u[i] ∈ (v.map trField) := by rw [hu]; exact List.getElem_mem hi
      obtain ⟨y, hy, e⟩ := List.mem_map.1 hm
      exact ⟨y, h.2 y hy, e.symm⟩
  obtain ⟨t1, q1⟩ := markText_ev (c) (by omega) (by omega)
  have ec0 := wm1 (a := c) (by omega) (by omega)
  obtain ⟨t2, q2⟩ := markText_ev (c + 1) (by omega) (by omega)
  have ec1 := wm1 (a := c + 1) (by omega) (by omega)
  refine ⟨c + 1 + 1, by omega, by omega, fun R hR => ?_⟩
  simp only [ixg hi, Option.bind_some, wup hi (show u.length ≤ 2000000 by omega), ey, ec0, ec1]
  refine Ev.bind q1 ?_
  refine Ev.bind q2 ?_
  try simp only [ec0, ec1]
  exact hR
theorem mk_NodeS (v : (List S67)) (h : bdNodeS v) : Mk (fun k c => laws_markNodeS_sv.f k (v.map trNode) c) 3298535931904 := by
  generalize hu : (v.map trNode) = u
  have hlen : u.length ≤ 1048576 := by rw [← hu]; simpa using h.1
  refine Mk.slice (f := laws_markNodeS_sv.f) (l := fun k u c i => laws_markNodeS_sv.l0 k u c i) (v := u) (Be := 3145729) hlen (by omega) (fun k c => by simp only [laws_markNodeS_sv.f]) (fun k c i => by simp only [laws_markNodeS_sv.l0]; rfl) (fun i hi c h0 h1 => ?_)
  obtain ⟨y, hy, ey⟩ : ∃ y, bdNode y ∧ u[i] = (trNode y) := by
      have hm : u[i] ∈ (v.map trNode) := by rw [hu]; exact List.getElem_mem hi
      obtain ⟨y, hy, e⟩ := List.mem_map.1 hm
      exact ⟨y, h.2 y hy, e.symm⟩
  have ec0 := wm1 (a := c) (by omega) (by omega)
  obtain ⟨r1, q1, l1, u1⟩ := mk_StringS _ hy.1 (c + 1) (by omega) (by omega)
  obtain ⟨r2, q2, l2, u2⟩ := mk_FieldS _ hy.2.1 (r1) (by omega) (by omega)
  refine ⟨r2, by omega, by omega, fun R hR => ?_⟩
  simp only [ixg hi, Option.bind_some, wup hi (show u.length ≤ 2000000 by omega), ey, ec0]
  refine Ev.bind q1 ?_
  refine Ev.bind q2 ?_
  try simp only [ec0]
  exact hR
theorem mk_EdgeS (v : (List S70)) (h : bdEdgeS v) : Mk (fun k c => laws_markEdgeS_sv.f k (v.map trEdge) c) 2199027449856 := by
  generalize hu : (v.map trEdge) = u
  have hlen : u.length ≤ 1048576 := by rw [← hu]; simpa using h.1
  refine Mk.slice (f := laws_markEdgeS_sv.f) (l := fun k u c i => laws_markEdgeS_sv.l0 k u c i) (v := u) (Be := 2097156) hlen (by omega) (fun k c => by simp only [laws_markEdgeS_sv.f]) (fun k c i => by simp only [laws_markEdgeS_sv.l0]; rfl) (fun i hi c h0 h1 => ?_)
  obtain ⟨y, hy, ey⟩ : ∃ y, bdEdge y ∧ u[i] = (trEdge y) := by
      have hm : u[i] ∈ (v.map trEdge) := by rw [hu]; exact List.getElem_mem hi
      obtain ⟨y, hy, e⟩ := List.mem_map.1 hm
      exact ⟨y, h.2 y hy, e.symm⟩
  have ec0 := wm1 (a := c) (by omega) (by omega)
  obtain ⟨t1, q1⟩ := markText_ev (c + 1) (by omega) (by omega)
  have ec1 := wm1 (a := c + 1) (by omega) (by omega)
  have ec2 := wm1 (a := c + 1 + 1) (by omega) (by omega)
  have ec3 := wm1 (a := c + 1 + 1 + 1) (by omega) (by omega)
  obtain ⟨r2, q2, l2, u2⟩ := mk_FieldS _ hy.2.1 (c + 1 + 1 + 1 + 1) (by omega) (by omega)
  refine ⟨r2, by omega, by omega, fun R hR => ?_⟩
  simp only [ixg hi, Option.bind_some, wup hi (show u.length ≤ 2000000 by omega), ey, ec0, ec1, ec2, ec3]
  refine Ev.bind q1 ?_
  refine Ev.bind q2 ?_
  try simp only [ec0, ec1, ec2, ec3]
  exact hR
theorem mk_Graph (x : S24) (h : bdGraph x) : Mk (fun k c => laws_markGraph_sv.f k ((trGraph x)).f0 ((trGraph x)).f1 c) 5497563381760 := fun c h0 h1 => by
  obtain ⟨r1, q1, l1, u1⟩ := mk_NodeS _ h.1 (c) (by omega) (by omega)
  obtain ⟨r2, q2, l2, u2⟩ := mk_EdgeS _ h.2.1 (r1) (by omega) (by omega)
  refine ⟨r2, ?_, by omega, by omega⟩
  simp only [laws_markGraph_sv.f]
  refine Ev.bind q1 ?_
  refine Ev.bind q2 ?_
  exact Ev.ret _
end Go.Ab
namespace Go.Ab
open Go.Proofs
set_option linter.unusedVariables false
set_option linter.unusedSimpArgs false
theorem wr_eq (n : Int) : IntKind.i64.wrap n = if 9223372036854775808 ≤ n % 18446744073709551616 then n % 18446744073709551616 - 18446744073709551616 else n % 18446744073709551616 := by
  show (if (true && decide (n % 18446744073709551616 ≥ 9223372036854775808)) = true then n % 18446744073709551616 - 18446744073709551616 else n % 18446744073709551616) = _
  rw [Bool.true_and]
  simp only [decide_eq_true_eq, ge_iff_le]
theorem wr_mod (n : Int) : IntKind.i64.wrap n % 18446744073709551616 = n % 18446744073709551616 := by
  rw [wr_eq]; split <;> omega
theorem wr_of {n m : Int} (h : n % 18446744073709551616 = m % 18446744073709551616) : IntKind.i64.wrap n = IntKind.i64.wrap m := by
  rw [wr_eq, wr_eq, h]
theorem wr_add (a b : Int) : IntKind.i64.wrap (IntKind.i64.wrap a + b) = IntKind.i64.wrap (a + b) := by
  have := wr_mod a
  exact wr_of (by omega)
def qq (x o : Int) : Int := IntKind.i64.wrap ((IntKind.i64.wrap (850 * x)).tdiv (IntKind.i64.wrap (1000 * o)))
theorem quo_q {x o : Int} (h : 1 ≤ o) (h' : o ≤ 1000000) : quo .i64 (IntKind.i64.wrap (850 * x)) (IntKind.i64.wrap (1000 * o)) = some (qq x o) := by
  have e : IntKind.i64.wrap (1000 * o) ≠ 0 := by rw [wI (by omega) (by omega)]; omega
  unfold quo qq; rw [if_neg e]
def ocn (g : S31) (id : Int) : Nat := (g.f1.filter (fun e => e.f2 == id)).length
theorem oc_le (g : S31) (id : Int) : ocn g id ≤ g.f1.length := List.length_filter_le _ _
/-- What the nodes without a way out give, of the first i. -/
def lsum (g : S31) (R : Int → Int) : Nat → Int
 | 0 => 0
 | i + 1 => lsum g R i + (match g.f0[i]? with | some x => if ocn g x.f0 = 0 then qq (R x.f0) g.f0.length else 0 | none => 0)
/-- What the first j edges bring to a node. -/
def esum (g : S31) (R : Int → Int) (id : Int) : Nat → Int
 | 0 => 0
 | j + 1 => esum g R id j + (match g.f1[j]? with | some e => if e.f3 = id then qq (R e.f2) (ocn g e.f2) else 0 | none => 0)
def bbR (g : S31) : Int := IntKind.i64.wrap ((150000 : Int).tdiv g.f0.length)
def nxR (g : S31) (R : Int → Int) (id : Int) : Int := IntKind.i64.wrap (bbR g + lsum g R g.f0.length + esum g R id g.f1.length)
def rounds (g : S31) : Nat → (Int → Int) → (Int → Int)
 | 0, R => R
 | r + 1, R => rounds g r (nxR g R)
def partsR (g : S31) (R : Int → Int) : List S59 := g.f0.map fun x => ⟨x.f0, R x.f0⟩
section
variable {g : S31}
theorem quo_n (c : Int) (hn : 0 < g.f0.length) : quo .i64 c (g.f0.length : Int) = some (IntKind.i64.wrap (c.tdiv g.f0.length)) := by
  unfold quo; rw [if_neg (by omega)]
theorem node_f (hl : g.f0.length ≤ 2000000) (id : Int) : Ev (fun k => spec_l02Node.f k g id) (fnd (fun e => e.f0 == id) g.f0) := by
  refine Ev.step ?_
  simp only [spec_l02Node.f]
  have := search (p := fun x => x.f0 == id) (hit := fun i => i) (miss := -1) (F := fun k i => spec_l02Node.l0 k id i g) (l := g.f0) (by omega) (fun k i => by simp only [spec_l02Node.l0]) _ 0 (Nat.le_refl _)
  simpa [fnd] using this
theorem node_at (hg : GOk g) {id : Int} (h : id ∈ gN g) : ∃ (a : Nat) (ha : a < g.f0.length), Ev (fun k => spec_l02Node.f k g id) (a : Int) ∧ g.f0[a].f0 = id := by
  have h1 := node_f (g := g) (by have := hg.n200; omega) id
  rcases fnd_cases (fun e => e.f0 == id) g.f0 with ⟨_, _, e3⟩ | ⟨j, hj, e1, _, e3⟩
  · obtain ⟨x, hx, rfl⟩ := List.mem_map.1 h
    have := e3 x hx
    simp at this
  · rw [e1] at h1
    exact ⟨j, hj, h1, by simpa using e3⟩
theorem id_inj (hg : GOk g) {i j : Nat} (hi : i < g.f0.length) (hj : j < g.f0.length) (h : g.f0[i].f0 = g.f0[j].f0) : i = j := by
  rcases Nat.lt_trichotomy i j with h1 | h1 | h1
  · have := rise_lt (f := fun x => x.f0) hg.nr j i hj h1; omega
  · exact h1
  · have := rise_lt (f := fun x => x.f0) hg.nr i j hi h1; omega
theorem oc_pos {j : Nat} (hj : j < g.f1.length) : 1 ≤ ocn g g.f1[j].f2 := by
  unfold ocn
  exact List.length_pos_of_mem (List.mem_filter.2 ⟨List.getElem_mem hj, by simp⟩)
/-! The reference -/
structure RkS (g : S31) (F : Nat → Int) (v : List Int) : Prop where
 len : v.length = g.f0.length
 at_ : ∀ i, i < g.f0.length → v[i]? = some (F i)
theorem RkS.set {F F' : Nat → Int} {v : List Int} (h : RkS g F v) (k : Nat) {x : Int} (hk : k < g.f0.length) (hx : x = F' k) (ho : ∀ i, i ≠ k → F' i = F i) : RkS g F' (setr v k x) := by
  unfold setr
  refine ⟨by rw [List.length_set]; exact h.len, fun i hi => ?_⟩
  rw [List.getElem?_set]
  by_cases e : k = i
  · subst e; rw [if_pos rfl, if_pos (by rw [h.len]; exact hk), hx]
  · rw [if_neg e, h.at_ i hi, ho i (fun e' => e e'.symm)]
def idn (g : S31) (i : Nat) : Int := (g.f0.map (·.f0)).getD i 0
theorem idn_eq {i : Nat} (h : i < g.f0.length) : idn g i = g.f0[i].f0 := by
  unfold idn; rw [List.getD_eq_getElem?_getD, List.getElem?_map, List.getElem?_eq_getElem h]; rfl
theorem ls_step {R : Int → Int} {i : Nat} (h : i < g.f0.length) : lsum g R (i + 1) = lsum g R i + (if ocn g g.f0[i].f0 = 0 then qq (R g.f0[i].f0) g.f0.length else 0) := by
  rw [lsum, List.getElem?_eq_getElem h]
theorem es_step {R : Int → Int} {id : Int} {j : Nat} (h : j < g.f1.length) : esum g R id (j + 1) = esum g R id j + (if g.f1[j].f3 = id then qq (R g.f1[j].f2) (ocn g g.f1[j].f2) else 0) := by
  rw [esum, List.getElem?_eq_getElem h]
variable {R : Int → Int} {v19 O : List Int} {Z : List S59} {v18 : Int}
theorem s_l4 (hg : GOk g) (hv : RkS g (fun i => R (idn g i)) v19) (hO : RkS g (fun i => (ocn g (idn g i) : Int)) O) {i : Nat} (hi : i < g.f0.length) (h0 : ocn g g.f0[i].f0 = 0) {F : Nat → Int}
   (go : ∀ T, RkS g (fun k => IntKind.i64.wrap (F k + qq (R g.f0[i].f0) g.f0.length)) T → Ev (fun k => spec_RankOf_O.j0 k v18 g v19 g.f0.length g.f0.length (i : Int) O T) Z) :
   ∀ (m q : Nat) (T : List Int), g.f0.length - q ≤ m → q ≤ g.f0.length → RkS g (fun k => IntKind.i64.wrap (F k + if k < q then qq (R g.f0[i].f0) g.f0.length else 0)) T → Ev (fun k => spec_RankOf_O.l4 k v18 g v19 g.f0.length g.f0.length (i : Int) (q : Int) O T) Z := by
  have fin : ∀ (q : Nat) (T : List Int), ¬ q < g.f0.length → q ≤ g.f0.length → RkS g (fun k => IntKind.i64.wrap (F k + if k < q then qq (R g.f0[i].f0) g.f0.length else 0)) T → Ev (fun k => spec_RankOf_O.l4 k v18 g v19 g.f0.length g.f0.length (i : Int) (q : Int) O T) Z := fun q T h hq hT => by
    refine Ev.step ?_
    simp only [spec_RankOf_O.l4, hv.len, ltn h, cond_false]
    exact go T ⟨hT.len, fun k hk => by rw [hT.at_ k hk, if_pos (by omega)]⟩
  intro m
  induction m with
  | zero => intro q T h hq hT; exact fin q T (by omega) hq hT
  | succ m ih =>
    intro q T h hq hT
    by_cases hlt : q < g.f0.length
    case neg => exact fin q T hlt hq hT
    have hn := hg.n200
    have e1 := hO.at_ i hi
    rw [idn_eq hi, h0] at e1
    have e2 := hv.at_ i hi
    have hiv : i < v19.length := by rw [hv.len]; exact hi
    rw [idn_eq hi, List.getElem?_eq_getElem hiv] at e2
    have e2' := Option.some.inj e2
    refine Ev.step ?_
    simp only [spec_RankOf_O.l4, hv.len, ltd hlt, cond_true, inr_ hi, inr_ hlt, Option.bind_some, Int.toNat_natCast, e1, hT.at_ q hlt, ixg hiv, e2', show (((0 : Nat) : Int) == 0) = true from rfl, quo_q (x := R g.f0[i].f0) (o := (g.f0.length : Int)) (by omega) (by omega), wup hlt (show g.f0.length ≤ 2000000 by omega)]
    refine ih (q + 1) _ (by omega) (by omega) (hT.set q hlt ?_ (fun k hk => ?_))
    · simp only [if_neg (Nat.lt_irrefl q), if_pos (Nat.lt_succ_self q), Int.add_zero]
      exact wr_add _ _
    · by_cases hkq : k < q
      · simp only [if_pos hkq, if_pos (show k < q + 1 by omega)]
      · simp only [if_neg hkq, if_neg (show ¬ k < q + 1 by omega)]
theorem s_l3 (hg : GOk g) (hv : RkS g (fun i => R (idn g i)) v19) (hO : RkS g (fun i => (ocn g (idn g i) : Int)) O)
   (go : ∀ T, RkS g (fun _ => IntKind.i64.wrap (bbR g + lsum g R g.f0.length)) T → Ev (fun k => spec_RankOf_O.l5 k v18 g v19 g.f0.length g.f0.length 0 O T) Z) :
   ∀ (m i : Nat) (T : List Int), g.f0.length - i ≤ m → i ≤ g.f0.length → RkS g (fun k => IntKind.i64.wrap ((if k < i then bbR g else 0) + lsum g R i)) T → Ev (fun k => spec_RankOf_O.l3 k v18 g v19 g.f0.length g.f0.length (i : Int) O T) Z := by
  have fin : ∀ (i : Nat) (T : List Int), ¬ i < g.f0.length → i ≤ g.f0.length → RkS g (fun k => IntKind.i64.wrap ((if k < i then bbR g else 0) + lsum g R i)) T → Ev (fun k => spec_RankOf_O.l3 k v18 g v19 g.f0.length g.f0.length (i : Int) O T) Z := fun i T h hi hT => by
    refine Ev.step ?_
    simp only [spec_RankOf_O.l3, hv.len, ltn h, cond_false]
    obtain rfl : i = g.f0.length := by omega
    exact go T ⟨hT.len, fun k hk => by rw [hT.at_ k hk, if_pos hk]⟩
  intro m
  induction m with
  | zero => intro i T h hi hT; exact fin i T (by omega) hi hT
  | succ m ih =>
    intro i T h hle hT
    by_cases hi : i < g.f0.length
    case neg => exact fin i T hi hle hT
    have hn := hg.n200
    refine Ev.step ?_
    simp only [spec_RankOf_O.l3, hv.len, ltd hi, cond_true, inr_ hi, Option.bind_some, Int.toNat_natCast, hT.at_ i hi, quo_n 150000 (show 0 < g.f0.length by omega)]
    have hT1 : RkS g (fun k => IntKind.i64.wrap ((if k < i + 1 then bbR g else 0) + lsum g R i)) (setr T i (IntKind.i64.wrap (IntKind.i64.wrap ((if i < i then bbR g else 0) + lsum g R i) + IntKind.i64.wrap ((150000 : Int).tdiv g.f0.length)))) := hT.set i hi (by
        simp only [if_neg (Nat.lt_irrefl i), if_pos (Nat.lt_succ_self i)]
        rw [wr_add]
        unfold bbR
        congr 1; omega) (fun k hk => by
        by_cases hki : k < i
        · simp only [if_pos hki, if_pos (show k < i + 1 by omega)]
        · simp only [if_neg hki, if_neg (show ¬ k < i + 1 by omega)])
    have nxt : ∀ T', RkS g (fun k => IntKind.i64.wrap ((if k < i + 1 then bbR g else 0) + lsum g R (i + 1))) T' → Ev (fun k => spec_RankOf_O.j0 k v18 g v19 g.f0.length g.f0.length (i : Int) O T') Z := fun T' hT' => by
      refine Ev.step ?_
      simp only [spec_RankOf_O.j0, wup hi (show g.f0.length ≤ 2000000 by omega)]
      exact ih (i + 1) T' (by omega) (by omega) hT'
    have est := ls_step (R := R) hi
    by_cases h0 : ocn g g.f0[i].f0 = 0
    · rw [if_pos h0] at est
      refine s_l4 hg hv hO hi h0 (F := fun k => (if k < i + 1 then bbR g else 0) + lsum g R i) (fun T' hT' => nxt T' ⟨hT'.len, fun k hk => ?_⟩) _ 0 _ (Nat.le_refl _) (Nat.zero_le _) ⟨hT1.len, fun k hk => ?_⟩
      · rw [hT'.at_ k hk, est, Int.add_assoc]
      · rw [hT1.at_ k hk, if_neg (Nat.not_lt_zero k), Int.add_zero]
    · rw [if_neg h0, Int.add_zero] at est
      have e1 := hO.at_ i hi
      rw [idn_eq hi] at e1
      refine Ev.step ?_
      simp only [spec_RankOf_O.l4, hv.len, decide_eq_true (show (0 : Int) < (g.f0.length : Int) by omega), cond_true, inr_ hi, Option.bind_some, Int.toNat_natCast, e1, show ((ocn g g.f0[i].f0 : Int) == 0) = false by simp; omega, cond_false]
      exact nxt _ ⟨hT1.len, fun k hk => by rw [hT1.at_ k hk, est]⟩
theorem s_l5 (hg : GOk g) (hv : RkS g (fun i => R (idn g i)) v19) (hO : RkS g (fun i => (ocn g (idn g i) : Int)) O)
   (go : ∀ T, RkS g (fun i => nxR g R (idn g i)) T → Ev (fun k => spec_RankOf_O.l2 k (IntKind.i64.wrap (v18 - 1)) g T g.f0.length O) Z) :
   ∀ (m j : Nat) (T : List Int), g.f1.length - j ≤ m → j ≤ g.f1.length → RkS g (fun k => IntKind.i64.wrap (bbR g + lsum g R g.f0.length + esum g R (idn g k) j)) T → Ev (fun k => spec_RankOf_O.l5 k v18 g v19 g.f0.length g.f0.length (j : Int) O T) Z := by
  have fin : ∀ (j : Nat) (T : List Int), ¬ j < g.f1.length → j ≤ g.f1.length → RkS g (fun k => IntKind.i64.wrap (bbR g + lsum g R g.f0.length + esum g R (idn g k) j)) T → Ev (fun k => spec_RankOf_O.l5 k v18 g v19 g.f0.length g.f0.length (j : Int) O T) Z := fun j T h hj hT => by
    refine Ev.step ?_
    simp only [spec_RankOf_O.l5, ltn h, cond_false]
    obtain rfl : j = g.f1.length := by omega
    rw [List.take_of_length_le (by rw [hT.len]; exact Nat.le_refl _)]
    exact go T hT
  intro m
  induction m with
  | zero => intro j T h hj hT; exact fin j T (by omega) hj hT
  | succ m ih =>
    intro j T h hle hT
    by_cases hj : j < g.f1.length
    case neg => exact fin j T hj hle hT
    have hm := hg.e400
    obtain ⟨n1, n2⟩ := hg.ends _ (List.getElem_mem hj)
    obtain ⟨a, ha, a1, a2⟩ := node_at hg n1
    obtain ⟨b, hb, b1, b2⟩ := node_at hg n2
    have hav : a < v19.length := by rw [hv.len]; exact ha
    have e2 := hv.at_ a ha
    rw [idn_eq ha, List.getElem?_eq_getElem hav, a2] at e2
    have e2' := Option.some.inj e2
    have e3 := hO.at_ a ha
    rw [idn_eq ha, a2] at e3
    have hop := oc_pos hj
    have hol := oc_le g g.f1[j].f2
    refine Ev.step ?_
    simp only [spec_RankOf_O.l5, ltd hj, cond_true, ixg hj, Option.bind_some]
    refine Ev.bind a1 (Ev.bind b1 ?_)
    simp only [inr_ hb, inr_ ha, Option.bind_some, Int.toNat_natCast, hT.at_ b hb, ixg hav, e2', e3, quo_q (x := R g.f1[j].f2) (o := (ocn g g.f1[j].f2 : Int)) (by omega) (by omega), wup hj (show g.f1.length ≤ 2000000 by omega)]
    refine ih (j + 1) _ (by omega) (by omega) ?_
    refine ⟨by unfold setr; rw [List.length_set]; exact hT.len, fun k hk => ?_⟩
    unfold setr
    rw [List.getElem?_set, es_step hj]
    by_cases e : b = k
    · subst e
      rw [if_pos rfl, if_pos (by rw [hT.len]; exact hb), idn_eq hb, if_pos b2.symm, wr_add, Int.add_assoc]
    · rw [if_neg e, hT.at_ k hk, idn_eq hk, if_neg (fun e' => e (id_inj hg hb hk (by rw [b2]; exact e'))), Int.add_zero]
theorem parts_s (hg : GOk g) (hv : RkS g (fun i => R (idn g i)) v19) : ∀ (m i : Nat), g.f0.length - i ≤ m → i ≤ g.f0.length → Ev (fun k => spec_l16Parts_O.l0 k v19 ((partsR g R).take i) (i : Int) g) (partsR g R) := by
  have hl : (partsR g R).length = g.f0.length := by unfold partsR; rw [List.length_map]
  have fin : ∀ i : Nat, ¬ i < g.f0.length → Ev (fun k => spec_l16Parts_O.l0 k v19 ((partsR g R).take i) (i : Int) g) (partsR g R) := fun i h => by
    refine Ev.step ?_
    simp only [spec_l16Parts_O.l0, ltn h, cond_false]
    rw [List.take_of_length_le (by omega)]
    exact Ev.ret _
  intro m
  induction m with
  | zero => intro i h hle; exact fin i (by omega)
  | succ m ih =>
    intro i h hle
    by_cases hi : i < g.f0.length
    case neg => exact fin i hi
    have hn := hg.n200
    have hiv : i < v19.length := by rw [hv.len]; exact hi
    have e2 := hv.at_ i hi
    rw [idn_eq hi, List.getElem?_eq_getElem hiv] at e2
    refine Ev.step ?_
    simp only [spec_l16Parts_O.l0, ltd hi, cond_true, ixg hi, ixg hiv, Option.some.inj e2, Option.bind_some, wup hi (show g.f0.length ≤ 2000000 by omega)]
    have hp : i < (partsR g R).length := by omega
    rw [app_one _ (by rw [List.length_take]; omega)]
    simp only [Option.bind_some]
    have := ih (i + 1) (by omega) (by omega)
    rw [List.take_succ_eq_append_getElem hp] at this
    simpa [partsR] using this
theorem s_l2 (hg : GOk g) (hn0 : 0 < g.f0.length) (hO : RkS g (fun i => (ocn g (idn g i) : Int)) O) : ∀ (r : Nat) (R : Int → Int) (v : List Int), r ≤ 50 → RkS g (fun i => R (idn g i)) v → Ev (fun k => spec_RankOf_O.l2 k (r : Int) g v g.f0.length O) (partsR g (rounds g r R)) := by
  intro r
  induction r with
  | zero =>
    intro R v hr hv
    refine Ev.step ?_
    simp only [spec_RankOf_O.l2, show decide ((0 : Int) < ((0 : Nat) : Int)) = false from rfl, cond_false]
    have : Ev (fun k => spec_l16Parts_O.f k g v) (partsR g R) := Ev.step (by
      simp only [spec_l16Parts_O.f]
      exact parts_s hg hv _ 0 (Nat.le_refl _) (Nat.zero_le _))
    exact Ev.bind this (Ev.ret _)
  | succ r ih =>
    intro R v hr hv
    have hn := hg.n200
    refine Ev.step ?_
    simp only [spec_RankOf_O.l2, decide_eq_true (show (0 : Int) < ((r + 1 : Nat) : Int) by omega), cond_true, mks_ (z := (0 : Int)) (n := g.f0.length) (by omega), Option.bind_some, List.length_replicate]
    refine s_l3 hg hv hO (fun T hT => ?_) _ 0 _ (Nat.le_refl _) (Nat.zero_le _) ⟨by simp, fun k hk => ?_⟩
    · refine s_l5 hg hv hO (fun T' hT' => ?_) _ 0 T (Nat.le_refl _) (Nat.zero_le _) ⟨hT.len, fun k hk => by rw [hT.at_ k hk, esum, Int.add_zero]⟩
      have e : IntKind.i64.wrap (((r + 1 : Nat) : Int) - 1) = (r : Int) := by rw [wI (by omega) (by omega)]; omega
      rw [e]
      exact ih (nxR g R) T' (by omega) hT'
    · rw [List.getElem?_replicate, if_pos hk, if_neg (Nat.not_lt_zero k), lsum, wI (by omega) (by omega)]
      rfl
theorem around_n (hg : GOk g) (id : Int) : ∃ l : List Int, l.length = ocn g id ∧ Ev (fun k => spec_l02Around.f k g id true) l := by
  have hm := hg.e400
  have L : ∀ (m j : Nat) (acc : List Int), g.f1.length - j ≤ m → j ≤ g.f1.length → acc.length ≤ j → ∃ l : List Int, l.length = acc.length + ((g.f1.drop j).filter (fun e => e.f2 == id)).length ∧ Ev (fun k => spec_l02Around.l0 k id true acc (j : Int) g) l := by
    have fin : ∀ (j : Nat) (acc : List Int), ¬ j < g.f1.length → ∃ l : List Int, l.length = acc.length + ((g.f1.drop j).filter (fun e => e.f2 == id)).length ∧ Ev (fun k => spec_l02Around.l0 k id true acc (j : Int) g) l := fun j acc h => by
      refine ⟨acc, by rw [List.drop_of_length_le (by omega)]; simp, Ev.step ?_⟩
      simp only [spec_l02Around.l0, ltn h, cond_false]; exact Ev.ret _
    intro m
    induction m with
    | zero => intro j acc h hj ha; exact fin j acc (by omega)
    | succ m ih =>
      intro j acc h hle ha
      by_cases hj : j < g.f1.length
      case neg => exact fin j acc hj
      rw [List.drop_eq_getElem_cons hj, List.filter_cons]
      cases hp : (g.f1[j].f2 == id) with
      | true =>
        obtain ⟨l, l1, l2⟩ := ih (j + 1) (acc ++ [g.f1[j].f0]) (by omega) (by omega) (by simp; omega)
        refine ⟨l, by rw [l1]; simp; omega, Ev.step ?_⟩
        simp only [spec_l02Around.l0, ltd hj, cond_true, ixg hj, Option.bind_some, hp]
        refine Ev.step ?_
        simp only [spec_l02Around.j0, ixg hj, Option.bind_some]
        rw [app_one _ (by omega)]
        simp only [Option.bind_some, wup hj (show g.f1.length ≤ 2000000 by omega)]
        exact l2
      | false =>
        obtain ⟨l, l1, l2⟩ := ih (j + 1) acc (by omega) (by omega) (by omega)
        refine ⟨l, by rw [l1]; simp, Ev.step ?_⟩
        simp only [spec_l02Around.l0, ltd hj, cond_true, cond_false, ixg hj, Option.bind_some, hp, wup hj (show g.f1.length ≤ 2000000 by omega)]
        exact l2
  obtain ⟨l, l1, l2⟩ := L _ 0 [] (Nat.le_refl _) (Nat.zero_le _) (by simp)
  refine ⟨l, by rw [l1]; simp [ocn], Ev.step (by simp only [spec_l02Around.f]; exact l2)⟩
def r0 (g : S31) (_ : Int) : Int := IntKind.i64.wrap ((1000000 : Int).tdiv g.f0.length)
theorem rank_s (hg : GOk g) (hn0 : 0 < g.f0.length) {r : Nat} (hr : r ≤ 50) : Ev (fun k => (mks (0 : Int) (g.f0.length : Int) (g.f0.length : Int)).bind fun v3 => (spec_RankOf_O.l0 k (r : Int) g v3.length 0 v3)) (partsR g (rounds g r (r0 g))) := by
  have hn := hg.n200
  simp only [mks_ (z := (0 : Int)) (n := g.f0.length) (by omega), Option.bind_some, List.length_replicate]
  have L1 : ∀ (v : List Int), RkS g (fun i => r0 g (idn g i)) v → ∀ (m i : Nat) (T : List Int), g.f0.length - i ≤ m → i ≤ g.f0.length → RkS g (fun k => if k < i then (ocn g (idn g k) : Int) else 0) T → Ev (fun k => spec_RankOf_O.l1 k (r : Int) g g.f0.length g.f0.length (i : Int) v T) (partsR g (rounds g r (r0 g))) := fun v hv => by
    have fin : ∀ (i : Nat) (T : List Int), ¬ i < g.f0.length → i ≤ g.f0.length → RkS g (fun k => if k < i then (ocn g (idn g k) : Int) else 0) T → Ev (fun k => spec_RankOf_O.l1 k (r : Int) g g.f0.length g.f0.length (i : Int) v T) (partsR g (rounds g r (r0 g))) := fun i T h hi hT => by
      refine Ev.step ?_
      simp only [spec_RankOf_O.l1, ltn h, cond_false]
      rw [List.take_of_length_le (by rw [hv.len]; exact Nat.le_refl _)]
      exact s_l2 hg hn0 ⟨hT.len, fun k hk => by rw [hT.at_ k hk, if_pos (by omega)]⟩ r (r0 g) v hr hv
    intro m
    induction m with
    | zero => intro i T h hi hT; exact fin i T (by omega) hi hT
    | succ m ih =>
      intro i T h hle hT
      by_cases hi : i < g.f0.length
      case neg => exact fin i T hi hle hT
      obtain ⟨l, l1, l2⟩ := around_n hg g.f0[i].f0
      refine Ev.step ?_
      simp only [spec_RankOf_O.l1, ltd hi, cond_true, ixg hi, Option.bind_some]
      refine Ev.bind l2 ?_
      simp only [inr_ hi, Option.bind_some, Int.toNat_natCast, hT.at_ i hi, l1, wup hi (show g.f0.length ≤ 2000000 by omega)]
      refine ih (i + 1) _ (by omega) (by omega) (hT.set i hi (by simp only [if_pos (Nat.lt_succ_self i), idn_eq hi]) (fun k hk => ?_))
      by_cases hki : k < i
      · simp only [if_pos hki, if_pos (show k < i + 1 by omega)]
      · simp only [if_neg hki, if_neg (show ¬ k < i + 1 by omega)]
  have L0 : ∀ (m i : Nat) (T : List Int), g.f0.length - i ≤ m → i ≤ g.f0.length → RkS g (fun k => if k < i then r0 g (idn g k) else 0) T → Ev (fun k => spec_RankOf_O.l0 k (r : Int) g g.f0.length (i : Int) T) (partsR g (rounds g r (r0 g))) := by
    have fin : ∀ (i : Nat) (T : List Int), ¬ i < g.f0.length → i ≤ g.f0.length → RkS g (fun k => if k < i then r0 g (idn g k) else 0) T → Ev (fun k => spec_RankOf_O.l0 k (r : Int) g g.f0.length (i : Int) T) (partsR g (rounds g r (r0 g))) := fun i T h hi hT => by
      refine Ev.step ?_
      simp only [spec_RankOf_O.l0, ltn h, cond_false, mks_ (z := (0 : Int)) (n := g.f0.length) (by omega), Option.bind_some, List.length_replicate]
      exact L1 T ⟨hT.len, fun k hk => by rw [hT.at_ k hk, if_pos (by omega)]⟩ _ 0 _ (Nat.le_refl _) (Nat.zero_le _) ⟨by simp, fun k hk => by rw [List.getElem?_replicate, if_pos hk, if_neg (Nat.not_lt_zero k)]⟩
    intro m
    induction m with
    | zero => intro i T h hi hT; exact fin i T (by omega) hi hT
    | succ m ih =>
      intro i T h hle hT
      by_cases hi : i < g.f0.length
      case neg => exact fin i T hi hle hT
      refine Ev.step ?_
      simp only [spec_RankOf_O.l0, ltd hi, cond_true, quo_n 1000000 hn0, Option.bind_some, inr_ hi, Int.toNat_natCast, hT.at_ i hi, wup hi (show g.f0.length ≤ 2000000 by omega)]
      refine ih (i + 1) _ (by omega) (by omega) (hT.set i hi (by simp only [if_pos (Nat.lt_succ_self i), r0]) (fun k hk => ?_))
      by_cases hki : k < i
      · simp only [if_pos hki, if_pos (show k < i + 1 by omega)]
      · simp only [if_neg hki, if_neg (show ¬ k < i + 1 by omega)]
  exact L0 _ 0 _ (Nat.le_refl _) (Nat.zero_le _) ⟨by simp, fun k hk => by rw [List.getElem?_replicate, if_pos hk, if_neg (Nat.not_lt_zero k)]⟩
/-! The program -/
theorem gN_mem {i : Nat} (h : i < g.f0.length) : g.f0[i].f0 ∈ gN g := List.mem_map.2 ⟨_, List.getElem_mem h, rfl⟩
variable {C : List (Int × Int)} {v12 v1 : Int} {A M : List (Int × Int)}
def RkI (g : S31) (F : Int → Int) (m : List (Int × Int)) : Prop := ∀ id ∈ gN g, tget m id 0 = F id
theorem i_l5 (hg : GOk g) (hC : ∀ id, tget C id 0 = (ocn g id : Int)) (hA : RkI g R A) (go : ∀ T, RkI g (nxR g R) T → Ev (fun k => impl_RankOf_O.l2 k g v1 (IntKind.i64.wrap (v12 + 1)) C T) Z) :
   ∀ (m j : Nat) (T : List (Int × Int)), g.f1.length - j ≤ m → j ≤ g.f1.length → RkI g (fun id => IntKind.i64.wrap (bbR g + lsum g R g.f0.length + esum g R id j)) T → Ev (fun k => impl_RankOf_O.l5 k g v1 v12 (j : Int) C A T) Z := by
  have fin : ∀ (j : Nat) (T : List (Int × Int)), ¬ j < g.f1.length → j ≤ g.f1.length → RkI g (fun id => IntKind.i64.wrap (bbR g + lsum g R g.f0.length + esum g R id j)) T → Ev (fun k => impl_RankOf_O.l5 k g v1 v12 (j : Int) C A T) Z := fun j T h hj hT => by
    refine Ev.step ?_
    simp only [impl_RankOf_O.l5, ltn h, cond_false]
    obtain rfl : j = g.f1.length := by omega
    exact go T hT
  intro m
  induction m with
  | zero => intro j T h hj hT; exact fin j T (by omega) hj hT
  | succ m ih =>
    intro j T h hle hT
    by_cases hj : j < g.f1.length
    case neg => exact fin j T hj hle hT
    have hm := hg.e400
    obtain ⟨n1, n2⟩ := hg.ends _ (List.getElem_mem hj)
    have hop := oc_pos hj
    have hol := oc_le g g.f1[j].f2
    refine Ev.step ?_
    simp only [impl_RankOf_O.l5, ltd hj, cond_true, ixg hj, Option.bind_some, hA _ n1, hC, quo_q (x := R g.f1[j].f2) (o := (ocn g g.f1[j].f2 : Int)) (by omega) (by omega), wup hj (show g.f1.length ≤ 2000000 by omega), hT _ n2]
    refine ih (j + 1) _ (by omega) (by omega) (fun id hid => ?_)
    simp only [tget_tput, es_step hj]
    by_cases e : id = g.f1[j].f3
    · rw [if_pos e, if_pos e.symm, wr_add, e, Int.add_assoc]
    · rw [if_neg e, if_neg (fun e' => e e'.symm), hT _ hid, Int.add_zero]
theorem i_l4 (hg : GOk g) (hn0 : 0 < g.f0.length) (go : ∀ T, RkI g (fun _ => IntKind.i64.wrap (bbR g + lsum g R g.f0.length)) T → Ev (fun k => impl_RankOf_O.l5 k g v1 v12 0 C A T) Z) :
   ∀ (m i : Nat) (T : List (Int × Int)), g.f0.length - i ≤ m → i ≤ g.f0.length → (∀ x ∈ g.f0.take i, tget T x.f0 0 = IntKind.i64.wrap (bbR g + lsum g R g.f0.length)) → Ev (fun k => impl_RankOf_O.l4 k g (IntKind.i64.wrap (lsum g R g.f0.length)) v1 v12 (i : Int) C A T) Z := by
  have fin : ∀ (i : Nat) (T : List (Int × Int)), ¬ i < g.f0.length → (∀ x ∈ g.f0.take i, tget T x.f0 0 = IntKind.i64.wrap (bbR g + lsum g R g.f0.length)) → Ev (fun k => impl_RankOf_O.l4 k g (IntKind.i64.wrap (lsum g R g.f0.length)) v1 v12 (i : Int) C A T) Z := fun i T h hT => by
    refine Ev.step ?_
    simp only [impl_RankOf_O.l4, ltn h, cond_false]
    rw [List.take_of_length_le (by omega)] at hT
    refine go T (fun id hid => ?_)
    obtain ⟨x, hx, rfl⟩ := List.mem_map.1 hid
    exact hT x hx
  intro m
  induction m with
  | zero => intro i T h hi hT; exact fin i T (by omega) hT
  | succ m ih =>
    intro i T h hle hT
    by_cases hi : i < g.f0.length
    case neg => exact fin i T hi hT
    have hn := hg.n200
    refine Ev.step ?_
    simp only [impl_RankOf_O.l4, ltd hi, cond_true, ixg hi, Option.bind_some, quo_n 150000 hn0, wup hi (show g.f0.length ≤ 2000000 by omega)]
    refine ih (i + 1) _ (by omega) (by omega) (fun x hx => ?_)
    rw [tget_tput]
    by_cases e : x.f0 = g.f0[i].f0
    · rw [if_pos e]
      unfold bbR
      have := wr_mod (lsum g R g.f0.length)
      exact wr_of (by omega)
    · rw [if_neg e]
      rw [List.take_succ_eq_append_getElem hi] at hx
      rcases List.mem_append.1 hx with hx | hx
      · exact hT x hx
      · exact absurd (by rw [List.mem_singleton.1 hx]) e
theorem i_l3 (hg : GOk g) (hC : ∀ id, tget C id 0 = (ocn g id : Int)) (hA : RkI g R A) (go : Ev (fun k => impl_RankOf_O.l4 k g (IntKind.i64.wrap (lsum g R g.f0.length)) v1 v12 0 C A []) Z) :
   ∀ (m i : Nat), g.f0.length - i ≤ m → i ≤ g.f0.length → Ev (fun k => impl_RankOf_O.l3 k g (IntKind.i64.wrap (lsum g R i)) v1 v12 (i : Int) C A) Z := by
  have fin : ∀ i : Nat, ¬ i < g.f0.length → i ≤ g.f0.length → Ev (fun k => impl_RankOf_O.l3 k g (IntKind.i64.wrap (lsum g R i)) v1 v12 (i : Int) C A) Z := fun i h hi => by
    refine Ev.step ?_
    obtain rfl : i = g.f0.length := by omega
    simp only [impl_RankOf_O.l3, ltn h, cond_false]
    exact go
  intro m
  induction m with
  | zero => intro i h hi; exact fin i (by omega) hi
  | succ m ih =>
    intro i h hle
    by_cases hi : i < g.f0.length
    case neg => exact fin i hi hle
    have hn := hg.n200
    have nxt := ih (i + 1) (by omega) (by omega)
    rw [ls_step hi] at nxt
    refine Ev.step ?_
    simp only [impl_RankOf_O.l3, ltd hi, cond_true, ixg hi, Option.bind_some, hC, hA _ (gN_mem hi)]
    by_cases h0 : ocn g g.f0[i].f0 = 0
    · rw [if_pos h0] at nxt
      simp only [h0, show (((0 : Nat) : Int) == 0) = true from rfl, cond_true, quo_q (x := R g.f0[i].f0) (o := (g.f0.length : Int)) (by omega) (by omega), Option.bind_some, wr_add]
      refine Ev.step ?_
      simp only [impl_RankOf_O.j0, wup hi (show g.f0.length ≤ 2000000 by omega)]
      exact nxt
    · rw [if_neg h0, Int.add_zero] at nxt
      simp only [show ((ocn g g.f0[i].f0 : Int) == 0) = false by simp; omega, cond_false]
      refine Ev.step ?_
      simp only [impl_RankOf_O.j0, wup hi (show g.f0.length ≤ 2000000 by omega)]
      exact nxt
theorem parts_i (hg : GOk g) (hA : RkI g R A) : ∀ (m i : Nat), g.f0.length - i ≤ m → i ≤ g.f0.length → Ev (fun k => impl_perNode_O.l0 k ((partsR g R).take i) g (i : Int) A) (partsR g R, A) := by
  have hl : (partsR g R).length = g.f0.length := by unfold partsR; rw [List.length_map]
  have fin : ∀ i : Nat, ¬ i < g.f0.length → Ev (fun k => impl_perNode_O.l0 k ((partsR g R).take i) g (i : Int) A) (partsR g R, A) := fun i h => by
    refine Ev.step ?_
    simp only [impl_perNode_O.l0, ltn h, cond_false]
    rw [List.take_of_length_le (by omega)]
    exact Ev.ret _
  intro m
  induction m with
  | zero => intro i h hle; exact fin i (by omega)
  | succ m ih =>
    intro i h hle
    by_cases hi : i < g.f0.length
    case neg => exact fin i hi
    have hn := hg.n200
    refine Ev.step ?_
    simp only [impl_perNode_O.l0, ltd hi, cond_true, ixg hi, Option.bind_some, impl_RankOf_1.f, hA _ (gN_mem hi), wup hi (show g.f0.length ≤ 2000000 by omega)]
    have hp : i < (partsR g R).length := by omega
    rw [app_one _ (by rw [List.length_take]; omega)]
    simp only [Option.bind_some]
    have := ih (i + 1) (by omega) (by omega)
    rw [List.take_succ_eq_append_getElem hp] at this
    simpa [partsR] using this
theorem i_l2 (hg : GOk g) (hn0 : 0 < g.f0.length) (hC : ∀ id, tget C id 0 = (ocn g id : Int)) {N : Nat} (hN : N ≤ 50) : ∀ (r i : Nat) (R : Int → Int) (A : List (Int × Int)), i + r = N → RkI g R A → Ev (fun k => impl_RankOf_O.l2 k g (N : Int) (i : Int) C A) (partsR g (rounds g r R)) := by
  intro r
  induction r with
  | zero =>
    intro i R A hi hA
    refine Ev.step ?_
    simp only [impl_RankOf_O.l2, ltn (show ¬ i < N by omega), cond_false]
    have : Ev (fun k => impl_perNode_O.f k g A) (partsR g R, A) := Ev.step (by
      simp only [impl_perNode_O.f]
      exact parts_i hg hA _ 0 (Nat.le_refl _) (Nat.zero_le _))
    exact Ev.bind this (Ev.ret _)
  | succ r ih =>
    intro i R A hi hA
    refine Ev.step ?_
    simp only [impl_RankOf_O.l2, ltd (show i < N by omega), cond_true]
    have h3 := i_l3 (v12 := (i : Int)) (v1 := (N : Int)) (Z := partsR g (rounds g (r + 1) R)) hg hC hA (i_l4 hg hn0 (fun T hT => i_l5 hg hC hA (fun T' hT' => by
        rw [wup (show i < N by omega) (by omega)]
        exact ih (i + 1) (nxR g R) T' (by omega) hT') _ 0 T (Nat.le_refl _) (Nat.zero_le _) (fun id hid => by simp only [hT id hid, esum, Int.add_zero])) _ 0 [] (Nat.le_refl _) (Nat.zero_le _) (fun x hx => by simp at hx)) _ 0 (Nat.le_refl _) (Nat.zero_le _)
    rw [lsum, wI (by omega) (by omega)] at h3
    exact h3
theorem rank_i (hg : GOk g) (hn0 : 0 < g.f0.length) {r : Nat} (hr : r ≤ 50) : Ev (fun k => impl_RankOf_O.l0 k (r : Int) g 0 []) (partsR g (rounds g r (r0 g))) := by
  have hn := hg.n200
  have hm := hg.e400
  have L1 : ∀ (C : List (Int × Int)), (∀ id, tget C id 0 = (ocn g id : Int)) → ∀ (m i : Nat) (T : List (Int × Int)), g.f0.length - i ≤ m → i ≤ g.f0.length → (∀ x ∈ g.f0.take i, tget T x.f0 0 = r0 g x.f0) → Ev (fun k => impl_RankOf_O.l1 k (r : Int) g (i : Int) C T) (partsR g (rounds g r (r0 g))) := fun C hC => by
    have fin : ∀ (i : Nat) (T : List (Int × Int)), ¬ i < g.f0.length → (∀ x ∈ g.f0.take i, tget T x.f0 0 = r0 g x.f0) → Ev (fun k => impl_RankOf_O.l1 k (r : Int) g (i : Int) C T) (partsR g (rounds g r (r0 g))) := fun i T h hT => by
      refine Ev.step ?_
      simp only [impl_RankOf_O.l1, ltn h, cond_false]
      rw [List.take_of_length_le (by omega)] at hT
      exact i_l2 hg hn0 hC hr r 0 (r0 g) T (by omega) (fun id hid => by
        obtain ⟨x, hx, rfl⟩ := List.mem_map.1 hid
        exact hT x hx)
    intro m
    induction m with
    | zero => intro i T h hi hT; exact fin i T (by omega) hT
    | succ m ih =>
      intro i T h hle hT
      by_cases hi : i < g.f0.length
      case neg => exact fin i T hi hT
      refine Ev.step ?_
      simp only [impl_RankOf_O.l1, ltd hi, cond_true, ixg hi, Option.bind_some, quo_n 1000000 hn0, wup hi (show g.f0.length ≤ 2000000 by omega)]
      refine ih (i + 1) _ (by omega) (by omega) (fun x hx => ?_)
      rw [tget_tput]
      by_cases e : x.f0 = g.f0[i].f0
      · rw [if_pos e]; rfl
      · rw [if_neg e]
        rw [List.take_succ_eq_append_getElem hi] at hx
        rcases List.mem_append.1 hx with hx | hx
        · exact hT x hx
        · exact absurd (by rw [List.mem_singleton.1 hx]) e
  have L0 : ∀ (m j : Nat) (T : List (Int × Int)), g.f1.length - j ≤ m → j ≤ g.f1.length → (∀ id, tget T id 0 = (((g.f1.take j).filter (fun e => e.f2 == id)).length : Int)) → Ev (fun k => impl_RankOf_O.l0 k (r : Int) g (j : Int) T) (partsR g (rounds g r (r0 g))) := by
    have fin : ∀ (j : Nat) (T : List (Int × Int)), ¬ j < g.f1.length → (∀ id, tget T id 0 = (((g.f1.take j).filter (fun e => e.f2 == id)).length : Int)) → Ev (fun k => impl_RankOf_O.l0 k (r : Int) g (j : Int) T) (partsR g (rounds g r (r0 g))) := fun j T h hT => by
      refine Ev.step ?_
      simp only [impl_RankOf_O.l0, ltn h, cond_false]
      rw [List.take_of_length_le (by omega)] at hT
      exact L1 T hT _ 0 [] (Nat.le_refl _) (Nat.zero_le _) (fun x hx => by simp at hx)
    intro m
    induction m with
    | zero => intro j T h hj hT; exact fin j T (by omega) hT
    | succ m ih =>
      intro j T h hle hT
      by_cases hj : j < g.f1.length
      case neg => exact fin j T hj hT
      have hc : ((g.f1.take j).filter (fun e => e.f2 == g.f1[j].f2)).length ≤ 400 := Nat.le_trans (List.length_filter_le _ _) (by rw [List.length_take]; omega)
      refine Ev.step ?_
      simp only [impl_RankOf_O.l0, ltd hj, cond_true, ixg hj, Option.bind_some, hT, wup hj (show g.f1.length ≤ 2000000 by omega)]
      rw [wI (by omega) (by omega)]
      refine ih (j + 1) _ (by omega) (by omega) (fun id => ?_)
      rw [tget_tput, List.take_succ_eq_append_getElem hj, List.filter_append, List.length_append]
      by_cases e : id = g.f1[j].f2
      · rw [if_pos e, e]; simp
      · rw [if_neg e, hT]
        have : (g.f1[j].f2 == id) = false := by simpa using fun e' => e e'.symm
        simp [this]
  exact L0 _ 0 [] (Nat.le_refl _) (Nat.zero_le _) (fun id => by simp [tget, tfind])
end
theorem rank2 (g : S31) (v : Int) : ∃ Z : List S59, Z.length ≤ 2000000 ∧ Ev (fun k => spec_RankOf_O.f k g v) Z ∧ Ev (fun k => impl_RankOf_O.f k g v) Z := by
  obtain ⟨c, hc, s1, s2⟩ := graphP g
  cases c with
  | true =>
    have hg := hc rfl
    simp only [if_true] at s1
    by_cases h1 : v < 0
    · refine ⟨[], by simp, Ev.step ?_, Ev.step ?_⟩
      · simp only [spec_RankOf_O.f]; refine Ev.bind s1 ?_
        simp only [beq_self_eq_true, cond_true, decide_eq_true h1]; exact Ev.ret _
      · simp only [impl_RankOf_O.f]; refine Ev.bind s2 ?_
        simp only [cond_true, decide_eq_true h1]; exact Ev.ret _
    by_cases h2 : 50 < v
    · refine ⟨[], by simp, Ev.step ?_, Ev.step ?_⟩
      · simp only [spec_RankOf_O.f]; refine Ev.bind s1 ?_
        simp only [beq_self_eq_true, cond_true, cond_false, decide_eq_false h1, decide_eq_true h2]; exact Ev.ret _
      · simp only [impl_RankOf_O.f]; refine Ev.bind s2 ?_
        simp only [cond_true, cond_false, decide_eq_false h1, decide_eq_true h2]; exact Ev.ret _
    by_cases h3 : g.f0.length = 0
    · refine ⟨[], by simp, Ev.step ?_, Ev.step ?_⟩
      · simp only [spec_RankOf_O.f]; refine Ev.bind s1 ?_
        simp only [beq_self_eq_true, cond_true, cond_false, decide_eq_false h1, decide_eq_false h2, h3, show (((0 : Nat) : Int) == 0) = true from rfl]; exact Ev.ret _
      · simp only [impl_RankOf_O.f]; refine Ev.bind s2 ?_
        simp only [cond_true, cond_false, decide_eq_false h1, decide_eq_false h2, h3, show (((0 : Nat) : Int) == 0) = true from rfl]; exact Ev.ret _
    obtain ⟨r, rfl⟩ : ∃ r : Nat, v = (r : Int) := ⟨v.toNat, by omega⟩
    have hn := hg.n200
    have e3 : ((g.f0.length : Int) == 0) = false := by rw [beq_eq_false_iff_ne]; omega
    refine ⟨partsR g (rounds g r (r0 g)), by unfold partsR; rw [List.length_map]; omega, Ev.step ?_, Ev.step ?_⟩
    · simp only [spec_RankOf_O.f]; refine Ev.bind s1 ?_
      simp only [beq_self_eq_true, cond_true, cond_false, decide_eq_false h1, decide_eq_false h2, e3]
      exact rank_s hg (by omega) (by omega)
    · simp only [impl_RankOf_O.f]; refine Ev.bind s2 ?_
      simp only [cond_true, cond_false, decide_eq_false h1, decide_eq_false h2, e3]
      exact rank_i hg (by omega) (by omega)
  | false =>
    refine ⟨[], by simp, Ev.step ?_, Ev.step ?_⟩
    · simp only [spec_RankOf_O.f]; exact Ev.bind s1 (Ev.ret _)
    · simp only [impl_RankOf_O.f]; exact Ev.bind s2 (Ev.ret _)
theorem lftR : Lft 1048576 := by unfold Lft; omega
theorem said_FnExactRankOf (x : S24) (h : wf24 x) (v : Int) (hv : InK .i64 v) : ∃ k, laws_FnExactRankOf.f k x v = some true := by
  refine Ev.at_ (f := fun k => laws_FnExactRankOf.f k x v) ?_
  unfold laws_FnExactRankOf.f
  obtain ⟨r, h1, h2, h3⟩ := sz_Graph x h lftR
  refine Ev.bind h1 ?_
  by_cases hr : r < 0
  · simp only [decide_eq_true hr, cond_true]; exact Ev.ret _
  have hb := h3 (by omega)
  obtain ⟨R, hR, s1, s2⟩ := rank2 (trGraph x) v
  obtain ⟨m, m1, m2, m3⟩ := mk_Graph x hb 1 (by omega) (by omega)
  obtain ⟨v', q, q1, q2, q3⟩ := mh_PartS R 1 hR (by omega) (by omega)
  have e := eqb_PartS R hR
  simp only [decide_eq_false hr, cond_false]
  refine Ev.bind (to_Graph x hb) (Ev.bind s1 (Ev.bind (to_Graph x hb) (Ev.bind s2 (Ev.bind e ?_))))
  simp only [cond_true]
  refine Ev.bind (to_Graph x hb) (Ev.bind (eq_Graph x hb) ?_)
  simp only [cond_true]
  refine Ev.bind m1 ?_
  simp only [decide_eq_false (show ¬ m < 0 by omega), cond_false]
  refine Ev.bind e ?_
  simp only [cond_true]
  refine Ev.bind q2 (Ev.bind q3 ?_)
  simp only [decide_eq_false (show ¬ q < 0 by omega), cond_false, beq_self_eq_true, cond_true]
  refine Ev.bind (to_Graph x hb) (Ev.bind s2 (Ev.bind e ?_))
  simp only [cond_true]
  refine Ev.bind q3 ?_
  simp only [decide_eq_false (show ¬ q < 0 by omega), cond_false, beq_self_eq_true, cond_true]
  exact Ev.ret _
end Go.Ab
