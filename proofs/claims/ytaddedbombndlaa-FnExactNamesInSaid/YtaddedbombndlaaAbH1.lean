/- Sizes, copies and comparisons of the arguments of FnExactNamesIn. No condition. -/
import Derived.Test.YtaddedbombndlaaAbH0
import Derived.Test.YtaddedbombndlaaAbNO
namespace Go.Ab
open Go.Proofs
set_option linter.unusedVariables false
set_option linter.unusedSimpArgs false
def wf124 (x : S124) : Prop := Str x.f0 ∧ Str x.f1
def wf127 (x : S127) : Prop := Str x.f0 ∧ (Lst Str) x.f1 ∧ (InK .i64) x.f2 ∧ Any x.f3 ∧ (InK .i64) x.f4 ∧ (InK .i64) x.f5
def wf43 (x : S43) : Prop := Str x.f0 ∧ (InK .i64) x.f1 ∧ Any x.f2 ∧ (Lst wf124) x.f3 ∧ (Lst wf127) x.f4
def bdPatNode (x : S124) : Prop := x.f0.size ≤ 1048576 ∧ x.f1.size ≤ 1048576 ∧ True
theorem sz_PatNode (x : S124) (h : wf124 x) {a : Int} (ha : Lft a) : Sz (fun k => laws_szPatNode.f k x a) a (bdPatNode x) := by
  simp only [laws_szPatNode.f]; unfold bdPatNode
  exact Sz.len ha (fun _ h1 => Sz.len h1 (fun _ h2 => Sz.ret) h.2) h.1
def bdPatNodeS (v : (List S124)) : Prop := v.length ≤ 1048576 ∧ ∀ x ∈ v, bdPatNode x
theorem sz_PatNodeS (v : (List S124)) (h : Lst wf124 v) {a : Int} (ha : Lft a) : Sz (fun k => laws_szPatNodeS.f k v a) a (bdPatNodeS v) := Sz.slice (l := laws_szPatNodeS.l0) h.1 (fun _ _ _ => by simp only [laws_szPatNodeS.f]) (fun hl => Sz.loop (fun _ _ _ _ => by simp only [laws_szPatNodeS.l0]) (fun x a hx ha => sz_PatNode x hx ha) v h.2 hl) ha
def bdStringS (v : (List ByteArray)) : Prop := v.length ≤ 1048576 ∧ ∀ x ∈ v, x.size ≤ 1048576
theorem sz_StringS (v : (List ByteArray)) (h : Lst Str v) {a : Int} (ha : Lft a) : Sz (fun k => laws_szStringS.f k v a) a (bdStringS v) := Sz.slice (l := laws_szStringS.l0) h.1 (fun _ _ _ => by simp only [laws_szStringS.f]) (fun hl => Sz.strs (fun _ _ _ _ => by simp only [laws_szStringS.l0]) v h.2 hl) ha
def bdPatEdge (x : S127) : Prop := x.f0.size ≤ 1048576 ∧ bdStringS x.f1 ∧ True
theorem sz_PatEdge (x : S127) (h : wf127 x) {a : Int} (ha : Lft a) : Sz (fun k => laws_szPatEdge.f k x a) a (bdPatEdge x) := by
  simp only [laws_szPatEdge.f]; unfold bdPatEdge
  exact Sz.len ha (fun _ h1 => Sz.call h1 (sz_StringS _ h.2.1 h1) fun v2 h2 => Sz.ret) h.1
def bdPatEdgeS (v : (List S127)) : Prop := v.length ≤ 1048576 ∧ ∀ x ∈ v, bdPatEdge x
theorem sz_PatEdgeS (v : (List S127)) (h : Lst wf127 v) {a : Int} (ha : Lft a) : Sz (fun k => laws_szPatEdgeS.f k v a) a (bdPatEdgeS v) := Sz.slice (l := laws_szPatEdgeS.l0) h.1 (fun _ _ _ => by simp only [laws_szPatEdgeS.f]) (fun hl => Sz.loop (fun _ _ _ _ => by simp only [laws_szPatEdgeS.l0]) (fun x a hx ha => sz_PatEdge x hx ha) v h.2 hl) ha
def bdPattern (x : S43) : Prop := x.f0.size ≤ 1048576 ∧ bdPatNodeS x.f3 ∧ bdPatEdgeS x.f4 ∧ True
theorem sz_Pattern (x : S43) (h : wf43 x) {a : Int} (ha : Lft a) : Sz (fun k => laws_szPattern.f k x a) a (bdPattern x) := by
  simp only [laws_szPattern.f]; unfold bdPattern
  exact Sz.len ha (fun _ h1 => Sz.call h1 (sz_PatNodeS _ h.2.2.2.1 h1) fun v2 h2 => Sz.call h2 (sz_PatEdgeS _ h.2.2.2.2 h2) fun v3 h3 => Sz.ret) h.1
def trPatNode (x : S124) : S124 := x
theorem to_PatNode (x : S124) (h : bdPatNode x) : Ev (fun k => laws_toPatNode.f k x) (trPatNode x) := by
  simp only [laws_toPatNode.f, trPatNode]; exact Ev.ret _
theorem eq_PatNode (x : S124) (h : bdPatNode x) : Ev (fun k => laws_eqPatNode.f k (trPatNode x) (trPatNode x)) true := by
  simp only [laws_eqPatNode.f, trPatNode, beq_self_eq_true, decide_true, cond_true]
  exact Ev.ret _
theorem to_PatNodeS (v : (List S124)) (h : bdPatNodeS v) : Ev (fun k => laws_toPatNodeS.f k v) (v.map trPatNode) := to_f (l := laws_toPatNodeS.l0) h.1 (fun _ _ => by simp only [laws_toPatNodeS.f]; rfl) (to_loop (B := bdPatNode) (fun _ _ _ _ _ => by simp only [laws_toPatNodeS.l0]) (fun x hx => to_PatNode x hx) v h.2 h.1)
theorem eq_PatNodeS (v : (List S124)) (h : bdPatNodeS v) : Ev (fun k => laws_eqPatNodeS.f k (v.map trPatNode) (v.map trPatNode)) true := eq_f (l := laws_eqPatNodeS.l0) (fun _ _ _ => by simp only [laws_eqPatNodeS.f]) (eq_loop (e := laws_eqPatNode.f) (fun _ _ _ _ => by simp only [laws_eqPatNodeS.l0]) _ (by intro y hy; obtain ⟨x, hx, rfl⟩ := List.mem_map.1 hy; exact eq_PatNode x (h.2 x hx)) (by simpa using h.1))
theorem to_StringS (v : (List ByteArray)) (h : bdStringS v) : Ev (fun k => laws_toStringS.f k v) v := by
  have := to_f (f := laws_toStringS.f) (l := laws_toStringS.l0) (tr := id) h.1 (fun _ _ => by simp only [laws_toStringS.f]; rfl) (to_strs (fun _ _ _ _ _ => by simp only [laws_toStringS.l0]) v h.1)
  rwa [List.map_id] at this
theorem eq_StringS (v : (List ByteArray)) (h : bdStringS v) : Ev (fun k => laws_eqStringS.f k v v) true := eq_f (l := laws_eqStringS.l0) (fun _ _ _ => by simp only [laws_eqStringS.f]) (eq_strs (fun _ _ _ _ => by simp only [laws_eqStringS.l0]) _ h.1)
def trPatEdge (x : S127) : S127 := ⟨x.f0, x.f1, x.f2, x.f3, x.f4, x.f5⟩
theorem to_PatEdge (x : S127) (h : bdPatEdge x) : Ev (fun k => laws_toPatEdge.f k x) (trPatEdge x) := by
  simp only [laws_toPatEdge.f, trPatEdge]; exact Ev.bind (to_StringS _ h.2.1) (Ev.ret _)
theorem eq_PatEdge (x : S127) (h : bdPatEdge x) : Ev (fun k => laws_eqPatEdge.f k (trPatEdge x) (trPatEdge x)) true := by
  simp only [laws_eqPatEdge.f, trPatEdge, beq_self_eq_true, decide_true, cond_true]
  refine Ev.bind (eq_StringS _ h.2.1) ?_
  simp only [beq_self_eq_true, decide_true, cond_true]
  exact Ev.ret _
theorem to_PatEdgeS (v : (List S127)) (h : bdPatEdgeS v) : Ev (fun k => laws_toPatEdgeS.f k v) (v.map trPatEdge) := to_f (l := laws_toPatEdgeS.l0) h.1 (fun _ _ => by simp only [laws_toPatEdgeS.f]; rfl) (to_loop (B := bdPatEdge) (fun _ _ _ _ _ => by simp only [laws_toPatEdgeS.l0]) (fun x hx => to_PatEdge x hx) v h.2 h.1)
theorem eq_PatEdgeS (v : (List S127)) (h : bdPatEdgeS v) : Ev (fun k => laws_eqPatEdgeS.f k (v.map trPatEdge) (v.map trPatEdge)) true := eq_f (l := laws_eqPatEdgeS.l0) (fun _ _ _ => by simp only [laws_eqPatEdgeS.f]) (eq_loop (e := laws_eqPatEdge.f) (fun _ _ _ _ => by simp only [laws_eqPatEdgeS.l0]) _ (by intro y hy; obtain ⟨x, hx, rfl⟩ := List.mem_map.1 hy; exact eq_PatEdge x (h.2 x hx)) (by simpa using h.1))
def trPattern (x : S43) : S49 := ⟨x.f0, x.f1, x.f2, (x.f3.map trPatNode), (x.f4.map trPatEdge)⟩
theorem to_Pattern (x : S43) (h : bdPattern x) : Ev (fun k => laws_toPattern.f k x) (trPattern x) := by
  simp only [laws_toPattern.f, trPattern]; exact Ev.bind (to_PatNodeS _ h.2.1) (Ev.bind (to_PatEdgeS _ h.2.2.1) (Ev.ret _))
theorem eq_Pattern (x : S43) (h : bdPattern x) : Ev (fun k => laws_eqPattern.f k (trPattern x) (trPattern x)) true := by
  simp only [laws_eqPattern.f, trPattern, beq_self_eq_true, decide_true, cond_true]
  refine Ev.bind (eq_PatNodeS _ h.2.1) ?_
  simp only [beq_self_eq_true, decide_true, cond_true]
  refine Ev.bind (eq_PatEdgeS _ h.2.2.1) ?_
  simp only [beq_self_eq_true, decide_true, cond_true]
  exact Ev.ret _
end Go.Ab
namespace Go.Ab
open Go.Proofs
set_option linter.unusedVariables false
set_option linter.unusedSimpArgs false
theorem markText_fin (t : ByteArray) (h1 : (t.size : Int) ≤ 5000000000000000000) : ∃ r, Ev (fun k => laws_markText.l0 k 0 t) r := by
  refine ⟨(⟨#[109]⟩ : ByteArray) ++ t, Ev.step ?_⟩
  have hs1 : (⟨#[109]⟩ : ByteArray).size = 1 := rfl
  have e : cat (⟨#[109]⟩ : ByteArray) t = some ((⟨#[109]⟩ : ByteArray) ++ t) := by unfold cat; rw [if_pos (by omega)]
  simp only [laws_markText.l0, Int.lt_irrefl, decide_false, cond_false, e, Option.bind_some]
  exact Ev.ret _
theorem markText_l0 : ∀ (n : Nat) (a : Int) (t : ByteArray), a.toNat ≤ n → 0 ≤ a → a + t.size ≤ 5000000000000000000 → ∃ r, Ev (fun k => laws_markText.l0 k a t) r := by
  intro n
  induction n with
  | zero =>
    intro a t h h0 h1
    have : a = 0 := by omega
    subst this
    exact markText_fin t (by omega)
  | succ n ih =>
    intro a t h h0 h1
    by_cases ha : 0 < a
    · have e1 : rem a 10 = some (a.tmod 10) := by unfold Ab.rem; rw [if_neg (by decide)]
      have e2 : quo .i64 a 10 = some (a.tdiv 10) := by
        unfold quo; rw [if_neg (by decide), wI]
        · have : 0 ≤ a.tdiv 10 := Int.tdiv_nonneg h0 (by decide)
          omega
        · rw [Int.tdiv_eq_ediv_of_nonneg h0]; omega
      have hb : ∀ x : Int, (bstr [x]).size = 1 := fun x => rfl
      have hd : a.tdiv 10 + 1 ≤ a ∧ 0 ≤ a.tdiv 10 := by rw [Int.tdiv_eq_ediv_of_nonneg h0]; omega
      obtain ⟨r, hr⟩ := ih (a.tdiv 10) (bstr [IntKind.u8.wrap (IntKind.i64.wrap (48 + a.tmod 10))] ++ t) (by omega) (by omega) (by rw [ByteArray.size_append, hb]; omega)
      refine ⟨r, Ev.step ?_⟩
      simp only [laws_markText.l0, decide_eq_true ha, cond_true, e1, e2, Option.bind_some]
      unfold cat
      rw [if_pos (by rw [hb]; omega)]
      exact hr
    · have : a = 0 := by omega
      subst this
      exact markText_fin t (by omega)
theorem markText_ev (a : Int) (h0 : 0 ≤ a) (h1 : a ≤ 4600000000000000000) : ∃ r, Ev (fun k => laws_markText.f k a) r := by
  by_cases h : a ≤ 0
  · exact ⟨_, Ev.step (by simp only [laws_markText.f, decide_eq_true h, cond_true]; exact Ev.ret _)⟩
  · obtain ⟨r, hr⟩ := markText_l0 a.toNat a (⟨#[]⟩ : ByteArray) (Nat.le_refl _) h0 (by have : (⟨#[]⟩ : ByteArray).size = 0 := rfl; omega)
    exact ⟨r, Ev.step (by simp only [laws_markText.f, decide_eq_false h, cond_false]; exact hr)⟩
theorem wm1 {a : Int} (h0 : 0 ≤ a) (h1 : a ≤ 4600000000000000000) : IntKind.i64.wrap (a + 1) = a + 1 := wI (by omega) (by omega)
/-- Marks are counted up, by at most so many. -/
def Mk (f : Nat → Int → Option Int) (B : Int) : Prop := ∀ c, 0 ≤ c → c + B ≤ 4500000000000000000 → ∃ r, Ev (fun k => f k c) r ∧ c ≤ r ∧ r ≤ c + B
theorem Mk.loop {α : Type} {l : Nat → List α → Int → Int → Option Int} {body : Nat → List α → Int → Int → Option Int} {v : List α} {Be : Int} (hBe : 0 ≤ Be)
    (hl : ∀ k c i, l (k + 1) v c i = bif decide (i < (v.length : Int)) then body k v c i else some c)
    (hb : ∀ (i : Nat), i < v.length → ∀ c, 0 ≤ c → c + Be ≤ 4500000000000000000 → ∃ c', c ≤ c' ∧ c' ≤ c + Be ∧ ∀ R, Ev (fun k => l k v c' ((i + 1 : Nat) : Int)) R → Ev (fun k => body k v c (i : Int)) R) :
    ∀ (n i : Nat) (c : Int), v.length - i ≤ n → 0 ≤ c → c + (n : Int) * Be ≤ 4500000000000000000 → ∃ r, Ev (fun k => l k v c (i : Int)) r ∧ c ≤ r ∧ r ≤ c + (n : Int) * Be := by
  intro n
  induction n with
  | zero =>
    intro i c h h0 h1
    refine ⟨c, Ev.step ?_, Int.le_refl _, by simp⟩
    simp only [hl, ltn (show ¬ i < v.length by omega), cond_false]; exact Ev.ret _
  | succ n ih =>
    intro i c h h0 h1
    have e : ((n + 1 : Nat) : Int) * Be = (n : Int) * Be + Be := by rw [Int.natCast_succ, Int.add_mul, Int.one_mul]
    have hp : 0 ≤ (n : Int) * Be := Int.mul_nonneg (by omega) hBe
    rw [e] at h1
    by_cases hi : i < v.length
    · obtain ⟨c', q1, q2, q3⟩ := hb i hi c h0 (by omega)
      obtain ⟨r, r1, r2, r3⟩ := ih (i + 1) c' (by omega) (by omega) (by omega)
      refine ⟨r, Ev.step ?_, by omega, by omega⟩
      simp only [hl, ltd hi, cond_true]; exact q3 _ r1
    · refine ⟨c, Ev.step ?_, Int.le_refl _, by omega⟩
      simp only [hl, ltn hi, cond_false]; exact Ev.ret _
theorem Mk.slice {α : Type} {f : Nat → List α → Int → Option Int} {l : Nat → List α → Int → Int → Option Int} {body : Nat → List α → Int → Int → Option Int} {v : List α} {Be : Int} (hv : v.length ≤ 1048576) (hBe : 0 ≤ Be)
    (hf : ∀ k c, f (k + 1) v c = l k v c 0) (hl : ∀ k c i, l (k + 1) v c i = bif decide (i < (v.length : Int)) then body k v c i else some c)
    (hb : ∀ (i : Nat), i < v.length → ∀ c, 0 ≤ c → c + Be ≤ 4500000000000000000 → ∃ c', c ≤ c' ∧ c' ≤ c + Be ∧ ∀ R, Ev (fun k => l k v c' ((i + 1 : Nat) : Int)) R → Ev (fun k => body k v c (i : Int)) R) :
    Mk (fun k c => f k v c) (1048576 * Be) := fun c h0 h1 => by
  have hle : (v.length : Int) * Be ≤ 1048576 * Be := Int.mul_le_mul_of_nonneg_right (by omega) hBe
  obtain ⟨r, r1, r2, r3⟩ := Mk.loop hBe hl hb v.length 0 c (by omega) h0 (by omega)
  exact ⟨r, Ev.step (by simp only [hf]; exact r1), r2, by omega⟩
/-- A mark in rows is there again. -/
theorem setr_get {α : Type} {w : List α} {i : Nat} {x : α} (h : i < w.length) : (setr w i x)[i]? = some x := by
  unfold setr; rw [List.getElem?_set_self h]
theorem setr_two {α : Type} {w : List α} {i : Nat} {x y : α} : setr (setr w i x) i y = setr w i y := by
  unfold setr; rw [List.set_set]
theorem setr_len {α : Type} {w : List α} {i : Nat} {x : α} : (setr w i x).length = w.length := by unfold setr; rw [List.length_set]
/-- Rows that are marked, and are held to be. -/
def Mh {α : Type} (m : Nat → Nat → Int → List α → Option (Int × List α)) (h : Nat → Nat → Int → List α → Option Int) : Prop :=
  ∀ (v : List α) (c : Int), v.length ≤ 2000000 → 0 ≤ c → c ≤ 1000000000000 → ∃ v' r, 0 ≤ r ∧ Ev (fun k => m k v.length c v) (r, v') ∧ Ev (fun k => h k v.length c v') r
theorem Mh.loop {α : Type} {ml : Nat → Nat → Int → Int → List α → Option (Int × List α)} {hl : Nat → Nat → Int → Int → List α → Option Int} {N : Nat} {Be : Int} (hBe : 0 ≤ Be ∧ Be ≤ 1000)
    (hN : N ≤ 2000000)
    (step : ∀ (w : List α) (i : Nat) (c : Int), w.length = N → i < N → 0 ≤ c → c ≤ 4000000000000000000 → ∃ x c', c ≤ c' ∧ c' ≤ c + Be ∧
      (∀ R, Ev (fun k => ml k N c' ((i + 1 : Nat) : Int) (setr w i x)) R → Ev (fun k => ml k N c (i : Int) w) R) ∧
      (∀ (v' : List α) R, v'[i]? = some x → Ev (fun k => hl k N c' ((i + 1 : Nat) : Int) v') R → Ev (fun k => hl k N c (i : Int) v') R))
    (stop : ∀ (w : List α) (i : Nat) (c : Int), ¬ i < N → Ev (fun k => ml k N c (i : Int) w) (c, w) ∧ Ev (fun k => hl k N c (i : Int) w) c) :
    ∀ (n i : Nat) (c : Int) (w : List α), N - i ≤ n → w.length = N → 0 ≤ c → c + (n : Int) * 1000 ≤ 4000000000000000000 → ∃ v' r, v'.length = N ∧ c ≤ r ∧ (∀ j, j < i → v'[j]? = w[j]?) ∧ Ev (fun k => ml k N c (i : Int) w) (r, v') ∧ Ev (fun k => hl k N c (i : Int) v') r := by
  intro n
  induction n with
  | zero =>
    intro i c w h hw h0 h1
    obtain ⟨q1, q2⟩ := stop w i c (by omega)
    exact ⟨w, c, hw, Int.le_refl _, fun _ _ => rfl, q1, q2⟩
  | succ n ih =>
    intro i c w h hw h0 h1
    by_cases hi : i < N
    · obtain ⟨x, c', q1, q2, q3, q4⟩ := step w i c hw hi h0 (by omega)
      obtain ⟨v', r, r1, r2, r3, r4, r5⟩ := ih (i + 1) c' (setr w i x) (by omega) (by rw [setr_len]; exact hw) (by omega) (by omega)
      refine ⟨v', r, r1, by omega, fun j hj => ?_, q3 _ r4, q4 _ _ (by rw [r3 i (by omega)]; exact setr_get (by omega)) r5⟩
      rw [r3 j (by omega)]; unfold setr; rw [List.getElem?_set_ne (by omega)]
    · obtain ⟨q1, q2⟩ := stop w i c hi
      exact ⟨w, c, hw, Int.le_refl _, fun _ _ => rfl, q1, q2⟩
theorem Mh.of {α : Type} {m : Nat → Nat → Int → List α → Option (Int × List α)} {h : Nat → Nat → Int → List α → Option Int} {ml : Nat → Nat → Int → Int → List α → Option (Int × List α)} {hl : Nat → Nat → Int → Int → List α → Option Int} {Be : Int} (hBe : 0 ≤ Be ∧ Be ≤ 1000)
    (hm : ∀ k N c w, m (k + 1) N c w = ml k N c 0 w) (hh : ∀ k N c w, h (k + 1) N c w = hl k N c 0 w)
    (step : ∀ (N : Nat) (w : List α) (i : Nat) (c : Int), N ≤ 2000000 → w.length = N → i < N → 0 ≤ c → c ≤ 4000000000000000000 → ∃ x c', c ≤ c' ∧ c' ≤ c + Be ∧
      (∀ R, Ev (fun k => ml k N c' ((i + 1 : Nat) : Int) (setr w i x)) R → Ev (fun k => ml k N c (i : Int) w) R) ∧
      (∀ (v' : List α) R, v'[i]? = some x → Ev (fun k => hl k N c' ((i + 1 : Nat) : Int) v') R → Ev (fun k => hl k N c (i : Int) v') R))
    (stop : ∀ (N : Nat) (w : List α) (i : Nat) (c : Int), ¬ i < N → Ev (fun k => ml k N c (i : Int) w) (c, w) ∧ Ev (fun k => hl k N c (i : Int) w) c) : Mh m h := fun v c hv h0 h1 => by
  obtain ⟨v', r, r1, r2, _, r4, r5⟩ := Mh.loop hBe hv (fun w i c => step v.length w i c hv) (fun w i c => stop v.length w i c) v.length 0 c v (by omega) rfl h0 (by omega)
  exact ⟨v', r, by omega, Ev.step (by simp only [hm]; exact r4), Ev.step (by simp only [hh]; exact r5)⟩
/-- Own rows compared with own rows. -/
theorem eqb_loop {α : Type} {l : Nat → Nat → Nat → Int → List α → List α → Option Bool} {v : List α} (hv : v.length ≤ 2000000)
    (step : ∀ (i : Nat), i < v.length → ∀ R, Ev (fun k => l k v.length v.length ((i + 1 : Nat) : Int) v v) R → Ev (fun k => l k v.length v.length (i : Int) v v) R)
    (stop : ∀ (i : Nat), ¬ i < v.length → Ev (fun k => l k v.length v.length (i : Int) v v) true) : ∀ (n i : Nat), v.length - i ≤ n → Ev (fun k => l k v.length v.length (i : Int) v v) true := by
  intro n
  induction n with
  | zero => intro i h; exact stop i (by omega)
  | succ n ih =>
    intro i h
    by_cases hi : i < v.length
    · exact step i hi _ (ih (i + 1) (by omega))
    · exact stop i hi
end Go.Ab
namespace Go.Ab
open Go.Proofs
set_option linter.unusedVariables false
set_option linter.unusedSimpArgs false
theorem rem3_ (a : Int) : rem a 3 = some (a.tmod 3) := rfl
theorem mh_StringS : Mh (fun k N c (w : List ByteArray) => laws_markStringS_bv.f k N c w) (fun k N c w => laws_heldStringS_bv.f k N c w) :=
  Mh.of (ml := fun k N c i w => laws_markStringS_bv.l0 k N c i w) (hl := fun k N c i w => laws_heldStringS_bv.l0 k N c i w) (Be := 1) (by omega) (fun _ _ _ _ => by simp only [laws_markStringS_bv.f]) (fun _ _ _ _ => by simp only [laws_heldStringS_bv.f])
   (fun N w i c hN hw hi h0 h1 => by
    obtain ⟨t1, q1⟩ := markText_ev (c) (by omega) (by omega)
    have ec0 := wm1 (a := c) (by omega) (by omega)
    have hiw : i < w.length := by omega
    refine ⟨?_, c + 1, by omega, by omega, fun R hR => ?_, fun v' R hv hR => ?_⟩
    rotate_left
    · refine Ev.step ?_
      simp only [laws_markStringS_bv.l0, List.getElem?_eq_getElem hiw, setr_get hiw, Option.bind_some, Int.toNat_natCast, cond_true, beq_self_eq_true, decide_true, setr_two, wup hi hN, inr_ hi, ltd hi, ec0]
      refine Ev.bind q1 ?_
      try simp only [setr_get hiw, Option.bind_some, Int.toNat_natCast, cond_true, beq_self_eq_true, decide_true, setr_two, wup hi hN, inr_ hi, ltd hi, ec0]
      exact hR
    · refine Ev.step ?_
      simp only [laws_heldStringS_bv.l0, hv, Option.bind_some, Int.toNat_natCast, cond_true, beq_self_eq_true, decide_true, setr_two, wup hi hN, inr_ hi, ltd hi, ec0]
      refine Ev.bind q1 ?_
      try simp only [Option.bind_some, Int.toNat_natCast, cond_true, beq_self_eq_true, decide_true, setr_two, wup hi hN, inr_ hi, ltd hi, ec0]
      exact hR)
   (fun N w i c hi => ⟨Ev.step (by simp only [laws_markStringS_bv.l0, ltn hi, cond_false]; exact Ev.ret _), Ev.step (by simp only [laws_heldStringS_bv.l0, ltn hi, cond_false]; exact Ev.ret _)⟩)
theorem eqb_StringS (v : List ByteArray) (hv : v.length ≤ 2000000) : Ev (fun k => laws_eqStringS_bb.f k v.length v.length v v) true := by
  refine Ev.step ?_
  simp only [laws_eqStringS_bb.f, beq_self_eq_true, cond_true]
  exact eqb_loop (l := fun k n m i v _ => laws_eqStringS_bb.l0 k n m i v v) hv (fun i hi R hR => Ev.step (by simp only [laws_eqStringS_bb.l0, ltd hi, cond_true, inr_ hi, Option.bind_some, Int.toNat_natCast, List.getElem?_eq_getElem hi, beq_self_eq_true, decide_true, wup hi hv]; exact hR)) (fun i hi => Ev.step (by simp only [laws_eqStringS_bb.l0, ltn hi, cond_false]; exact Ev.ret _)) _ 0 (Nat.le_refl _)
theorem mk_PatNodeS (v : (List S124)) (h : bdPatNodeS v) : Mk (fun k c => laws_markPatNodeS_sv.f k (v.map trPatNode) c) 2097152 := by
  generalize hu : (v.map trPatNode) = u
  have hlen : u.length ≤ 1048576 := by rw [← hu]; simpa using h.1
  refine Mk.slice (f := laws_markPatNodeS_sv.f) (l := fun k u c i => laws_markPatNodeS_sv.l0 k u c i) (v := u) (Be := 2) hlen (by omega) (fun k c => by simp only [laws_markPatNodeS_sv.f]) (fun k c i => by simp only [laws_markPatNodeS_sv.l0]; rfl) (fun i hi c h0 h1 => ?_)
  obtain ⟨y, hy, ey⟩ : ∃ y, bdPatNode y ∧ u[i] = (trPatNode y) := by
      have hm : u[i] ∈ (v.map trPatNode) := by rw [hu]; exact List.getElem_mem hi
      obtain ⟨y, hy, e⟩ := List.mem_map.1 hm
      exact ⟨y, h.2 y hy, e.symm⟩
  obtain ⟨t1, q1⟩ := markText_ev (c) (by omega) (by omega)
  have ec0 := wm1 (a := c) (by omega) (by omega)
  obtain ⟨t2, q2⟩ := markText_ev (c + 1) (by omega) (by omega)
  have ec1 := wm1 (a := c + 1) (by omega) (by omega)
  refine ⟨c + 1 + 1, by omega, by omega, fun R hR => ?_⟩
  simp only [ixg hi, Option.bind_some, rem3_, wup hi (show u.length ≤ 2000000 by omega), ey, ec0, ec1]
  refine Ev.bind q1 ?_
  refine Ev.bind q2 ?_
  try simp only [ec0, ec1]
  exact hR
theorem mk_StringS (v : (List ByteArray)) (h : bdStringS v) : Mk (fun k c => laws_markStringS_sv.f k v c) 1048576 := by
  generalize hu : v = u
  have hlen : u.length ≤ 1048576 := by rw [← hu]; exact h.1
  refine Mk.slice (f := laws_markStringS_sv.f) (l := fun k u c i => laws_markStringS_sv.l0 k u c i) (v := u) (Be := 1) hlen (by omega) (fun k c => by simp only [laws_markStringS_sv.f]) (fun k c i => by simp only [laws_markStringS_sv.l0]; rfl) (fun i hi c h0 h1 => ?_)
  obtain ⟨t1, q1⟩ := markText_ev (c) (by omega) (by omega)
  have ec0 := wm1 (a := c) (by omega) (by omega)
  refine ⟨c + 1, by omega, by omega, fun R hR => ?_⟩
  simp only [ixg hi, Option.bind_some, rem3_, wup hi (show u.length ≤ 2000000 by omega), ec0]
  refine Ev.bind q1 ?_
  try simp only [ec0]
  exact hR
theorem mk_PatEdgeS (v : (List S127)) (h : bdPatEdgeS v) : Mk (fun k c => laws_markPatEdgeS_sv.f k (v.map trPatEdge) c) 1099516870656 := by
  generalize hu : (v.map trPatEdge) = u
  have hlen : u.length ≤ 1048576 := by rw [← hu]; simpa using h.1
  refine Mk.slice (f := laws_markPatEdgeS_sv.f) (l := fun k u c i => laws_markPatEdgeS_sv.l0 k u c i) (v := u) (Be := 1048581) hlen (by omega) (fun k c => by simp only [laws_markPatEdgeS_sv.f]) (fun k c i => by simp only [laws_markPatEdgeS_sv.l0]; rfl) (fun i hi c h0 h1 => ?_)
  obtain ⟨y, hy, ey⟩ : ∃ y, bdPatEdge y ∧ u[i] = (trPatEdge y) := by
      have hm : u[i] ∈ (v.map trPatEdge) := by rw [hu]; exact List.getElem_mem hi
      obtain ⟨y, hy, e⟩ := List.mem_map.1 hm
      exact ⟨y, h.2 y hy, e.symm⟩
  obtain ⟨t1, q1⟩ := markText_ev (c) (by omega) (by omega)
  have ec0 := wm1 (a := c) (by omega) (by omega)
  obtain ⟨r2, q2, l2, u2⟩ := mk_StringS _ hy.2.1 (c + 1) (by omega) (by omega)
  have er20 := wm1 (a := r2) (by omega) (by omega)
  have er21 := wm1 (a := r2 + 1) (by omega) (by omega)
  have er22 := wm1 (a := r2 + 1 + 1) (by omega) (by omega)
  have er23 := wm1 (a := r2 + 1 + 1 + 1) (by omega) (by omega)
  refine ⟨r2 + 1 + 1 + 1 + 1, by omega, by omega, fun R hR => ?_⟩
  simp only [ixg hi, Option.bind_some, rem3_, wup hi (show u.length ≤ 2000000 by omega), ey, ec0, er20, er21, er22, er23]
  refine Ev.bind q1 ?_
  refine Ev.bind q2 ?_
  try simp only [ec0, er20, er21, er22, er23]
  exact hR
theorem mk_Pattern (x : S43) (h : bdPattern x) : Mk (fun k c => laws_markPattern_sv.f k ((trPattern x)).f3 ((trPattern x)).f4 c) 1099518967808 := fun c h0 h1 => by
  obtain ⟨r1, q1, l1, u1⟩ := mk_PatNodeS _ h.2.1 (c) (by omega) (by omega)
  obtain ⟨r2, q2, l2, u2⟩ := mk_PatEdgeS _ h.2.2.1 (r1) (by omega) (by omega)
  refine ⟨r2, ?_, by omega, by omega⟩
  simp only [laws_markPattern_sv.f]
  refine Ev.bind q1 ?_
  refine Ev.bind q2 ?_
  exact Ev.ret _
end Go.Ab
namespace Go.Ab
open Go.Proofs
set_option linter.unusedVariables false
set_option linter.unusedSimpArgs false
theorem names_so (p : S49) (h3 : p.f3.length ≤ 1000) (h4 : p.f4.length ≤ 1000) : Ev (fun k => spec_l08Names_O.f k p) (nms (·.f0) p.f3, Ot p) := by
  have l1 : ∀ (n i : Nat), p.f4.length - i ≤ n → Ev (fun k => spec_l08Names_O.l1 k (nms (·.f0) p.f3) (nms (·.f0) (p.f4.take i)) (i : Int) p) (nms (·.f0) p.f3, Ot p) := by
    have fin : ∀ i : Nat, ¬ i < p.f4.length → Ev (fun k => spec_l08Names_O.l1 k (nms (·.f0) p.f3) (nms (·.f0) (p.f4.take i)) (i : Int) p) (nms (·.f0) p.f3, Ot p) := fun i h => by
      refine Ev.step ?_
      rw [List.take_of_length_le (by omega)]
      simp only [spec_l08Names_O.l1, ltn h, cond_false]
      unfold Ot
      by_cases h0 : p.f0 = e0
      · simp only [decide_eq_true h0, cond_true, if_pos h0, List.append_nil]; exact Ev.ret _
      · have := nms_len (·.f0) p.f4
        simp only [decide_eq_false h0, cond_false, if_neg h0, app_one p.f0 (show (nms (·.f0) p.f4).length ≤ 2000000 by omega), Option.bind_some]; exact Ev.ret _
    intro n
    induction n with
    | zero => intro i h; exact fin i (by omega)
    | succ n ih =>
      intro i h
      by_cases hi : i < p.f4.length
      case neg => exact fin i hi
      refine Ev.step ?_
      simp only [spec_l08Names_O.l1, ltd hi, cond_true, ixg hi, Option.bind_some]
      have g := ih (i + 1) (by omega)
      rw [nms_snoc _ hi] at g
      have len := nms_len (·.f0) (p.f4.take i)
      rw [List.length_take] at len
      by_cases h0 : p.f4[i].f0 = e0
      · simp only [if_pos h0] at g
        simp only [decide_eq_true h0, cond_true]
        refine Ev.step ?_
        simp only [spec_l08Names_O.j1, wup hi (show p.f4.length ≤ 2000000 by omega)]
        exact g
      · simp only [if_neg h0] at g
        simp only [decide_eq_false h0, cond_false, app_one p.f4[i].f0 (show (nms (·.f0) (p.f4.take i)).length ≤ 2000000 by omega), Option.bind_some]
        refine Ev.step ?_
        simp only [spec_l08Names_O.j1, wup hi (show p.f4.length ≤ 2000000 by omega)]
        exact g
  have l0 : ∀ (n i : Nat), p.f3.length - i ≤ n → Ev (fun k => spec_l08Names_O.l0 k (nms (·.f0) (p.f3.take i)) (i : Int) p) (nms (·.f0) p.f3, Ot p) := by
    have fin : ∀ i : Nat, ¬ i < p.f3.length → Ev (fun k => spec_l08Names_O.l0 k (nms (·.f0) (p.f3.take i)) (i : Int) p) (nms (·.f0) p.f3, Ot p) := fun i h => by
      refine Ev.step ?_
      rw [List.take_of_length_le (by omega)]
      simp only [spec_l08Names_O.l0, ltn h, cond_false]
      exact l1 _ 0 (Nat.le_refl _)
    intro n
    induction n with
    | zero => intro i h; exact fin i (by omega)
    | succ n ih =>
      intro i h
      by_cases hi : i < p.f3.length
      case neg => exact fin i hi
      refine Ev.step ?_
      simp only [spec_l08Names_O.l0, ltd hi, cond_true, ixg hi, Option.bind_some]
      have g := ih (i + 1) (by omega)
      rw [nms_snoc _ hi] at g
      have len := nms_len (·.f0) (p.f3.take i)
      rw [List.length_take] at len
      by_cases h0 : p.f3[i].f0 = e0
      · simp only [if_pos h0] at g
        simp only [decide_eq_true h0, cond_true]
        refine Ev.step ?_
        simp only [spec_l08Names_O.j0, wup hi (show p.f3.length ≤ 2000000 by omega)]
        exact g
      · simp only [if_neg h0] at g
        simp only [decide_eq_false h0, cond_false, app_one p.f3[i].f0 (show (nms (·.f0) (p.f3.take i)).length ≤ 2000000 by omega), Option.bind_some]
        refine Ev.step ?_
        simp only [spec_l08Names_O.j0, wup hi (show p.f3.length ≤ 2000000 by omega)]
        exact g
  refine Ev.step ?_
  simp only [spec_l08Names_O.f]
  exact l0 _ 0 (Nat.le_refl _)
def Pn (p : S49) : List ByteArray := if p.f0 = e0 then [] else [p.f0]
def AllN (p : S49) (x : ByteArray) : Prop := x ∈ Pn p ∨ x ∈ nms (·.f0) p.f3 ∨ x ∈ nms (·.f0) p.f4
section
variable {p : S49}
theorem names_l1 (h3 : p.f3.length ≤ 1000) (h4 : p.f4.length ≤ 1000) : ∀ (n i : Nat) (o : List ByteArray), p.f4.length - i ≤ n → RsN o → o.length ≤ 1001 + i → (∀ x, x ∈ o ↔ x ∈ Pn p ∨ x ∈ nms (·.f0) p.f3 ∨ x ∈ nms (·.f0) (p.f4.take i)) → ∃ r, Ev (fun k => impl_Pattern_names_O.l1 k o p (i : Int)) r ∧ RsN r ∧ ∀ x, x ∈ r ↔ AllN p x := by
  have fin : ∀ (i : Nat) (o : List ByteArray), ¬ i < p.f4.length → RsN o → (∀ x, x ∈ o ↔ x ∈ Pn p ∨ x ∈ nms (·.f0) p.f3 ∨ x ∈ nms (·.f0) (p.f4.take i)) → ∃ r, Ev (fun k => impl_Pattern_names_O.l1 k o p (i : Int)) r ∧ RsN r ∧ ∀ x, x ∈ r ↔ AllN p x := fun i o h hr hm => by
    refine ⟨o, Ev.step ?_, hr, fun x => ?_⟩
    · simp only [impl_Pattern_names_O.l1, ltn h, cond_false]; exact Ev.ret _
    · rw [hm, List.take_of_length_le (by omega)]; rfl
  intro n
  induction n with
  | zero => intro i o h hr hl hm; exact fin i o (by omega) hr hm
  | succ n ih =>
    intro i o h hr hl hm
    by_cases hi : i < p.f4.length
    case neg => exact fin i o hi hr hm
    have hs := nms_snoc (·.f0) hi
    by_cases h0 : p.f4[i].f0 = e0
    · simp only [if_pos h0] at hs
      obtain ⟨r, g1, g2, g3⟩ := ih (i + 1) o (by omega) hr (by omega) (fun x => by rw [hm, hs])
      refine ⟨r, Ev.step ?_, g2, g3⟩
      simp only [impl_Pattern_names_O.l1, ltd hi, cond_true, ixg hi, Option.bind_some, decide_eq_true h0, wup hi (show p.f4.length ≤ 2000000 by omega)]
      exact g1
    · simp only [if_neg h0] at hs
      obtain ⟨o', i1, i2, i3, i4⟩ := insert_3 (o := o) p.f4[i].f0 (by omega) hr
      obtain ⟨r, g1, g2, g3⟩ := ih (i + 1) o' (by omega) i4 (by omega) (fun x => by
        rw [i2, hm, hs, List.mem_append, List.mem_singleton]
        simp only [or_assoc])
      refine ⟨r, Ev.step ?_, g2, g3⟩
      simp only [impl_Pattern_names_O.l1, ltd hi, cond_true, cond_false, ixg hi, Option.bind_some, decide_eq_false h0, wup hi (show p.f4.length ≤ 2000000 by omega)]
      exact Ev.bind i1 g1
theorem names_l0 (h3 : p.f3.length ≤ 1000) (h4 : p.f4.length ≤ 1000) : ∀ (n i : Nat) (o : List ByteArray), p.f3.length - i ≤ n → i ≤ p.f3.length → RsN o → o.length ≤ 1 + i → (∀ x, x ∈ o ↔ x ∈ Pn p ∨ x ∈ nms (·.f0) (p.f3.take i)) → ∃ r, Ev (fun k => impl_Pattern_names_O.l0 k o p (i : Int)) r ∧ RsN r ∧ ∀ x, x ∈ r ↔ AllN p x := by
  have fin : ∀ (i : Nat) (o : List ByteArray), ¬ i < p.f3.length → i ≤ p.f3.length → RsN o → o.length ≤ 1 + i → (∀ x, x ∈ o ↔ x ∈ Pn p ∨ x ∈ nms (·.f0) (p.f3.take i)) → ∃ r, Ev (fun k => impl_Pattern_names_O.l0 k o p (i : Int)) r ∧ RsN r ∧ ∀ x, x ∈ r ↔ AllN p x := fun i o h hi hr hl hm => by
    obtain ⟨r, g1, g2⟩ := names_l1 h3 h4 _ 0 o (Nat.le_refl _) hr (by omega) (fun x => by rw [hm, List.take_of_length_le (by omega)]; simp [nms])
    refine ⟨r, Ev.step ?_, g2⟩
    simp only [impl_Pattern_names_O.l0, ltn h, cond_false]; exact g1
  intro n
  induction n with
  | zero => intro i o h hi hr hl hm; exact fin i o (by omega) hi hr hl hm
  | succ n ih =>
    intro i o h hle hr hl hm
    by_cases hi : i < p.f3.length
    case neg => exact fin i o hi hle hr hl hm
    have hs := nms_snoc (·.f0) hi
    have J : ∀ (o' : List ByteArray) (r : List ByteArray), Ev (fun k => impl_Pattern_names_O.l0 k o' p ((i + 1 : Nat) : Int)) r → Ev (fun k => impl_Pattern_names_O.j1 k o' p (i : Int)) r := fun o' r hr' => Ev.step (by
      simp only [impl_Pattern_names_O.j1, wup hi (show p.f3.length ≤ 2000000 by omega)]; exact hr')
    by_cases h0 : p.f3[i].f0 = e0
    · simp only [if_pos h0] at hs
      obtain ⟨r, g1, g2⟩ := ih (i + 1) o (by omega) (by omega) hr (by omega) (fun x => by rw [hm, hs])
      refine ⟨r, Ev.step ?_, g2⟩
      simp only [impl_Pattern_names_O.l0, ltd hi, cond_true, ixg hi, Option.bind_some, decide_eq_true h0]
      exact J _ _ g1
    · simp only [if_neg h0] at hs
      obtain ⟨o', i1, i2, i3, i4⟩ := insert_3 (o := o) p.f3[i].f0 (by omega) hr
      obtain ⟨r, g1, g2⟩ := ih (i + 1) o' (by omega) (by omega) i4 (by omega) (fun x => by
        rw [i2, hm, hs, List.mem_append, List.mem_singleton]
        simp only [or_assoc])
      refine ⟨r, Ev.step ?_, g2⟩
      simp only [impl_Pattern_names_O.l0, ltd hi, cond_true, cond_false, ixg hi, Option.bind_some, decide_eq_false h0]
      exact Ev.bind i1 (J _ _ g1)
theorem names_i (h3 : p.f3.length ≤ 1000) (h4 : p.f4.length ≤ 1000) : ∃ r, Ev (fun k => impl_Pattern_names_O.f k p) r ∧ RsN r ∧ ∀ x, x ∈ r ↔ AllN p x := by
  have J : ∀ (o : List ByteArray) (r : List ByteArray), Ev (fun k => impl_Pattern_names_O.l0 k o p 0) r → Ev (fun k => impl_Pattern_names_O.j0 k o p) r := fun o r hr => Ev.step (by
      simp only [impl_Pattern_names_O.j0]; exact hr)
  by_cases h0 : p.f0 = e0
  · obtain ⟨r, g1, g2⟩ := names_l0 h3 h4 _ 0 [] (Nat.le_refl _) (Nat.zero_le _) List.Pairwise.nil (by simp) (fun x => by unfold Pn; rw [if_pos h0]; simp [nms])
    refine ⟨r, Ev.step ?_, g2⟩
    simp only [impl_Pattern_names_O.f, decide_eq_true h0, cond_true]
    exact J _ _ g1
  · obtain ⟨o', i1, i2, i3, i4⟩ := insert_3 (o := []) p.f0 (by simp) List.Pairwise.nil
    obtain ⟨r, g1, g2⟩ := names_l0 h3 h4 _ 0 o' (Nat.le_refl _) (Nat.zero_le _) i4 (by simpa using i3) (fun x => by rw [i2]; unfold Pn; rw [if_neg h0]; simp [nms])
    refine ⟨r, Ev.step ?_, g2⟩
    simp only [impl_Pattern_names_O.f, decide_eq_false h0, cond_false]
    exact Ev.bind i1 (J _ _ g1)
end
theorem names2 (p : S49) (hb : p.f3.length ≤ 1048576 ∧ p.f4.length ≤ 1048576) : ∃ R : List ByteArray, R.length ≤ 2000000 ∧ Ev (fun k => spec_NamesIn_O.f k p) R ∧ Ev (fun k => impl_NamesIn_O.f k p) R := by
  unfold spec_NamesIn_O.f impl_NamesIn_O.f
  obtain ⟨c, hc, s1, s2⟩ := pattern2 p hb
  cases c with
  | false => exact ⟨[], by simp, Ev.bind s1 (Ev.ret _), Ev.bind s2 (Ev.ret _)⟩
  | true =>
    obtain ⟨⟨z1, z2, z3, _⟩, _⟩ := hc rfl
    have h3 : p.f3.length ≤ 1000 := by omega
    have h4 : p.f4.length ≤ 1000 := by omega
    have n3 := nms_len (·.f0) p.f3
    have n4 := nms_len (·.f0) p.f4
    have hO : (Ot p).length ≤ 1001 := by
      unfold Ot
      rw [List.length_append]
      split <;> simp <;> omega
    obtain ⟨S, t1, t2, t3, t4⟩ := sortR (l := nms (·.f0) p.f3 ++ Ot p) (by rw [List.length_append]; omega)
    obtain ⟨r, g1, g2, g3⟩ := names_i h3 h4
    have e : r = S := strict_ext _ _ g2 t4 (fun x => by
      rw [g3, t2]
      unfold AllN Ot Pn
      simp only [List.mem_append]
      constructor
      · rintro (h | h | h)
        · exact .inr (.inr h)
        · exact .inl h
        · exact .inr (.inl h)
      · rintro (h | h | h)
        · exact .inr (.inl h)
        · exact .inr (.inr h)
        · exact .inl h)
    subst e
    rw [List.length_append] at t3
    refine ⟨r, by omega, Ev.bind s1 ?_, Ev.bind s2 ?_⟩
    · simp only [if_true, beq_self_eq_true, cond_true]
      refine Ev.bind (names_so p h3 h4) ?_
      rw [app_b (a := nms (·.f0) p.f3) (b := Ot p) (by omega)]
      simp only [Option.bind_some]
      exact Ev.bind t1 (Ev.ret _)
    · simp only [cond_true]
      exact Ev.bind g1 (Ev.ret _)
theorem lftN : Lft 1048576 := by unfold Lft; omega
theorem pat_bd {x : S43} (h : bdPattern x) : (trPattern x).f3.length ≤ 1048576 ∧ (trPattern x).f4.length ≤ 1048576 := by
  unfold trPattern
  simp only [List.length_map]
  exact ⟨h.2.1.1, h.2.2.1.1⟩
theorem said_FnExactNamesIn (x : S43) (h : wf43 x) : ∃ k, laws_FnExactNamesIn.f k x = some true := by
  refine Ev.at_ (f := fun k => laws_FnExactNamesIn.f k x) ?_
  unfold laws_FnExactNamesIn.f
  obtain ⟨r, h1, h2, h3⟩ := sz_Pattern x h lftN
  refine Ev.bind h1 ?_
  by_cases hr : r < 0
  · simp only [decide_eq_true hr, cond_true]; exact Ev.ret _
  have hb := h3 (by omega)
  obtain ⟨R, hR, s1, s2⟩ := names2 (trPattern x) (pat_bd hb)
  obtain ⟨m, m1, m2, m3⟩ := mk_Pattern x hb 1 (by omega) (by omega)
  obtain ⟨v', q, q1, q2, q3⟩ := mh_StringS R 1 hR (by omega) (by omega)
  have e := eqb_StringS R hR
  simp only [decide_eq_false hr, cond_false]
  refine Ev.bind (to_Pattern x hb) (Ev.bind s1 (Ev.bind (to_Pattern x hb) (Ev.bind s2 (Ev.bind e ?_))))
  simp only [cond_true]
  refine Ev.bind (to_Pattern x hb) (Ev.bind (eq_Pattern x hb) ?_)
  simp only [cond_true]
  refine Ev.bind m1 ?_
  simp only [decide_eq_false (show ¬ m < 0 by omega), cond_false]
  refine Ev.bind e ?_
  simp only [cond_true]
  refine Ev.bind q2 (Ev.bind q3 ?_)
  simp only [decide_eq_false (show ¬ q < 0 by omega), cond_false, beq_self_eq_true, cond_true]
  refine Ev.bind (to_Pattern x hb) (Ev.bind s2 (Ev.bind e ?_))
  simp only [cond_true]
  refine Ev.bind q3 ?_
  simp only [decide_eq_false (show ¬ q < 0 by omega), cond_false, beq_self_eq_true, cond_true]
  exact Ev.ret _
end Go.Ab
