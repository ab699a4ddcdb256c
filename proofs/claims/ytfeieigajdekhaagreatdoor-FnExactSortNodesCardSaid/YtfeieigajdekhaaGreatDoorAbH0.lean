/- Sizes, copies and comparisons of the laws' arguments, for all types alike. No condition. -/
import Derived.Test.YtfeieigajdekhaaGreatDoorAbF
import Derived.Test.YtfeieigajdekhaaGreatDoorAbR
namespace Go.Ab
open Go.Proofs
set_option linter.unusedVariables false
set_option linter.unusedSimpArgs false
/-- A size is counted: what is left is told, and where something is left the thing is small. -/
def Sz (f : Nat → Option Int) (b : Int) (P : Prop) : Prop := ∃ r, Ev f r ∧ r ≤ b ∧ (0 ≤ r → P)
def Lft (b : Int) : Prop := 0 ≤ b ∧ b ≤ 1048576
theorem wI {n : Int} (h1 : -9223372036854775808 ≤ n) (h2 : n ≤ 9223372036854775807) : IntKind.i64.wrap n = n := by
  show (if (true && decide (n % 18446744073709551616 ≥ 9223372036854775808)) = true then n % 18446744073709551616 - 18446744073709551616 else n % 18446744073709551616) = n
  rw [Bool.true_and]
  split <;> rename_i h <;> simp only [decide_eq_true_eq, Bool.not_eq_true, decide_eq_false_iff_not] at h <;> omega
theorem wsub {b : Int} {n : Nat} (hb : Lft b) (hn : n ≤ 9223372036854775807) : IntKind.i64.wrap (b - (n : Int)) = b - (n : Int) := by
  unfold Lft at hb
  exact wI (by omega) (by omega)
theorem wup {i n : Nat} (h : i < n) (hn : n ≤ 2000000) : IntKind.i64.wrap ((i : Int) + 1) = ((i + 1 : Nat) : Int) := by
  rw [wI (by omega) (by omega)]; omega
theorem wdn {i n : Nat} (h0 : 0 < i) (h : i < n) (hn : n ≤ 2000000) : IntKind.i64.wrap ((i : Int) - 1) = ((i - 1 : Nat) : Int) := by
  rw [wI (by omega) (by omega)]; omega
theorem ixg {α : Type} {l : List α} {i : Nat} (h : i < l.length) : ix l (i : Int) = some l[i] := by
  unfold ix
  rw [if_pos (by omega), Int.toNat_natCast, List.getElem?_eq_getElem h]
theorem ltd {i n : Nat} (h : i < n) : decide ((i : Int) < (n : Int)) = true := by simpa using h
theorem ltn {i n : Nat} (h : ¬ i < n) : decide ((i : Int) < (n : Int)) = false := by simpa using h
theorem Sz.ret {b : Int} : Sz (fun _ => some b) b True := ⟨b, Ev.ret _, Int.le_refl _, fun _ => trivial⟩
theorem Sz.now {f : Nat → Option Int} {b : Int} (h : ∀ k, f k = some b) : Sz f b True := ⟨b, Ev.now h, Int.le_refl _, fun _ => trivial⟩
theorem Sz.mono {f : Nat → Option Int} {b : Int} {P Q : Prop} (h : Sz f b P) (g : P → Q) : Sz f b Q := by
  obtain ⟨r, h1, h2, h3⟩ := h
  exact ⟨r, h1, h2, fun x => g (h3 x)⟩
theorem Sz.step {f : Nat → Option Int} {b : Int} {P : Prop} (h : Sz (fun k => f (k + 1)) b P) : Sz f b P := by
  obtain ⟨r, h1, h2, h3⟩ := h
  exact ⟨r, h1.step, h2, h3⟩
theorem Sz.call {F : Nat → Option Int} {g : Nat → Int → Option Int} {b : Int} {P Q : Prop} (hb : Lft b) (h : Sz F b P) (h' : ∀ v, Lft v → Sz (fun k => g k v) v Q) :
    Sz (fun k => (F k).bind fun v => bif decide (v < 0) then some (-1) else g k v) b (P ∧ Q) := by
  obtain ⟨r, h1, h2, h3⟩ := h
  unfold Lft at hb
  by_cases hr : r < 0
  · exact ⟨-1, Ev.bind h1 (by simp only [decide_eq_true hr, cond_true]; exact Ev.ret _), by omega, fun x => absurd x (by omega)⟩
  · obtain ⟨q, h4, h5, h6⟩ := h' r (by unfold Lft; omega)
    refine ⟨q, Ev.bind h1 ?_, by omega, fun x => ⟨h3 (by omega), h6 x⟩⟩
    simp only [decide_eq_false hr, cond_false]; exact h4
theorem Sz.len {g : Nat → Option Int} {b : Int} {n : Nat} {Q : Prop} (hb : Lft b) (h : n ≤ 1048576 → Lft (IntKind.i64.wrap (b - (n : Int))) → Sz g (IntKind.i64.wrap (b - (n : Int))) Q) (hn : n ≤ 9223372036854775807) :
    Sz (fun k => bif decide (IntKind.i64.wrap (b - (n : Int)) < 0) then some (-1) else g k) b (n ≤ 1048576 ∧ Q) := by
  have e := wsub hb hn
  unfold Lft at hb
  by_cases hr : IntKind.i64.wrap (b - (n : Int)) < 0
  · exact ⟨-1, by simp only [decide_eq_true hr, cond_true]; exact Ev.ret _, by omega, fun x => absurd x (by omega)⟩
  · obtain ⟨q, h4, h5, h6⟩ := h (by omega) (by unfold Lft; omega)
    refine ⟨q, ?_, by omega, fun x => ⟨by omega, h6 x⟩⟩
    simp only [decide_eq_false hr, cond_false]; exact h4
theorem Sz.loop {α : Type} {l : Nat → List α → Int → Int → Option Int} {e : Nat → α → Int → Option Int} {B W : α → Prop}
    (hl : ∀ k v a i, l (k + 1) v a i = bif decide (i < (v.length : Int)) then ((ix v i).bind fun x => ((e k x a).bind fun r => (bif decide (r < 0) then (some (-1)) else (l k v r (IntKind.i64.wrap (i + 1)))))) else some a)
    (he : ∀ x a, W x → Lft a → Sz (fun k => e k x a) a (B x)) (v : List α) (hw : ∀ x ∈ v, W x) (hv : v.length ≤ 1048576) :
    ∀ (n i : Nat) (a : Int), v.length - i ≤ n → Lft a → Sz (fun k => l k v a (i : Int)) a (∀ x ∈ v.drop i, B x) := by
  intro n
  induction n with
  | zero =>
    intro i a h ha
    refine Sz.step ?_
    simp only [hl, ltn (show ¬ i < v.length by omega), cond_false]
    rw [List.drop_of_length_le (by omega)]
    exact Sz.ret.mono fun _ => by simp
  | succ n ih =>
    intro i a h ha
    by_cases hi : i < v.length
    · refine Sz.step ?_
      simp only [hl, ltd hi, cond_true, ixg hi, Option.bind_some, wup hi (by omega)]
      rw [List.drop_eq_getElem_cons hi]
      exact (Sz.call ha (he _ a (hw _ (List.getElem_mem hi)) ha) fun r hr => ih (i + 1) r (by omega) hr).mono fun h x hx => by
        rcases List.mem_cons.1 hx with rfl | hx
        · exact h.1
        · exact h.2 x hx
    · refine Sz.step ?_
      simp only [hl, ltn hi, cond_false]
      rw [List.drop_of_length_le (by omega)]
      exact Sz.ret.mono fun _ => by simp
theorem Sz.strs {l : Nat → List ByteArray → Int → Int → Option Int}
    (hl : ∀ k v a i, l (k + 1) v a i = bif decide (i < (v.length : Int)) then ((ix v i).bind fun x => (bif decide ((IntKind.i64.wrap (a - (x.size : Int))) < 0) then (some (-1)) else (l k v (IntKind.i64.wrap (a - (x.size : Int))) (IntKind.i64.wrap (i + 1))))) else some a)
    (v : List ByteArray) (hs : ∀ x ∈ v, Str x) (hv : v.length ≤ 1048576) :
    ∀ (n i : Nat) (a : Int), v.length - i ≤ n → Lft a → Sz (fun k => l k v a (i : Int)) a (∀ x ∈ v.drop i, x.size ≤ 1048576) := by
  intro n
  induction n with
  | zero =>
    intro i a h ha
    refine Sz.step ?_
    simp only [hl, ltn (show ¬ i < v.length by omega), cond_false]
    rw [List.drop_of_length_le (by omega)]
    exact Sz.ret.mono fun _ => by simp
  | succ n ih =>
    intro i a h ha
    by_cases hi : i < v.length
    · refine Sz.step ?_
      simp only [hl, ltd hi, cond_true, ixg hi, Option.bind_some, wup hi (by omega)]
      rw [List.drop_eq_getElem_cons hi]
      have hx : (v[i]).size ≤ 9223372036854775807 := by have := hs _ (List.getElem_mem hi); unfold Str at this; omega
      exact (Sz.len ha (fun _ hr => ih (i + 1) _ (by omega) hr) hx).mono fun h x hx => by
        rcases List.mem_cons.1 hx with rfl | hx
        · exact h.1
        · exact h.2 x hx
    · refine Sz.step ?_
      simp only [hl, ltn hi, cond_false]
      rw [List.drop_of_length_le (by omega)]
      exact Sz.ret.mono fun _ => by simp
theorem mks_ {α : Type} (z : α) {n : Nat} (hn : n ≤ 1048576) : mks z (n : Int) (n : Int) = some (List.replicate n z) := by
  unfold mks
  rw [if_pos (by omega), Int.toNat_natCast]
theorem inr_ {i n : Nat} (h : i < n) : inr (i : Int) n = some () := by
  unfold inr
  rw [if_pos (by omega)]
theorem to_loop {α β : Type} {l : Nat → List α → List β → Int → List β → Option (List β)} {e : Nat → α → Option β} {tr : α → β} {B : α → Prop}
    (hl : ∀ k v0 v1 i v3, l (k + 1) v0 v1 i v3 = bif decide (i < (v0.length : Int)) then ((ix v0 i).bind fun x => ((e k x).bind fun y => ((inr i v1.length).bind fun _ => ((v3[(Int.toNat i)]?).bind fun _ => (l k v0 v1 (IntKind.i64.wrap (i + 1)) (setr v3 (Int.toNat i) y)))))) else some (List.take v1.length v3))
    (he : ∀ x, B x → Ev (fun k => e k x) (tr x)) (v : List α) (hB : ∀ x ∈ v, B x) (hv : v.length ≤ 1048576) (v1 : List β) (h1 : v1.length = v.length) :
    ∀ (n i : Nat) (w : List β), v.length - i ≤ n → w.length = v.length → w.take i = (v.take i).map tr → Ev (fun k => l k v v1 (i : Int) w) (v.map tr) := by
  have fin : ∀ (i : Nat) (w : List β), v.length ≤ i → w.length = v.length → w.take i = (v.take i).map tr → List.take v1.length w = v.map tr := fun i w hi hw h => by
    rw [h1, List.take_of_length_le (by omega)]
    rw [List.take_of_length_le (by omega), List.take_of_length_le (by omega)] at h
    exact h
  intro n
  induction n with
  | zero =>
    intro i w h hw ht
    refine Ev.step ?_
    simp only [hl, ltn (show ¬ i < v.length by omega), cond_false, fin i w (by omega) hw ht]
    exact Ev.ret _
  | succ n ih =>
    intro i w h hw ht
    by_cases hi : i < v.length
    · refine Ev.step ?_
      have hiw : i < w.length := by omega
      simp only [hl, ltd hi, cond_true, ixg hi, Option.bind_some, inr_ (show i < v1.length by omega), Int.toNat_natCast, List.getElem?_eq_getElem hiw, wup hi (by omega)]
      refine Ev.bind (he _ (hB _ (List.getElem_mem hi))) ?_
      refine ih (i + 1) _ (by omega) (by simp [setr, hw]) ?_
      rw [List.take_succ_eq_append_getElem (by simpa [setr] using hiw), List.take_succ_eq_append_getElem hi, List.map_append, ← ht]
      simp [setr]
      exact List.take_set_of_le (Nat.le_refl _)
    · refine Ev.step ?_
      simp only [hl, ltn hi, cond_false, fin i w (by omega) hw ht]
      exact Ev.ret _
theorem to_f {α β : Type} {f : Nat → List α → Option (List β)} {l : Nat → List α → List β → Int → List β → Option (List β)} {z : β} {tr : α → β} {v : List α} (hv : v.length ≤ 1048576)
    (hf : ∀ k v0, f (k + 1) v0 = (mks z (v0.length : Int) (v0.length : Int)).bind fun v1 => l k v0 v1 0 v1)
    (h : ∀ v1 : List β, v1.length = v.length → ∀ (n i : Nat) (w : List β), v.length - i ≤ n → w.length = v.length → w.take i = (v.take i).map tr → Ev (fun k => l k v v1 (i : Int) w) (v.map tr)) : Ev (fun k => f k v) (v.map tr) := by
  refine Ev.step ?_
  simp only [hf, mks_ z hv, Option.bind_some]
  exact h _ (by simp) _ 0 _ (Nat.le_refl _) (by simp) (by simp)
theorem to_strs {l : Nat → List ByteArray → List ByteArray → Int → List ByteArray → Option (List ByteArray)} (hl : ∀ k v0 v1 i v3, l (k + 1) v0 v1 i v3 = bif decide (i < (v0.length : Int)) then ((ix v0 i).bind fun x => ((inr i v1.length).bind fun _ => ((v3[(Int.toNat i)]?).bind fun _ => (l k v0 v1 (IntKind.i64.wrap (i + 1)) (setr v3 (Int.toNat i) x))))) else some (List.take v1.length v3))
    (v : List ByteArray) (hv : v.length ≤ 1048576) (v1 : List ByteArray) (h1 : v1.length = v.length) :
    ∀ (n i : Nat) (w : List ByteArray), v.length - i ≤ n → w.length = v.length → w.take i = (v.take i).map id → Ev (fun k => l k v v1 (i : Int) w) (v.map id) :=
  to_loop (e := fun _ x => some x) (B := fun _ => True) (fun k v0 v1 i v3 => by rw [hl]; rfl) (fun x _ => Ev.ret x) v (fun _ _ => trivial) hv v1 h1
theorem to_ints {l : Nat → List Int → List Int → Int → List Int → Option (List Int)} (hl : ∀ k v0 v1 i v3, l (k + 1) v0 v1 i v3 = bif decide (i < (v0.length : Int)) then ((ix v0 i).bind fun x => ((inr i v1.length).bind fun _ => ((v3[(Int.toNat i)]?).bind fun _ => (l k v0 v1 (IntKind.i64.wrap (i + 1)) (setr v3 (Int.toNat i) x))))) else some (List.take v1.length v3))
    (v : List Int) (hv : v.length ≤ 1048576) (v1 : List Int) (h1 : v1.length = v.length) :
    ∀ (n i : Nat) (w : List Int), v.length - i ≤ n → w.length = v.length → w.take i = (v.take i).map id → Ev (fun k => l k v v1 (i : Int) w) (v.map id) :=
  to_loop (e := fun _ x => some x) (B := fun _ => True) (fun k v0 v1 i v3 => by rw [hl]; rfl) (fun x _ => Ev.ret x) v (fun _ _ => trivial) hv v1 h1
theorem eq_loop {α : Type} {l : Nat → List α → List α → Int → Option Bool} {e : Nat → α → α → Option Bool}
    (hl : ∀ k v w i, l (k + 1) v w i = bif decide (i < (v.length : Int)) then ((ix v i).bind fun x => ((ix w i).bind fun y => ((e k x y).bind fun b => (bif b then (l k v w (IntKind.i64.wrap (i + 1))) else some false)))) else some true)
    (v : List α) (he : ∀ x ∈ v, Ev (fun k => e k x x) true) (hv : v.length ≤ 1048576) : ∀ (n i : Nat), v.length - i ≤ n → Ev (fun k => l k v v (i : Int)) true := by
  intro n
  induction n with
  | zero =>
    intro i h
    refine Ev.step ?_
    simp only [hl, ltn (show ¬ i < v.length by omega), cond_false]
    exact Ev.ret _
  | succ n ih =>
    intro i h
    refine Ev.step ?_
    by_cases hi : i < v.length
    · simp only [hl, ltd hi, cond_true, ixg hi, Option.bind_some, wup hi (by omega)]
      exact Ev.bind (he _ (List.getElem_mem hi)) (by simp only [cond_true]; exact ih (i + 1) (by omega))
    · simp only [hl, ltn hi, cond_false]; exact Ev.ret _
theorem eq_f {α : Type} {f : Nat → List α → List α → Option Bool} {l : Nat → List α → List α → Int → Option Bool} {v : List α} (hf : ∀ k v w, f (k + 1) v w = (bif ((v.length : Int) == (w.length : Int)) then l k v w 0 else some false))
    (h : ∀ (n i : Nat), v.length - i ≤ n → Ev (fun k => l k v v (i : Int)) true) : Ev (fun k => f k v v) true := by
  refine Ev.step ?_
  simp only [hf, beq_self_eq_true, cond_true]
  exact h _ 0 (Nat.le_refl _)
theorem eq_strs {l : Nat → List ByteArray → List ByteArray → Int → Option Bool}
    (hl : ∀ k v w i, l (k + 1) v w i = bif decide (i < (v.length : Int)) then ((ix v i).bind fun x => ((ix w i).bind fun y => (bif decide (x = y) then (l k v w (IntKind.i64.wrap (i + 1))) else some false))) else some true)
    (v : List ByteArray) (hv : v.length ≤ 1048576) : ∀ (n i : Nat), v.length - i ≤ n → Ev (fun k => l k v v (i : Int)) true :=
  eq_loop (e := fun _ x y => some (decide (x = y))) (fun k v w i => by rw [hl]; rfl) v (fun x _ => by simp only [decide_true]; exact Ev.ret _) hv
theorem eq_ints {l : Nat → List Int → List Int → Int → Option Bool}
    (hl : ∀ k v w i, l (k + 1) v w i = bif decide (i < (v.length : Int)) then ((ix v i).bind fun x => ((ix w i).bind fun y => (bif (x == y) then (l k v w (IntKind.i64.wrap (i + 1))) else some false))) else some true)
    (v : List Int) (hv : v.length ≤ 1048576) : ∀ (n i : Nat), v.length - i ≤ n → Ev (fun k => l k v v (i : Int)) true :=
  eq_loop (e := fun _ x y => some (x == y)) (fun k v w i => by rw [hl]; rfl) v (fun x _ => by simp only [beq_self_eq_true]; exact Ev.ret _) hv
theorem Sz.slice {α : Type} {f : Nat → List α → Int → Option Int} {l : Nat → List α → Int → Int → Option Int} {B : α → Prop} {v : List α} (hn : v.length ≤ 9223372036854775807)
    (hf : ∀ k v a, f (k + 1) v a = bif decide ((IntKind.i64.wrap (a - (v.length : Int))) < 0) then (some (-1)) else l k v (IntKind.i64.wrap (a - (v.length : Int))) 0)
    (h : v.length ≤ 1048576 → ∀ (n i : Nat) (a : Int), v.length - i ≤ n → Lft a → Sz (fun k => l k v a (i : Int)) a (∀ x ∈ v.drop i, B x)) {a : Int} (ha : Lft a) : Sz (fun k => f k v a) a (v.length ≤ 1048576 ∧ ∀ x ∈ v, B x) := by
  refine Sz.step ?_
  simp only [hf]
  exact Sz.len ha (fun hl hb => h hl _ 0 _ (Nat.le_refl _) hb) hn
end Go.Ab
namespace Go.Ab
open Go.Proofs
set_option linter.unusedVariables false
set_option linter.unusedSimpArgs false
def wf91 (x : S91) : Prop := Str x.f0 ∧ Str x.f1
def wf62 (x : S62) : Prop := (InK .i64) x.f0 ∧ (Lst Str) x.f1 ∧ (Lst wf91) x.f2
def wf65 (x : S65) : Prop := (InK .i64) x.f0 ∧ Str x.f1 ∧ (InK .i64) x.f2 ∧ (InK .i64) x.f3 ∧ (Lst wf91) x.f4
def wf24 (x : S24) : Prop := (Lst wf62) x.f0 ∧ (Lst wf65) x.f1
def bdStringS (v : (List ByteArray)) : Prop := v.length ≤ 1048576 ∧ ∀ x ∈ v, x.size ≤ 1048576
theorem sz_StringS (v : (List ByteArray)) (h : Lst Str v) {a : Int} (ha : Lft a) : Sz (fun k => laws_szStringS.f k v a) a (bdStringS v) := Sz.slice (l := laws_szStringS.l0) h.1 (fun _ _ _ => by simp only [laws_szStringS.f]) (fun hl => Sz.strs (fun _ _ _ _ => by simp only [laws_szStringS.l0]) v h.2 hl) ha
def bdField (x : S91) : Prop := x.f0.size ≤ 1048576 ∧ x.f1.size ≤ 1048576 ∧ True
theorem sz_Field (x : S91) (h : wf91 x) {a : Int} (ha : Lft a) : Sz (fun k => laws_szField.f k x a) a (bdField x) := by
  simp only [laws_szField.f]; unfold bdField
  exact Sz.len ha (fun _ h1 => Sz.len h1 (fun _ h2 => Sz.ret) h.2) h.1
def bdFieldS (v : (List S91)) : Prop := v.length ≤ 1048576 ∧ ∀ x ∈ v, bdField x
theorem sz_FieldS (v : (List S91)) (h : Lst wf91 v) {a : Int} (ha : Lft a) : Sz (fun k => laws_szFieldS.f k v a) a (bdFieldS v) := Sz.slice (l := laws_szFieldS.l0) h.1 (fun _ _ _ => by simp only [laws_szFieldS.f]) (fun hl => Sz.loop (fun _ _ _ _ => by simp only [laws_szFieldS.l0]) (fun x a hx ha => sz_Field x hx ha) v h.2 hl) ha
def bdNode (x : S62) : Prop := bdStringS x.f1 ∧ bdFieldS x.f2 ∧ True
theorem sz_Node (x : S62) (h : wf62 x) {a : Int} (ha : Lft a) : Sz (fun k => laws_szNode.f k x a) a (bdNode x) := by
  simp only [laws_szNode.f]; unfold bdNode
  exact Sz.call ha (sz_StringS _ h.2.1 ha) fun v1 h1 => Sz.call h1 (sz_FieldS _ h.2.2 h1) fun v2 h2 => Sz.ret
def bdNodeS (v : (List S62)) : Prop := v.length ≤ 1048576 ∧ ∀ x ∈ v, bdNode x
theorem sz_NodeS (v : (List S62)) (h : Lst wf62 v) {a : Int} (ha : Lft a) : Sz (fun k => laws_szNodeS.f k v a) a (bdNodeS v) := Sz.slice (l := laws_szNodeS.l0) h.1 (fun _ _ _ => by simp only [laws_szNodeS.f]) (fun hl => Sz.loop (fun _ _ _ _ => by simp only [laws_szNodeS.l0]) (fun x a hx ha => sz_Node x hx ha) v h.2 hl) ha
def bdEdge (x : S65) : Prop := x.f1.size ≤ 1048576 ∧ bdFieldS x.f4 ∧ True
theorem sz_Edge (x : S65) (h : wf65 x) {a : Int} (ha : Lft a) : Sz (fun k => laws_szEdge.f k x a) a (bdEdge x) := by
  simp only [laws_szEdge.f]; unfold bdEdge
  exact Sz.len ha (fun _ h1 => Sz.call h1 (sz_FieldS _ h.2.2.2.2 h1) fun v2 h2 => Sz.ret) h.2.1
def bdEdgeS (v : (List S65)) : Prop := v.length ≤ 1048576 ∧ ∀ x ∈ v, bdEdge x
theorem sz_EdgeS (v : (List S65)) (h : Lst wf65 v) {a : Int} (ha : Lft a) : Sz (fun k => laws_szEdgeS.f k v a) a (bdEdgeS v) := Sz.slice (l := laws_szEdgeS.l0) h.1 (fun _ _ _ => by simp only [laws_szEdgeS.f]) (fun hl => Sz.loop (fun _ _ _ _ => by simp only [laws_szEdgeS.l0]) (fun x a hx ha => sz_Edge x hx ha) v h.2 hl) ha
def bdGraph (x : S24) : Prop := bdNodeS x.f0 ∧ bdEdgeS x.f1 ∧ True
theorem sz_Graph (x : S24) (h : wf24 x) {a : Int} (ha : Lft a) : Sz (fun k => laws_szGraph.f k x a) a (bdGraph x) := by
  simp only [laws_szGraph.f]; unfold bdGraph
  exact Sz.call ha (sz_NodeS _ h.1 ha) fun v1 h1 => Sz.call h1 (sz_EdgeS _ h.2 h1) fun v2 h2 => Sz.ret
theorem to_StringS (v : (List ByteArray)) (h : bdStringS v) : Ev (fun k => laws_toStringS.f k v) v := by
  have := to_f (f := laws_toStringS.f) (l := laws_toStringS.l0) (tr := id) h.1 (fun _ _ => by simp only [laws_toStringS.f]; rfl) (to_strs (fun _ _ _ _ _ => by simp only [laws_toStringS.l0]) v h.1)
  rwa [List.map_id] at this
theorem eq_StringS (v : (List ByteArray)) (h : bdStringS v) : Ev (fun k => laws_eqStringS.f k v v) true := eq_f (l := laws_eqStringS.l0) (fun _ _ _ => by simp only [laws_eqStringS.f]) (eq_strs (fun _ _ _ _ => by simp only [laws_eqStringS.l0]) _ h.1)
def trField (x : S91) : S91 := x
theorem to_Field (x : S91) (h : bdField x) : Ev (fun k => laws_toField.f k x) (trField x) := by
  simp only [laws_toField.f, trField]; exact Ev.ret _
theorem eq_Field (x : S91) (h : bdField x) : Ev (fun k => laws_eqField.f k (trField x) (trField x)) true := by
  simp only [laws_eqField.f, trField, beq_self_eq_true, decide_true, cond_true]
  exact Ev.ret _
theorem to_FieldS (v : (List S91)) (h : bdFieldS v) : Ev (fun k => laws_toFieldS.f k v) (v.map trField) := to_f (l := laws_toFieldS.l0) h.1 (fun _ _ => by simp only [laws_toFieldS.f]; rfl) (to_loop (B := bdField) (fun _ _ _ _ _ => by simp only [laws_toFieldS.l0]) (fun x hx => to_Field x hx) v h.2 h.1)
theorem eq_FieldS (v : (List S91)) (h : bdFieldS v) : Ev (fun k => laws_eqFieldS.f k (v.map trField) (v.map trField)) true := eq_f (l := laws_eqFieldS.l0) (fun _ _ _ => by simp only [laws_eqFieldS.f]) (eq_loop (e := laws_eqField.f) (fun _ _ _ _ => by simp only [laws_eqFieldS.l0]) _ (by intro y hy; obtain ⟨x, hx, rfl⟩ := List.mem_map.1 hy; exact eq_Field x (h.2 x hx)) (by simpa using h.1))
def trNode (x : S62) : S49 := ⟨x.f0, x.f1, (x.f2.map trField)⟩
theorem to_Node (x : S62) (h : bdNode x) : Ev (fun k => laws_toNode.f k x) (trNode x) := by
  simp only [laws_toNode.f, trNode]; exact Ev.bind (to_StringS _ h.1) (Ev.bind (to_FieldS _ h.2.1) (Ev.ret _))
theorem eq_Node (x : S62) (h : bdNode x) : Ev (fun k => laws_eqNode.f k (trNode x) (trNode x)) true := by
  simp only [laws_eqNode.f, trNode, beq_self_eq_true, decide_true, cond_true]
  refine Ev.bind (eq_StringS _ h.1) ?_
  simp only [beq_self_eq_true, decide_true, cond_true]
  refine Ev.bind (eq_FieldS _ h.2.1) ?_
  simp only [beq_self_eq_true, decide_true, cond_true]
  exact Ev.ret _
theorem to_NodeS (v : (List S62)) (h : bdNodeS v) : Ev (fun k => laws_toNodeS.f k v) (v.map trNode) := to_f (l := laws_toNodeS.l0) h.1 (fun _ _ => by simp only [laws_toNodeS.f]; rfl) (to_loop (B := bdNode) (fun _ _ _ _ _ => by simp only [laws_toNodeS.l0]) (fun x hx => to_Node x hx) v h.2 h.1)
theorem eq_NodeS (v : (List S62)) (h : bdNodeS v) : Ev (fun k => laws_eqNodeS.f k (v.map trNode) (v.map trNode)) true := eq_f (l := laws_eqNodeS.l0) (fun _ _ _ => by simp only [laws_eqNodeS.f]) (eq_loop (e := laws_eqNode.f) (fun _ _ _ _ => by simp only [laws_eqNodeS.l0]) _ (by intro y hy; obtain ⟨x, hx, rfl⟩ := List.mem_map.1 hy; exact eq_Node x (h.2 x hx)) (by simpa using h.1))
def trEdge (x : S65) : S68 := ⟨x.f0, x.f1, x.f2, x.f3, (x.f4.map trField)⟩
theorem to_Edge (x : S65) (h : bdEdge x) : Ev (fun k => laws_toEdge.f k x) (trEdge x) := by
  simp only [laws_toEdge.f, trEdge]; exact Ev.bind (to_FieldS _ h.2.1) (Ev.ret _)
theorem eq_Edge (x : S65) (h : bdEdge x) : Ev (fun k => laws_eqEdge.f k (trEdge x) (trEdge x)) true := by
  simp only [laws_eqEdge.f, trEdge, beq_self_eq_true, decide_true, cond_true]
  refine Ev.bind (eq_FieldS _ h.2.1) ?_
  simp only [beq_self_eq_true, decide_true, cond_true]
  exact Ev.ret _
theorem to_EdgeS (v : (List S65)) (h : bdEdgeS v) : Ev (fun k => laws_toEdgeS.f k v) (v.map trEdge) := to_f (l := laws_toEdgeS.l0) h.1 (fun _ _ => by simp only [laws_toEdgeS.f]; rfl) (to_loop (B := bdEdge) (fun _ _ _ _ _ => by simp only [laws_toEdgeS.l0]) (fun x hx => to_Edge x hx) v h.2 h.1)
theorem eq_EdgeS (v : (List S65)) (h : bdEdgeS v) : Ev (fun k => laws_eqEdgeS.f k (v.map trEdge) (v.map trEdge)) true := eq_f (l := laws_eqEdgeS.l0) (fun _ _ _ => by simp only [laws_eqEdgeS.f]) (eq_loop (e := laws_eqEdge.f) (fun _ _ _ _ => by simp only [laws_eqEdgeS.l0]) _ (by intro y hy; obtain ⟨x, hx, rfl⟩ := List.mem_map.1 hy; exact eq_Edge x (h.2 x hx)) (by simpa using h.1))
def trGraph (x : S24) : S31 := ⟨(x.f0.map trNode), (x.f1.map trEdge)⟩
theorem to_Graph (x : S24) (h : bdGraph x) : Ev (fun k => laws_toGraph.f k x) (trGraph x) := by
  simp only [laws_toGraph.f, trGraph]; exact Ev.bind (to_NodeS _ h.1) (Ev.bind (to_EdgeS _ h.2.1) (Ev.ret _))
theorem eq_Graph (x : S24) (h : bdGraph x) : Ev (fun k => laws_eqGraph.f k (trGraph x) (trGraph x)) true := by
  simp only [laws_eqGraph.f, trGraph, beq_self_eq_true, decide_true, cond_true]
  refine Ev.bind (eq_NodeS _ h.1) ?_
  simp only [beq_self_eq_true, decide_true, cond_true]
  refine Ev.bind (eq_EdgeS _ h.2.1) ?_
  simp only [beq_self_eq_true, decide_true, cond_true]
  exact Ev.ret _
end Go.Ab
