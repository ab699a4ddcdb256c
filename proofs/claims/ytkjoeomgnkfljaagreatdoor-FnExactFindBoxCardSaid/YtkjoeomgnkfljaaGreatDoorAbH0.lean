/- Sizes, copies and comparisons of the laws' arguments, for all types alike. No condition. -/
import Derived.Test.YtkjoeomgnkfljaaGreatDoorAbF
import Derived.Test.YtkjoeomgnkfljaaGreatDoorAbR
namespace Go.Ab
open Go.Proofs
set_option linter.unusedVariables false
set_option linter.unusedSimpArgs false
/-- A size is counted: what is left is told, and where something is left the thing is small. -/
def Sz (f : Nat → Option Int) (b : Int) (P : Prop) : Prop := ∃ r, Ev f r ∧ r ≤ b ∧ (0 ≤ r → P)
def Lft (b : Int) : Prop := 0 ≤ b ∧ b ≤ 1048576
theorem wI {n : Int} (h1 : -9223372036854775808 ≤ n) (h2 : n ≤ 9223372036854775807) : IntKind.i64.wrap n = n := by
  show (if (true && decide (n % 18446744073709551616 ≥ 9223372036854775808)) = true then n % 18446744073709551616 - 18446744073709551616 else n % 18446744073709551616) = n
  rw [Bool.true_and]
  split <;> rename_i h <;> simp only [decide_eq_true_eq, Bool.not_eq_true, decide_eq_false_iff_not] at h <;> omega
theorem wsub {b : Int} {n : Nat} (hb : Lft b) (hn : n ≤ 9223372036854775807) : IntKind.i64.wrap (b - (n : Int)) = b - (n : Int) := by
  unfold Lft at hb
  exact wI (by omega) (by omega)
theorem wup {i n : Nat} (h : i < n) (hn : n ≤ 2000000) : IntKind.i64.wrap ((i : Int) + 1) = ((i + 1 : Nat) : Int) := by
  rw [wI (by omega) (by omega)]; omega
theorem wdn {i n : Nat} (h0 : 0 < i) (h : i < n) (hn : n ≤ 2000000) : IntKind.i64.wrap ((i : Int) - 1) = ((i - 1 : Nat) : Int) := by
  rw [wI (by omega) (by omega)]; omega
theorem ixg {α : Type} {l : List α} {i : Nat} (h : i < l.length) : ix l (i : Int) = some l[i] := by
  unfold ix
  rw [if_pos (by omega), Int.toNat_natCast, List.getElem?_eq_getElem h]
theorem ltd {i n : Nat} (h : i < n) : decide ((i : Int) < (n : Int)) = true := by simpa using h
theorem ltn {i n : Nat} (h : ¬ i < n) : decide ((i : Int) < (n : Int)) = false := by simpa using h
theorem Sz.ret {b : Int} : Sz (fun _ => some b) b True := ⟨b, Ev.ret _, Int.le_refl _, fun _ => trivial⟩
theorem Sz.now {f : Nat → Option Int} {b : Int} (h : ∀ k, f k = some b) : Sz f b True := ⟨b, Ev.now h, Int.le_refl _, fun _ => trivial⟩
theorem Sz.mono {f : Nat → Option Int} {b : Int} {P Q : Prop} (h : Sz f b P) (g : P → Q) : Sz f b Q := by
  obtain ⟨r, h1, h2, h3⟩ := h
  exact ⟨r, h1, h2, fun x => g (h3 x)⟩
theorem Sz.step {f : Nat → Option Int} {b : Int} {P : Prop} (h : Sz (fun k => f (k + 1)) b P) : Sz f b P := by
  obtain ⟨r, h1, h2, h3⟩ := h
  exact ⟨r, h1.step, h2, h3⟩
theorem Sz.call {F : Nat → Option Int} {g : Nat → Int → Option Int} {b : Int} {P Q : Prop} (hb : Lft b) (h : Sz F b P) (h' : ∀ v, Lft v → Sz (fun k => g k v) v Q) :
    Sz (fun k => (F k).bind fun v => bif decide (v < 0) then some (-1) else g k v) b (P ∧ Q) := by
  obtain ⟨r, h1, h2, h3⟩ := h
  unfold Lft at hb
  by_cases hr : r < 0
  · exact ⟨-1, Ev.bind h1 (by simp only [decide_eq_true hr, cond_true]; exact Ev.ret _), by omega, fun x => absurd x (by omega)⟩
  · obtain ⟨q, h4, h5, h6⟩ := h' r (by unfold Lft; omega)
    refine ⟨q, Ev.bind h1 ?_, by omega, fun x => ⟨h3 (by omega), h6 x⟩⟩
    simp only [decide_eq_false hr, cond_false]; exact h4
theorem Sz.len {g : Nat → Option Int} {b : Int} {n : Nat} {Q : Prop} (hb : Lft b) (h : n ≤ 1048576 → Lft (IntKind.i64.wrap (b - (n : Int))) → Sz g (IntKind.i64.wrap (b - (n : Int))) Q) (hn : n ≤ 9223372036854775807) :
    Sz (fun k => bif decide (IntKind.i64.wrap (b - (n : Int)) < 0) then some (-1) else g k) b (n ≤ 1048576 ∧ Q) := by
  have e := wsub hb hn
  unfold Lft at hb
  by_cases hr : IntKind.i64.wrap (b - (n : Int)) < 0
  · exact ⟨-1, by simp only [decide_eq_true hr, cond_true]; exact Ev.ret _, by omega, fun x => absurd x (by omega)⟩
  · obtain ⟨q, h4, h5, h6⟩ := h (by omega) (by unfold Lft; omega)
    refine ⟨q, ?_, by omega, fun x => ⟨by omega, h6 x⟩⟩
    simp only [decide_eq_false hr, cond_false]; exact h4
theorem Sz.loop {α : Type} {l : Nat → List α → Int → Int → Option Int} {e : Nat → α → Int → Option Int} {B W : α → Prop}
    (hl : ∀ k v a i, l (k + 1) v a i = bif decide (i < (v.length : Int)) then ((ix v i).bind fun x => ((e k x a).bind fun r => (bif decide (r < 0) then (some (-1)) else (l k v r (IntKind.i64.wrap (i + 1)))))) else some a)
    (he : ∀ x a, W x → Lft a → Sz (fun k => e k x a) a (B x)) (v : List α) (hw : ∀ x ∈ v, W x) (hv : v.length ≤ 1048576) :
    ∀ (n i : Nat) (a : Int), v.length - i ≤ n → Lft a → Sz (fun k => l k v a (i : Int)) a (∀ x ∈ v.drop i, B x) := by
  intro n
  induction n with
  | zero =>
    intro i a h ha
    refine Sz.step ?_
    simp only [hl, ltn (show ¬ i < v.length by omega), cond_false]
    rw [List.drop_of_length_le (by omega)]
    exact Sz.ret.mono fun _ => by simp
  | succ n ih =>
    intro i a h ha
    by_cases hi : i < v.length
    · refine Sz.step ?_
      simp only [hl, ltd hi, cond_true, ixg hi, Option.bind_some, wup hi (by omega)]
      rw [List.drop_eq_getElem_cons hi]
      exact (Sz.call ha (he _ a (hw _ (List.getElem_mem hi)) ha) fun r hr => ih (i + 1) r (by omega) hr).mono fun h x hx => by
        rcases List.mem_cons.1 hx with rfl | hx
        · exact h.1
        · exact h.2 x hx
    · refine Sz.step ?_
      simp only [hl, ltn hi, cond_false]
      rw [List.drop_of_length_le (by omega)]
      exact Sz.ret.mono fun _ => by simp
theorem Sz.strs {l : Nat → List ByteArray → Int → Int → Option Int}
    (hl : ∀ k v a i, l (k + 1) v a i = bif decide (i < (v.length : Int)) then ((ix v i).bind fun x => (bif decide ((IntKind.i64.wrap (a - (x.size : Int))) < 0) then (some (-1)) else (l k v (IntKind.i64.wrap (a - (x.size : Int))) (IntKind.i64.wrap (i + 1))))) else some a)
    (v : List ByteArray) (hs : ∀ x ∈ v, Str x) (hv : v.length ≤ 1048576) :
    ∀ (n i : Nat) (a : Int), v.length - i ≤ n → Lft a → Sz (fun k => l k v a (i : Int)) a (∀ x ∈ v.drop i, x.size ≤ 1048576) := by
  intro n
  induction n with
  | zero =>
    intro i a h ha
    refine Sz.step ?_
    simp only [hl, ltn (show ¬ i < v.length by omega), cond_false]
    rw [List.drop_of_length_le (by omega)]
    exact Sz.ret.mono fun _ => by simp
  | succ n ih =>
    intro i a h ha
    by_cases hi : i < v.length
    · refine Sz.step ?_
      simp only [hl, ltd hi, cond_true, ixg hi, Option.bind_some, wup hi (by omega)]
      rw [List.drop_eq_getElem_cons hi]
      have hx : (v[i]).size ≤ 9223372036854775807 := by have := hs _ (List.getElem_mem hi); unfold Str at this; omega
      exact (Sz.len ha (fun _ hr => ih (i + 1) _ (by omega) hr) hx).mono fun h x hx => by
        rcases List.mem_cons.1 hx with rfl | hx
        · exact h.1
        · exact h.2 x hx
    · refine Sz.step ?_
      simp only [hl, ltn hi, cond_false]
      rw [List.drop_of_length_le (by omega)]
      exact Sz.ret.mono fun _ => by simp
theorem mks_ {α : Type} (z : α) {n : Nat} (hn : n ≤ 1048576) : mks z (n : Int) (n : Int) = some (List.replicate n z) := by
  unfold mks
  rw [if_pos (by omega), Int.toNat_natCast]
theorem inr_ {i n : Nat} (h : i < n) : inr (i : Int) n = some () := by
  unfold inr
  rw [if_pos (by omega)]
theorem to_loop {α β : Type} {l : Nat → List α → List β → Int → List β → Option (List β)} {e : Nat → α → Option β} {tr : α → β} {B : α → Prop}
    (hl : ∀ k v0 v1 i v3, l (k + 1) v0 v1 i v3 = bif decide (i < (v0.length : Int)) then ((ix v0 i).bind fun x => ((e k x).bind fun y => ((inr i v1.length).bind fun _ => ((v3[(Int.toNat i)]?).bind fun _ => (l k v0 v1 (IntKind.i64.wrap (i + 1)) (setr v3 (Int.toNat i) y)))))) else some (List.take v1.length v3))
    (he : ∀ x, B x → Ev (fun k => e k x) (tr x)) (v : List α) (hB : ∀ x ∈ v, B x) (hv : v.length ≤ 1048576) (v1 : List β) (h1 : v1.length = v.length) :
    ∀ (n i : Nat) (w : List β), v.length - i ≤ n → w.length = v.length → w.take i = (v.take i).map tr → Ev (fun k => l k v v1 (i : Int) w) (v.map tr) := by
  have fin : ∀ (i : Nat) (w : List β), v.length ≤ i → w.length = v.length → w.take i = (v.take i).map tr → List.take v1.length w = v.map tr := fun i w hi hw h => by
    rw [h1, List.take_of_length_le (by omega)]
    rw [List.take_of_length_le (by omega), List.take_of_length_le (by omega)] at h
    exact h
  intro n
  induction n with
  | zero =>
    intro i w h hw ht
    refine Ev.step ?_
    simp only [hl, ltn (show ¬ i < v.length by omega), cond_false, fin i w (by omega) hw ht]
    exact Ev.ret _
  | succ n ih =>
    intro i w h hw ht
    by_cases hi : i < v.length
    · refine Ev.step ?_
      have hiw : i < w.length := by omega
      simp only [hl, ltd hi, cond_true, ixg hi, Option.bind_some, inr_ (show i < v1.length by omega), Int.toNat_natCast, List.getElem?_eq_getElem hiw, wup hi (by omega)]
      refine Ev.bind (he _ (hB _ (List.getElem_mem hi))) ?_
      refine ih (i + 1) _ (by omega) (by simp [setr, hw]) ?_
      rw [List.take_succ_eq_append_getElem (by simpa [setr] using hiw), List.take_succ_eq_append_getElem hi, List.map_append, ← ht]
      simp [setr]
      exact List.take_set_of_le (Nat.le_refl _)
    · refine Ev.step ?_
      simp only [hl, ltn hi, cond_false, fin i w (by omega) hw ht]
      exact Ev.ret _
theorem to_f {α β : Type} {f : Nat → List α → Option (List β)} {l : Nat → List α → List β → Int → List β → Option (List β)} {z : β} {tr : α → β} {v : List α} (hv : v.length ≤ 1048576)
    (hf : ∀ k v0, f (k + 1) v0 = (mks z (v0.length : Int) (v0.length : Int)).bind fun v1 => l k v0 v1 0 v1)
    (h : ∀ v1 : List β, v1.length = v.length → ∀ (n i : Nat) (w : List β), v.length - i ≤ n → w.length = v.length → w.take i = (v.take i).map tr → Ev (fun k => l k v v1 (i : Int) w) (v.map tr)) : Ev (fun k => f k v) (v.map tr) := by
  refine Ev.step ?_
  simp only [hf, mks_ z hv, Option.bind_some]
  exact h _ (by simp) _ 0 _ (Nat.le_refl _) (by simp) (by simp)
theorem to_strs {l : Nat → List ByteArray → List ByteArray → Int → List ByteArray → Option (List ByteArray)} (hl : ∀ k v0 v1 i v3, l (k + 1) v0 v1 i v3 = bif decide (i < (v0.length : Int)) then ((ix v0 i).bind fun x => ((inr i v1.length).bind fun _ => ((v3[(Int.toNat i)]?).bind fun _ => (l k v0 v1 (IntKind.i64.wrap (i + 1)) (setr v3 (Int.toNat i) x))))) else some (List.take v1.length v3))
    (v : List ByteArray) (hv : v.length ≤ 1048576) (v1 : List ByteArray) (h1 : v1.length = v.length) :
    ∀ (n i : Nat) (w : List ByteArray), v.length - i ≤ n → w.length = v.length → w.take i = (v.take i).map id → Ev (fun k => l k v v1 (i : Int) w) (v.map id) :=
  to_loop (e := fun _ x => some x) (B := fun _ => True) (fun k v0 v1 i v3 => by rw [hl]; rfl) (fun x _ => Ev.ret x) v (fun _ _ => trivial) hv v1 h1
theorem eq_loop {α : Type} {l : Nat → List α → List α → Int → Option Bool} {e : Nat → α → α → Option Bool}
    (hl : ∀ k v w i, l (k + 1) v w i = bif decide (i < (v.length : Int)) then ((ix v i).bind fun x => ((ix w i).bind fun y => ((e k x y).bind fun b => (bif b then (l k v w (IntKind.i64.wrap (i + 1))) else some false)))) else some true)
    (v : List α) (he : ∀ x ∈ v, Ev (fun k => e k x x) true) (hv : v.length ≤ 1048576) : ∀ (n i : Nat), v.length - i ≤ n → Ev (fun k => l k v v (i : Int)) true := by
  intro n
  induction n with
  | zero =>
    intro i h
    refine Ev.step ?_
    simp only [hl, ltn (show ¬ i < v.length by omega), cond_false]
    exact Ev.ret _
  | succ n ih =>
    intro i h
    refine Ev.step ?_
    by_cases hi : i < v.length
    · simp only [hl, ltd hi, cond_true, ixg hi, Option.bind_some, wup hi (by omega)]
      exact Ev.bind (he _ (List.getElem_mem hi)) (by simp only [cond_true]; exact ih (i + 1) (by omega))
    · simp only [hl, ltn hi, cond_false]; exact Ev.ret _
theorem eq_f {α : Type} {f : Nat → List α → List α → Option Bool} {l : Nat → List α → List α → Int → Option Bool} {v : List α} (hf : ∀ k v w, f (k + 1) v w = (bif ((v.length : Int) == (w.length : Int)) then l k v w 0 else some false))
    (h : ∀ (n i : Nat), v.length - i ≤ n → Ev (fun k => l k v v (i : Int)) true) : Ev (fun k => f k v v) true := by
  refine Ev.step ?_
  simp only [hf, beq_self_eq_true, cond_true]
  exact h _ 0 (Nat.le_refl _)
theorem eq_strs {l : Nat → List ByteArray → List ByteArray → Int → Option Bool}
    (hl : ∀ k v w i, l (k + 1) v w i = bif decide (i < (v.length : Int)) then ((ix v i).bind fun x => ((ix w i).bind fun y => (bif decide (x = y) then (l k v w (IntKind.i64.wrap (i + 1))) else some false))) else some true)
    (v : List ByteArray) (hv : v.length ≤ 1048576) : ∀ (n i : Nat), v.length - i ≤ n → Ev (fun k => l k v v (i : Int)) true :=
  eq_loop (e := fun _ x y => some (decide (x = y))) (fun k v w i => by rw [hl]; rfl) v (fun x _ => by simp only [decide_true]; exact Ev.ret _) hv
theorem eq_ints {l : Nat → List Int → List Int → Int → Option Bool}
    (hl : ∀ k v w i, l (k + 1) v w i = bif decide (i < (v.length : Int)) then ((ix v i).bind fun x => ((ix w i).bind fun y => (bif (x == y) then (l k v w (IntKind.i64.wrap (i + 1))) else some false))) else some true)
    (v : List Int) (hv : v.length ≤ 1048576) : ∀ (n i : Nat), v.length - i ≤ n → Ev (fun k => l k v v (i : Int)) true :=
  eq_loop (e := fun _ x y => some (x == y)) (fun k v w i => by rw [hl]; rfl) v (fun x _ => by simp only [beq_self_eq_true]; exact Ev.ret _) hv
theorem Sz.slice {α : Type} {f : Nat → List α → Int → Option Int} {l : Nat → List α → Int → Int → Option Int} {B : α → Prop} {v : List α} (hn : v.length ≤ 9223372036854775807)
    (hf : ∀ k v a, f (k + 1) v a = bif decide ((IntKind.i64.wrap (a - (v.length : Int))) < 0) then (some (-1)) else l k v (IntKind.i64.wrap (a - (v.length : Int))) 0)
    (h : v.length ≤ 1048576 → ∀ (n i : Nat) (a : Int), v.length - i ≤ n → Lft a → Sz (fun k => l k v a (i : Int)) a (∀ x ∈ v.drop i, B x)) {a : Int} (ha : Lft a) : Sz (fun k => f k v a) a (v.length ≤ 1048576 ∧ ∀ x ∈ v, B x) := by
  refine Sz.step ?_
  simp only [hf]
  exact Sz.len ha (fun hl hb => h hl _ 0 _ (Nat.le_refl _) hb) hn
end Go.Ab
namespace Go.Ab
open Go.Proofs
set_option linter.unusedVariables false
set_option linter.unusedSimpArgs false
theorem markText_fin (t : ByteArray) (h1 : (t.size : Int) ≤ 5000000000000000000) : ∃ r, Ev (fun k => laws_markText.l0 k 0 t) r := by
  refine ⟨(⟨#[109]⟩ : ByteArray) ++ t, Ev.step ?_⟩
  have hs1 : (⟨#[109]⟩ : ByteArray).size = 1 := rfl
  have e : cat (⟨#[109]⟩ : ByteArray) t = some ((⟨#[109]⟩ : ByteArray) ++ t) := by unfold cat; rw [if_pos (by omega)]
  simp only [laws_markText.l0, Int.lt_irrefl, decide_false, cond_false, e, Option.bind_some]
  exact Ev.ret _
theorem markText_l0 : ∀ (n : Nat) (a : Int) (t : ByteArray), a.toNat ≤ n → 0 ≤ a → a + t.size ≤ 5000000000000000000 → ∃ r, Ev (fun k => laws_markText.l0 k a t) r := by
  intro n
  induction n with
  | zero =>
    intro a t h h0 h1
    have : a = 0 := by omega
    subst this
    exact markText_fin t (by omega)
  | succ n ih =>
    intro a t h h0 h1
    by_cases ha : 0 < a
    · have e1 : rem a 10 = some (a.tmod 10) := by unfold Ab.rem; rw [if_neg (by decide)]
      have e2 : quo .i64 a 10 = some (a.tdiv 10) := by
        unfold quo; rw [if_neg (by decide), wI]
        · have : 0 ≤ a.tdiv 10 := Int.tdiv_nonneg h0 (by decide)
          omega
        · rw [Int.tdiv_eq_ediv_of_nonneg h0]; omega
      have hb : ∀ x : Int, (bstr [x]).size = 1 := fun x => rfl
      have hd : a.tdiv 10 + 1 ≤ a ∧ 0 ≤ a.tdiv 10 := by rw [Int.tdiv_eq_ediv_of_nonneg h0]; omega
      obtain ⟨r, hr⟩ := ih (a.tdiv 10) (bstr [IntKind.u8.wrap (IntKind.i64.wrap (48 + a.tmod 10))] ++ t) (by omega) (by omega) (by rw [ByteArray.size_append, hb]; omega)
      refine ⟨r, Ev.step ?_⟩
      simp only [laws_markText.l0, decide_eq_true ha, cond_true, e1, e2, Option.bind_some]
      unfold cat
      rw [if_pos (by rw [hb]; omega)]
      exact hr
    · have : a = 0 := by omega
      subst this
      exact markText_fin t (by omega)
theorem markText_ev (a : Int) (h0 : 0 ≤ a) (h1 : a ≤ 4600000000000000000) : ∃ r, Ev (fun k => laws_markText.f k a) r := by
  by_cases h : a ≤ 0
  · exact ⟨_, Ev.step (by simp only [laws_markText.f, decide_eq_true h, cond_true]; exact Ev.ret _)⟩
  · obtain ⟨r, hr⟩ := markText_l0 a.toNat a (⟨#[]⟩ : ByteArray) (Nat.le_refl _) h0 (by have : (⟨#[]⟩ : ByteArray).size = 0 := rfl; omega)
    exact ⟨r, Ev.step (by simp only [laws_markText.f, decide_eq_false h, cond_false]; exact hr)⟩
theorem wm1 {a : Int} (h0 : 0 ≤ a) (h1 : a ≤ 4600000000000000000) : IntKind.i64.wrap (a + 1) = a + 1 := wI (by omega) (by omega)
/-- Marks are counted up, by at most so many. -/
def Mk (f : Nat → Int → Option Int) (B : Int) : Prop := ∀ c, 0 ≤ c → c + B ≤ 4500000000000000000 → ∃ r, Ev (fun k => f k c) r ∧ c ≤ r ∧ r ≤ c + B
theorem Mk.loop {α : Type} {l : Nat → List α → Int → Int → Option Int} {body : Nat → List α → Int → Int → Option Int} {v : List α} {Be : Int} (hBe : 0 ≤ Be)
    (hl : ∀ k c i, l (k + 1) v c i = bif decide (i < (v.length : Int)) then body k v c i else some c)
    (hb : ∀ (i : Nat), i < v.length → ∀ c, 0 ≤ c → c + Be ≤ 4500000000000000000 → ∃ c', c ≤ c' ∧ c' ≤ c + Be ∧ ∀ R, Ev (fun k => l k v c' ((i + 1 : Nat) : Int)) R → Ev (fun k => body k v c (i : Int)) R) :
    ∀ (n i : Nat) (c : Int), v.length - i ≤ n → 0 ≤ c → c + (n : Int) * Be ≤ 4500000000000000000 → ∃ r, Ev (fun k => l k v c (i : Int)) r ∧ c ≤ r ∧ r ≤ c + (n : Int) * Be := by
  intro n
  induction n with
  | zero =>
    intro i c h h0 h1
    refine ⟨c, Ev.step ?_, Int.le_refl _, by simp⟩
    simp only [hl, ltn (show ¬ i < v.length by omega), cond_false]; exact Ev.ret _
  | succ n ih =>
    intro i c h h0 h1
    have e : ((n + 1 : Nat) : Int) * Be = (n : Int) * Be + Be := by rw [Int.natCast_succ, Int.add_mul, Int.one_mul]
    have hp : 0 ≤ (n : Int) * Be := Int.mul_nonneg (by omega) hBe
    rw [e] at h1
    by_cases hi : i < v.length
    · obtain ⟨c', q1, q2, q3⟩ := hb i hi c h0 (by omega)
      obtain ⟨r, r1, r2, r3⟩ := ih (i + 1) c' (by omega) (by omega) (by omega)
      refine ⟨r, Ev.step ?_, by omega, by omega⟩
      simp only [hl, ltd hi, cond_true]; exact q3 _ r1
    · refine ⟨c, Ev.step ?_, Int.le_refl _, by omega⟩
      simp only [hl, ltn hi, cond_false]; exact Ev.ret _
theorem Mk.slice {α : Type} {f : Nat → List α → Int → Option Int} {l : Nat → List α → Int → Int → Option Int} {body : Nat → List α → Int → Int → Option Int} {v : List α} {Be : Int} (hv : v.length ≤ 1048576) (hBe : 0 ≤ Be)
    (hf : ∀ k c, f (k + 1) v c = l k v c 0) (hl : ∀ k c i, l (k + 1) v c i = bif decide (i < (v.length : Int)) then body k v c i else some c)
    (hb : ∀ (i : Nat), i < v.length → ∀ c, 0 ≤ c → c + Be ≤ 4500000000000000000 → ∃ c', c ≤ c' ∧ c' ≤ c + Be ∧ ∀ R, Ev (fun k => l k v c' ((i + 1 : Nat) : Int)) R → Ev (fun k => body k v c (i : Int)) R) :
    Mk (fun k c => f k v c) (1048576 * Be) := fun c h0 h1 => by
  have hle : (v.length : Int) * Be ≤ 1048576 * Be := Int.mul_le_mul_of_nonneg_right (by omega) hBe
  obtain ⟨r, r1, r2, r3⟩ := Mk.loop hBe hl hb v.length 0 c (by omega) h0 (by omega)
  exact ⟨r, Ev.step (by simp only [hf]; exact r1), r2, by omega⟩
/-- A mark in rows is there again. -/
theorem setr_get {α : Type} {w : List α} {i : Nat} {x : α} (h : i < w.length) : (setr w i x)[i]? = some x := by
  unfold setr; rw [List.getElem?_set_self h]
theorem setr_two {α : Type} {w : List α} {i : Nat} {x y : α} : setr (setr w i x) i y = setr w i y := by
  unfold setr; rw [List.set_set]
theorem setr_len {α : Type} {w : List α} {i : Nat} {x : α} : (setr w i x).length = w.length := by unfold setr; rw [List.length_set]
/-- Rows that are marked, and are held to be. -/
def Mh {α : Type} (m : Nat → Nat → Int → List α → Option (Int × List α)) (h : Nat → Nat → Int → List α → Option Int) : Prop :=
  ∀ (v : List α) (c : Int), v.length ≤ 2000000 → 0 ≤ c → c ≤ 1000000000000 → ∃ v' r, 0 ≤ r ∧ Ev (fun k => m k v.length c v) (r, v') ∧ Ev (fun k => h k v.length c v') r
theorem Mh.loop {α : Type} {ml : Nat → Nat → Int → Int → List α → Option (Int × List α)} {hl : Nat → Nat → Int → Int → List α → Option Int} {N : Nat} {Be : Int} (hBe : 0 ≤ Be ∧ Be ≤ 1000)
    (hN : N ≤ 2000000)
    (step : ∀ (w : List α) (i : Nat) (c : Int), w.length = N → i < N → 0 ≤ c → c ≤ 4000000000000000000 → ∃ x c', c ≤ c' ∧ c' ≤ c + Be ∧
      (∀ R, Ev (fun k => ml k N c' ((i + 1 : Nat) : Int) (setr w i x)) R → Ev (fun k => ml k N c (i : Int) w) R) ∧
      (∀ (v' : List α) R, v'[i]? = some x → Ev (fun k => hl k N c' ((i + 1 : Nat) : Int) v') R → Ev (fun k => hl k N c (i : Int) v') R))
    (stop : ∀ (w : List α) (i : Nat) (c : Int), ¬ i < N → Ev (fun k => ml k N c (i : Int) w) (c, w) ∧ Ev (fun k => hl k N c (i : Int) w) c) :
    ∀ (n i : Nat) (c : Int) (w : List α), N - i ≤ n → w.length = N → 0 ≤ c → c + (n : Int) * 1000 ≤ 4000000000000000000 → ∃ v' r, v'.length = N ∧ c ≤ r ∧ (∀ j, j < i → v'[j]? = w[j]?) ∧ Ev (fun k => ml k N c (i : Int) w) (r, v') ∧ Ev (fun k => hl k N c (i : Int) v') r := by
  intro n
  induction n with
  | zero =>
    intro i c w h hw h0 h1
    obtain ⟨q1, q2⟩ := stop w i c (by omega)
    exact ⟨w, c, hw, Int.le_refl _, fun _ _ => rfl, q1, q2⟩
  | succ n ih =>
    intro i c w h hw h0 h1
    by_cases hi : i < N
    · obtain ⟨x, c', q1, q2, q3, q4⟩ := step w i c hw hi h0 (by omega)
      obtain ⟨v', r, r1, r2, r3, r4, r5⟩ := ih (i + 1) c' (setr w i x) (by omega) (by rw [setr_len]; exact hw) (by omega) (by omega)
      refine ⟨v', r, r1, by omega, fun j hj => ?_, q3 _ r4, q4 _ _ (by rw [r3 i (by omega)]; exact setr_get (by omega)) r5⟩
      rw [r3 j (by omega)]; unfold setr; rw [List.getElem?_set_ne (by omega)]
    · obtain ⟨q1, q2⟩ := stop w i c hi
      exact ⟨w, c, hw, Int.le_refl _, fun _ _ => rfl, q1, q2⟩
theorem Mh.of {α : Type} {m : Nat → Nat → Int → List α → Option (Int × List α)} {h : Nat → Nat → Int → List α → Option Int} {ml : Nat → Nat → Int → Int → List α → Option (Int × List α)} {hl : Nat → Nat → Int → Int → List α → Option Int} {Be : Int} (hBe : 0 ≤ Be ∧ Be ≤ 1000)
    (hm : ∀ k N c w, m (k + 1) N c w = ml k N c 0 w) (hh : ∀ k N c w, h (k + 1) N c w = hl k N c 0 w)
    (step : ∀ (N : Nat) (w : List α) (i : Nat) (c : Int), N ≤ 2000000 → w.length = N → i < N → 0 ≤ c → c ≤ 4000000000000000000 → ∃ x c', c ≤ c' ∧ c' ≤ c + Be ∧
      (∀ R, Ev (fun k => ml k N c' ((i + 1 : Nat) : Int) (setr w i x)) R → Ev (fun k => ml k N c (i : Int) w) R) ∧
      (∀ (v' : List α) R, v'[i]? = some x → Ev (fun k => hl k N c' ((i + 1 : Nat) : Int) v') R → Ev (fun k => hl k N c (i : Int) v') R))
    (stop : ∀ (N : Nat) (w : List α) (i : Nat) (c : Int), ¬ i < N → Ev (fun k => ml k N c (i : Int) w) (c, w) ∧ Ev (fun k => hl k N c (i : Int) w) c) : Mh m h := fun v c hv h0 h1 => by
  obtain ⟨v', r, r1, r2, _, r4, r5⟩ := Mh.loop hBe hv (fun w i c => step v.length w i c hv) (fun w i c => stop v.length w i c) v.length 0 c v (by omega) rfl h0 (by omega)
  exact ⟨v', r, by omega, Ev.step (by simp only [hm]; exact r4), Ev.step (by simp only [hh]; exact r5)⟩
/-- Own rows compared with own rows. -/
theorem eqb_loop {α : Type} {l : Nat → Nat → Nat → Int → List α → List α → Option Bool} {v : List α} (hv : v.length ≤ 2000000)
    (step : ∀ (i : Nat), i < v.length → ∀ R, Ev (fun k => l k v.length v.length ((i + 1 : Nat) : Int) v v) R → Ev (fun k => l k v.length v.length (i : Int) v v) R)
    (stop : ∀ (i : Nat), ¬ i < v.length → Ev (fun k => l k v.length v.length (i : Int) v v) true) : ∀ (n i : Nat), v.length - i ≤ n → Ev (fun k => l k v.length v.length (i : Int) v v) true := by
  intro n
  induction n with
  | zero => intro i h; exact stop i (by omega)
  | succ n ih =>
    intro i h
    by_cases hi : i < v.length
    · exact step i hi _ (ih (i + 1) (by omega))
    · exact stop i hi
end Go.Ab
namespace Go.Ab
open Go.Proofs
set_option linter.unusedVariables false
set_option linter.unusedSimpArgs false
theorem w1b {i n : Nat} (h : i < n) (hn : n ≤ 60000000000) : IntKind.i64.wrap ((i : Int) + 1) = ((i + 1 : Nat) : Int) := by
  rw [wI (by omega) (by omega)]; omega
theorem m1b {i n : Nat} (h0 : 0 < i) (h : i ≤ n) (hn : n ≤ 60000000000) : IntKind.i64.wrap ((i : Int) - 1) = ((i - 1 : Nat) : Int) := by
  rw [wI (by omega) (by omega)]; omega
/-- A search through rows. -/
theorem search {α R : Type} {l : List α} {p : α → Bool} {hit : Int → R} {miss : R} {F : Nat → Int → Option R} (hl : l.length ≤ 60000000000)
  (h : ∀ k i, F (k + 1) i = bif decide (i < (l.length : Int)) then ((ix l i).bind fun x => bif p x then some (hit i) else F k (IntKind.i64.wrap (i + 1))) else some miss) :
  ∀ n i : Nat, l.length - i ≤ n → Ev (fun k => F k (i : Int)) (match (l.drop i).findIdx? p with | some j => hit ((i + j : Nat) : Int) | none => miss) := by
  intro n
  induction n with
  | zero =>
    intro i hi
    refine Ev.step ?_
    simp only [h, ltn (show ¬ i < l.length by omega), cond_false, List.drop_of_length_le (show l.length ≤ i by omega), List.findIdx?_nil]
    exact Ev.ret _
  | succ n ih =>
    intro i hn
    by_cases hi : i < l.length
    case neg =>
      refine Ev.step ?_
      simp only [h, ltn hi, cond_false, List.drop_of_length_le (show l.length ≤ i by omega), List.findIdx?_nil]
      exact Ev.ret _
    refine Ev.step ?_
    simp only [h, ltd hi, cond_true, ixg hi, Option.bind_some]
    rw [List.drop_eq_getElem_cons hi, List.findIdx?_cons]
    cases hp : p l[i] with
    | true => exact Ev.ret _
    | false =>
      simp only [cond_false, w1b hi hl]
      refine (ih (i + 1) (by omega)).eq ?_
      cases List.findIdx? p (l.drop (i + 1)) with
      | none => rfl
      | some j => simp [Nat.add_assoc, Nat.add_comm, Nat.add_left_comm]
def fnd {α : Type} (p : α → Bool) (l : List α) : Int := match l.findIdx? p with | some j => (j : Int) | none => -1
theorem fnd_cases {α : Type} (p : α → Bool) (l : List α) : (fnd p l = -1 ∧ l.find? p = none ∧ ∀ x ∈ l, p x = false) ∨ ∃ (j : Nat) (hj : j < l.length), fnd p l = (j : Int) ∧ l.find? p = some l[j] ∧ p l[j] = true := by
  unfold fnd
  induction l with
  | nil => left; simp
  | cons a l ih =>
    rw [List.findIdx?_cons, List.find?_cons]
    cases ha : p a with
    | true => right; exact ⟨0, by simp, rfl, rfl, ha⟩
    | false =>
      rcases ih with ⟨h1, h2, h3⟩ | ⟨j, hj, h1, h2, h3⟩
      · left
        refine ⟨?_, h2, ?_⟩
        · cases hf : List.findIdx? p l with
          | none => simp
          | some q => rw [hf] at h1; simp only at h1; omega
        · intro x hx
          rcases List.mem_cons.1 hx with rfl | hx
          · exact ha
          · exact h3 x hx
      · right
        refine ⟨j + 1, by simp; omega, ?_, by simpa using h2, by simpa using h3⟩
        cases hf : List.findIdx? p l with
        | none => rw [hf] at h1; simp only at h1; omega
        | some q => rw [hf] at h1; simp only at h1; simp; omega
def has (l : List ByteArray) (a : ByteArray) : Bool := l.any fun x => decide (x = a)
theorem has_iff {l : List ByteArray} {a : ByteArray} : has l a = true ↔ a ∈ l := by simp [has]
theorem has_no {l : List ByteArray} {a : ByteArray} : has l a = false ↔ a ∉ l := by rw [← has_iff]; simp
theorem mem_idx {l : List ByteArray} {a : ByteArray} {p : ByteArray → Bool} (hp : ∀ x, p x = decide (x = a)) : (match l.findIdx? p with | some j => true | none => false) = has l a := by
  induction l with
  | nil => rfl
  | cons b l ih =>
    rw [List.findIdx?_cons, hp]
    unfold has
    rw [List.any_cons]
    by_cases h : b = a
    · simp [h]
    · rw [decide_eq_false h, Bool.false_or]
      refine Eq.trans ?_ ih
      cases List.findIdx? p l <;> simp
theorem smem {l : List ByteArray} (hs : l.length ≤ 60000000000) (a : ByteArray) : Ev (fun k => spec_l01InTexts.f k l a) (has l a) := by
  refine Ev.step ?_
  simp only [spec_l01InTexts.f]
  have := search (p := fun x => decide (x = a)) (hit := fun _ => true) (miss := false) (F := fun k i => spec_l01InTexts.l0 k l a i) hs (fun k i => by simp only [spec_l01InTexts.l0]) _ 0 (Nat.le_refl _)
  refine this.eq ?_
  rw [List.drop_zero]
  exact mem_idx fun x => rfl
theorem imem {l : List ByteArray} (hs : l.length ≤ 60000000000) (a : ByteArray) : Ev (fun k => slices_Contains.f k l a) (has l a) := by
  have h1 : Ev (fun k => slices_Index.f k l a) (fnd (fun x => decide (a = x)) l) := by
    refine Ev.step ?_
    simp only [slices_Index.f]
    have := search (p := fun x => decide (a = x)) (hit := fun i => i) (miss := -1) (F := fun k i => slices_Index.l0 k l a i) hs (fun k i => by simp only [slices_Index.l0]) _ 0 (Nat.le_refl _)
    simpa [fnd] using this
  simp only [slices_Contains.f]
  refine Ev.bind h1 ((Ev.ret _).eq ?_)
  rw [← mem_idx (l := l) (a := a) (p := fun x => decide (a = x)) fun x => decide_eq_decide.2 eq_comm]
  unfold fnd
  cases List.findIdx? (fun x => decide (a = x)) l with
  | none => rfl
  | some j => simp
end Go.Ab
