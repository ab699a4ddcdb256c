/- The order of values as a plain function: it turns with its sides, goes on from one to the next, and is 0 for the same value alone. No condition. -/
import Derived.Test.YtklhcjepgbakmaaGreatDoorAbDW
import Derived.Test.YtklhcjepgbakmaaGreatDoorAbL6
namespace Go.Ab
open Go.Proofs
set_option linter.unusedVariables false
set_option linter.unusedSimpArgs false
/-- An order told by -1, 0, 1. -/
structure Cmp3 {α : Type} (f : α → α → Int) : Prop where
  rng : ∀ x y, f x y = -1 ∨ f x y = 0 ∨ f x y = 1
  anti : ∀ x y, f y x = - f x y
  trans : ∀ x y z, f x y ≤ 0 → f y z ≤ 0 → f x z ≤ 0
def thenC (a b : Int) : Int := if a = 0 then b else a
section
variable {α β : Type} {f g : α → α → Int}
theorem Cmp3.eqv (h : Cmp3 f) {x y z : α} (h1 : f x y ≤ 0) (h2 : f y z ≤ 0) (h3 : f x z = 0) : f x y = 0 ∧ f y z = 0 := by
  have a1 := h.anti x z
  have a2 := h.anti x y
  have a3 := h.anti y z
  have t1 := h.trans y z x h2 (by omega)
  have t2 := h.trans z x y (by omega) h1
  omega
theorem Cmp3.andThen (hf : Cmp3 f) (hg : Cmp3 g) : Cmp3 (fun x y => thenC (f x y) (g x y)) where
  rng x y := by
    have h1 := hf.rng x y
    have h2 := hg.rng x y
    unfold thenC; split <;> omega
  anti x y := by
    have h1 := hf.anti x y
    have h2 := hg.anti x y
    unfold thenC; split <;> split <;> omega
  trans x y z h1 h2 := by
    unfold thenC at *
    have r1 := hf.rng x y
    have r2 := hf.rng y z
    have f1 : f x y ≤ 0 := by split at h1 <;> omega
    have f2 : f y z ≤ 0 := by split at h2 <;> omega
    have f3 := hf.trans x y z f1 f2
    split
    · rename_i h0
      obtain ⟨e1, e2⟩ := hf.eqv f1 f2 h0
      rw [if_pos e1] at h1
      rw [if_pos e2] at h2
      exact hg.trans x y z h1 h2
    · exact f3
theorem Cmp3.on (hf : Cmp3 f) (h : β → α) : Cmp3 (fun x y => f (h x) (h y)) := ⟨fun x y => hf.rng _ _, fun x y => hf.anti _ _, fun x y z => hf.trans _ _ _⟩
def lexC (f : α → α → Int) : List α → List α → Int
 | [], [] => 0
 | [], _ :: _ => -1
 | _ :: _, [] => 1
 | a :: l, b :: m => thenC (f a b) (lexC f l m)
theorem lex_rng (hf : Cmp3 f) : ∀ l m : List α, lexC f l m = -1 ∨ lexC f l m = 0 ∨ lexC f l m = 1
 | [], [] => by simp [lexC]
 | [], _ :: _ => by simp [lexC]
 | _ :: _, [] => by simp [lexC]
 | a :: l, b :: m => by
   have h1 := hf.rng a b
   have h2 := lex_rng hf l m
   simp only [lexC, thenC]; split <;> omega
theorem lex_anti (hf : Cmp3 f) : ∀ l m : List α, lexC f m l = - lexC f l m
 | [], [] => by simp [lexC]
 | [], _ :: _ => by simp [lexC]
 | _ :: _, [] => by simp [lexC]
 | a :: l, b :: m => by
   have h1 := hf.anti a b
   have h2 := lex_anti hf l m
   simp only [lexC, thenC]; split <;> split <;> omega
theorem lex_trans (hf : Cmp3 f) : ∀ l m n : List α, lexC f l m ≤ 0 → lexC f m n ≤ 0 → lexC f l n ≤ 0
 | [], _, [], _, _ => by simp [lexC]
 | [], _, _ :: _, _, _ => by simp [lexC]
 | a :: l, [], n, h, _ => by simp [lexC] at h
 | a :: l, b :: m, [], _, h => by simp [lexC] at h
 | a :: l, b :: m, c :: n, h1, h2 => by
   simp only [lexC, thenC] at *
   have r1 := hf.rng a b
   have r2 := hf.rng b c
   have f1 : f a b ≤ 0 := by split at h1 <;> omega
   have f2 : f b c ≤ 0 := by split at h2 <;> omega
   have f3 := hf.trans a b c f1 f2
   split
   · rename_i h0
     obtain ⟨e1, e2⟩ := hf.eqv f1 f2 h0
     rw [if_pos e1] at h1
     rw [if_pos e2] at h2
     exact lex_trans hf l m n h1 h2
   · exact f3
theorem lexCmp (hf : Cmp3 f) : Cmp3 (lexC f) := ⟨lex_rng hf, lex_anti hf, lex_trans hf⟩
end
theorem cmpI3 : Cmp3 cmpI := ⟨cmpI_rng, fun x y => by unfold cmpI; split <;> split <;> (try split) <;> omega, fun x y z => by unfold cmpI; split <;> split <;> split <;> (try split) <;> (try split) <;> (try split) <;> omega⟩
theorem cmpB3 : Cmp3 cmpB := by
  refine ⟨cmpB_rng, fun x y => ?_, fun x y z h1 h2 => ?_⟩
  · unfold cmpB
    cases h : slt x y with
    | true => rw [slt_asymm h]; simp
    | false => cases h' : slt y x <;> simp
  · unfold cmpB at *
    cases hzx : slt z x with
    | false => split <;> simp
    | true =>
      exfalso
      have n1 : slt y x = false := by
        cases h : slt y x with
        | false => rfl
        | true => rw [h, slt_asymm h] at h1; simp at h1
      have n2 : slt z y = false := by
        cases h : slt z y with
        | false => rfl
        | true => rw [h, slt_asymm h] at h2; simp at h2
      cases h3 : slt x y with
      | true => have := slt_trans hzx h3; rw [n2] at this; cases this
      | false =>
        have e := slt_tri h3 n1
        subst e
        rw [n2] at hzx; cases hzx
def rankV (k : Int) : Int := if k = 0 then 100 else k
/-- A list's, map's or path's parts, with their names. -/
def its (x : S42) : List (ByteArray × S42) := if x.f0 = 7 then x.f5.zip x.f4 else x.f4.map fun v => (⟨#[]⟩, v)
def ordN : Nat → S42 → S42 → Int
 | 0, _, _ => 0
 | n + 1, x, y => thenC (cmpI (rankV x.f0) (rankV y.f0)) (thenC (cmpB x.f3 y.f3) (thenC (cmpI x.f1 y.f1) (thenC (cmpI x.f2 y.f2) (lexC (fun a b => thenC (cmpB a.1 b.1) (ordN n a.2 b.2)) (its x) (its y)))))
theorem ordN3 : ∀ n, Cmp3 (ordN n)
 | 0 => ⟨fun _ _ => .inr (.inl rfl), fun _ _ => rfl, fun _ _ _ _ _ => Int.le_refl _⟩
 | n + 1 => (cmpI3.on (fun x : S42 => rankV x.f0)).andThen ((cmpB3.on (fun x : S42 => x.f3)).andThen ((cmpI3.on (fun x : S42 => x.f1)).andThen ((cmpI3.on (fun x : S42 => x.f2)).andThen ((lexCmp ((cmpB3.on (fun p : ByteArray × S42 => p.1)).andThen ((ordN3 n).on (fun p : ByteArray × S42 => p.2)))).on its))))
theorem its_snd {x : S42} (hw : Wf x) : (its x).map (·.2) = x.f4 := by
  obtain ⟨_, _, nx, _⟩ := hw.p
  unfold its
  split
  · rename_i h7
    rw [if_pos h7] at nx
    exact List.map_snd_zip (by omega)
  · rw [List.map_map]; exact List.map_id _
theorem its_fst {x : S42} (hw : Wf x) (h7 : x.f0 = 7) : (its x).map (·.1) = x.f5 := by
  obtain ⟨_, _, nx, _⟩ := hw.p
  rw [if_pos h7] at nx
  unfold its
  rw [if_pos h7]
  exact List.map_fst_zip (by omega)
/-- A text has no number beside it. -/
inductive Wz : S42 → Prop
 | mk (v : S42) (h : v.f0 = 3 → v.f1 = 0) (hi : ∀ y ∈ v.f4, Wz y) : Wz v
theorem txt_z {x : S42} {l : List UInt8} (h : Txt x l) : Wz x := by
  have parts : ∀ (items : List S42) (ls : List (List UInt8)), ls.length = items.length → (∀ (i : Nat) (x : S42) (l : List UInt8), items[i]? = some x → ls[i]? = some l → Wz x) → ∀ y ∈ items, Wz y := fun items ls hl h y hy => by
    obtain ⟨j, hj, e⟩ := List.getElem_of_mem hy
    exact h j y (ls[j]'(by omega)) (by rw [← e]; exact List.getElem?_eq_getElem hj) (List.getElem?_eq_getElem _)
  induction h with
  | list items ls hl h ih => exact .mk _ (fun e => by simp at e) (parts items ls hl ih)
  | map items names ls hl hn hr hk h ih => exact .mk _ (fun e => by simp at e) (parts items ls hl ih)
  | path items ls hl h hk ih => exact .mk _ (fun e => by simp at e) (parts items ls hl ih)
  | thing kind w n h hn => exact .mk _ (fun e => by rcases h with ⟨_, h⟩ | ⟨_, h⟩ <;> simp [h] at e) (fun y hy => by simp at hy)
  | num n h => exact .mk _ (fun e => by simp at e) (fun y hy => by simp at hy)
  | null => exact .mk _ (fun e => by simp at e) (fun y hy => by simp at hy)
  | tru => exact .mk _ (fun e => by simp at e) (fun y hy => by simp at hy)
  | fls => exact .mk _ (fun e => by simp at e) (fun y hy => by simp at hy)
  | text s hs => exact .mk _ (fun _ => rfl) (fun y hy => by simp at hy)
  | date n l h => exact .mk _ (fun e => by simp at e) (fun y hy => by simp at hy)
  | point a b ha hb => exact .mk _ (fun e => by simp at e) (fun y hy => by simp at hy)
theorem Wz.p {v : S42} (h : Wz v) : (v.f0 = 3 → v.f1 = 0) ∧ ∀ y ∈ v.f4, Wz y := by
  cases h with | mk _ h hi => exact ⟨h, hi⟩
/-! What the program's order tells -/
section
variable {x y : S42}
theorem its_len (hw : Wf x) : (its x).length = x.f4.length := by
  have := congrArg List.length (its_snd hw)
  rwa [List.length_map] at this
theorem its_get (hw : Wf x) {i : Nat} (h : i < x.f4.length) : ((its x)[i]'(by rw [its_len hw]; exact h)).2 = x.f4[i] := by
  have e := its_snd hw
  have : ((its x).map (·.2))[i]'(by rw [List.length_map, its_len hw]; exact h) = x.f4[i] := by simp only [e]
  rwa [List.getElem_map] at this
theorem its_name (hw : Wf x) (h7 : x.f0 = 7) {i : Nat} (h : i < x.f5.length) (h' : i < x.f4.length) : ((its x)[i]'(by rw [its_len hw]; exact h')).1 = x.f5[i] := by
  have e := its_fst hw h7
  have : ((its x).map (·.1))[i]'(by rw [List.length_map, its_len hw]; exact h') = x.f5[i] := by simp only [e]
  rwa [List.getElem_map] at this
theorem its_no (h7 : x.f0 ≠ 7) {i : Nat} (h : i < (its x).length) : ((its x)[i]).1 = ⟨#[]⟩ := by
  unfold its at *
  simp only [if_neg h7, List.getElem_map]
/-- The order of parts. -/
def pO (n : Nat) (a b : ByteArray × S42) : Int := thenC (cmpB a.1 b.1) (ordN n a.2 b.2)
def OrdIs (n : Nat) (x y : S42) : Prop := Ev (fun k => impl_order.f k (toI x) (toI y)) (ordN n x y)
theorem lex_end {n : Nat} {l m : List (ByteArray × S42)} {i : Nat} (hl : i ≤ l.length) (hm : i ≤ m.length) (h : ¬ (i < l.length ∧ i < m.length)) : lexC (pO n) (l.drop i) (m.drop i) = cmpI l.length m.length := by
  by_cases h1 : i < l.length
  · have e : m.drop i = [] := List.drop_of_length_le (by omega)
    rw [e, List.drop_eq_getElem_cons h1]
    simp only [lexC]
    unfold cmpI; rw [if_neg (by omega), if_pos (by omega)]
  · have e : l.drop i = [] := List.drop_of_length_le (by omega)
    rw [e]
    by_cases h2 : i < m.length
    · rw [List.drop_eq_getElem_cons h2]
      simp only [lexC]
      unfold cmpI; rw [if_pos (by omega)]
    · have e : m.drop i = [] := List.drop_of_length_le (by omega)
      rw [e]
      simp only [lexC]
      unfold cmpI; rw [if_neg (by omega), if_neg (by omega)]
theorem ordI_l1 {n : Nat} (hx : Wf x) (hy : Wf y) (h7 : x.f0 ≠ 7) (h7' : y.f0 ≠ 7) (ih : ∀ a ∈ x.f4, ∀ b ∈ y.f4, OrdIs n a b) : ∀ (q i : Nat), x.f4.length - i ≤ q → i ≤ x.f4.length → i ≤ y.f4.length → Ev (fun k => impl_order.l1 k (i : Int) (toI x) (toI y)) (lexC (pO n) ((its x).drop i) ((its y).drop i)) := by
  have lx := hx.p.2.1
  have ly := hy.p.2.1
  have fin : ∀ i : Nat, i ≤ x.f4.length → i ≤ y.f4.length → ¬ (i < x.f4.length ∧ i < y.f4.length) → Ev (fun k => impl_order.j2 k (toI x) (toI y)) (lexC (pO n) ((its x).drop i) ((its y).drop i)) := fun i h1 h2 h => by
    rw [lex_end (by rw [its_len hx]; exact h1) (by rw [its_len hy]; exact h2) (by rw [its_len hx, its_len hy]; exact h), its_len hx, its_len hy]
    refine Ev.step ?_
    simp only [impl_order.j2, sign_, Option.bind_some, toI_5, List.length_map]
    exact Ev.ret _
  intro q
  induction q with
  | zero =>
    intro i h h1 h2
    refine Ev.step ?_
    simp only [impl_order.l1, toI_5, List.length_map, show decide ((i : Int) < (x.f4.length : Int)) = false by simp; omega, cond_false]
    exact fin i h1 h2 (by omega)
  | succ q ihq =>
    intro i h h1 h2
    refine Ev.step ?_
    by_cases hi : i < x.f4.length
    · by_cases hj : i < y.f4.length
      · simp only [impl_order.l1, toI_5, List.length_map, show decide ((i : Int) < (x.f4.length : Int)) = true by simpa using hi, show decide ((i : Int) < (y.f4.length : Int)) = true by simpa using hj, cond_true, getm hi, getm hj, Option.bind_some]
        refine Ev.bind (ih _ (List.getElem_mem hi) _ (List.getElem_mem hj)) ?_
        have hi' : i < (its x).length := by rw [its_len hx]; exact hi
        have hj' : i < (its y).length := by rw [its_len hy]; exact hj
        have e : lexC (pO n) ((its x).drop i) ((its y).drop i) = thenC (ordN n x.f4[i] y.f4[i]) (lexC (pO n) ((its x).drop (i + 1)) ((its y).drop (i + 1))) := by
          rw [List.drop_eq_getElem_cons hi', List.drop_eq_getElem_cons hj']
          simp only [lexC]
          congr 1
          unfold pO
          rw [its_no h7 hi', its_no h7' hj', its_get hx hi, its_get hy hj, cmpB_eq.2 rfl]
          rfl
        rw [e]
        unfold thenC
        by_cases hc : ordN n x.f4[i] y.f4[i] = 0
        · simp only [show (ordN n x.f4[i] y.f4[i] == 0) = true by simpa using hc, cond_true, w1 (i := i) (by omega), if_pos hc]
          exact ihq (i + 1) (by omega) (by omega) (by omega)
        · simp only [show (ordN n x.f4[i] y.f4[i] == 0) = false by simpa using hc, cond_false, if_neg hc]
          exact Ev.ret _
      · simp only [impl_order.l1, toI_5, List.length_map, show decide ((i : Int) < (x.f4.length : Int)) = true by simpa using hi, show decide ((i : Int) < (y.f4.length : Int)) = false by simpa using hj, cond_true, cond_false]
        exact fin i h1 h2 (by omega)
    · simp only [impl_order.l1, toI_5, List.length_map, show decide ((i : Int) < (x.f4.length : Int)) = false by simpa using hi, cond_false]
      exact fin i h1 h2 (by omega)
theorem ordI_l0 {n : Nat} (hx : Wf x) (hy : Wf y) (h7 : x.f0 = 7) (h7' : y.f0 = 7) (ih : ∀ a ∈ x.f4, ∀ b ∈ y.f4, OrdIs n a b) : ∀ (q i : Nat), x.f4.length - i ≤ q → i ≤ x.f4.length → i ≤ y.f4.length → Ev (fun k => impl_order.l0 k (i : Int) (toI x) (toI y)) (lexC (pO n) ((its x).drop i) ((its y).drop i)) := by
  have lx := hx.p.2.1
  have ly := hy.p.2.1
  have nx := hx.p.2.2.1
  have ny := hy.p.2.2.1
  rw [if_pos h7] at nx
  rw [if_pos h7'] at ny
  have fin : ∀ i : Nat, i ≤ x.f4.length → i ≤ y.f4.length → ¬ (i < x.f4.length ∧ i < y.f4.length) → Ev (fun k => impl_order.j0 k (toI x) (toI y)) (lexC (pO n) ((its x).drop i) ((its y).drop i)) := fun i h1 h2 h => by
    rw [lex_end (by rw [its_len hx]; exact h1) (by rw [its_len hy]; exact h2) (by rw [its_len hx, its_len hy]; exact h), its_len hx, its_len hy]
    refine Ev.step ?_
    simp only [impl_order.j0, sign_, Option.bind_some, toI_5, List.length_map]
    exact Ev.ret _
  intro q
  induction q with
  | zero =>
    intro i h h1 h2
    refine Ev.step ?_
    simp only [impl_order.l0, toI_5, List.length_map, show decide ((i : Int) < (x.f4.length : Int)) = false by simp; omega, cond_false]
    exact fin i h1 h2 (by omega)
  | succ q ihq =>
    intro i h h1 h2
    refine Ev.step ?_
    by_cases hi : i < x.f4.length
    · by_cases hj : i < y.f4.length
      · have hni : i < x.f5.length := by omega
        have hnj : i < y.f5.length := by omega
        simp only [impl_order.l0, toI_5, toI_4, List.length_map, show decide ((i : Int) < (x.f4.length : Int)) = true by simpa using hi, show decide ((i : Int) < (y.f4.length : Int)) = true by simpa using hj, cond_true, getm hi, getm hj, ix_lt hni, ix_lt hnj, Option.bind_some, compare_]
        have hi' : i < (its x).length := by rw [its_len hx]; exact hi
        have hj' : i < (its y).length := by rw [its_len hy]; exact hj
        have e : lexC (pO n) ((its x).drop i) ((its y).drop i) = thenC (thenC (cmpB x.f5[i] y.f5[i]) (ordN n x.f4[i] y.f4[i])) (lexC (pO n) ((its x).drop (i + 1)) ((its y).drop (i + 1))) := by
          rw [List.drop_eq_getElem_cons hi', List.drop_eq_getElem_cons hj']
          simp only [lexC]
          congr 1
          unfold pO
          rw [its_name hx h7 hni hi, its_name hy h7' hnj hj, its_get hx hi, its_get hy hj]
        rw [e]
        unfold thenC
        by_cases hb : cmpB x.f5[i] y.f5[i] = 0
        · simp only [show (cmpB x.f5[i] y.f5[i] == 0) = true by simpa using hb, cond_true, if_pos hb]
          refine Ev.bind (ih _ (List.getElem_mem hi) _ (List.getElem_mem hj)) ?_
          by_cases hc : ordN n x.f4[i] y.f4[i] = 0
          · simp only [show (ordN n x.f4[i] y.f4[i] == 0) = true by simpa using hc, cond_true, w1 (i := i) (by omega), if_pos hc]
            exact ihq (i + 1) (by omega) (by omega) (by omega)
          · simp only [show (ordN n x.f4[i] y.f4[i] == 0) = false by simpa using hc, cond_false, if_neg hc]
            exact Ev.ret _
        · simp only [show (cmpB x.f5[i] y.f5[i] == 0) = false by simpa using hb, cond_false, if_neg hb]
          exact Ev.ret _
      · simp only [impl_order.l0, toI_5, List.length_map, show decide ((i : Int) < (x.f4.length : Int)) = true by simpa using hi, show decide ((i : Int) < (y.f4.length : Int)) = false by simpa using hj, cond_true, cond_false]
        exact fin i h1 h2 (by omega)
    · simp only [impl_order.l0, toI_5, List.length_map, show decide ((i : Int) < (x.f4.length : Int)) = false by simpa using hi, cond_false]
      exact fin i h1 h2 (by omega)
theorem ordI_step {n : Nat} (hx : Wf x) (hy : Wf y) (zx : Wz x) (zy : Wz y) (ih : ∀ a ∈ x.f4, ∀ b ∈ y.f4, OrdIs n a b) : OrdIs (n + 1) x y := by
  obtain ⟨kx, lx, nx, wx, cx, ex, px⟩ := hx.p
  obtain ⟨ky, ly, ny, wy, cy, ey, py⟩ := hy.p
  have tx : x.f0 ≠ 3 → x.f3 = ⟨#[]⟩ := by cases hx with | mk _ hk hb hr hl hm hi ht hx hy hp => exact ht
  have ty : y.f0 ≠ 3 → y.f3 = ⟨#[]⟩ := by cases hy with | mk _ hk hb hr hl hm hi ht hx hy hp => exact ht
  unfold OrdIs
  refine Ev.step ?_
  simp only [impl_order.f, toI_0, toI_1, toI_2, toI_3]
  by_cases hk : x.f0 = y.f0
  case neg =>
    have e : ordN (n + 1) x y = cmpI (rankV x.f0) (rankV y.f0) := by
      have : cmpI (rankV x.f0) (rankV y.f0) ≠ 0 := fun h => by
        have := cmpI_eq.1 h
        unfold rankV at this
        split at this <;> split at this <;> omega
      simp only [ordN]; unfold thenC; rw [if_neg this]
    rw [e]
    simp only [show (x.f0 == y.f0) = false by simpa using hk, cond_false, sign_]
    by_cases h0 : x.f0 = 0
    · have h0' : y.f0 ≠ 0 := fun h => hk (h0.trans h.symm)
      simp only [show (0 == x.f0) = true by simpa using h0.symm, cond_true]
      have : cmpI (rankV x.f0) (rankV y.f0) = 1 := by unfold cmpI rankV; rw [if_pos h0, if_neg h0', if_neg (by omega), if_pos (by omega)]
      rw [this]; exact Ev.ret _
    · by_cases h1 : y.f0 = 0
      · simp only [show (0 == x.f0) = false by simpa using fun h => h0 h.symm, show (0 == y.f0) = true by simpa using h1.symm, cond_true, cond_false]
        have : cmpI (rankV x.f0) (rankV y.f0) = -1 := by unfold cmpI rankV; rw [if_pos h1, if_neg h0, if_pos (by omega)]
        rw [this]; exact Ev.ret _
      · simp only [show (0 == x.f0) = false by simpa using fun h => h0 h.symm, show (0 == y.f0) = false by simpa using fun h => h1 h.symm, cond_false, Option.bind_some]
        have : cmpI (rankV x.f0) (rankV y.f0) = cmpI x.f0 y.f0 := by unfold rankV; rw [if_neg h0, if_neg h1]
        rw [this]; exact Ev.ret _
  have er : cmpI (rankV x.f0) (rankV y.f0) = 0 := cmpI_eq.2 (by rw [hk])
  have th0 : ∀ b, thenC 0 b = b := fun b => by unfold thenC; rw [if_pos rfl]
  have e : ordN (n + 1) x y = thenC (cmpB x.f3 y.f3) (thenC (cmpI x.f1 y.f1) (thenC (cmpI x.f2 y.f2) (lexC (pO n) (its x) (its y)))) := by
    simp only [ordN]; rw [er, th0]; rfl
  rw [e]
  simp only [show (x.f0 == y.f0) = true by simpa using hk, cond_true]
  have none_ : ¬ (x.f0 = 6 ∨ x.f0 = 7 ∨ x.f0 = 10) → lexC (pO n) (its x) (its y) = 0 := fun h => by
    have e1 : its x = [] := List.eq_nil_of_length_eq_zero (by rw [its_len hx, ex h]; rfl)
    have e2 : its y = [] := List.eq_nil_of_length_eq_zero (by rw [its_len hy, ey (by omega)]; rfl)
    rw [e1, e2]; rfl
  have c0 : ∀ a : Int, cmpI a a = 0 := fun a => cmpI_eq.2 rfl
  have then_r : ∀ a : Int, thenC a 0 = a := fun a => by unfold thenC; split <;> simp_all
  by_cases h3 : x.f0 = 3
  · have q1 : cmpI x.f1 y.f1 = 0 := cmpI_eq.2 ((zx.p.1 h3).trans (zy.p.1 (by omega)).symm)
    have q2 : cmpI x.f2 y.f2 = 0 := cmpI_eq.2 ((px (by omega)).trans (py (by omega)).symm)
    rw [q1, q2, th0, th0, none_ (by omega), then_r]
    simp only [show (x.f0 == 3) = true by simpa using h3, cond_true, compare_, Option.bind_some]
    exact Ev.ret _
  have h3' : (x.f0 == 3) = false := by simpa using h3
  have qt : cmpB x.f3 y.f3 = 0 := cmpB_eq.2 ((tx h3).trans (ty (by omega)).symm)
  rw [qt, th0]
  simp only [h3', cond_false]
  by_cases h5 : x.f0 = 5
  · rw [none_ (by omega), then_r]
    simp only [show (x.f0 == 5) = true by simpa using h5, cond_true, sign_, Option.bind_some]
    unfold thenC
    by_cases g1 : cmpI x.f1 y.f1 = 0
    · simp only [show (cmpI x.f1 y.f1 == 0) = true by simpa using g1, cond_true, if_pos g1]; exact Ev.ret _
    · simp only [show (cmpI x.f1 y.f1 == 0) = false by simpa using g1, cond_false, if_neg g1]; exact Ev.ret _
  have q2 : cmpI x.f2 y.f2 = 0 := cmpI_eq.2 ((px h5).trans (py (by omega)).symm)
  rw [q2, th0]
  simp only [show (x.f0 == 5) = false by simpa using h5, cond_false]
  by_cases h7 : x.f0 = 7
  · have q1 : cmpI x.f1 y.f1 = 0 := cmpI_eq.2 ((cx (by omega)).1.trans (cy (by omega)).1.symm)
    rw [q1, th0]
    simp only [show (x.f0 == 7) = true by simpa using h7, cond_true]
    exact ordI_l0 hx hy h7 (by omega) ih _ 0 (Nat.le_refl _) (Nat.zero_le _) (Nat.zero_le _)
  simp only [show (x.f0 == 7) = false by simpa using h7, cond_false]
  by_cases hl : x.f0 = 6 ∨ x.f0 = 10
  · have q1 : cmpI x.f1 y.f1 = 0 := cmpI_eq.2 ((cx (by omega)).1.trans (cy (by omega)).1.symm)
    rw [q1, th0]
    have main : Ev (fun k => impl_order.j1 k true (toI x) (toI y)) (lexC (pO n) (its x) (its y)) := by
      refine Ev.step ?_
      simp only [impl_order.j1, cond_true]
      exact ordI_l1 hx hy h7 (by omega) ih _ 0 (Nat.le_refl _) (Nat.zero_le _) (Nat.zero_le _)
    by_cases h6 : x.f0 = 6
    · simp only [show (x.f0 == 6) = true by simpa using h6, cond_true]; exact main
    · simp only [show (x.f0 == 6) = false by simpa using h6, cond_false, show (x.f0 == 10) = true by simp; omega]; exact main
  · rw [none_ (by omega), then_r]
    simp only [show (x.f0 == 6) = false by simp; omega, cond_false, show (x.f0 == 10) = false by simp; omega]
    refine Ev.step ?_
    simp only [impl_order.j1, cond_false, sign_, toI_1, Option.bind_some]
    exact Ev.ret _
end
theorem ordI : ∀ (n : Nat) (x y : S42), SizeOf.sizeOf x ≤ n → Wf x → Wf y → Wz x → Wz y → OrdIs n x y := by
  intro n
  induction n with
  | zero => intro x y hn; cases x; simp at hn
  | succ n ih =>
    intro x y hn hx hy zx zy
    exact ordI_step hx hy zx zy (fun a ha b hb => ih a b (by have := item_size ha; omega) (hx.p.2.2.2.1 a ha) (hy.p.2.2.2.1 b hb) (zx.p.2 a ha) (zy.p.2 b hb))
end Go.Ab
