/- Sizes, copies and comparisons of the arguments of FnExactFieldsOf. No condition. -/
import Derived.Test.YtldiipekkdaffaaGreatDoorAbH0
import Derived.Test.YtldiipekkdaffaaGreatDoorAbS6
namespace Go.Ab
open Go.Proofs
set_option linter.unusedVariables false
set_option linter.unusedSimpArgs false

end Go.Ab
namespace Go.Ab
open Go.Proofs
set_option linter.unusedVariables false
set_option linter.unusedSimpArgs false
theorem markText_fin (t : ByteArray) (h1 : (t.size : Int) ≤ 5000000000000000000) : ∃ r, Ev (fun k => laws_markText.l0 k 0 t) r := by
  refine ⟨(⟨#[109]⟩ : ByteArray) ++ t, Ev.step ?_⟩
  have hs1 : (⟨#[109]⟩ : ByteArray).size = 1 := rfl
  have e : cat (⟨#[109]⟩ : ByteArray) t = some ((⟨#[109]⟩ : ByteArray) ++ t) := by unfold cat; rw [if_pos (by omega)]
  simp only [laws_markText.l0, Int.lt_irrefl, decide_false, cond_false, e, Option.bind_some]
  exact Ev.ret _
theorem markText_l0 : ∀ (n : Nat) (a : Int) (t : ByteArray), a.toNat ≤ n → 0 ≤ a → a + t.size ≤ 5000000000000000000 → ∃ r, Ev (fun k => laws_markText.l0 k a t) r := by
  intro n
  induction n with
  | zero =>
    intro a t h h0 h1
    have : a = 0 := by omega
    subst this
    exact markText_fin t (by omega)
  | succ n ih =>
    intro a t h h0 h1
    by_cases ha : 0 < a
    · have e1 : rem a 10 = some (a.tmod 10) := by unfold Ab.rem; rw [if_neg (by decide)]
      have e2 : quo .i64 a 10 = some (a.tdiv 10) := by
        unfold quo; rw [if_neg (by decide), wI]
        · have : 0 ≤ a.tdiv 10 := Int.tdiv_nonneg h0 (by decide)
          omega
        · rw [Int.tdiv_eq_ediv_of_nonneg h0]; omega
      have hb : ∀ x : Int, (bstr [x]).size = 1 := fun x => rfl
      have hd : a.tdiv 10 + 1 ≤ a ∧ 0 ≤ a.tdiv 10 := by rw [Int.tdiv_eq_ediv_of_nonneg h0]; omega
      obtain ⟨r, hr⟩ := ih (a.tdiv 10) (bstr [IntKind.u8.wrap (IntKind.i64.wrap (48 + a.tmod 10))] ++ t) (by omega) (by omega) (by rw [ByteArray.size_append, hb]; omega)
      refine ⟨r, Ev.step ?_⟩
      simp only [laws_markText.l0, decide_eq_true ha, cond_true, e1, e2, Option.bind_some]
      unfold cat
      rw [if_pos (by rw [hb]; omega)]
      exact hr
    · have : a = 0 := by omega
      subst this
      exact markText_fin t (by omega)
theorem markText_ev (a : Int) (h0 : 0 ≤ a) (h1 : a ≤ 4600000000000000000) : ∃ r, Ev (fun k => laws_markText.f k a) r := by
  by_cases h : a ≤ 0
  · exact ⟨_, Ev.step (by simp only [laws_markText.f, decide_eq_true h, cond_true]; exact Ev.ret _)⟩
  · obtain ⟨r, hr⟩ := markText_l0 a.toNat a (⟨#[]⟩ : ByteArray) (Nat.le_refl _) h0 (by have : (⟨#[]⟩ : ByteArray).size = 0 := rfl; omega)
    exact ⟨r, Ev.step (by simp only [laws_markText.f, decide_eq_false h, cond_false]; exact hr)⟩
theorem wm1 {a : Int} (h0 : 0 ≤ a) (h1 : a ≤ 4600000000000000000) : IntKind.i64.wrap (a + 1) = a + 1 := wI (by omega) (by omega)
/-- Marks are counted up, by at most so many. -/
def Mk (f : Nat → Int → Option Int) (B : Int) : Prop := ∀ c, 0 ≤ c → c + B ≤ 4500000000000000000 → ∃ r, Ev (fun k => f k c) r ∧ c ≤ r ∧ r ≤ c + B
theorem Mk.loop {α : Type} {l : Nat → List α → Int → Int → Option Int} {body : Nat → List α → Int → Int → Option Int} {v : List α} {Be : Int} (hBe : 0 ≤ Be)
    (hl : ∀ k c i, l (k + 1) v c i = bif decide (i < (v.length : Int)) then body k v c i else some c)
    (hb : ∀ (i : Nat), i < v.length → ∀ c, 0 ≤ c → c + Be ≤ 4500000000000000000 → ∃ c', c ≤ c' ∧ c' ≤ c + Be ∧ ∀ R, Ev (fun k => l k v c' ((i + 1 : Nat) : Int)) R → Ev (fun k => body k v c (i : Int)) R) :
    ∀ (n i : Nat) (c : Int), v.length - i ≤ n → 0 ≤ c → c + (n : Int) * Be ≤ 4500000000000000000 → ∃ r, Ev (fun k => l k v c (i : Int)) r ∧ c ≤ r ∧ r ≤ c + (n : Int) * Be := by
  intro n
  induction n with
  | zero =>
    intro i c h h0 h1
    refine ⟨c, Ev.step ?_, Int.le_refl _, by simp⟩
    simp only [hl, ltn (show ¬ i < v.length by omega), cond_false]; exact Ev.ret _
  | succ n ih =>
    intro i c h h0 h1
    have e : ((n + 1 : Nat) : Int) * Be = (n : Int) * Be + Be := by rw [Int.natCast_succ, Int.add_mul, Int.one_mul]
    have hp : 0 ≤ (n : Int) * Be := Int.mul_nonneg (by omega) hBe
    rw [e] at h1
    by_cases hi : i < v.length
    · obtain ⟨c', q1, q2, q3⟩ := hb i hi c h0 (by omega)
      obtain ⟨r, r1, r2, r3⟩ := ih (i + 1) c' (by omega) (by omega) (by omega)
      refine ⟨r, Ev.step ?_, by omega, by omega⟩
      simp only [hl, ltd hi, cond_true]; exact q3 _ r1
    · refine ⟨c, Ev.step ?_, Int.le_refl _, by omega⟩
      simp only [hl, ltn hi, cond_false]; exact Ev.ret _
theorem Mk.slice {α : Type} {f : Nat → List α → Int → Option Int} {l : Nat → List α → Int → Int → Option Int} {body : Nat → List α → Int → Int → Option Int} {v : List α} {Be : Int} (hv : v.length ≤ 1048576) (hBe : 0 ≤ Be)
    (hf : ∀ k c, f (k + 1) v c = l k v c 0) (hl : ∀ k c i, l (k + 1) v c i = bif decide (i < (v.length : Int)) then body k v c i else some c)
    (hb : ∀ (i : Nat), i < v.length → ∀ c, 0 ≤ c → c + Be ≤ 4500000000000000000 → ∃ c', c ≤ c' ∧ c' ≤ c + Be ∧ ∀ R, Ev (fun k => l k v c' ((i + 1 : Nat) : Int)) R → Ev (fun k => body k v c (i : Int)) R) :
    Mk (fun k c => f k v c) (1048576 * Be) := fun c h0 h1 => by
  have hle : (v.length : Int) * Be ≤ 1048576 * Be := Int.mul_le_mul_of_nonneg_right (by omega) hBe
  obtain ⟨r, r1, r2, r3⟩ := Mk.loop hBe hl hb v.length 0 c (by omega) h0 (by omega)
  exact ⟨r, Ev.step (by simp only [hf]; exact r1), r2, by omega⟩
/-- A mark in rows is there again. -/
theorem setr_get {α : Type} {w : List α} {i : Nat} {x : α} (h : i < w.length) : (setr w i x)[i]? = some x := by
  unfold setr; rw [List.getElem?_set_self h]
theorem setr_two {α : Type} {w : List α} {i : Nat} {x y : α} : setr (setr w i x) i y = setr w i y := by
  unfold setr; rw [List.set_set]
theorem setr_len {α : Type} {w : List α} {i : Nat} {x : α} : (setr w i x).length = w.length := by unfold setr; rw [List.length_set]
/-- Rows that are marked, and are held to be. -/
def Mh {α : Type} (m : Nat → Nat → Int → List α → Option (Int × List α)) (h : Nat → Nat → Int → List α → Option Int) : Prop :=
  ∀ (v : List α) (c : Int), v.length ≤ 2000000 → 0 ≤ c → c ≤ 1000000000000 → ∃ v' r, 0 ≤ r ∧ Ev (fun k => m k v.length c v) (r, v') ∧ Ev (fun k => h k v.length c v') r
theorem Mh.loop {α : Type} {ml : Nat → Nat → Int → Int → List α → Option (Int × List α)} {hl : Nat → Nat → Int → Int → List α → Option Int} {N : Nat} {Be : Int} (hBe : 0 ≤ Be ∧ Be ≤ 1000)
    (hN : N ≤ 2000000)
    (step : ∀ (w : List α) (i : Nat) (c : Int), w.length = N → i < N → 0 ≤ c → c ≤ 4000000000000000000 → ∃ x c', c ≤ c' ∧ c' ≤ c + Be ∧
      (∀ R, Ev (fun k => ml k N c' ((i + 1 : Nat) : Int) (setr w i x)) R → Ev (fun k => ml k N c (i : Int) w) R) ∧
      (∀ (v' : List α) R, v'[i]? = some x → Ev (fun k => hl k N c' ((i + 1 : Nat) : Int) v') R → Ev (fun k => hl k N c (i : Int) v') R))
    (stop : ∀ (w : List α) (i : Nat) (c : Int), ¬ i < N → Ev (fun k => ml k N c (i : Int) w) (c, w) ∧ Ev (fun k => hl k N c (i : Int) w) c) :
    ∀ (n i : Nat) (c : Int) (w : List α), N - i ≤ n → w.length = N → 0 ≤ c → c + (n : Int) * 1000 ≤ 4000000000000000000 → ∃ v' r, v'.length = N ∧ c ≤ r ∧ (∀ j, j < i → v'[j]? = w[j]?) ∧ Ev (fun k => ml k N c (i : Int) w) (r, v') ∧ Ev (fun k => hl k N c (i : Int) v') r := by
  intro n
  induction n with
  | zero =>
    intro i c w h hw h0 h1
    obtain ⟨q1, q2⟩ := stop w i c (by omega)
    exact ⟨w, c, hw, Int.le_refl _, fun _ _ => rfl, q1, q2⟩
  | succ n ih =>
    intro i c w h hw h0 h1
    by_cases hi : i < N
    · obtain ⟨x, c', q1, q2, q3, q4⟩ := step w i c hw hi h0 (by omega)
      obtain ⟨v', r, r1, r2, r3, r4, r5⟩ := ih (i + 1) c' (setr w i x) (by omega) (by rw [setr_len]; exact hw) (by omega) (by omega)
      refine ⟨v', r, r1, by omega, fun j hj => ?_, q3 _ r4, q4 _ _ (by rw [r3 i (by omega)]; exact setr_get (by omega)) r5⟩
      rw [r3 j (by omega)]; unfold setr; rw [List.getElem?_set_ne (by omega)]
    · obtain ⟨q1, q2⟩ := stop w i c hi
      exact ⟨w, c, hw, Int.le_refl _, fun _ _ => rfl, q1, q2⟩
theorem Mh.of {α : Type} {m : Nat → Nat → Int → List α → Option (Int × List α)} {h : Nat → Nat → Int → List α → Option Int} {ml : Nat → Nat → Int → Int → List α → Option (Int × List α)} {hl : Nat → Nat → Int → Int → List α → Option Int} {Be : Int} (hBe : 0 ≤ Be ∧ Be ≤ 1000)
    (hm : ∀ k N c w, m (k + 1) N c w = ml k N c 0 w) (hh : ∀ k N c w, h (k + 1) N c w = hl k N c 0 w)
    (step : ∀ (N : Nat) (w : List α) (i : Nat) (c : Int), N ≤ 2000000 → w.length = N → i < N → 0 ≤ c → c ≤ 4000000000000000000 → ∃ x c', c ≤ c' ∧ c' ≤ c + Be ∧
      (∀ R, Ev (fun k => ml k N c' ((i + 1 : Nat) : Int) (setr w i x)) R → Ev (fun k => ml k N c (i : Int) w) R) ∧
      (∀ (v' : List α) R, v'[i]? = some x → Ev (fun k => hl k N c' ((i + 1 : Nat) : Int) v') R → Ev (fun k => hl k N c (i : Int) v') R))
    (stop : ∀ (N : Nat) (w : List α) (i : Nat) (c : Int), ¬ i < N → Ev (fun k => ml k N c (i : Int) w) (c, w) ∧ Ev (fun k => hl k N c (i : Int) w) c) : Mh m h := fun v c hv h0 h1 => by
  obtain ⟨v', r, r1, r2, _, r4, r5⟩ := Mh.loop hBe hv (fun w i c => step v.length w i c hv) (fun w i c => stop v.length w i c) v.length 0 c v (by omega) rfl h0 (by omega)
  exact ⟨v', r, by omega, Ev.step (by simp only [hm]; exact r4), Ev.step (by simp only [hh]; exact r5)⟩
/-- Own rows compared with own rows. -/
theorem eqb_loop {α : Type} {l : Nat → Nat → Nat → Int → List α → List α → Option Bool} {v : List α} (hv : v.length ≤ 2000000)
    (step : ∀ (i : Nat), i < v.length → ∀ R, Ev (fun k => l k v.length v.length ((i + 1 : Nat) : Int) v v) R → Ev (fun k => l k v.length v.length (i : Int) v v) R)
    (stop : ∀ (i : Nat), ¬ i < v.length → Ev (fun k => l k v.length v.length (i : Int) v v) true) : ∀ (n i : Nat), v.length - i ≤ n → Ev (fun k => l k v.length v.length (i : Int) v v) true := by
  intro n
  induction n with
  | zero => intro i h; exact stop i (by omega)
  | succ n ih =>
    intro i h
    by_cases hi : i < v.length
    · exact step i hi _ (ih (i + 1) (by omega))
    · exact stop i hi
end Go.Ab
namespace Go.Ab
open Go.Proofs
set_option linter.unusedVariables false
set_option linter.unusedSimpArgs false
theorem mh_FieldS : Mh (fun k N c (w : List S52) => laws_markFieldS_bv.f k N c w) (fun k N c w => laws_heldFieldS_bv.f k N c w) :=
  Mh.of (ml := fun k N c i w => laws_markFieldS_bv.l0 k N c i w) (hl := fun k N c i w => laws_heldFieldS_bv.l0 k N c i w) (Be := 2) (by omega) (fun _ _ _ _ => by simp only [laws_markFieldS_bv.f]) (fun _ _ _ _ => by simp only [laws_heldFieldS_bv.f])
   (fun N w i c hN hw hi h0 h1 => by
    obtain ⟨t1, q1⟩ := markText_ev (c) (by omega) (by omega)
    have ec0 := wm1 (a := c) (by omega) (by omega)
    obtain ⟨t2, q2⟩ := markText_ev (c + 1) (by omega) (by omega)
    have ec1 := wm1 (a := c + 1) (by omega) (by omega)
    have hiw : i < w.length := by omega
    refine ⟨?_, c + 1 + 1, by omega, by omega, fun R hR => ?_, fun v' R hv hR => ?_⟩
    rotate_left
    · refine Ev.step ?_
      simp only [laws_markFieldS_bv.l0, List.getElem?_eq_getElem hiw, setr_get hiw, Option.bind_some, Int.toNat_natCast, cond_true, beq_self_eq_true, decide_true, setr_two, wup hi hN, inr_ hi, ltd hi, ec0, ec1]
      refine Ev.bind q1 ?_
      try simp only [setr_get hiw, Option.bind_some, Int.toNat_natCast, cond_true, beq_self_eq_true, decide_true, setr_two, wup hi hN, inr_ hi, ltd hi, ec0, ec1]
      refine Ev.bind q2 ?_
      try simp only [setr_get hiw, Option.bind_some, Int.toNat_natCast, cond_true, beq_self_eq_true, decide_true, setr_two, wup hi hN, inr_ hi, ltd hi, ec0, ec1]
      exact hR
    · refine Ev.step ?_
      simp only [laws_heldFieldS_bv.l0, hv, Option.bind_some, Int.toNat_natCast, cond_true, beq_self_eq_true, decide_true, setr_two, wup hi hN, inr_ hi, ltd hi, ec0, ec1]
      refine Ev.bind q1 ?_
      try simp only [Option.bind_some, Int.toNat_natCast, cond_true, beq_self_eq_true, decide_true, setr_two, wup hi hN, inr_ hi, ltd hi, ec0, ec1]
      refine Ev.bind q2 ?_
      try simp only [Option.bind_some, Int.toNat_natCast, cond_true, beq_self_eq_true, decide_true, setr_two, wup hi hN, inr_ hi, ltd hi, ec0, ec1]
      exact hR)
   (fun N w i c hi => ⟨Ev.step (by simp only [laws_markFieldS_bv.l0, ltn hi, cond_false]; exact Ev.ret _), Ev.step (by simp only [laws_heldFieldS_bv.l0, ltn hi, cond_false]; exact Ev.ret _)⟩)
theorem eqb_FieldS (v : List S52) (hv : v.length ≤ 2000000) : Ev (fun k => laws_eqFieldS_bb.f k v.length v.length v v) true := by
  refine Ev.step ?_
  simp only [laws_eqFieldS_bb.f, beq_self_eq_true, cond_true]
  exact eqb_loop (l := fun k n m i v _ => laws_eqFieldS_bb.l0 k n m i v v) hv (fun i hi R hR => Ev.step (by simp only [laws_eqFieldS_bb.l0, ltd hi, cond_true, inr_ hi, Option.bind_some, Int.toNat_natCast, List.getElem?_eq_getElem hi, beq_self_eq_true, decide_true, wup hi hv, laws_eqField.f, Option.bind_some]; exact hR)) (fun i hi => Ev.step (by simp only [laws_eqFieldS_bb.l0, ltn hi, cond_false]; exact Ev.ret _)) _ 0 (Nat.le_refl _)
end Go.Ab
namespace Go.Ab
open Go.Proofs
set_option linter.unusedVariables false
set_option linter.unusedSimpArgs false
theorem txt_items {x : S40} {L : List UInt8} (h : Txt x L) : ∃ ls : List (List UInt8), ls.length = x.f4.length ∧ (∀ (i : Nat) (y : S40) (l : List UInt8), x.f4[i]? = some y → ls[i]? = some l → Txt y l) ∧ (∀ l ∈ ls, l.length ≤ L.length) ∧ ls.length ≤ L.length + 1 := by
  cases h with
  | list items ls hl h =>
    have hc := joinS_count (sep := 44) ls
    exact ⟨ls, hl, h, fun l hm => by have := joinS_mem (sep := [44]) hm; simp; omega, by simp; omega⟩
  | path items ls hl h hk =>
    have hc := joinS_count (sep := 32) ls
    exact ⟨ls, hl, h, fun l hm => by have := joinS_mem (sep := [32]) hm; simp; omega, by simp; omega⟩
  | map items names ls hl hn hr hk h =>
    have hc := joinS_count (sep := 44) (List.zipWith (fun (n : ByteArray) l => n.data.toList ++ 58 :: l) names ls)
    have hz : (List.zipWith (fun (n : ByteArray) l => n.data.toList ++ 58 :: l) names ls).length = ls.length := by rw [List.length_zipWith]; omega
    refine ⟨ls, hl, h, fun l hm => ?_, by simp; omega⟩
    obtain ⟨i, hi, rfl⟩ := List.getElem_of_mem hm
    have hiz : i < (List.zipWith (fun (n : ByteArray) l => n.data.toList ++ 58 :: l) names ls).length := by omega
    have := joinS_mem (sep := [44]) (List.getElem_mem hiz)
    rw [List.getElem_zipWith] at this
    simp only [List.length_append, List.length_cons, List.length_nil] at this ⊢
    omega
  | _ => exact ⟨[], rfl, fun i y l h => by simp at h, fun l h => by simp at h, by simp⟩
def fz (names : List ByteArray) (ls : List (List UInt8)) : List S52 := List.zipWith (fun n l => ⟨n, bs l⟩) names ls
theorem fz_len {names : List ByteArray} {ls : List (List UInt8)} (h : ls.length = names.length) : (fz names ls).length = names.length := by unfold fz; rw [List.length_zipWith]; omega
theorem fz_get {names : List ByteArray} {ls : List (List UInt8)} {i : Nat} (h1 : i < names.length) (h2 : i < ls.length) : (fz names ls)[i]'(by unfold fz; rw [List.length_zipWith]; omega) = ⟨names[i], bs ls[i]⟩ := by unfold fz; rw [List.getElem_zipWith]
theorem flds_s {x : S40} {ls : List (List UInt8)} (hl : ls.length = x.f4.length) (hm : x.f5.length = x.f4.length) (hn : x.f4.length ≤ 2001) (h : ∀ (i : Nat) (y : S40) (l : List UInt8), x.f4[i]? = some y → ls[i]? = some l → Txt y l) (hb : ∀ l ∈ ls, l.length ≤ 2000) :
    ∀ (n i : Nat), x.f5.length - i ≤ n → Ev (fun k => spec_FieldsOf_O.l0 k ((fz x.f5 ls).take i) (i : Int) x) (fz x.f5 ls) := by
  have fin : ∀ i : Nat, ¬ i < x.f5.length → Ev (fun k => spec_FieldsOf_O.l0 k ((fz x.f5 ls).take i) (i : Int) x) (fz x.f5 ls) := fun i hi => by
    refine Ev.step ?_
    simp only [spec_FieldsOf_O.l0, ltn hi, cond_false]
    rw [List.take_of_length_le (by rw [fz_len (by omega)]; omega)]
    exact Ev.ret _
  intro n
  induction n with
  | zero => intro i h; exact fin i (by omega)
  | succ n ih =>
    intro i h'
    by_cases hi : i < x.f5.length
    case neg => exact fin i hi
    have hi4 : i < x.f4.length := by omega
    have hil : i < ls.length := by omega
    have hz : i < (fz x.f5 ls).length := by rw [fz_len (by omega)]; omega
    obtain ⟨s1, _⟩ := shows (h i _ _ (List.getElem?_eq_getElem hi4) (List.getElem?_eq_getElem hil)) (hb _ (List.getElem_mem hil))
    refine Ev.step ?_
    simp only [spec_FieldsOf_O.l0, ltd hi, cond_true, ixg hi, ixg hi4, Option.bind_some, wup hi (show x.f5.length ≤ 2000000 by omega)]
    refine Ev.bind s1 ?_
    rw [app_one _ (by simp; omega)]
    have next := ih (i + 1) (by omega)
    rw [List.take_succ_eq_append_getElem hz, fz_get hi hil] at next
    exact next
theorem flds_i {x : S40} {ls : List (List UInt8)} (hl : ls.length = x.f4.length) (hm : x.f5.length = x.f4.length) (hn : x.f4.length ≤ 2001) (h : ∀ (i : Nat) (y : S40) (l : List UInt8), x.f4[i]? = some y → ls[i]? = some l → Txt y l) (hb : ∀ l ∈ ls, l.length ≤ 2000) :
    ∀ (n i : Nat), x.f5.length - i ≤ n → Ev (fun k => impl_FieldsOf_O.l0 k ((fz x.f5 ls).take i) (⟨x.f0, x.f1, x.f2, x.f3, x.f5, x.f4.map toI⟩, true) (i : Int)) (fz x.f5 ls) := by
  have fin : ∀ i : Nat, ¬ i < x.f5.length → Ev (fun k => impl_FieldsOf_O.l0 k ((fz x.f5 ls).take i) (⟨x.f0, x.f1, x.f2, x.f3, x.f5, x.f4.map toI⟩, true) (i : Int)) (fz x.f5 ls) := fun i hi => by
    refine Ev.step ?_
    simp only [impl_FieldsOf_O.l0, List.length_map, ltn (show ¬ i < x.f4.length by omega), cond_false]
    rw [List.take_of_length_le (by rw [fz_len (by omega)]; omega)]
    exact Ev.ret _
  intro n
  induction n with
  | zero => intro i h; exact fin i (by omega)
  | succ n ih =>
    intro i h'
    by_cases hi : i < x.f5.length
    case neg => exact fin i hi
    have hi4 : i < x.f4.length := by omega
    have hil : i < ls.length := by omega
    have hmap : i < (x.f4.map toI).length := by simpa using hi4
    have hz : i < (fz x.f5 ls).length := by rw [fz_len (by omega)]; omega
    obtain ⟨_, s2⟩ := shows (h i _ _ (List.getElem?_eq_getElem hi4) (List.getElem?_eq_getElem hil)) (hb _ (List.getElem_mem hil))
    refine Ev.step ?_
    simp only [impl_FieldsOf_O.l0, List.length_map, ltd hi4, cond_true, ixg hi, ixg hmap, List.getElem_map, Option.bind_some, wup hi4 (show x.f4.length ≤ 2000000 by omega)]
    refine Ev.bind s2 ?_
    rw [app_one _ (by simp; omega)]
    have next := ih (i + 1) (by omega)
    rw [List.take_succ_eq_append_getElem hz, fz_get hi hil] at next
    exact next
theorem flds2 (t : ByteArray) : ∃ R, R.length ≤ 2000000 ∧ Ev (fun k => spec_FieldsOf_O.f k t) R ∧ Ev (fun k => impl_FieldsOf_O.f k t) R := by
  have noneS : ∀ v : S40, v.f5 = [] → Ev (fun k => spec_FieldsOf_O.l0 k [] 0 v) [] := fun v h => by
    refine Ev.step ?_
    simp only [spec_FieldsOf_O.l0, h, show decide ((0 : Int) < (([] : List ByteArray).length : Int)) = false from rfl, cond_false]
    exact Ev.ret _
  rcases readT_ t with ⟨sv, ⟨hw, hsz, htx⟩, h1, h2⟩ | ⟨iv, h1, h2⟩
  · obtain ⟨ls, l1, l2, l3, l4⟩ := txt_items htx
    have hL : t.data.toList.length ≤ 2000 := by rw [← size_list]; exact hsz
    have t0 : (toI sv).f0 = sv.f0 := by rw [toI_eq]
    have hm : sv.f5.length = if sv.f0 = 7 then sv.f4.length else 0 := by cases hw with | mk _ _ _ _ _ hm => exact hm
    by_cases h7 : sv.f0 = 7
    · rw [if_pos h7] at hm
      have a1 := flds_s l1 hm (by omega) l2 (fun l hl => Nat.le_trans (l3 l hl) hL) _ 0 (Nat.le_refl _)
      have a2 := flds_i l1 hm (by omega) l2 (fun l hl => Nat.le_trans (l3 l hl) hL) _ 0 (Nat.le_refl _)
      refine ⟨fz sv.f5 ls, by rw [fz_len (by omega)]; omega, Ev.step ?_, Ev.step ?_⟩
      · simp only [spec_FieldsOf_O.f]
        exact Ev.bind h1 a1
      · simp only [impl_FieldsOf_O.f]
        refine Ev.bind h2 ?_
        simp only [t0, h7, beq_self_eq_true, cond_true]
        rw [toI_eq]
        exact a2
    · rw [if_neg h7] at hm
      have e7 : (sv.f0 == 7) = false := by simpa using h7
      refine ⟨[], by simp, Ev.step ?_, Ev.step ?_⟩
      · simp only [spec_FieldsOf_O.f]
        exact Ev.bind h1 (noneS _ (List.length_eq_zero_iff.1 hm))
      · simp only [impl_FieldsOf_O.f]
        refine Ev.bind h2 ?_
        simp only [t0, e7, cond_true, cond_false]
        exact Ev.ret _
  · refine ⟨[], by simp, Ev.step ?_, Ev.step ?_⟩
    · simp only [spec_FieldsOf_O.f]
      exact Ev.bind h1 (noneS _ rfl)
    · simp only [impl_FieldsOf_O.f]
      refine Ev.bind h2 ?_
      simp only [cond_false]
      exact Ev.ret _
theorem said_FnExactFieldsOf (t : ByteArray) : ∃ k, laws_FnExactFieldsOf.f k t = some true := by
  refine Ev.at_ (f := fun k => laws_FnExactFieldsOf.f k t) ?_
  unfold laws_FnExactFieldsOf.f
  by_cases hs : (1048576 : Int) < (t.size : Int)
  · simp only [decide_eq_true hs, cond_true]; exact Ev.ret _
  simp only [decide_eq_false hs, cond_false]
  obtain ⟨R, hR, s1, s2⟩ := flds2 t
  obtain ⟨v', q, q1, q2, q3⟩ := mh_FieldS R 1 hR (by omega) (by omega)
  have e := eqb_FieldS R hR
  refine Ev.bind s1 (Ev.bind s2 (Ev.bind e ?_))
  simp only [cond_true]
  refine Ev.bind q2 (Ev.bind q3 ?_)
  simp only [decide_eq_false (show ¬ q < 0 by omega), cond_false, beq_self_eq_true, cond_true]
  refine Ev.bind s2 (Ev.bind e ?_)
  simp only [cond_true]
  refine Ev.bind q3 ?_
  simp only [decide_eq_false (show ¬ q < 0 by omega), cond_false, beq_self_eq_true, cond_true]
  exact Ev.ret _
end Go.Ab
