/- Sizes, copies and comparisons of the arguments of FnExactTurnSteps. No condition. -/
import Derived.Test.YtoodlgdbpfaolaaAbH0
import Derived.Test.YtoodlgdbpfaolaaAbN1
namespace Go.Ab
open Go.Proofs
set_option linter.unusedVariables false
set_option linter.unusedSimpArgs false
def wf31 (x : S31) : Prop := (InK .i64) x.f0 ∧ Str x.f1 ∧ (InK .i64) x.f2
def bdPathStep (x : S31) : Prop := x.f1.size ≤ 1048576 ∧ True
theorem sz_PathStep (x : S31) (h : wf31 x) {a : Int} (ha : Lft a) : Sz (fun k => laws_szPathStep.f k x a) a (bdPathStep x) := by
  simp only [laws_szPathStep.f]; unfold bdPathStep
  exact Sz.len ha (fun _ h1 => Sz.ret) h.2.1
def bdPathStepS (v : (List S31)) : Prop := v.length ≤ 1048576 ∧ ∀ x ∈ v, bdPathStep x
theorem sz_PathStepS (v : (List S31)) (h : Lst wf31 v) {a : Int} (ha : Lft a) : Sz (fun k => laws_szPathStepS.f k v a) a (bdPathStepS v) := Sz.slice (l := laws_szPathStepS.l0) h.1 (fun _ _ _ => by simp only [laws_szPathStepS.f]) (fun hl => Sz.loop (fun _ _ _ _ => by simp only [laws_szPathStepS.l0]) (fun x a hx ha => sz_PathStep x hx ha) v h.2 hl) ha
def trPathStep (x : S31) : S31 := x
theorem to_PathStep (x : S31) (h : bdPathStep x) : Ev (fun k => laws_toPathStep.f k x) (trPathStep x) := by
  simp only [laws_toPathStep.f, trPathStep]; exact Ev.ret _
theorem eq_PathStep (x : S31) (h : bdPathStep x) : Ev (fun k => laws_eqPathStep.f k (trPathStep x) (trPathStep x)) true := by
  simp only [laws_eqPathStep.f, trPathStep, beq_self_eq_true, decide_true, cond_true]
  exact Ev.ret _
theorem to_PathStepS (v : (List S31)) (h : bdPathStepS v) : Ev (fun k => laws_toPathStepS.f k v) (v.map trPathStep) := to_f (l := laws_toPathStepS.l0) h.1 (fun _ _ => by simp only [laws_toPathStepS.f]; rfl) (to_loop (B := bdPathStep) (fun _ _ _ _ _ => by simp only [laws_toPathStepS.l0]) (fun x hx => to_PathStep x hx) v h.2 h.1)
theorem eq_PathStepS (v : (List S31)) (h : bdPathStepS v) : Ev (fun k => laws_eqPathStepS.f k (v.map trPathStep) (v.map trPathStep)) true := eq_f (l := laws_eqPathStepS.l0) (fun _ _ _ => by simp only [laws_eqPathStepS.f]) (eq_loop (e := laws_eqPathStep.f) (fun _ _ _ _ => by simp only [laws_eqPathStepS.l0]) _ (by intro y hy; obtain ⟨x, hx, rfl⟩ := List.mem_map.1 hy; exact eq_PathStep x (h.2 x hx)) (by simpa using h.1))
end Go.Ab
namespace Go.Ab
open Go.Proofs
set_option linter.unusedVariables false
set_option linter.unusedSimpArgs false
theorem markText_fin (t : ByteArray) (h1 : (t.size : Int) ≤ 5000000000000000000) : ∃ r, Ev (fun k => laws_markText.l0 k 0 t) r := by
  refine ⟨(⟨#[109]⟩ : ByteArray) ++ t, Ev.step ?_⟩
  have hs1 : (⟨#[109]⟩ : ByteArray).size = 1 := rfl
  have e : cat (⟨#[109]⟩ : ByteArray) t = some ((⟨#[109]⟩ : ByteArray) ++ t) := by unfold cat; rw [if_pos (by omega)]
  simp only [laws_markText.l0, Int.lt_irrefl, decide_false, cond_false, e, Option.bind_some]
  exact Ev.ret _
theorem markText_l0 : ∀ (n : Nat) (a : Int) (t : ByteArray), a.toNat ≤ n → 0 ≤ a → a + t.size ≤ 5000000000000000000 → ∃ r, Ev (fun k => laws_markText.l0 k a t) r := by
  intro n
  induction n with
  | zero =>
    intro a t h h0 h1
    have : a = 0 := by omega
    subst this
    exact markText_fin t (by omega)
  | succ n ih =>
    intro a t h h0 h1
    by_cases ha : 0 < a
    · have e1 : rem a 10 = some (a.tmod 10) := by unfold Ab.rem; rw [if_neg (by decide)]
      have e2 : quo .i64 a 10 = some (a.tdiv 10) := by
        unfold quo; rw [if_neg (by decide), wI]
        · have : 0 ≤ a.tdiv 10 := Int.tdiv_nonneg h0 (by decide)
          omega
        · rw [Int.tdiv_eq_ediv_of_nonneg h0]; omega
      have hb : ∀ x : Int, (bstr [x]).size = 1 := fun x => rfl
      have hd : a.tdiv 10 + 1 ≤ a ∧ 0 ≤ a.tdiv 10 := by rw [Int.tdiv_eq_ediv_of_nonneg h0]; omega
      obtain ⟨r, hr⟩ := ih (a.tdiv 10) (bstr [IntKind.u8.wrap (IntKind.i64.wrap (48 + a.tmod 10))] ++ t) (by omega) (by omega) (by rw [ByteArray.size_append, hb]; omega)
      refine ⟨r, Ev.step ?_⟩
      simp only [laws_markText.l0, decide_eq_true ha, cond_true, e1, e2, Option.bind_some]
      unfold cat
      rw [if_pos (by rw [hb]; omega)]
      exact hr
    · have : a = 0 := by omega
      subst this
      exact markText_fin t (by omega)
theorem markText_ev (a : Int) (h0 : 0 ≤ a) (h1 : a ≤ 4600000000000000000) : ∃ r, Ev (fun k => laws_markText.f k a) r := by
  by_cases h : a ≤ 0
  · exact ⟨_, Ev.step (by simp only [laws_markText.f, decide_eq_true h, cond_true]; exact Ev.ret _)⟩
  · obtain ⟨r, hr⟩ := markText_l0 a.toNat a (⟨#[]⟩ : ByteArray) (Nat.le_refl _) h0 (by have : (⟨#[]⟩ : ByteArray).size = 0 := rfl; omega)
    exact ⟨r, Ev.step (by simp only [laws_markText.f, decide_eq_false h, cond_false]; exact hr)⟩
theorem wm1 {a : Int} (h0 : 0 ≤ a) (h1 : a ≤ 4600000000000000000) : IntKind.i64.wrap (a + 1) = a + 1 := wI (by omega) (by omega)
/-- Marks are counted up, by at most so many. -/
def Mk (f : Nat → Int → Option Int) (B : Int) : Prop := ∀ c, 0 ≤ c → c + B ≤ 4500000000000000000 → ∃ r, Ev (fun k => f k c) r ∧ c ≤ r ∧ r ≤ c + B
theorem Mk.loop {α : Type} {l : Nat → List α → Int → Int → Option Int} {body : Nat → List α → Int → Int → Option Int} {v : List α} {Be : Int} (hBe : 0 ≤ Be)
    (hl : ∀ k c i, l (k + 1) v c i = bif decide (i < (v.length : Int)) then body k v c i else some c)
    (hb : ∀ (i : Nat), i < v.length → ∀ c, 0 ≤ c → c + Be ≤ 4500000000000000000 → ∃ c', c ≤ c' ∧ c' ≤ c + Be ∧ ∀ R, Ev (fun k => l k v c' ((i + 1 : Nat) : Int)) R → Ev (fun k => body k v c (i : Int)) R) :
    ∀ (n i : Nat) (c : Int), v.length - i ≤ n → 0 ≤ c → c + (n : Int) * Be ≤ 4500000000000000000 → ∃ r, Ev (fun k => l k v c (i : Int)) r ∧ c ≤ r ∧ r ≤ c + (n : Int) * Be := by
  intro n
  induction n with
  | zero =>
    intro i c h h0 h1
    refine ⟨c, Ev.step ?_, Int.le_refl _, by simp⟩
    simp only [hl, ltn (show ¬ i < v.length by omega), cond_false]; exact Ev.ret _
  | succ n ih =>
    intro i c h h0 h1
    have e : ((n + 1 : Nat) : Int) * Be = (n : Int) * Be + Be := by rw [Int.natCast_succ, Int.add_mul, Int.one_mul]
    have hp : 0 ≤ (n : Int) * Be := Int.mul_nonneg (by omega) hBe
    rw [e] at h1
    by_cases hi : i < v.length
    · obtain ⟨c', q1, q2, q3⟩ := hb i hi c h0 (by omega)
      obtain ⟨r, r1, r2, r3⟩ := ih (i + 1) c' (by omega) (by omega) (by omega)
      refine ⟨r, Ev.step ?_, by omega, by omega⟩
      simp only [hl, ltd hi, cond_true]; exact q3 _ r1
    · refine ⟨c, Ev.step ?_, Int.le_refl _, by omega⟩
      simp only [hl, ltn hi, cond_false]; exact Ev.ret _
theorem Mk.slice {α : Type} {f : Nat → List α → Int → Option Int} {l : Nat → List α → Int → Int → Option Int} {body : Nat → List α → Int → Int → Option Int} {v : List α} {Be : Int} (hv : v.length ≤ 1048576) (hBe : 0 ≤ Be)
    (hf : ∀ k c, f (k + 1) v c = l k v c 0) (hl : ∀ k c i, l (k + 1) v c i = bif decide (i < (v.length : Int)) then body k v c i else some c)
    (hb : ∀ (i : Nat), i < v.length → ∀ c, 0 ≤ c → c + Be ≤ 4500000000000000000 → ∃ c', c ≤ c' ∧ c' ≤ c + Be ∧ ∀ R, Ev (fun k => l k v c' ((i + 1 : Nat) : Int)) R → Ev (fun k => body k v c (i : Int)) R) :
    Mk (fun k c => f k v c) (1048576 * Be) := fun c h0 h1 => by
  have hle : (v.length : Int) * Be ≤ 1048576 * Be := Int.mul_le_mul_of_nonneg_right (by omega) hBe
  obtain ⟨r, r1, r2, r3⟩ := Mk.loop hBe hl hb v.length 0 c (by omega) h0 (by omega)
  exact ⟨r, Ev.step (by simp only [hf]; exact r1), r2, by omega⟩
/-- A mark in rows is there again. -/
theorem setr_get {α : Type} {w : List α} {i : Nat} {x : α} (h : i < w.length) : (setr w i x)[i]? = some x := by
  unfold setr; rw [List.getElem?_set_self h]
theorem setr_two {α : Type} {w : List α} {i : Nat} {x y : α} : setr (setr w i x) i y = setr w i y := by
  unfold setr; rw [List.set_set]
theorem setr_len {α : Type} {w : List α} {i : Nat} {x : α} : (setr w i x).length = w.length := by unfold setr; rw [List.length_set]
/-- Rows that are marked, and are held to be. -/
def Mh {α : Type} (m : Nat → Nat → Int → List α → Option (Int × List α)) (h : Nat → Nat → Int → List α → Option Int) : Prop :=
  ∀ (v : List α) (c : Int), v.length ≤ 2000000 → 0 ≤ c → c ≤ 1000000000000 → ∃ v' r, 0 ≤ r ∧ Ev (fun k => m k v.length c v) (r, v') ∧ Ev (fun k => h k v.length c v') r
theorem Mh.loop {α : Type} {ml : Nat → Nat → Int → Int → List α → Option (Int × List α)} {hl : Nat → Nat → Int → Int → List α → Option Int} {N : Nat} {Be : Int} (hBe : 0 ≤ Be ∧ Be ≤ 1000)
    (hN : N ≤ 2000000)
    (step : ∀ (w : List α) (i : Nat) (c : Int), w.length = N → i < N → 0 ≤ c → c ≤ 4000000000000000000 → ∃ x c', c ≤ c' ∧ c' ≤ c + Be ∧
      (∀ R, Ev (fun k => ml k N c' ((i + 1 : Nat) : Int) (setr w i x)) R → Ev (fun k => ml k N c (i : Int) w) R) ∧
      (∀ (v' : List α) R, v'[i]? = some x → Ev (fun k => hl k N c' ((i + 1 : Nat) : Int) v') R → Ev (fun k => hl k N c (i : Int) v') R))
    (stop : ∀ (w : List α) (i : Nat) (c : Int), ¬ i < N → Ev (fun k => ml k N c (i : Int) w) (c, w) ∧ Ev (fun k => hl k N c (i : Int) w) c) :
    ∀ (n i : Nat) (c : Int) (w : List α), N - i ≤ n → w.length = N → 0 ≤ c → c + (n : Int) * 1000 ≤ 4000000000000000000 → ∃ v' r, v'.length = N ∧ c ≤ r ∧ (∀ j, j < i → v'[j]? = w[j]?) ∧ Ev (fun k => ml k N c (i : Int) w) (r, v') ∧ Ev (fun k => hl k N c (i : Int) v') r := by
  intro n
  induction n with
  | zero =>
    intro i c w h hw h0 h1
    obtain ⟨q1, q2⟩ := stop w i c (by omega)
    exact ⟨w, c, hw, Int.le_refl _, fun _ _ => rfl, q1, q2⟩
  | succ n ih =>
    intro i c w h hw h0 h1
    by_cases hi : i < N
    · obtain ⟨x, c', q1, q2, q3, q4⟩ := step w i c hw hi h0 (by omega)
      obtain ⟨v', r, r1, r2, r3, r4, r5⟩ := ih (i + 1) c' (setr w i x) (by omega) (by rw [setr_len]; exact hw) (by omega) (by omega)
      refine ⟨v', r, r1, by omega, fun j hj => ?_, q3 _ r4, q4 _ _ (by rw [r3 i (by omega)]; exact setr_get (by omega)) r5⟩
      rw [r3 j (by omega)]; unfold setr; rw [List.getElem?_set_ne (by omega)]
    · obtain ⟨q1, q2⟩ := stop w i c hi
      exact ⟨w, c, hw, Int.le_refl _, fun _ _ => rfl, q1, q2⟩
theorem Mh.of {α : Type} {m : Nat → Nat → Int → List α → Option (Int × List α)} {h : Nat → Nat → Int → List α → Option Int} {ml : Nat → Nat → Int → Int → List α → Option (Int × List α)} {hl : Nat → Nat → Int → Int → List α → Option Int} {Be : Int} (hBe : 0 ≤ Be ∧ Be ≤ 1000)
    (hm : ∀ k N c w, m (k + 1) N c w = ml k N c 0 w) (hh : ∀ k N c w, h (k + 1) N c w = hl k N c 0 w)
    (step : ∀ (N : Nat) (w : List α) (i : Nat) (c : Int), N ≤ 2000000 → w.length = N → i < N → 0 ≤ c → c ≤ 4000000000000000000 → ∃ x c', c ≤ c' ∧ c' ≤ c + Be ∧
      (∀ R, Ev (fun k => ml k N c' ((i + 1 : Nat) : Int) (setr w i x)) R → Ev (fun k => ml k N c (i : Int) w) R) ∧
      (∀ (v' : List α) R, v'[i]? = some x → Ev (fun k => hl k N c' ((i + 1 : Nat) : Int) v') R → Ev (fun k => hl k N c (i : Int) v') R))
    (stop : ∀ (N : Nat) (w : List α) (i : Nat) (c : Int), ¬ i < N → Ev (fun k => ml k N c (i : Int) w) (c, w) ∧ Ev (fun k => hl k N c (i : Int) w) c) : Mh m h := fun v c hv h0 h1 => by
  obtain ⟨v', r, r1, r2, _, r4, r5⟩ := Mh.loop hBe hv (fun w i c => step v.length w i c hv) (fun w i c => stop v.length w i c) v.length 0 c v (by omega) rfl h0 (by omega)
  exact ⟨v', r, by omega, Ev.step (by simp only [hm]; exact r4), Ev.step (by simp only [hh]; exact r5)⟩
/-- Own rows compared with own rows. -/
theorem eqb_loop {α : Type} {l : Nat → Nat → Nat → Int → List α → List α → Option Bool} {v : List α} (hv : v.length ≤ 2000000)
    (step : ∀ (i : Nat), i < v.length → ∀ R, Ev (fun k => l k v.length v.length ((i + 1 : Nat) : Int) v v) R → Ev (fun k => l k v.length v.length (i : Int) v v) R)
    (stop : ∀ (i : Nat), ¬ i < v.length → Ev (fun k => l k v.length v.length (i : Int) v v) true) : ∀ (n i : Nat), v.length - i ≤ n → Ev (fun k => l k v.length v.length (i : Int) v v) true := by
  intro n
  induction n with
  | zero => intro i h; exact stop i (by omega)
  | succ n ih =>
    intro i h
    by_cases hi : i < v.length
    · exact step i hi _ (ih (i + 1) (by omega))
    · exact stop i hi
end Go.Ab
namespace Go.Ab
open Go.Proofs
set_option linter.unusedVariables false
set_option linter.unusedSimpArgs false
theorem rem3_ (a : Int) : rem a 3 = some (a.tmod 3) := rfl
theorem mh_PathStepS : Mh (fun k N c (w : List S31) => laws_markPathStepS_bv.f k N c w) (fun k N c w => laws_heldPathStepS_bv.f k N c w) :=
  Mh.of (ml := fun k N c i w => laws_markPathStepS_bv.l0 k N c i w) (hl := fun k N c i w => laws_heldPathStepS_bv.l0 k N c i w) (Be := 3) (by omega) (fun _ _ _ _ => by simp only [laws_markPathStepS_bv.f]) (fun _ _ _ _ => by simp only [laws_heldPathStepS_bv.f])
   (fun N w i c hN hw hi h0 h1 => by
    have ec0 := wm1 (a := c) (by omega) (by omega)
    obtain ⟨t1, q1⟩ := markText_ev (c + 1) (by omega) (by omega)
    have ec1 := wm1 (a := c + 1) (by omega) (by omega)
    have ec2 := wm1 (a := c + 1 + 1) (by omega) (by omega)
    have hiw : i < w.length := by omega
    refine ⟨?_, c + 1 + 1 + 1, by omega, by omega, fun R hR => ?_, fun v' R hv hR => ?_⟩
    rotate_left
    · refine Ev.step ?_
      simp only [laws_markPathStepS_bv.l0, List.getElem?_eq_getElem hiw, setr_get hiw, Option.bind_some, Int.toNat_natCast, cond_true, beq_self_eq_true, decide_true, setr_two, wup hi hN, inr_ hi, ltd hi, ec0, ec1, ec2]
      refine Ev.bind q1 ?_
      try simp only [setr_get hiw, Option.bind_some, Int.toNat_natCast, cond_true, beq_self_eq_true, decide_true, setr_two, wup hi hN, inr_ hi, ltd hi, ec0, ec1, ec2]
      exact hR
    · refine Ev.step ?_
      simp only [laws_heldPathStepS_bv.l0, hv, Option.bind_some, Int.toNat_natCast, cond_true, beq_self_eq_true, decide_true, setr_two, wup hi hN, inr_ hi, ltd hi, ec0, ec1, ec2]
      refine Ev.bind q1 ?_
      try simp only [Option.bind_some, Int.toNat_natCast, cond_true, beq_self_eq_true, decide_true, setr_two, wup hi hN, inr_ hi, ltd hi, ec0, ec1, ec2]
      exact hR)
   (fun N w i c hi => ⟨Ev.step (by simp only [laws_markPathStepS_bv.l0, ltn hi, cond_false]; exact Ev.ret _), Ev.step (by simp only [laws_heldPathStepS_bv.l0, ltn hi, cond_false]; exact Ev.ret _)⟩)
theorem eqb_PathStepS (v : List S31) (hv : v.length ≤ 2000000) : Ev (fun k => laws_eqPathStepS_bb.f k v.length v.length v v) true := by
  refine Ev.step ?_
  simp only [laws_eqPathStepS_bb.f, beq_self_eq_true, cond_true]
  exact eqb_loop (l := fun k n m i v _ => laws_eqPathStepS_bb.l0 k n m i v v) hv (fun i hi R hR => Ev.step (by simp only [laws_eqPathStepS_bb.l0, ltd hi, cond_true, inr_ hi, Option.bind_some, Int.toNat_natCast, List.getElem?_eq_getElem hi, beq_self_eq_true, decide_true, wup hi hv, laws_eqPathStep.f, Option.bind_some]; exact hR)) (fun i hi => Ev.step (by simp only [laws_eqPathStepS_bb.l0, ltn hi, cond_false]; exact Ev.ret _)) _ 0 (Nat.le_refl _)
theorem mk_PathStepS (v : (List S31)) (h : bdPathStepS v) : Mk (fun k c => laws_markPathStepS_sv.f k (v.map trPathStep) c) 3145728 := by
  generalize hu : (v.map trPathStep) = u
  have hlen : u.length ≤ 1048576 := by rw [← hu]; simpa using h.1
  refine Mk.slice (f := laws_markPathStepS_sv.f) (l := fun k u c i => laws_markPathStepS_sv.l0 k u c i) (v := u) (Be := 3) hlen (by omega) (fun k c => by simp only [laws_markPathStepS_sv.f]) (fun k c i => by simp only [laws_markPathStepS_sv.l0]; rfl) (fun i hi c h0 h1 => ?_)
  obtain ⟨y, hy, ey⟩ : ∃ y, bdPathStep y ∧ u[i] = (trPathStep y) := by
      have hm : u[i] ∈ (v.map trPathStep) := by rw [hu]; exact List.getElem_mem hi
      obtain ⟨y, hy, e⟩ := List.mem_map.1 hm
      exact ⟨y, h.2 y hy, e.symm⟩
  have ec0 := wm1 (a := c) (by omega) (by omega)
  obtain ⟨t1, q1⟩ := markText_ev (c + 1) (by omega) (by omega)
  have ec1 := wm1 (a := c + 1) (by omega) (by omega)
  have ec2 := wm1 (a := c + 1 + 1) (by omega) (by omega)
  refine ⟨c + 1 + 1 + 1, by omega, by omega, fun R hR => ?_⟩
  simp only [ixg hi, Option.bind_some, rem3_, wup hi (show u.length ≤ 2000000 by omega), ey, ec0, ec1, ec2]
  refine Ev.bind q1 ?_
  try simp only [ec0, ec1, ec2]
  exact hR
end Go.Ab
namespace Go.Ab
open Go.Proofs
set_option linter.unusedVariables false
set_option linter.unusedSimpArgs false
/-- Are a test's labels right? -/
noncomputable def labC (t : ByteArray) : Bool := (labels2 t).choose
theorem labC_s (t : ByteArray) : Ev (fun k => spec_LabelsFault.f k t) (if labC t then 0 else 1) := (labels2 t).choose_spec.1
theorem labC_i (t : ByteArray) : Ev (fun k => impl_LabelsFault.f k t) (if labC t then 0 else 1) := (labels2 t).choose_spec.2
/-- Is a thing right by itself, with n kids? -/
noncomputable def nodeK (x : S31) (n : Int) : Bool :=
  if x.f0 = 1 ∨ x.f0 = 2 then (n == 0) && nmB x.f1 else if x.f0 = 3 then (n == 0) && labC x.f1
  else if x.f0 = 4 ∨ x.f0 = 5 then (n == 2) && decide (x.f1 = (⟨#[]⟩ : ByteArray)) else if x.f0 = 6 ∨ x.f0 = 7 ∨ x.f0 = 8 then (n == 1) && decide (x.f1 = (⟨#[]⟩ : ByteArray)) else false
noncomputable def nodeB (x : S31) : Bool := nodeK x x.f2
theorem nodeB_le {x : S31} (h : nodeB x = true) : 0 ≤ x.f2 ∧ x.f2 ≤ 2 := by
  unfold nodeB nodeK at h
  split at h
  · simp at h; omega
  · split at h
    · simp at h; omega
    · split at h
      · simp at h; omega
      · split at h
        · simp at h; omega
        · cases h
theorem thing_s (x : S31) : Ev (fun k => spec_l09Thing.f k x) (nodeB x) := by
  unfold nodeB nodeK
  have j1 : ∀ b, b = (x.f0 == 4 || x.f0 == 5) → ¬ (x.f0 = 1 ∨ x.f0 = 2) → ¬ x.f0 = 3 → Ev (fun k => spec_l09Thing.j1 k x b) (if x.f0 = 4 ∨ x.f0 = 5 then (x.f2 == 2) && decide (x.f1 = (⟨#[]⟩ : ByteArray)) else if x.f0 = 6 ∨ x.f0 = 7 ∨ x.f0 = 8 then (x.f2 == 1) && decide (x.f1 = (⟨#[]⟩ : ByteArray)) else false) := fun b hb h1 h3 => by
    refine Ev.step ?_
    simp only [spec_l09Thing.j1]
    subst hb
    by_cases h45 : x.f0 = 4 ∨ x.f0 = 5
    · rw [if_pos h45, show (x.f0 == 4 || x.f0 == 5) = true by simpa using h45]
      simp only [cond_true]
      by_cases he : x.f1 = (⟨#[]⟩ : ByteArray)
      · simp only [decide_eq_true he, cond_true, Bool.and_true]; exact Ev.ret _
      · simp only [decide_eq_false he, cond_false, Bool.and_false]; exact Ev.ret _
    · rw [if_neg h45, show (x.f0 == 4 || x.f0 == 5) = false by simpa using h45]
      simp only [cond_false]
      by_cases h678 : x.f0 = 6 ∨ x.f0 = 7 ∨ x.f0 = 8
      · rw [if_pos h678]
        have key : Ev (fun k => (bif decide (x.f1 = (⟨#[]⟩ : ByteArray)) then (some (x.f2 == 1)) else (some false))) ((x.f2 == 1) && decide (x.f1 = (⟨#[]⟩ : ByteArray))) := by
          by_cases he : x.f1 = (⟨#[]⟩ : ByteArray)
          · simp only [decide_eq_true he, cond_true, Bool.and_true]; exact Ev.ret _
          · simp only [decide_eq_false he, cond_false, Bool.and_false]; exact Ev.ret _
        rcases h678 with h | h | h
        · simp only [h, beq_self_eq_true, cond_true]; exact key
        · simp only [h, show ((7 : Int) == 6) = false from rfl, beq_self_eq_true, cond_true, cond_false]; exact key
        · simp only [h, show ((8 : Int) == 6) = false from rfl, show ((8 : Int) == 7) = false from rfl, beq_self_eq_true, cond_true, cond_false]; exact key
      · rw [if_neg h678]
        have h6 : (x.f0 == 6) = false := by simpa using fun e => h678 (.inl e)
        have h7 : (x.f0 == 7) = false := by simpa using fun e => h678 (.inr (.inl e))
        have h8 : (x.f0 == 8) = false := by simpa using fun e => h678 (.inr (.inr e))
        simp only [h6, h7, h8, cond_false]; exact Ev.ret _
  have j0 : ∀ b, b = (x.f0 == 1 || x.f0 == 2) → Ev (fun k => spec_l09Thing.j0 k x b) (if x.f0 = 1 ∨ x.f0 = 2 then (x.f2 == 0) && nmB x.f1 else if x.f0 = 3 then (x.f2 == 0) && labC x.f1 else if x.f0 = 4 ∨ x.f0 = 5 then (x.f2 == 2) && decide (x.f1 = (⟨#[]⟩ : ByteArray)) else if x.f0 = 6 ∨ x.f0 = 7 ∨ x.f0 = 8 then (x.f2 == 1) && decide (x.f1 = (⟨#[]⟩ : ByteArray)) else false) := fun b hb => by
    refine Ev.step ?_
    simp only [spec_l09Thing.j0]
    subst hb
    by_cases h12 : x.f0 = 1 ∨ x.f0 = 2
    · rw [if_pos h12, show (x.f0 == 1 || x.f0 == 2) = true by simpa using h12]
      simp only [cond_true]
      refine Ev.bind (lnm _) ?_
      cases nmB x.f1 with
      | true => simp only [cond_true, Bool.and_true]; exact Ev.ret _
      | false => simp only [cond_false, Bool.and_false]; exact Ev.ret _
    · rw [if_neg h12, show (x.f0 == 1 || x.f0 == 2) = false by simpa using h12]
      simp only [cond_false]
      by_cases h3 : x.f0 = 3
      · rw [if_pos h3]
        simp only [h3, beq_self_eq_true, cond_true]
        refine Ev.bind (labC_s _) ?_
        cases labC x.f1 with
        | true => simp only [if_true, beq_self_eq_true, cond_true, Bool.and_true]; exact Ev.ret _
        | false => simp only [Bool.false_eq_true, if_false, show ((1 : Int) == 0) = false from rfl, cond_false, Bool.and_false]; exact Ev.ret _
      · rw [if_neg h3]
        simp only [show (x.f0 == 3) = false by simpa using h3, cond_false]
        by_cases h4 : x.f0 = 4
        · simp only [show (x.f0 == 4) = true by simpa using h4, cond_true]
          exact j1 true (by simp [h4]) h12 h3
        · simp only [show (x.f0 == 4) = false by simpa using h4, cond_false]
          exact j1 _ (by simp [h4]) h12 h3
  refine Ev.step ?_
  simp only [spec_l09Thing.f]
  by_cases h1 : x.f0 = 1
  · simp only [show (x.f0 == 1) = true by simpa using h1, cond_true]
    exact j0 true (by simp [h1])
  · simp only [show (x.f0 == 1) = false by simpa using h1, cond_false]
    exact j0 _ (by simp [h1])
/-! What is read -/
def semL (f : Nat → Option (S38 × Nat × Bool)) : Nat → Nat → List S38 → Bool → Option (List S38 × Nat × Bool)
 | 0, a, ks, b => some (ks, a, b)
 | c + 1, a, ks, b => match f a with
  | none => none
  | some (t, e, b') => semL f c e (ks ++ [t]) (b && b')
noncomputable def sem (l : List S31) : Nat → Nat → Nat → Option (S38 × Nat × Bool)
 | 0, _, _ => none
 | n + 1, a, d => match l[a]? with
  | none => none
  | some x => if 20 < d ∨ x.f2 < 0 then none else match semL (fun q => sem l n q (d + 1)) x.f2.toNat (a + 1) [] (nodeB x) with
   | none => none
   | some (ks, e, b) => some (⟨x, ks⟩, e, b)
theorem semL_false (f : Nat → Option (S38 × Nat × Bool)) : ∀ c a ks ks' e b, semL f c a ks false = some (ks', e, b) → b = false
 | 0, a, ks, ks', e, b, h => by simp only [semL, Option.some.injEq, Prod.mk.injEq] at h; exact h.2.2.symm
 | c + 1, a, ks, ks', e, b, h => by
  simp only [semL] at h
  cases hf : f a with
  | none => rw [hf] at h; cases h
  | some p => rw [hf] at h; simp only [Bool.false_and] at h; exact semL_false f c _ _ ks' e b h
theorem semL_mono {f g : Nat → Option (S38 × Nat × Bool)} (h : ∀ q r, f q = some r → g q = some r) : ∀ c a ks b r, semL f c a ks b = some r → semL g c a ks b = some r
 | 0, a, ks, b, r, hr => by simpa [semL] using hr
 | c + 1, a, ks, b, r, hr => by
  simp only [semL] at hr ⊢
  cases hf : f a with
  | none => rw [hf] at hr; cases hr
  | some p => rw [hf] at hr; rw [h a p hf]; exact semL_mono h c _ _ _ r hr
theorem sem_mono (l : List S31) : ∀ n a d d' r, d' ≤ d → sem l n a d = some r → sem l n a d' = some r
 | 0, a, d, d', r, _, h => by simp [sem] at h
 | n + 1, a, d, d', r, hd, h => by
  simp only [sem] at h ⊢
  cases hx : l[a]? with
  | none => rw [hx] at h; cases h
  | some x =>
    rw [hx] at h
    simp only at h ⊢
    split at h
    · cases h
    · rename_i hc
      rw [if_neg (by omega)]
      cases hs : semL (fun q => sem l n q (d + 1)) x.f2.toNat (a + 1) [] (nodeB x) with
      | none => rw [hs] at h; cases h
      | some p =>
        rw [hs] at h
        rw [semL_mono (fun q r hq => sem_mono l n q (d + 1) (d' + 1) r (by omega) hq) _ _ _ _ _ hs]
        exact h
section
variable {l : List S31}
theorem grow_i (hl : l.length ≤ 100) : ∀ (n a d : Nat), l.length - a < n → a ≤ l.length → d ≤ 21 → (∀ t e b, sem l n a d = some (t, e, b) → a < e ∧ e ≤ l.length ∧ Ev (fun k => impl_growSteps.f k l (a : Int) (d : Int)) (t, (e : Int), true)) ∧ (sem l n a d = none → ∃ x y, Ev (fun k => impl_growSteps.f k l (a : Int) (d : Int)) (x, y, false)) := by
  intro n
  induction n with
  | zero => intro a d h; omega
  | succ n ih =>
    intro a d hn ha hd
    by_cases hlt : a < l.length
    case neg =>
      have e : l[a]? = none := List.getElem?_eq_none (by omega)
      refine ⟨fun t e' b h => ?_, fun _ => ⟨⟨⟨0, ⟨#[]⟩, 0⟩, []⟩, (a : Int), Ev.step ?_⟩⟩
      · simp only [sem, e] at h; cases h
      · simp only [impl_growSteps.f, decide_eq_true (show (l.length : Int) ≤ (a : Int) by omega), cond_true]; exact Ev.ret _
    have e : l[a]? = some l[a] := List.getElem?_eq_getElem hlt
    by_cases hd20 : 20 < d
    · refine ⟨fun t e' b h => ?_, fun _ => ⟨⟨⟨0, ⟨#[]⟩, 0⟩, []⟩, (a : Int), Ev.step ?_⟩⟩
      · simp only [sem, e] at h; rw [if_pos (.inl hd20)] at h; cases h
      · simp only [impl_growSteps.f, decide_eq_false (show ¬ (l.length : Int) ≤ (a : Int) by omega), cond_false, decide_eq_true (show (20 : Int) < (d : Int) by omega), cond_true]; exact Ev.ret _
    by_cases hneg : l[a].f2 < 0
    · refine ⟨fun t e' b h => ?_, fun _ => ⟨⟨⟨0, ⟨#[]⟩, 0⟩, []⟩, (a : Int), Ev.step ?_⟩⟩
      · simp only [sem, e] at h; rw [if_pos (.inr hneg)] at h; cases h
      · simp only [impl_growSteps.f, decide_eq_false (show ¬ (l.length : Int) ≤ (a : Int) by omega), cond_false, decide_eq_false (show ¬ (20 : Int) < (d : Int) by omega), ixg hlt, Option.bind_some, decide_eq_true hneg, cond_true]; exact Ev.ret _
    have loop : ∀ (c p : Nat) (ks : List S38) (b : Bool), a < p → p ≤ l.length → ks.length ≤ p → ks.length + c = l[a].f2.toNat →
      (∀ ks' e b', semL (fun q => sem l n q (d + 1)) c p ks b = some (ks', e, b') → p ≤ e ∧ e ≤ l.length ∧ Ev (fun k => impl_growSteps.l0 k l (p : Int) (d : Int) (ks.length : Int) l[a] ks) (⟨l[a], ks'⟩, (e : Int), true)) ∧ (semL (fun q => sem l n q (d + 1)) c p ks b = none → ∃ x y, Ev (fun k => impl_growSteps.l0 k l (p : Int) (d : Int) (ks.length : Int) l[a] ks) (x, y, false)) := by
      intro c
      induction c with
      | zero =>
        intro p ks b hap hp hks hc
        refine ⟨fun ks' e b' h => ?_, fun h => by simp [semL] at h⟩
        simp only [semL, Option.some.injEq, Prod.mk.injEq] at h
        obtain ⟨rfl, rfl, _⟩ := h
        refine ⟨Nat.le_refl _, hp, Ev.step ?_⟩
        simp only [impl_growSteps.l0, decide_eq_false (show ¬ ((ks.length : Int) < l[a].f2) by omega), cond_false]
        exact Ev.ret _
      | succ c ihc =>
        intro p ks b hap hp hks hc
        obtain ⟨g1, g2⟩ := ih p (d + 1) (by omega) hp (by omega)
        have ew : IntKind.i64.wrap ((d : Int) + 1) = ((d + 1 : Nat) : Int) := by rw [wI (by omega) (by omega)]; omega
        have ek : IntKind.i64.wrap ((ks.length : Int) + 1) = ((ks.length + 1 : Nat) : Int) := by rw [wI (by omega) (by omega)]; omega
        cases hs : sem l n p (d + 1) with
        | none =>
          obtain ⟨x, y, hx⟩ := g2 hs
          refine ⟨fun ks' e b' h => (by simp only [semL, hs] at h; cases h), fun _ => ⟨⟨l[a], ks⟩, (p : Int), Ev.step ?_⟩⟩
          simp only [impl_growSteps.l0, decide_eq_true (show ((ks.length : Int) < l[a].f2) by omega), cond_true, ew]
          refine Ev.bind hx ?_
          simp only [cond_false]; exact Ev.ret _
        | some q =>
          obtain ⟨t, e1, b1⟩ := q
          obtain ⟨q1, q2, q3⟩ := g1 t e1 b1 hs
          obtain ⟨r1, r2⟩ := ihc e1 (ks ++ [t]) (b && b1) (by omega) q2 (by simp; omega) (by simp; omega)
          have el : ((ks ++ [t]).length : Int) = ((ks.length + 1 : Nat) : Int) := by simp
          rw [el] at r1 r2
          refine ⟨fun ks' e b' h => ?_, fun h => ?_⟩
          · simp only [semL, hs] at h
            obtain ⟨s1, s2, s3⟩ := r1 ks' e b' h
            refine ⟨by omega, s2, Ev.step ?_⟩
            simp only [impl_growSteps.l0, decide_eq_true (show ((ks.length : Int) < l[a].f2) by omega), cond_true, ew]
            refine Ev.bind q3 ?_
            simp only [cond_true]
            rw [app_one _ (by omega)]
            simp only [Option.bind_some, ek]
            exact s3
          · simp only [semL, hs] at h
            obtain ⟨x, y, s3⟩ := r2 h
            refine ⟨x, y, Ev.step ?_⟩
            simp only [impl_growSteps.l0, decide_eq_true (show ((ks.length : Int) < l[a].f2) by omega), cond_true, ew]
            refine Ev.bind q3 ?_
            simp only [cond_true]
            rw [app_one _ (by omega)]
            simp only [Option.bind_some, ek]
            exact s3
    obtain ⟨g1, g2⟩ := loop l[a].f2.toNat (a + 1) [] (nodeB l[a]) (by omega) (by omega) (by simp) (by simp)
    have ea : IntKind.i64.wrap ((a : Int) + 1) = ((a + 1 : Nat) : Int) := by rw [wI (by omega) (by omega)]; omega
    have hstep : ∀ R, Ev (fun k => impl_growSteps.l0 k l ((a + 1 : Nat) : Int) (d : Int) 0 l[a] []) R → Ev (fun k => impl_growSteps.f k l (a : Int) (d : Int)) R := fun R hR => Ev.step (by
      simp only [impl_growSteps.f, decide_eq_false (show ¬ (l.length : Int) ≤ (a : Int) by omega), cond_false, decide_eq_false (show ¬ (20 : Int) < (d : Int) by omega), ixg hlt, Option.bind_some, decide_eq_false hneg, ea]
      exact hR)
    refine ⟨fun t e' b h => ?_, fun h => ?_⟩
    · simp only [sem, e] at h
      rw [if_neg (by omega)] at h
      cases hs : semL (fun q => sem l n q (d + 1)) l[a].f2.toNat (a + 1) [] (nodeB l[a]) with
      | none => rw [hs] at h; cases h
      | some p =>
        obtain ⟨ks, e1, b1⟩ := p
        rw [hs] at h
        simp only [Option.some.injEq, Prod.mk.injEq] at h
        obtain ⟨rfl, rfl, rfl⟩ := h
        obtain ⟨s1, s2, s3⟩ := g1 ks e1 b1 hs
        exact ⟨by omega, s2, hstep _ s3⟩
    · simp only [sem, e] at h
      rw [if_neg (by omega)] at h
      cases hs : semL (fun q => sem l n q (d + 1)) l[a].f2.toNat (a + 1) [] (nodeB l[a]) with
      | none =>
        obtain ⟨x, y, s3⟩ := g2 hs
        exact ⟨x, y, hstep _ s3⟩
      | some p => rw [hs] at h; cases h
def endOf : Option (S38 × Nat × Bool) → Int
 | some (_, e, true) => (e : Int)
 | _ => -1
def endL : Option (List S38 × Nat × Bool) → Int
 | some (_, e, true) => (e : Int)
 | _ => -1
theorem end_s (hl : l.length ≤ 100) : ∀ (n a d : Nat), l.length - a < n → a ≤ l.length → d ≤ 21 → Ev (fun k => spec_l09End.f k l (a : Int) (d : Int)) (endOf (sem l n a d)) := by
  intro n
  induction n with
  | zero => intro a d h; omega
  | succ n ih =>
    intro a d hn ha hd
    by_cases hlt : a < l.length
    case neg =>
      have e : l[a]? = none := List.getElem?_eq_none (by omega)
      simp only [sem, e]
      refine Ev.step ?_
      simp only [spec_l09End.f, decide_eq_true (show (l.length : Int) ≤ (a : Int) by omega), cond_true]; exact Ev.ret _
    have e : l[a]? = some l[a] := List.getElem?_eq_getElem hlt
    simp only [sem, e]
    by_cases hd20 : 20 < d
    · rw [if_pos (.inl hd20)]
      refine Ev.step ?_
      simp only [spec_l09End.f, decide_eq_false (show ¬ (l.length : Int) ≤ (a : Int) by omega), cond_false, decide_eq_true (show (20 : Int) < (d : Int) by omega), cond_true]; exact Ev.ret _
    have pre : ∀ R, Ev (fun k => (bif nodeB l[a] then (spec_l09End.l0 k l (a : Int) (d : Int) ((a + 1 : Nat) : Int) 0) else (some (-1)))) R → Ev (fun k => spec_l09End.f k l (a : Int) (d : Int)) R := fun R hR => Ev.step (by
      have ea : IntKind.i64.wrap ((a : Int) + 1) = ((a + 1 : Nat) : Int) := by rw [wI (by omega) (by omega)]; omega
      simp only [spec_l09End.f, decide_eq_false (show ¬ (l.length : Int) ≤ (a : Int) by omega), cond_false, decide_eq_false (show ¬ (20 : Int) < (d : Int) by omega), ixg hlt, Option.bind_some, ea]
      exact Ev.bind (thing_s _) hR)
    refine pre _ ?_
    cases hb : nodeB l[a] with
    | false =>
      simp only [cond_false]
      refine (Ev.ret _).eq ?_
      split
      · rfl
      · cases hs : semL (fun q => sem l n q (d + 1)) l[a].f2.toNat (a + 1) [] false with
        | none => rfl
        | some p =>
          obtain ⟨ks, e1, b1⟩ := p
          have := semL_false _ _ _ _ _ _ _ hs
          subst this; rfl
    | true =>
      obtain ⟨z1, z2⟩ := nodeB_le hb
      rw [if_neg (by omega)]
      simp only [cond_true]
      have loop : ∀ (c p i : Nat) (ks : List S38), a < p → p ≤ l.length → i + c = l[a].f2.toNat → Ev (fun k => spec_l09End.l0 k l (a : Int) (d : Int) (p : Int) (i : Int)) (endL (semL (fun q => sem l n q (d + 1)) c p ks true)) := by
        intro c
        induction c with
        | zero =>
          intro p i ks hap hp hc
          refine Ev.step ?_
          simp only [spec_l09End.l0, ixg hlt, Option.bind_some, decide_eq_false (show ¬ ((i : Int) < l[a].f2) by omega), cond_false, semL, endL]
          exact Ev.ret _
        | succ c ihc =>
          intro p i ks hap hp hc
          have ew : IntKind.i64.wrap ((d : Int) + 1) = ((d + 1 : Nat) : Int) := by rw [wI (by omega) (by omega)]; omega
          have ek : IntKind.i64.wrap ((i : Int) + 1) = ((i + 1 : Nat) : Int) := by rw [wI (by omega) (by omega)]; omega
          refine Ev.step ?_
          simp only [spec_l09End.l0, ixg hlt, Option.bind_some, decide_eq_true (show ((i : Int) < l[a].f2) by omega), cond_true, ew]
          refine Ev.bind (ih p (d + 1) (by omega) hp (by omega)) ?_
          cases hs : sem l n p (d + 1) with
          | none =>
            simp only [semL, hs, endOf, endL, show decide ((-1 : Int) < 0) = true from rfl, cond_true]; exact Ev.ret _
          | some q =>
            obtain ⟨t, e1, b1⟩ := q
            obtain ⟨q1, q2, _⟩ := (grow_i hl n p (d + 1) (by omega) hp (by omega)).1 t e1 b1 hs
            cases b1 with
            | false =>
              simp only [semL, hs, endOf, Bool.true_and, show decide ((-1 : Int) < 0) = true from rfl, cond_true]
              refine (Ev.ret _).eq ?_
              cases hs2 : semL (fun q => sem l n q (d + 1)) c e1 (ks ++ [t]) false with
              | none => rfl
              | some p =>
                obtain ⟨ks2, e2, b2⟩ := p
                have := semL_false _ _ _ _ _ _ _ hs2
                subst this; rfl
            | true =>
              simp only [semL, hs, endOf, Bool.true_and, decide_eq_false (show ¬ ((e1 : Int) < 0) by omega), cond_false, ek]
              exact ihc e1 (i + 1) (ks ++ [t]) (by omega) q2 (by omega)
      have := loop l[a].f2.toNat (a + 1) 0 [] (by omega) (by omega) (by omega)
      refine this.eq ?_
      cases semL (fun q => sem l n q (d + 1)) l[a].f2.toNat (a + 1) [] true with
      | none => rfl
      | some p => obtain ⟨ks, e1, b1⟩ := p; cases b1 <;> rfl
/-! The tree's own test -/
theorem node_i {x : S31} {ks : List S38} (hk : ks.length ≤ 1000) : Ev (fun k => (bif (x.f0 == 1) then (impl_walkTree_ok.j0 k (⟨x, ks⟩ : S38) true) else (impl_walkTree_ok.j0 k (⟨x, ks⟩ : S38) (x.f0 == 2)))) (nodeK x ks.length) := by
  unfold nodeK
  have j1 : ∀ b, b = (x.f0 == 4 || x.f0 == 5) → ¬ (x.f0 = 1 ∨ x.f0 = 2) → ¬ x.f0 = 3 → Ev (fun k => impl_walkTree_ok.j1 k (⟨x, ks⟩ : S38) b) (if x.f0 = 4 ∨ x.f0 = 5 then ((ks.length : Int) == 2) && decide (x.f1 = (⟨#[]⟩ : ByteArray)) else if x.f0 = 6 ∨ x.f0 = 7 ∨ x.f0 = 8 then ((ks.length : Int) == 1) && decide (x.f1 = (⟨#[]⟩ : ByteArray)) else false) := fun b hb h1 h3 => by
    refine Ev.step ?_
    simp only [impl_walkTree_ok.j1]
    subst hb
    by_cases h45 : x.f0 = 4 ∨ x.f0 = 5
    · rw [if_pos h45, show (x.f0 == 4 || x.f0 == 5) = true by simpa using h45]
      simp only [cond_true]
      cases ((ks.length : Int) == 2) with
      | true => simp only [cond_true, Bool.true_and]; exact Ev.ret _
      | false => simp only [cond_false, Bool.false_and]; exact Ev.ret _
    · rw [if_neg h45, show (x.f0 == 4 || x.f0 == 5) = false by simpa using h45]
      simp only [cond_false]
      by_cases h678 : x.f0 = 6 ∨ x.f0 = 7 ∨ x.f0 = 8
      · rw [if_pos h678]
        have key : Ev (fun k => (bif ((ks.length : Int) == 1) then (some (decide (x.f1 = (⟨#[]⟩ : ByteArray)))) else (some false))) (((ks.length : Int) == 1) && decide (x.f1 = (⟨#[]⟩ : ByteArray))) := by
          cases ((ks.length : Int) == 1) with
          | true => simp only [cond_true, Bool.true_and]; exact Ev.ret _
          | false => simp only [cond_false, Bool.false_and]; exact Ev.ret _
        rcases h678 with h | h | h
        · simp only [h, beq_self_eq_true, cond_true]; exact key
        · simp only [h, show ((7 : Int) == 6) = false from rfl, beq_self_eq_true, cond_true, cond_false]; exact key
        · simp only [h, show ((8 : Int) == 6) = false from rfl, show ((8 : Int) == 7) = false from rfl, beq_self_eq_true, cond_true, cond_false]; exact key
      · rw [if_neg h678]
        have h6 : (x.f0 == 6) = false := by simpa using fun e => h678 (.inl e)
        have h7 : (x.f0 == 7) = false := by simpa using fun e => h678 (.inr (.inl e))
        have h8 : (x.f0 == 8) = false := by simpa using fun e => h678 (.inr (.inr e))
        simp only [h6, h7, h8, cond_false]; exact Ev.ret _
  have j0 : ∀ b, b = (x.f0 == 1 || x.f0 == 2) → Ev (fun k => impl_walkTree_ok.j0 k (⟨x, ks⟩ : S38) b) (if x.f0 = 1 ∨ x.f0 = 2 then ((ks.length : Int) == 0) && nmB x.f1 else if x.f0 = 3 then ((ks.length : Int) == 0) && labC x.f1 else if x.f0 = 4 ∨ x.f0 = 5 then ((ks.length : Int) == 2) && decide (x.f1 = (⟨#[]⟩ : ByteArray)) else if x.f0 = 6 ∨ x.f0 = 7 ∨ x.f0 = 8 then ((ks.length : Int) == 1) && decide (x.f1 = (⟨#[]⟩ : ByteArray)) else false) := fun b hb => by
    refine Ev.step ?_
    simp only [impl_walkTree_ok.j0]
    subst hb
    by_cases h12 : x.f0 = 1 ∨ x.f0 = 2
    · rw [if_pos h12, show (x.f0 == 1 || x.f0 == 2) = true by simpa using h12]
      simp only [cond_true]
      cases ((ks.length : Int) == 0) with
      | true => simp only [cond_true, Bool.true_and]; exact Ev.bind (inm _) (Ev.ret _)
      | false => simp only [cond_false, Bool.false_and]; exact Ev.ret _
    · rw [if_neg h12, show (x.f0 == 1 || x.f0 == 2) = false by simpa using h12]
      simp only [cond_false]
      by_cases h3 : x.f0 = 3
      · rw [if_pos h3]
        simp only [h3, beq_self_eq_true, cond_true]
        cases ((ks.length : Int) == 0) with
        | true =>
          simp only [cond_true, Bool.true_and]
          refine Ev.bind (labC_i _) ?_
          cases labC x.f1 with
          | true => simp only [if_true, beq_self_eq_true]; exact Ev.ret _
          | false => simp only [Bool.false_eq_true, if_false, show ((1 : Int) == 0) = false from rfl]; exact Ev.ret _
        | false => simp only [cond_false, Bool.false_and]; exact Ev.ret _
      · rw [if_neg h3]
        simp only [show (x.f0 == 3) = false by simpa using h3, cond_false]
        by_cases h4 : x.f0 = 4
        · simp only [show (x.f0 == 4) = true by simpa using h4, cond_true]
          exact j1 true (by simp [h4]) h12 h3
        · simp only [show (x.f0 == 4) = false by simpa using h4, cond_false]
          exact j1 _ (by simp [h4]) h12 h3
  by_cases h1 : x.f0 = 1
  · simp only [show (x.f0 == 1) = true by simpa using h1, cond_true]
    exact j0 true (by simp [h1])
  · simp only [show (x.f0 == 1) = false by simpa using h1, cond_false]
    exact j0 _ (by simp [h1])
theorem semL_ok {f : Nat → Option (S38 × Nat × Bool)} (h : ∀ q t e b, f q = some (t, e, b) → Ev (fun k => impl_walkTree_ok.f k t) b) : ∀ c a ks b ks' e b', semL f c a ks b = some (ks', e, b') → ∃ (nw : List S38) (bs : List Bool), ks' = ks ++ nw ∧ nw.length = c ∧ bs.length = c ∧ (∀ (i : Nat) t v, nw[i]? = some t → bs[i]? = some v → Ev (fun k => impl_walkTree_ok.f k t) v) ∧ b' = (b && bs.all id)
 | 0, a, ks, b, ks', e, b', hs => by
  simp only [semL, Option.some.injEq, Prod.mk.injEq] at hs
  obtain ⟨rfl, _, rfl⟩ := hs
  exact ⟨[], [], by simp, rfl, rfl, fun i t v h => by simp at h, by simp⟩
 | c + 1, a, ks, b, ks', e, b', hs => by
  simp only [semL] at hs
  cases hf : f a with
  | none => rw [hf] at hs; cases hs
  | some p =>
    obtain ⟨t, e1, b1⟩ := p
    rw [hf] at hs
    obtain ⟨nw, bs, h1, h2, h3, h4, h5⟩ := semL_ok h c _ _ _ ks' e b' hs
    refine ⟨t :: nw, b1 :: bs, by rw [h1]; simp, by simp [h2], by simp [h3], fun i t' v h1 h2 => ?_, by rw [h5]; simp [Bool.and_assoc]⟩
    cases i with
    | zero => simp at h1 h2; subst h1; subst h2; exact h a _ _ _ hf
    | succ i => simp at h1 h2; exact h4 i t' v h1 h2
theorem ok_i (hl : l.length ≤ 100) : ∀ (n a d : Nat) t e b, l.length - a < n → a ≤ l.length → d ≤ 21 → sem l n a d = some (t, e, b) → Ev (fun k => impl_walkTree_ok.f k t) b := by
  intro n
  induction n with
  | zero => intro a d t e b h; omega
  | succ n ih =>
    intro a d t e b hn ha hd h
    have hg := ((grow_i hl (n + 1) a d hn ha hd).1 t e b h)
    simp only [sem] at h
    cases hx : l[a]? with
    | none => rw [hx] at h; cases h
    | some x =>
      rw [hx] at h
      simp only at h
      split at h
      · cases h
      · rename_i hc
        cases hs : semL (fun q => sem l n q (d + 1)) x.f2.toNat (a + 1) [] (nodeB x) with
        | none => rw [hs] at h; cases h
        | some p =>
          obtain ⟨ks, e1, b1⟩ := p
          rw [hs] at h
          simp only [Option.some.injEq, Prod.mk.injEq] at h
          obtain ⟨rfl, rfl, rfl⟩ := h
          have hlt : a < l.length := (List.getElem?_eq_some_iff.1 hx).1
          have hb : ∀ c p ks0 b0 r, a < p → p ≤ l.length → semL (fun q => sem l n q (d + 1)) c p ks0 b0 = some r → semL (fun q => if a < q ∧ q ≤ l.length then sem l n q (d + 1) else none) c p ks0 b0 = some r ∧ p + c ≤ r.2.1 ∧ r.2.1 ≤ l.length := by
            intro c
            induction c with
            | zero => intro p ks0 b0 r hp hp' hr; simp only [semL, Option.some.injEq] at hr; subst hr; exact ⟨rfl, Nat.le_refl _, hp'⟩
            | succ c ihc =>
              intro p ks0 b0 r hp hp' hr
              simp only [semL] at hr ⊢
              rw [if_pos ⟨hp, hp'⟩]
              cases hq : sem l n p (d + 1) with
              | none => rw [hq] at hr; cases hr
              | some q =>
                obtain ⟨t2, e2, b2⟩ := q
                rw [hq] at hr
                obtain ⟨q1, q2, _⟩ := (grow_i hl n p (d + 1) (by omega) hp' (by omega)).1 t2 e2 b2 hq
                obtain ⟨r1, r2, r3⟩ := ihc e2 _ _ r (by omega) q2 hr
                exact ⟨r1, by omega, r3⟩
          obtain ⟨hs2, hs3, hs4⟩ := hb _ _ _ _ _ (by omega) (by omega) hs
          obtain ⟨nw, bs, h1, h2, h3, h4, h5⟩ := semL_ok (f := fun q => if a < q ∧ q ≤ l.length then sem l n q (d + 1) else none) (fun q t e b hq => by
            split at hq
            · rename_i hq2
              exact ih q (d + 1) t e b (by omega) hq2.2 (by omega) hq
            · cases hq) _ _ _ _ _ _ _ hs2
          simp only [List.nil_append] at h1
          subst h1
          have hkl : ks.length ≤ 100 := by simp only at hs3 hs4; omega
          have e2 : nodeK x ks.length = nodeB x := by unfold nodeB; congr 1; omega
          have hnode := node_i (x := x) (ks := ks) (by omega)
          rw [e2] at hnode
          have loop : ∀ (m i : Nat), ks.length - i ≤ m → i ≤ ks.length → Ev (fun k => impl_walkTree_ok.l0 k (⟨x, ks⟩ : S38) (i : Int)) ((bs.drop i).all id && nodeB x) := by
            have fin : ∀ i : Nat, ¬ i < ks.length → Ev (fun k => impl_walkTree_ok.l0 k (⟨x, ks⟩ : S38) (i : Int)) ((bs.drop i).all id && nodeB x) := fun i hi => by
              rw [List.drop_of_length_le (by omega)]
              refine Ev.step ?_
              simp only [impl_walkTree_ok.l0, ltn hi, cond_false, List.all_nil, Bool.true_and]
              exact hnode
            intro m
            induction m with
            | zero => intro i h hi; exact fin i (by omega)
            | succ m ihm =>
              intro i h hi
              by_cases hlt : i < ks.length
              case neg => exact fin i hlt
              have hbl : i < bs.length := by omega
              rw [List.drop_eq_getElem_cons hbl, List.all_cons]
              refine Ev.step ?_
              simp only [impl_walkTree_ok.l0, ltd hlt, cond_true, ixg hlt, Option.bind_some, wup hlt (show ks.length ≤ 2000000 by omega)]
              refine Ev.bind (h4 i _ _ (List.getElem?_eq_getElem hlt) (List.getElem?_eq_getElem hbl)) ?_
              cases bs[i] with
              | true => simp only [cond_true, id_eq, Bool.true_and]; exact ihm (i + 1) (by omega) (by omega)
              | false => simp only [cond_false, id_eq, Bool.false_and]; exact Ev.ret _
          have := loop _ 0 (Nat.le_refl _) (Nat.zero_le _)
          rw [h5, Bool.and_comm]
          exact Ev.step (by simp only [impl_walkTree_ok.f]; exact this)
/-! Turned -/
theorem step_l0 {out : List S31} {Ls : List (List S31)} (F : Nat → List S31 → List (List S31) → Int → Option (List S31)) (hF : ∀ k o L i, F (k + 1) o L i = (bif decide (i < (L.length : Int)) then ((ix L i).bind fun v6 => ((app o v6).bind fun v7 => (F k v7 L (IntKind.i64.wrap (i + 1))))) else (some o))) (hL : Ls.length ≤ 10) (hs : ∀ x ∈ Ls, x.length ≤ 1000) : ∀ (m i : Nat) (o : List S31), Ls.length - i ≤ m → i ≤ Ls.length → o.length ≤ 10000 + i * 1000 → Ev (fun k => F k o Ls (i : Int)) (o ++ (Ls.drop i).flatten) := by
  have fin : ∀ (i : Nat) (o : List S31), ¬ i < Ls.length → Ev (fun k => F k o Ls (i : Int)) (o ++ (Ls.drop i).flatten) := fun i o h => by
    rw [List.drop_of_length_le (by omega)]
    refine Ev.step ?_
    simp only [hF, ltn h, cond_false, List.flatten_nil, List.append_nil]
    exact Ev.ret _
  intro m
  induction m with
  | zero => intro i o h hi ho; exact fin i o (by omega)
  | succ m ih =>
    intro i o h hi ho
    by_cases hlt : i < Ls.length
    case neg => exact fin i o hlt
    have hx := hs _ (List.getElem_mem hlt)
    have ha : app o Ls[i] = some (o ++ Ls[i]) := by unfold app; rw [if_pos (by omega)]
    refine Ev.step ?_
    simp only [hF, ltd hlt, cond_true, ixg hlt, Option.bind_some, ha, wup hlt (show Ls.length ≤ 2000000 by omega)]
    rw [List.drop_eq_getElem_cons hlt, List.flatten_cons, ← List.append_assoc]
    exact ih (i + 1) _ (by omega) (by omega) (by rw [List.length_append]; omega)
theorem step_i (kd : Int) (t : ByteArray) {Ls : List (List S31)} (hL : Ls.length ≤ 10) (hs : ∀ x ∈ Ls, x.length ≤ 1000) : Ev (fun k => impl_step.f k kd t Ls) (⟨kd, t, Ls.length⟩ :: Ls.flatten) := by
  have := step_l0 (Ls := Ls) (out := []) impl_step.l0 (fun k o L i => by simp only [impl_step.l0]) hL hs _ 0 [⟨kd, t, Ls.length⟩] (Nat.le_refl _) (Nat.zero_le _) (by simp)
  exact Ev.step (by simp only [impl_step.f]; simpa using this)
theorem step_o (kd : Int) (t : ByteArray) {Ls : List (List S31)} (hL : Ls.length ≤ 10) (hs : ∀ x ∈ Ls, x.length ≤ 1000) : Ev (fun k => impl_step_O.f k kd t Ls) (⟨kd, t, Ls.length⟩ :: Ls.flatten) := by
  have := step_l0 (Ls := Ls) (out := []) impl_step_O.l0 (fun k o L i => by simp only [impl_step_O.l0]) hL hs _ 0 [⟨kd, t, Ls.length⟩] (Nat.le_refl _) (Nat.zero_le _) (by simp)
  exact Ev.step (by simp only [impl_step_O.f]; simpa using this)
theorem Ev.succ {α : Type} {f : Nat → Option α} {r : α} (h : Ev f r) : Ev (fun k => f (k + 1)) r := by
  obtain ⟨K, h⟩ := h; exact ⟨K, fun k hk => h (k + 1) (by omega)⟩
theorem turn_ (hl : l.length ≤ 100) : ∀ (n a d : Nat) t e, l.length - a < n → a ≤ l.length → 1 ≤ d → d ≤ 21 → sem l n a d = some (t, e, true) → ∃ L : List S31, L.length ≤ e - a ∧ Ev (fun k => spec_l09Turn.f k l (a : Int)) L ∧ Ev (fun k => impl_walkTree_turned.f k t) L ∧ Ev (fun k => impl_walkTree_turned_O.f k t) L := by
  intro n
  induction n with
  | zero => intro a d t e h; omega
  | succ n ih =>
    intro a d t e hn ha hd1 hd h
    obtain ⟨hae, hel, _⟩ := ((grow_i hl (n + 1) a d hn ha hd).1 t e true h)
    simp only [sem] at h
    cases hx : l[a]? with
    | none => rw [hx] at h; cases h
    | some x =>
      rw [hx] at h
      simp only at h
      have hlt : a < l.length := (List.getElem?_eq_some_iff.1 hx).1
      have hxa : l[a] = x := (List.getElem?_eq_some_iff.1 hx).2
      have ea : IntKind.i64.wrap ((a : Int) + 1) = ((a + 1 : Nat) : Int) := by rw [wI (by omega) (by omega)]; omega
      split at h
      · cases h
      · rename_i hc
        cases hs : semL (fun q => sem l n q (d + 1)) x.f2.toNat (a + 1) [] (nodeB x) with
        | none => rw [hs] at h; cases h
        | some p =>
          obtain ⟨ks, e1, b1⟩ := p
          rw [hs] at h
          simp only [Option.some.injEq, Prod.mk.injEq] at h
          obtain ⟨rfl, rfl, rfl⟩ := h
          have hnb : nodeB x = true := by
            cases hb : nodeB x with
            | true => rfl
            | false => rw [hb] at hs; exact (semL_false _ _ _ _ _ _ _ hs).symm
          rw [hnb] at hs
          have kid : ∀ p t2 e2, a < p → p ≤ l.length → sem l n p (d + 1) = some (t2, e2, true) → ∃ L : List S31, L.length ≤ e2 - p ∧ p < e2 ∧ e2 ≤ l.length ∧ Ev (fun k => spec_l09Turn.f k l (p : Int)) L ∧ Ev (fun k => impl_walkTree_turned.f k t2) L ∧ Ev (fun k => spec_l09End.f k l (p : Int) 1) (e2 : Int) := fun p t2 e2 hp hp' h2 => by
            obtain ⟨L, q1, q2, q3, _⟩ := ih p (d + 1) t2 e2 (by omega) hp' (by omega) (by omega) h2
            obtain ⟨g1, g2, _⟩ := (grow_i hl n p (d + 1) (by omega) hp' (by omega)).1 t2 e2 true h2
            have h3 := sem_mono l n p (d + 1) 1 _ (by omega) h2
            have h4 := end_s hl n p 1 (by omega) hp' (by omega)
            rw [h3] at h4
            exact ⟨L, q1, g1, g2, q2, q3, h4⟩
          have split1 : ∀ c p ks0 r, semL (fun q => sem l n q (d + 1)) (c + 1) p ks0 true = some (r, e1, true) → ∃ t2 e2, sem l n p (d + 1) = some (t2, e2, true) ∧ semL (fun q => sem l n q (d + 1)) c e2 (ks0 ++ [t2]) true = some (r, e1, true) := fun c p ks0 r hr => by
            simp only [semL] at hr
            cases hq : sem l n p (d + 1) with
            | none => rw [hq] at hr; cases hr
            | some q =>
              obtain ⟨t2, e2, b2⟩ := q
              rw [hq] at hr
              cases b2 with
              | true => exact ⟨t2, e2, rfl, hr⟩
              | false =>
                simp only [Bool.true_and] at hr
                have := semL_false _ _ _ _ _ _ _ hr
                cases this
          obtain ⟨x0, x1, x2⟩ := x
          have hnb2 := hnb
          unfold nodeB nodeK at hnb2
          simp only at hnb2 hs hx hxa
          by_cases h12 : x0 = 1 ∨ x0 = 2
          · rw [if_pos h12] at hnb2
            simp at hnb2
            obtain ⟨rfl, _⟩ := hnb2
            simp only [Int.toNat_zero, semL, Option.some.injEq, Prod.mk.injEq] at hs
            obtain ⟨rfl, _, _⟩ := hs
            rcases h12 with rfl | rfl
            · refine ⟨[⟨2, x1, 0⟩], by simp; omega, Ev.step ?_, Ev.step ?_, ?_⟩
              · simp only [spec_l09Turn.f, ixg hlt, hxa, Option.bind_some, beq_self_eq_true, cond_true]; exact Ev.ret _
              · simp only [impl_walkTree_turned.f, beq_self_eq_true, cond_true]
                exact Ev.bind (step_i 2 x1 (Ls := []) (by simp) (by simp)) (Ev.ret _)
              · simp only [impl_walkTree_turned_O.f, beq_self_eq_true, cond_true]
                exact Ev.bind (step_o 2 x1 (Ls := []) (by simp) (by simp)) (Ev.ret _)
            · refine ⟨[⟨1, x1, 0⟩], by simp; omega, Ev.step ?_, Ev.step ?_, ?_⟩
              · simp only [spec_l09Turn.f, ixg hlt, hxa, Option.bind_some, show ((2 : Int) == 1) = false from rfl, beq_self_eq_true, cond_true, cond_false]; exact Ev.ret _
              · simp only [impl_walkTree_turned.f, show ((2 : Int) == 1) = false from rfl, beq_self_eq_true, cond_true, cond_false]
                exact Ev.bind (step_i 1 x1 (Ls := []) (by simp) (by simp)) (Ev.ret _)
              · simp only [impl_walkTree_turned_O.f, show ((2 : Int) == 1) = false from rfl, beq_self_eq_true, cond_true, cond_false]
                exact Ev.bind (step_o 1 x1 (Ls := []) (by simp) (by simp)) (Ev.ret _)
          rw [if_neg h12] at hnb2
          have b1 : (x0 == 1) = false := by simpa using fun e => h12 (.inl e)
          have b2 : (x0 == 2) = false := by simpa using fun e => h12 (.inr e)
          by_cases h3 : x0 = 3
          · rw [if_pos h3] at hnb2
            simp at hnb2
            obtain ⟨rfl, _⟩ := hnb2
            simp only [Int.toNat_zero, semL, Option.some.injEq, Prod.mk.injEq] at hs
            obtain ⟨rfl, _, _⟩ := hs
            subst h3
            refine ⟨[⟨3, x1, 0⟩], by simp; omega, Ev.step ?_, Ev.step ?_, ?_⟩
            · simp only [spec_l09Turn.f, ixg hlt, hxa, Option.bind_some, b1, b2, beq_self_eq_true, cond_true, cond_false]; exact Ev.ret _
            · simp only [impl_walkTree_turned.f, b1, b2, beq_self_eq_true, cond_true, cond_false]
              exact Ev.bind (step_i 3 x1 (Ls := []) (by simp) (by simp)) (Ev.ret _)
            · simp only [impl_walkTree_turned_O.f, b1, b2, beq_self_eq_true, cond_true, cond_false]
              exact Ev.bind (step_o 3 x1 (Ls := []) (by simp) (by simp)) (Ev.ret _)
          rw [if_neg h3] at hnb2
          have b3 : (x0 == 3) = false := by simpa using h3
          have secd : ∀ e2 : Nat, Ev (fun k => spec_l09End.f k l ((a + 1 : Nat) : Int) 1) (e2 : Int) → Ev (fun k => spec_l09Second.f k l (a : Int)) (e2 : Int) := fun e2 h => by
            simp only [spec_l09Second.f, ea]
            exact Ev.bind h (Ev.ret _)
          have apb : ∀ {A B : List S31}, A.length ≤ 1000 → B.length ≤ 1000 → app A B = some (A ++ B) := fun hA hB => by unfold app; rw [if_pos (by omega)]
          by_cases h45 : x0 = 4 ∨ x0 = 5
          · rw [if_pos h45] at hnb2
            simp at hnb2
            obtain ⟨rfl, rfl⟩ := hnb2
            obtain ⟨t1, m1, r1, r2⟩ := split1 1 (a + 1) [] ks hs
            obtain ⟨L1, p1, p2, p3, p4, p5, p6⟩ := kid (a + 1) t1 m1 (by omega) (by omega) r1
            obtain ⟨t2, m2, r3, r4⟩ := split1 0 m1 _ ks r2
            obtain ⟨L2, q1, q2, q3, q4, q5, _⟩ := kid m1 t2 m2 (by omega) p3 r3
            simp only [semL, Option.some.injEq, Prod.mk.injEq, List.nil_append, List.singleton_append, and_true] at r4
            obtain ⟨rfl, rfl⟩ := r4
            have i0 : ix [t1, t2] 0 = some t1 := rfl
            have i1 : ix [t1, t2] 1 = some t2 := rfl
            rcases h45 with rfl | rfl
            · have sti : Ev (fun k => impl_step.f k 4 (⟨#[]⟩ : ByteArray) [L2, L1]) (⟨4, ⟨#[]⟩, 2⟩ :: (L2 ++ L1)) := by
                have := step_i 4 (⟨#[]⟩ : ByteArray) (Ls := [L2, L1]) (by simp) (by simp; omega)
                simpa using this
              have sto : Ev (fun k => impl_step_O.f k 4 (⟨#[]⟩ : ByteArray) [L2, L1]) (⟨4, ⟨#[]⟩, 2⟩ :: (L2 ++ L1)) := by
                have := step_o 4 (⟨#[]⟩ : ByteArray) (Ls := [L2, L1]) (by simp) (by simp; omega)
                simpa using this
              refine ⟨⟨4, ⟨#[]⟩, 2⟩ :: (L2 ++ L1), by simp; omega, Ev.step ?_, Ev.step ?_, ?_⟩
              · simp only [spec_l09Turn.f, ixg hlt, hxa, Option.bind_some, b1, b2, b3, beq_self_eq_true, cond_true, cond_false, ea]
                refine Ev.bind (secd _ p6) (Ev.bind q4 ?_)
                rw [apb (by simp) (by omega)]
                simp only [Option.bind_some]
                refine Ev.bind p4 ?_
                rw [apb (by simp; omega) (by omega)]
                simp only [Option.bind_some, List.singleton_append, List.cons_append]
                exact Ev.ret _
              · simp only [impl_walkTree_turned.f, b1, b2, b3, beq_self_eq_true, cond_true, cond_false, i0, i1, Option.bind_some]
                exact Ev.bind q5 (Ev.bind p5 (Ev.bind sti (Ev.ret _)))
              · simp only [impl_walkTree_turned_O.f, b1, b2, b3, beq_self_eq_true, cond_true, cond_false, i0, i1, Option.bind_some]
                exact Ev.bind q5 (Ev.bind p5 (Ev.bind sto (Ev.ret _)))
            · have sti : Ev (fun k => impl_step.f k 5 (⟨#[]⟩ : ByteArray) [L1, L2]) (⟨5, ⟨#[]⟩, 2⟩ :: (L1 ++ L2)) := by
                have := step_i 5 (⟨#[]⟩ : ByteArray) (Ls := [L1, L2]) (by simp) (by simp; omega)
                simpa using this
              have sto : Ev (fun k => impl_step_O.f k 5 (⟨#[]⟩ : ByteArray) [L1, L2]) (⟨5, ⟨#[]⟩, 2⟩ :: (L1 ++ L2)) := by
                have := step_o 5 (⟨#[]⟩ : ByteArray) (Ls := [L1, L2]) (by simp) (by simp; omega)
                simpa using this
              have b4 : ((5 : Int) == 4) = false := rfl
              refine ⟨⟨5, ⟨#[]⟩, 2⟩ :: (L1 ++ L2), by simp; omega, Ev.step ?_, Ev.step ?_, ?_⟩
              · simp only [spec_l09Turn.f, ixg hlt, hxa, Option.bind_some, b1, b2, b3, b4, beq_self_eq_true, cond_true, cond_false, ea]
                refine Ev.bind p4 ?_
                rw [apb (by simp) (by omega)]
                simp only [Option.bind_some]
                refine Ev.bind (secd _ p6) (Ev.bind q4 ?_)
                rw [apb (by simp; omega) (by omega)]
                simp only [Option.bind_some, List.singleton_append, List.cons_append]
                exact Ev.ret _
              · simp only [impl_walkTree_turned.f, b1, b2, b3, b4, beq_self_eq_true, cond_true, cond_false, i0, i1, Option.bind_some]
                exact Ev.bind p5 (Ev.bind q5 (Ev.bind sti (Ev.ret _)))
              · simp only [impl_walkTree_turned_O.f, b1, b2, b3, b4, beq_self_eq_true, cond_true, cond_false, i0, i1, Option.bind_some]
                exact Ev.bind p5 (Ev.bind q5 (Ev.bind sto (Ev.ret _)))
          rw [if_neg h45] at hnb2
          have b4 : (x0 == 4) = false := by simpa using fun e => h45 (.inl e)
          have b5 : (x0 == 5) = false := by simpa using fun e => h45 (.inr e)
          by_cases h678 : x0 = 6 ∨ x0 = 7 ∨ x0 = 8
          · rw [if_pos h678] at hnb2
            simp at hnb2
            obtain ⟨rfl, rfl⟩ := hnb2
            obtain ⟨t1, m1, r1, r2⟩ := split1 0 (a + 1) [] ks hs
            obtain ⟨L1, p1, p2, p3, p4, p5, p6⟩ := kid (a + 1) t1 m1 (by omega) (by omega) r1
            simp only [semL, Option.some.injEq, Prod.mk.injEq, List.nil_append, and_true] at r2
            obtain ⟨rfl, rfl⟩ := r2
            have i0 : ix [t1] 0 = some t1 := rfl
            have sti : Ev (fun k => impl_step.f k x0 (⟨#[]⟩ : ByteArray) [L1]) (⟨x0, ⟨#[]⟩, 1⟩ :: L1) := by
              have := step_i x0 (⟨#[]⟩ : ByteArray) (Ls := [L1]) (by simp) (by simp; omega)
              simpa using this
            have sto : Ev (fun k => impl_step_O.f k x0 (⟨#[]⟩ : ByteArray) [L1]) (⟨x0, ⟨#[]⟩, 1⟩ :: L1) := by
              have := step_o x0 (⟨#[]⟩ : ByteArray) (Ls := [L1]) (by simp) (by simp; omega)
              simpa using this
            refine ⟨⟨x0, ⟨#[]⟩, 1⟩ :: L1, by simp; omega, Ev.step ?_, Ev.step ?_, ?_⟩
            · simp only [spec_l09Turn.f, ixg hlt, hxa, Option.bind_some, b1, b2, b3, b4, b5, cond_false, ea]
              refine Ev.bind p4 ?_
              rw [apb (by simp) (by omega)]
              simp only [Option.bind_some, List.singleton_append]
              exact Ev.ret _
            · simp only [impl_walkTree_turned.f, b1, b2, b3, b4, b5, cond_false, i0, Option.bind_some]
              exact Ev.bind p5 (Ev.bind sti (Ev.ret _))
            · simp only [impl_walkTree_turned_O.f, b1, b2, b3, b4, b5, cond_false, i0, Option.bind_some]
              exact Ev.bind p5 (Ev.bind sto (Ev.ret _))
          · rw [if_neg h678] at hnb2; cases hnb2
end
theorem turns2 (l : List S31) : ∃ R : List S31, R.length ≤ 2000000 ∧ Ev (fun k => spec_TurnSteps_O.f k l) R ∧ Ev (fun k => impl_TurnSteps_O.f k l) R := by
  unfold spec_TurnSteps_O.f impl_TurnSteps_O.f spec_StepsFault.f impl_stepsTree.f
  by_cases hl : l.length ≤ 100
  case neg =>
    refine ⟨[], by simp, ?_, ?_⟩
    · simp only [decide_eq_true (show (100 : Int) < (l.length : Int) by omega), cond_true, Option.bind_some, show ((1 : Int) == 0) = false from rfl, cond_false]; exact Ev.ret _
    · simp only [decide_eq_true (show (100 : Int) < (l.length : Int) by omega), cond_true, Option.bind_some, cond_false]; exact Ev.ret _
  simp only [decide_eq_false (show ¬ (100 : Int) < (l.length : Int) by omega), cond_false]
  obtain ⟨g1, g2⟩ := grow_i hl (l.length + 1) 0 1 (by omega) (by omega) (by omega)
  have he := end_s hl (l.length + 1) 0 1 (by omega) (by omega) (by omega)
  cases hs : sem l (l.length + 1) 0 1 with
  | none =>
    rw [hs] at he
    obtain ⟨x, y, hx⟩ := g2 hs
    refine ⟨[], by simp, ?_, ?_⟩
    · refine Ev.bind (Ev.bind he (?_ : Ev _ (1 : Int))) ?_
      · simp only [endOf, show ((-1 : Int) == (l.length : Int)) = false by rw [beq_eq_false_iff_ne]; omega, cond_false]; exact Ev.ret _
      · simp only [show ((1 : Int) == 0) = false from rfl, cond_false]; exact Ev.ret _
    · refine Ev.bind (Ev.bind hx (?_ : Ev _ (x, false))) ?_
      · simp only [cond_false]; exact Ev.ret _
      · simp only [cond_false]; exact Ev.ret _
  | some p =>
    obtain ⟨t, e, b⟩ := p
    rw [hs] at he
    obtain ⟨q1, q2, q3⟩ := g1 t e b hs
    have hok := ok_i hl (l.length + 1) 0 1 t e b (by omega) (by omega) (by omega) hs
    by_cases hfull : b = true ∧ e = l.length
    · obtain ⟨rfl, rfl⟩ := hfull
      obtain ⟨L, r1, r2, r3, r4⟩ := turn_ hl (l.length + 1) 0 1 t _ (by omega) (by omega) (by omega) (by omega) hs
      refine ⟨L, by omega, ?_, ?_⟩
      · refine Ev.bind (Ev.bind he (?_ : Ev _ (0 : Int))) ?_
        · simp only [endOf, beq_self_eq_true, cond_true]; exact Ev.ret _
        · simp only [beq_self_eq_true, cond_true]
          refine Ev.bind (?_ : Ev (fun k => spec_l09Turn_O.f k l 0) L) (Ev.ret _)
          have := Ev.succ r2
          simp only [spec_l09Turn.f] at this
          simp only [spec_l09Turn_O.f]
          exact this
      · refine Ev.bind (Ev.bind q3 (?_ : Ev _ (t, true))) ?_
        · simp only [cond_true, beq_self_eq_true]; exact Ev.bind hok (Ev.ret _)
        · simp only [cond_true]; exact Ev.bind r4 (Ev.ret _)
    · refine ⟨[], by simp, ?_, ?_⟩
      · have hne : (endOf (some (t, e, b)) == (l.length : Int)) = false := by
          rw [beq_eq_false_iff_ne]
          cases b with
          | false => simp only [endOf]; omega
          | true => simp only [endOf]; intro e'; exact hfull ⟨rfl, by omega⟩
        refine Ev.bind (Ev.bind he (?_ : Ev _ (1 : Int))) ?_
        · simp only [hne, cond_false]; exact Ev.ret _
        · simp only [show ((1 : Int) == 0) = false from rfl, cond_false]; exact Ev.ret _
      · by_cases hee : e = l.length
        · have hbf : b = false := by cases b with
            | false => rfl
            | true => exact absurd ⟨rfl, hee⟩ hfull
          subst hbf; subst hee
          refine Ev.bind (Ev.bind q3 (?_ : Ev _ (t, false))) ?_
          · simp only [cond_true, beq_self_eq_true]; exact Ev.bind hok (Ev.ret _)
          · simp only [cond_false]; exact Ev.ret _
        · refine Ev.bind (Ev.bind q3 (?_ : Ev _ (t, false))) ?_
          · simp only [cond_true, show ((e : Int) == (l.length : Int)) = false by rw [beq_eq_false_iff_ne]; omega, cond_false]; exact Ev.ret _
          · simp only [cond_false]; exact Ev.ret _
theorem lftT : Lft 1048576 := by unfold Lft; omega
theorem said_FnExactTurnSteps (x : List S31) (h : Lst wf31 x) : ∃ k, laws_FnExactTurnSteps.f k x = some true := by
  refine Ev.at_ (f := fun k => laws_FnExactTurnSteps.f k x) ?_
  unfold laws_FnExactTurnSteps.f
  obtain ⟨r, h1, h2, h3⟩ := sz_PathStepS x h lftT
  refine Ev.bind h1 ?_
  by_cases hr : r < 0
  · simp only [decide_eq_true hr, cond_true]; exact Ev.ret _
  have hb := h3 (by omega)
  obtain ⟨R, hR, s1, s2⟩ := turns2 (x.map trPathStep)
  obtain ⟨m, m1, m2, m3⟩ := mk_PathStepS x hb 1 (by omega) (by omega)
  obtain ⟨v', q, q1, q2, q3⟩ := mh_PathStepS R 1 hR (by omega) (by omega)
  have e := eqb_PathStepS R hR
  simp only [decide_eq_false hr, cond_false]
  refine Ev.bind (to_PathStepS x hb) (Ev.bind s1 (Ev.bind (to_PathStepS x hb) (Ev.bind s2 (Ev.bind e ?_))))
  simp only [cond_true]
  refine Ev.bind (to_PathStepS x hb) (Ev.bind (eq_PathStepS x hb) ?_)
  simp only [cond_true]
  refine Ev.bind m1 ?_
  simp only [decide_eq_false (show ¬ m < 0 by omega), cond_false]
  refine Ev.bind e ?_
  simp only [cond_true]
  refine Ev.bind q2 (Ev.bind q3 ?_)
  simp only [decide_eq_false (show ¬ q < 0 by omega), cond_false, beq_self_eq_true, cond_true]
  refine Ev.bind (to_PathStepS x hb) (Ev.bind s2 (Ev.bind e ?_))
  simp only [cond_true]
  refine Ev.bind q3 ?_
  simp only [decide_eq_false (show ¬ q < 0 by omega), cond_false, beq_self_eq_true, cond_true]
  exact Ev.ret _
end Go.Ab
