/- The order of values, being the same, being less: both tell the same of values that were read. No condition. -/
import Derived.Test.YtklhcjepgbakmaaGreatDoorAbL4
import Derived.Lib.Bytealg
namespace Go.Ab
open Go.Proofs
set_option linter.unusedVariables false
set_option linter.unusedSimpArgs false
/-! Comparing -/
def cmpI (a b : Int) : Int := if a < b then -1 else if b < a then 1 else 0
def cmpB (a b : ByteArray) : Int := if slt a b then -1 else if slt b a then 1 else 0
theorem less_asym : ∀ (a b : List UInt8), Op.bytesLess a b = true → Op.bytesLess b a = false
 | [], [], h => by simp [Op.bytesLess] at h
 | [], _ :: _, _ => by simp [Op.bytesLess]
 | _ :: _, [], h => by simp [Op.bytesLess] at h
 | x :: a, y :: b, h => by
   simp only [Op.bytesLess, Bool.or_eq_true, Bool.and_eq_true, decide_eq_true_eq, beq_iff_eq] at h ⊢
   rw [Bool.eq_false_iff]
   intro h'
   simp only [Bool.or_eq_true, Bool.and_eq_true, decide_eq_true_eq, beq_iff_eq] at h'
   rcases h with h | ⟨rfl, h⟩
   · rcases h' with h' | ⟨rfl, _⟩
     · exact absurd h (by simp only [UInt8.lt_iff_toNat_lt] at h h' ⊢; omega)
     · exact absurd h (by simp only [UInt8.lt_iff_toNat_lt]; omega)
   · rcases h' with h' | ⟨_, h'⟩
     · exact absurd h' (by simp only [UInt8.lt_iff_toNat_lt]; omega)
     · have := less_asym a b h; rw [this] at h'; cases h'
theorem cmp_list : ∀ (a b : List UInt8), Lib.compareBytes a b = (if Op.bytesLess a b then -1 else if Op.bytesLess b a then 1 else 0) ∧ (Lib.compareBytes a b = 0 ↔ a = b)
 | [], [] => by simp [Lib.compareBytes, Op.bytesLess]
 | [], _ :: _ => by simp [Lib.compareBytes, Op.bytesLess]
 | _ :: _, [] => by simp [Lib.compareBytes, Op.bytesLess]
 | x :: a, y :: b => by
   obtain ⟨i1, i2⟩ := cmp_list a b
   unfold Lib.compareBytes
   by_cases h1 : x < y
   · have h2 : ¬ y < x := by simp only [UInt8.lt_iff_toNat_lt] at h1 ⊢; omega
     have h3 : x ≠ y := by rintro rfl; simp only [UInt8.lt_iff_toNat_lt] at h1; omega
     rw [if_pos h1]
     simp [Op.bytesLess, h1, h3]
   · rw [if_neg h1]
     by_cases h2 : y < x
     · have h3 : x ≠ y := by rintro rfl; exact h1 h2
       rw [if_pos h2]
       simp [Op.bytesLess, h1, h2, h3]
     · rw [if_neg h2]
       have h3 : x = y := UInt8.toNat_inj.1 (by simp only [UInt8.lt_iff_toNat_lt] at h1 h2; omega)
       subst h3
       simp only [Op.bytesLess, h1, decide_false, beq_self_eq_true, Bool.true_and, Bool.false_or, List.cons.injEq, true_and]
       exact ⟨i1, i2⟩
theorem compare_ (k : Nat) (a b : ByteArray) : strings_Compare.f k a b = some (cmpB a b) := by
  unfold strings_Compare.f cmpB slt
  rw [ByteArray.toList_eq, ByteArray.toList_eq, (cmp_list _ _).1]
theorem cmpB_eq {a b : ByteArray} : cmpB a b = 0 ↔ a = b := by
  have h : cmpB a b = Lib.compareBytes a.data.toList b.data.toList := by
    unfold cmpB slt
    rw [ByteArray.toList_eq, ByteArray.toList_eq, (cmp_list _ _).1]
  rw [h, (cmp_list _ _).2]
  constructor
  · intro e; exact ByteArray.ext (Array.toList_inj.1 e)
  · rintro rfl; rfl
theorem b2i_ (k : Nat) (b : Bool) : spec_l01Bool.f k b = some (if b then 1 else 0) := by cases b <;> rfl
theorem cmpInts_ (k : Nat) (a b : Int) : spec_l01CompareInts.f k a b = some (cmpI a b) := by
  unfold spec_l01CompareInts.f cmpI
  rw [b2i_, b2i_]
  simp only [Option.bind_some]
  by_cases h1 : a < b
  · rw [if_pos h1, if_neg (by simp; omega), if_pos (by simpa using h1)]; rfl
  · rw [if_neg h1]
    by_cases h2 : b < a
    · rw [if_pos h2, if_pos (by simpa using h2), if_neg (by simpa using h1)]; rfl
    · rw [if_neg h2, if_neg (by simpa using h2), if_neg (by simpa using h1)]; rfl
theorem sign_ (k : Nat) (a b : Int) : impl_sign.f k a b = some (cmpI a b) := by
  unfold impl_sign.f cmpI
  by_cases h1 : a < b
  · rw [if_pos h1, decide_eq_true h1]; rfl
  · rw [if_neg h1, decide_eq_false h1]
    by_cases h2 : b < a
    · rw [if_pos h2, decide_eq_true h2]; rfl
    · rw [if_neg h2, decide_eq_false h2]; rfl
theorem cmpTexts_ (k : Nat) (a b : ByteArray) : spec_l01CompareTexts.f k a b = some (cmpB a b) := by
  unfold spec_l01CompareTexts.f cmpB
  rw [b2i_, b2i_]
  simp only [Option.bind_some]
  cases h1 : slt a b with
  | true =>
    have h2 : slt b a = false := by unfold slt at *; exact less_asym _ _ h1
    rw [h2]; rfl
  | false => cases h2 : slt b a <;> rfl
theorem cmpI_eq {a b : Int} : cmpI a b = 0 ↔ a = b := by 
  unfold cmpI
  split
  · omega
  · split <;> omega
theorem cmpI_rng (a b : Int) : cmpI a b = -1 ∨ cmpI a b = 0 ∨ cmpI a b = 1 := by 
  unfold cmpI
  split
  · simp
  · split <;> simp
theorem cmpB_rng (a b : ByteArray) : cmpB a b = -1 ∨ cmpB a b = 0 ∨ cmpB a b = 1 := by 
  unfold cmpB
  split
  · simp
  · split <;> simp
theorem ix_lt {α : Type} {l : List α} {i : Nat} (h : i < l.length) : ix l (i : Int) = some l[i] := by
  unfold ix; rw [if_pos (by omega), Int.toNat_natCast, List.getElem?_eq_getElem h]
section
variable (x : S42)
theorem toI_0 : (toI x).f0 = x.f0 := by rw [toI_eq]
theorem toI_1 : (toI x).f1 = x.f1 := by rw [toI_eq]
theorem toI_2 : (toI x).f2 = x.f2 := by rw [toI_eq]
theorem toI_3 : (toI x).f3 = x.f3 := by rw [toI_eq]
theorem toI_4 : (toI x).f4 = x.f5 := by rw [toI_eq]
theorem toI_5 : (toI x).f5 = x.f4.map toI := by rw [toI_eq]
end
theorem Wf.p {v : S42} (h : Wf v) : (0 ≤ v.f0 ∧ v.f0 ≤ 10) ∧ v.f4.length ≤ 2000000 ∧ (v.f5.length = if v.f0 = 7 then v.f4.length else 0) ∧ (∀ x ∈ v.f4, Wf x) ∧ (v.f0 = 6 ∨ v.f0 = 7 ∨ v.f0 = 10 → v.f1 = 0 ∧ v.f2 = 0) ∧ (¬ (v.f0 = 6 ∨ v.f0 = 7 ∨ v.f0 = 10) → v.f4 = []) ∧ (v.f0 ≠ 5 → v.f2 = 0) := by
  cases h with | mk _ hk hb hr hl hm hi ht hx hy hp => exact ⟨hk, hl, hm, hi, hx, hy, hp⟩
theorem item_size {x y : S42} (h : y ∈ x.f4) : SizeOf.sizeOf y < SizeOf.sizeOf x := by
  have := List.sizeOf_lt_of_mem h
  cases x; simp only [S42.mk.sizeOf_spec] at this ⊢; omega
/-- Both orders tell one number. -/
def OrdAt (x y : S42) : Prop := ∃ c, (c = -1 ∨ c = 0 ∨ c = 1) ∧ (c = 0 → x.f0 = y.f0 ∧ x.f4.length = y.f4.length) ∧ Ev (fun k => spec_l01Order.f k x y) c ∧ Ev (fun k => impl_order.f k (toI x) (toI y)) c
section
variable {x y : S42}
def Both (f g : Nat → Option Int) (P : Int → Prop) : Prop := ∃ c, (c = -1 ∨ c = 0 ∨ c = 1) ∧ P c ∧ Ev f c ∧ Ev g c
theorem Both.step {f g : Nat → Option Int} {P : Int → Prop} (h : Both (fun k => f (k + 1)) (fun k => g (k + 1)) P) : Both f g P := by
  obtain ⟨c, h1, h2, h3, h4⟩ := h; exact ⟨c, h1, h2, h3.step, h4.step⟩
theorem Both.sstep {f g : Nat → Option Int} {P : Int → Prop} (h : Both (fun k => f (k + 1)) g P) : Both f g P := by
  obtain ⟨c, h1, h2, h3, h4⟩ := h; exact ⟨c, h1, h2, h3.step, h4⟩
theorem Both.istep {f g : Nat → Option Int} {P : Int → Prop} (h : Both f (fun k => g (k + 1)) P) : Both f g P := by
  obtain ⟨c, h1, h2, h3, h4⟩ := h; exact ⟨c, h1, h2, h3, h4.step⟩
theorem Both.bind {α β : Type} {f : Nat → Option α} {g : Nat → Option β} {f' : Nat → α → Option Int} {g' : Nat → β → Option Int} {a : α} {b : β} {P : Int → Prop} (h : Ev f a) (h' : Ev g b) (k : Both (fun n => f' n a) (fun n => g' n b) P) : Both (fun n => (f n).bind (f' n)) (fun n => (g n).bind (g' n)) P := by
  obtain ⟨c, h1, h2, h3, h4⟩ := k; exact ⟨c, h1, h2, h.bind h3, h'.bind h4⟩
theorem Both.ret {P : Int → Prop} {c : Int} (h : c = -1 ∨ c = 0 ∨ c = 1) (hP : P c) : Both (fun _ => some c) (fun _ => some c) P := ⟨c, h, hP, Ev.ret _, Ev.ret _⟩
theorem getm {l : List S42} {i : Nat} (h : i < l.length) : ix (l.map toI) (i : Int) = some (toI l[i]) := by
  rw [ix_lt (by simpa using h)]; simp
/-- The items, side by side: lists and paths. -/
theorem ord_l1 (hx : x.f4.length ≤ 2000000) (hy : y.f4.length ≤ 2000000) (h7 : x.f0 ≠ 7) (ih : ∀ a ∈ x.f4, ∀ b ∈ y.f4, OrdAt a b) : ∀ (n i : Nat), x.f4.length - i ≤ n → Both (fun k => spec_l01Order.l0 k (i : Int) x y) (fun k => impl_order.l1 k (i : Int) (toI x) (toI y)) (fun c => c = 0 → x.f4.length = y.f4.length) := by
  have fin : ∀ i : Nat, Both (fun k => spec_l01Order.j0 k x y) (fun k => impl_order.j2 k (toI x) (toI y)) (fun c => c = 0 → x.f4.length = y.f4.length) := fun i => by
    refine Both.step ?_
    simp only [spec_l01Order.j0, impl_order.j2, cmpInts_, sign_, Option.bind_some, toI_5, List.length_map]
    exact Both.ret (cmpI_rng _ _) (fun h => by rw [cmpI_eq] at h; omega)
  intro n
  induction n with
  | zero =>
    intro i hn
    refine Both.step ?_
    simp only [spec_l01Order.l0, impl_order.l1, toI_5, List.length_map, show decide ((i : Int) < (x.f4.length : Int)) = false by simp; omega, cond_false]
    exact fin i
  | succ n ihn =>
    intro i hn
    refine Both.step ?_
    by_cases hi : i < x.f4.length
    · by_cases hj : i < y.f4.length
      · simp only [spec_l01Order.l0, impl_order.l1, toI_5, List.length_map, show decide ((i : Int) < (x.f4.length : Int)) = true by simpa using hi, show decide ((i : Int) < (y.f4.length : Int)) = true by simpa using hj, cond_true, show (x.f0 == 7) = false by simpa using h7, cond_false, getm hi, getm hj, Option.bind_some]
        refine Both.sstep ?_
        simp only [spec_l01Order.j1, ix_lt hi, ix_lt hj, Option.bind_some]
        obtain ⟨c, h1, h2, h3, h4⟩ := ih _ (List.getElem_mem hi) _ (List.getElem_mem hj)
        refine Both.bind h3 h4 ?_
        by_cases hc : c = 0
        · simp only [show (c == 0) = true by simpa using hc, cond_true, w1 (i := i) (by omega)]
          exact ihn (i + 1) (by omega)
        · simp only [show (c == 0) = false by simpa using hc, cond_false]
          exact Both.ret h1 (fun h => absurd h hc)
      · simp only [spec_l01Order.l0, impl_order.l1, toI_5, List.length_map, show decide ((i : Int) < (x.f4.length : Int)) = true by simpa using hi, show decide ((i : Int) < (y.f4.length : Int)) = false by simpa using hj, cond_true, cond_false]
        exact fin i
    · simp only [spec_l01Order.l0, impl_order.l1, toI_5, List.length_map, show decide ((i : Int) < (x.f4.length : Int)) = false by simpa using hi, cond_false]
      exact fin i
theorem ord_l0 (hx : x.f4.length ≤ 2000000) (hy : y.f4.length ≤ 2000000) (h7 : x.f0 = 7) (nx : x.f5.length = x.f4.length) (ny : y.f5.length = y.f4.length) (ih : ∀ a ∈ x.f4, ∀ b ∈ y.f4, OrdAt a b) : ∀ (n i : Nat), x.f4.length - i ≤ n → Both (fun k => spec_l01Order.l0 k (i : Int) x y) (fun k => impl_order.l0 k (i : Int) (toI x) (toI y)) (fun c => c = 0 → x.f4.length = y.f4.length) := by
  have fin : ∀ i : Nat, Both (fun k => spec_l01Order.j0 k x y) (fun k => impl_order.j0 k (toI x) (toI y)) (fun c => c = 0 → x.f4.length = y.f4.length) := fun i => by
    refine Both.step ?_
    simp only [spec_l01Order.j0, impl_order.j0, cmpInts_, sign_, Option.bind_some, toI_5, List.length_map]
    exact Both.ret (cmpI_rng _ _) (fun h => by rw [cmpI_eq] at h; omega)
  intro n
  induction n with
  | zero =>
    intro i hn
    refine Both.step ?_
    simp only [spec_l01Order.l0, impl_order.l0, toI_5, List.length_map, show decide ((i : Int) < (x.f4.length : Int)) = false by simp; omega, cond_false]
    exact fin i
  | succ n ihn =>
    intro i hn
    refine Both.step ?_
    by_cases hi : i < x.f4.length
    · by_cases hj : i < y.f4.length
      · have hni : i < x.f5.length := by omega
        have hnj : i < y.f5.length := by omega
        simp only [spec_l01Order.l0, impl_order.l0, toI_5, toI_4, List.length_map, show decide ((i : Int) < (x.f4.length : Int)) = true by simpa using hi, show decide ((i : Int) < (y.f4.length : Int)) = true by simpa using hj, cond_true, show (x.f0 == 7) = true by simpa using h7, getm hi, getm hj, ix_lt hni, ix_lt hnj, Option.bind_some, compare_]
        by_cases he : x.f5[i] = y.f5[i]
        · simp only [decide_eq_true he, cond_true, show (cmpB x.f5[i] y.f5[i] == 0) = true by simpa using cmpB_eq.2 he]
          refine Both.sstep ?_
          simp only [spec_l01Order.j1, ix_lt hi, ix_lt hj, Option.bind_some]
          obtain ⟨c, h1, h2, h3, h4⟩ := ih _ (List.getElem_mem hi) _ (List.getElem_mem hj)
          refine Both.bind h3 h4 ?_
          by_cases hc : c = 0
          · simp only [show (c == 0) = true by simpa using hc, cond_true, w1 (i := i) (by omega)]
            exact ihn (i + 1) (by omega)
          · simp only [show (c == 0) = false by simpa using hc, cond_false]
            exact Both.ret h1 (fun h => absurd h hc)
        · have hne : cmpB x.f5[i] y.f5[i] ≠ 0 := fun h => he (cmpB_eq.1 h)
          simp only [decide_eq_false he, cond_false, cmpTexts_, Option.bind_some, show (cmpB x.f5[i] y.f5[i] == 0) = false by simpa using hne]
          exact Both.ret (cmpB_rng _ _) (fun h => absurd h hne)
      · simp only [spec_l01Order.l0, impl_order.l0, toI_5, List.length_map, show decide ((i : Int) < (x.f4.length : Int)) = true by simpa using hi, show decide ((i : Int) < (y.f4.length : Int)) = false by simpa using hj, cond_true, cond_false]
        exact fin i
    · simp only [spec_l01Order.l0, impl_order.l0, toI_5, List.length_map, show decide ((i : Int) < (x.f4.length : Int)) = false by simpa using hi, cond_false]
      exact fin i
theorem ord_step (hx : Wf x) (hy : Wf y) (ih : ∀ a ∈ x.f4, ∀ b ∈ y.f4, OrdAt a b) : OrdAt x y := by
  obtain ⟨kx, lx, nx, wx, zx, ex, px⟩ := hx.p
  obtain ⟨ky, ly, ny, wy, zy, ey, py⟩ := hy.p
  show Both (fun k => spec_l01Order.f k x y) (fun k => impl_order.f k (toI x) (toI y)) (fun c => c = 0 → x.f0 = y.f0 ∧ x.f4.length = y.f4.length)
  refine Both.step ?_
  simp only [spec_l01Order.f, impl_order.f, toI_0, toI_1, toI_2, toI_3]
  by_cases hk : x.f0 = y.f0
  case neg =>
    simp only [show (x.f0 == y.f0) = false by simpa using hk, cond_false, cmpInts_, sign_, spec_l01Rank.f]
    by_cases h0 : x.f0 = 0
    · have h0' : y.f0 ≠ 0 := fun h => hk (h0.trans h.symm)
      simp only [show (x.f0 == 0) = true by simpa using h0, show (0 == x.f0) = true by simpa using h0.symm, show (y.f0 == 0) = false by simpa using h0', cond_true, cond_false, Option.bind_some]
      have : cmpI 100 y.f0 = 1 := by unfold cmpI; rw [if_neg (by omega), if_pos (by omega)]
      rw [this]
      exact Both.ret (by simp) (fun h => by simp at h)
    · by_cases h1 : y.f0 = 0
      · simp only [show (x.f0 == 0) = false by simpa using h0, show (0 == x.f0) = false by simpa using fun h => h0 h.symm, show (y.f0 == 0) = true by simpa using h1, show (0 == y.f0) = true by simpa using h1.symm, cond_true, cond_false, Option.bind_some]
        have : cmpI x.f0 100 = -1 := by unfold cmpI; rw [if_pos (by omega)]
        rw [this]
        exact Both.ret (by simp) (fun h => by simp at h)
      · simp only [show (x.f0 == 0) = false by simpa using h0, show (0 == x.f0) = false by simpa using fun h => h0 h.symm, show (y.f0 == 0) = false by simpa using h1, show (0 == y.f0) = false by simpa using fun h => h1 h.symm, cond_true, cond_false, Option.bind_some]
        exact Both.ret (cmpI_rng _ _) (fun h => absurd (cmpI_eq.1 h) hk)
  simp only [show (x.f0 == y.f0) = true by simpa using hk, cond_true]
  have imp : ∀ {f g : Nat → Option Int}, Both f g (fun c => c = 0 → x.f4.length = y.f4.length) → Both f g (fun c => c = 0 → x.f0 = y.f0 ∧ x.f4.length = y.f4.length) := fun {f g} h => by
    obtain ⟨c, h1, h2, h3, h4⟩ := h; exact ⟨c, h1, fun h => ⟨hk, h2 h⟩, h3, h4⟩
  refine imp ?_
  by_cases h3 : x.f0 = 3
  · have e1 := ex (by omega)
    have e2 := ey (by omega)
    simp only [show (x.f0 == 3) = true by simpa using h3, cond_true, cmpTexts_, compare_, Option.bind_some]
    exact Both.ret (cmpB_rng _ _) (fun _ => by rw [e1, e2])
  have h3' : (x.f0 == 3) = false := by simpa using h3
  by_cases h5 : x.f0 = 5
  · have e1 := ex (by omega)
    have e2 := ey (by omega)
    simp only [h3', cond_false, show (x.f0 == 5) = true by simpa using h5, cond_true, sign_, cmpInts_, Option.bind_some]
    by_cases g1 : x.f1 = y.f1
    · simp only [show (x.f1 == y.f1) = true by simpa using g1, cond_true, show (cmpI x.f1 y.f1 == 0) = true by simpa using cmpI_eq.2 g1]
      by_cases g2 : x.f2 = y.f2
      · simp only [show (x.f2 == y.f2) = true by simpa using g2, cond_true, cmpI_eq.2 g2]
        refine Both.sstep ?_
        simp only [spec_l01Order.l0, e1, List.length_nil, show decide (((0 : Int)) < ((0 : Nat) : Int)) = false from rfl, cond_false]
        refine Both.sstep ?_
        simp only [spec_l01Order.j0, e1, e2, cmpInts_, Option.bind_some]
        exact Both.ret (by simp [cmpI]) (fun _ => rfl)
      · simp only [show (x.f2 == y.f2) = false by simpa using g2, cond_false]
        exact Both.ret (cmpI_rng _ _) (fun _ => by rw [e1, e2])
    · have hne : cmpI x.f1 y.f1 ≠ 0 := fun h => g1 (cmpI_eq.1 h)
      simp only [show (x.f1 == y.f1) = false by simpa using g1, cond_false, show (cmpI x.f1 y.f1 == 0) = false by simpa using hne]
      exact Both.ret (cmpI_rng _ _) (fun _ => by rw [e1, e2])
  have h5' : (x.f0 == 5) = false := by simpa using h5
  have q2 : x.f2 = y.f2 := (px h5).trans (py (by omega)).symm
  simp only [h3', h5', cond_false, show (x.f2 == y.f2) = true by simpa using q2, cond_true]
  by_cases h7 : x.f0 = 7
  · have q1 : x.f1 = y.f1 := (zx (by omega)).1.trans (zy (by omega)).1.symm
    simp only [show (x.f0 == 7) = true by simpa using h7, show (x.f1 == y.f1) = true by simpa using q1, cond_true]
    rw [if_pos h7] at nx
    rw [if_pos (by omega)] at ny
    exact ord_l0 lx ly h7 nx ny ih _ 0 (Nat.le_refl _)
  have h7' : (x.f0 == 7) = false := by simpa using h7
  simp only [h7', cond_false]
  by_cases hl : x.f0 = 6 ∨ x.f0 = 10
  · have q1 : x.f1 = y.f1 := (zx (by omega)).1.trans (zy (by omega)).1.symm
    simp only [show (x.f1 == y.f1) = true by simpa using q1, cond_true]
    have main : Both (fun k => spec_l01Order.l0 k 0 x y) (fun k => impl_order.j1 k true (toI x) (toI y)) (fun c => c = 0 → x.f4.length = y.f4.length) := by
      refine Both.istep ?_
      simp only [impl_order.j1, cond_true]
      exact ord_l1 lx ly h7 ih _ 0 (Nat.le_refl _)
    by_cases h6 : x.f0 = 6
    · simp only [show (x.f0 == 6) = true by simpa using h6, cond_true]; exact main
    · simp only [show (x.f0 == 6) = false by simpa using h6, cond_false, show (x.f0 == 10) = true by simp; omega]; exact main
  · have e1 := ex (by omega)
    have e2 := ey (by omega)
    simp only [show (x.f0 == 6) = false by simp; omega, cond_false, show (x.f0 == 10) = false by simp; omega]
    refine Both.istep ?_
    simp only [impl_order.j1, cond_false, sign_, toI_1, Option.bind_some, cmpInts_]
    by_cases g1 : x.f1 = y.f1
    · simp only [show (x.f1 == y.f1) = true by simpa using g1, cond_true, cmpI_eq.2 g1]
      refine Both.sstep ?_
      simp only [spec_l01Order.l0, e1, List.length_nil, show decide (((0 : Int)) < ((0 : Nat) : Int)) = false from rfl, cond_false]
      refine Both.sstep ?_
      simp only [spec_l01Order.j0, e1, e2, cmpInts_, Option.bind_some]
      exact Both.ret (by simp [cmpI]) (fun _ => rfl)
    · simp only [show (x.f1 == y.f1) = false by simpa using g1, cond_false]
      exact Both.ret (cmpI_rng _ _) (fun _ => by rw [e1, e2])
end
theorem order_ : ∀ (n : Nat) (x y : S42), SizeOf.sizeOf x ≤ n → Wf x → Wf y → OrdAt x y := by
  intro n
  induction n using Nat.strongRecOn with
  | _ n ih =>
    intro x y hn hx hy
    exact ord_step hx hy (fun a ha b hb => ih (SizeOf.sizeOf a) (by have := item_size ha; omega) a b (Nat.le_refl _) (hx.p.2.2.2.1 a ha) (hy.p.2.2.2.1 b hb))
theorem order2 {x y : S42} (hx : Wf x) (hy : Wf y) : OrdAt x y := order_ _ x y (Nat.le_refl _) hx hy
end Go.Ab
namespace Go.Ab
open Go.Proofs
set_option linter.unusedVariables false
set_option linter.unusedSimpArgs false
def SameAt (x y : S42) : Prop := ∃ c, (c = 0 ∨ c = 1 ∨ c = 2) ∧ Ev (fun k => spec_l01Same.f k x y) c ∧ Ev (fun k => impl_same.f k (toI x) (toI y)) c
section
variable {x y : S42}
/-- Names are looked at again behind the items. -/
theorem same_l1 (o : Int) (hn : x.f5 = y.f5) (hl : x.f5.length ≤ 2000000) : ∀ (n i : Nat), x.f5.length - i ≤ n → Ev (fun k => spec_l01Same.l1 k o (i : Int) x y) o := by
  intro n
  induction n with
  | zero =>
    intro i h
    refine Ev.step ?_
    simp only [spec_l01Same.l1, show decide ((i : Int) < (x.f5.length : Int)) = false by simp; omega, cond_false]
    exact Ev.ret _
  | succ n ih =>
    intro i h
    refine Ev.step ?_
    by_cases hi : i < x.f5.length
    · have hj : i < y.f5.length := by rw [← hn]; exact hi
      have he : x.f5[i] = y.f5[i] := by congr 1
      simp only [spec_l01Same.l1, show decide ((i : Int) < (x.f5.length : Int)) = true by simpa using hi, cond_true, ix_lt hi, ix_lt hj, Option.bind_some, decide_eq_true he, w1 (i := i) (by omega)]
      exact ih (i + 1) (by omega)
    · simp only [spec_l01Same.l1, show decide ((i : Int) < (x.f5.length : Int)) = false by simpa using hi, cond_false]
      exact Ev.ret _
/-- The items of lists and maps with the same names, in step. -/
theorem same_items (hk : x.f0 = 6 ∨ x.f0 = 7) (hl : x.f4.length = y.f4.length) (hx : x.f4.length ≤ 2000000) (nx : x.f5.length = if x.f0 = 7 then x.f4.length else 0) (hn : x.f5 = y.f5) (ih : ∀ a ∈ x.f4, ∀ b ∈ y.f4, SameAt a b) : ∀ (n i : Nat) (o : Int), x.f4.length - i ≤ n → o = 1 ∨ o = 2 →
    ∃ c, (c = 0 ∨ c = 1 ∨ c = 2) ∧ Ev (fun k => spec_l01Same.l0 k o (i : Int) x y) c ∧ Ev (fun k => impl_same.l1 k o (toI x) (i : Int) (toI y)) c := by
  have hxn : x.f5.length ≤ 2000000 := by rw [nx]; split <;> omega
  have fin : ∀ o : Int, o = 1 ∨ o = 2 → Ev (fun k => spec_l01Same.j5 k o x y) o := fun o ho => by
    refine Ev.step ?_
    simp only [spec_l01Same.j5, show (o == 0) = false by rcases ho with rfl | rfl <;> rfl, cond_false]
    by_cases h7 : x.f0 = 7
    · simp only [show (x.f0 == 7) = true by simpa using h7, cond_true]
      exact same_l1 o hn hxn _ 0 (Nat.le_refl _)
    · simp only [show (x.f0 == 7) = false by simpa using h7, cond_false]
      exact Ev.ret _
  intro n
  induction n with
  | zero =>
    intro i o h ho
    refine ⟨o, by omega, Ev.step ?_, Ev.step ?_⟩
    · simp only [spec_l01Same.l0, show decide ((i : Int) < (x.f4.length : Int)) = false by simp; omega, cond_false]; exact fin o ho
    · simp only [impl_same.l1, toI_5, List.length_map, show decide ((i : Int) < (x.f4.length : Int)) = false by simp; omega, cond_false]; exact Ev.ret _
  | succ n ihn =>
    intro i o h ho
    by_cases hi : i < x.f4.length
    case neg =>
      refine ⟨o, by omega, Ev.step ?_, Ev.step ?_⟩
      · simp only [spec_l01Same.l0, show decide ((i : Int) < (x.f4.length : Int)) = false by simpa using hi, cond_false]; exact fin o ho
      · simp only [impl_same.l1, toI_5, List.length_map, show decide ((i : Int) < (x.f4.length : Int)) = false by simpa using hi, cond_false]; exact Ev.ret _
    have hj : i < y.f4.length := by omega
    obtain ⟨m, hm, h3, h4⟩ := ih _ (List.getElem_mem hi) _ (List.getElem_mem hj)
    -- what stands behind the item, for both
    obtain ⟨o', ho', hs', hi'⟩ : ∃ o' : Int, (o' = 0 ∨ o' = 1 ∨ o' = 2) ∧ (∀ R, (if o' = 0 then R = 0 else Ev (fun k => spec_l01Same.l0 k o' ((i + 1 : Nat) : Int) x y) R) → Ev (fun k => spec_l01Same.j1 k o (i : Int) x y) R) ∧ (∀ R, (if o' = 0 then R = 0 else Ev (fun k => impl_same.l1 k o' (toI x) ((i + 1 : Nat) : Int) (toI y)) R) → Ev (fun k => impl_same.l1 k o (toI x) (i : Int) (toI y)) R) := by
      have il : ∀ R, Ev (fun k => (bif (m == 0) then (some 0) else (bif (m == 2) then (impl_same.l1 k 2 (toI x) ((i + 1 : Nat) : Int) (toI y)) else (impl_same.l1 k o (toI x) ((i + 1 : Nat) : Int) (toI y))))) R → Ev (fun k => impl_same.l1 k o (toI x) (i : Int) (toI y)) R := fun R g => by
        refine Ev.step ?_
        simp only [impl_same.l1, toI_5, List.length_map, show decide ((i : Int) < (x.f4.length : Int)) = true by simpa using hi, cond_true, getm hi, getm hj, Option.bind_some, w1 (i := i) (by omega)]
        exact Ev.bind h4 g
      have j2 : ∀ (o2 : Int) R, o2 ≠ 0 → Ev (fun k => spec_l01Same.l0 k o2 ((i + 1 : Nat) : Int) x y) R → Ev (fun k => spec_l01Same.j4 k o2 (i : Int) x y) R := fun o2 R h0 g => by
        refine Ev.step ?_
        simp only [spec_l01Same.j4, show (o2 == 0) = false by simpa using h0, cond_false, w1 (i := i) (by omega)]
        exact g
      have sj : ∀ R, Ev (fun k => (bif (m == 0) then (spec_l01Same.j2 k (i : Int) m x y) else (bif (m == 2) then (bif (o == 1) then (spec_l01Same.j2 k (i : Int) m x y) else (spec_l01Same.j3 k o (i : Int) x y)) else (spec_l01Same.j3 k o (i : Int) x y)))) R → Ev (fun k => spec_l01Same.j1 k o (i : Int) x y) R := fun R g => by
        refine Ev.step ?_
        simp only [spec_l01Same.j1, ix_lt hi, ix_lt hj, Option.bind_some]
        exact Ev.bind h3 g
      rcases hm with rfl | rfl | rfl
      · refine ⟨0, .inl rfl, fun R h => sj R ?_, fun R h => il R ?_⟩
        · simp only [if_true] at h; subst h
          simp only [show ((0 : Int) == 0) = true from rfl, cond_true]
          refine Ev.step ?_
          simp only [spec_l01Same.j2]
          refine Ev.step ?_
          simp only [spec_l01Same.j4, show ((0 : Int) == 0) = true from rfl, cond_true]
          refine Ev.step ?_
          simp only [spec_l01Same.j5, show ((0 : Int) == 0) = true from rfl, cond_true]
          exact Ev.ret _
        · simp only [if_true] at h; subst h
          simp only [show ((0 : Int) == 0) = true from rfl, cond_true]; exact Ev.ret _
      · have ho0 : o ≠ 0 := by omega
        refine ⟨o, by omega, fun R h => sj R ?_, fun R h => il R ?_⟩
        · rw [if_neg ho0] at h
          simp only [show ((1 : Int) == 0) = false from rfl, show ((1 : Int) == 2) = false from rfl, cond_false]
          refine Ev.step ?_
          simp only [spec_l01Same.j3]
          exact j2 o R ho0 h
        · rw [if_neg ho0] at h
          simp only [show ((1 : Int) == 0) = false from rfl, show ((1 : Int) == 2) = false from rfl, cond_false]; exact h
      · refine ⟨2, .inr (.inr rfl), fun R h => sj R ?_, fun R h => il R ?_⟩
        · rw [if_neg (by decide)] at h
          simp only [show ((2 : Int) == 0) = false from rfl, show ((2 : Int) == 2) = true from rfl, cond_false, cond_true]
          rcases ho with rfl | rfl
          · simp only [show ((1 : Int) == 1) = true from rfl, cond_true]
            refine Ev.step ?_
            simp only [spec_l01Same.j2]
            exact j2 2 R (by decide) h
          · simp only [show ((2 : Int) == 1) = false from rfl, cond_false]
            refine Ev.step ?_
            simp only [spec_l01Same.j3]
            exact j2 2 R (by decide) h
        · rw [if_neg (by decide)] at h
          simp only [show ((2 : Int) == 0) = false from rfl, show ((2 : Int) == 2) = true from rfl, cond_false, cond_true]; exact h
    have step : ∀ R, Ev (fun k => spec_l01Same.j1 k o (i : Int) x y) R → Ev (fun k => spec_l01Same.l0 k o (i : Int) x y) R := fun R g => by
      refine Ev.step ?_
      simp only [spec_l01Same.l0, show decide ((i : Int) < (x.f4.length : Int)) = true by simpa using hi, cond_true]
      by_cases h7 : x.f0 = 7
      · rw [if_pos h7] at nx
        have a1 : i < x.f5.length := by omega
        have a2 : i < y.f5.length := by rw [← hn]; omega
        have he : x.f5[i] = y.f5[i] := by congr 1
        simp only [show (x.f0 == 7) = true by simpa using h7, cond_true, ix_lt a1, ix_lt a2, Option.bind_some, decide_eq_true he]
        exact g
      · simp only [show (x.f0 == 7) = false by simpa using h7, cond_false]
        exact g
    by_cases h0 : o' = 0
    · exact ⟨0, .inl rfl, step _ (hs' 0 (by rw [if_pos h0])), hi' 0 (by rw [if_pos h0])⟩
    · obtain ⟨c, hc, h5, h6⟩ := ihn (i + 1) o' (by omega) (by omega)
      exact ⟨c, hc, step _ (hs' c (by rw [if_neg h0]; exact h5)), hi' c (by rw [if_neg h0]; exact h6)⟩
/-- Other names: the program sees it ahead. -/
theorem inames_no (hl : x.f5.length = y.f5.length) (hx : x.f5.length ≤ 2000000) : ∀ (n i : Nat), x.f5.length - i ≤ n → x.f5.drop i ≠ y.f5.drop i → Ev (fun k => impl_same.l0 k (toI x) (i : Int) (toI y)) 0 := by
  intro n
  induction n with
  | zero =>
    intro i h hd
    exact absurd (by rw [List.drop_of_length_le (by omega), List.drop_of_length_le (by omega)]) hd
  | succ n ih =>
    intro i h hd
    by_cases hi : i < x.f5.length
    · have hj : i < y.f5.length := by omega
      refine Ev.step ?_
      simp only [impl_same.l0, toI_4, show decide ((i : Int) < (x.f5.length : Int)) = true by simpa using hi, cond_true, ix_lt hi, ix_lt hj, Option.bind_some, w1 (i := i) (by omega)]
      by_cases he : x.f5[i] = y.f5[i]
      · simp only [decide_eq_true he, cond_true]
        refine ih (i + 1) (by omega) (fun e => hd ?_)
        rw [List.drop_eq_getElem_cons hi, List.drop_eq_getElem_cons hj, he, e]
      · simp only [decide_eq_false he, cond_false]; exact Ev.ret _
    · exact absurd (by rw [List.drop_of_length_le (by omega), List.drop_of_length_le (by omega)]) hd
theorem inames_ok (hn : x.f5 = y.f5) (hx : x.f5.length ≤ 2000000) {R : Int} (g : Ev (fun k => impl_same.l1 k 1 (toI x) 0 (toI y)) R) : ∀ (n i : Nat), x.f5.length - i ≤ n → Ev (fun k => impl_same.l0 k (toI x) (i : Int) (toI y)) R := by
  intro n
  induction n with
  | zero =>
    intro i h
    refine Ev.step ?_
    simp only [impl_same.l0, toI_4, show decide ((i : Int) < (x.f5.length : Int)) = false by simp; omega, cond_false]; exact g
  | succ n ih =>
    intro i h
    refine Ev.step ?_
    by_cases hi : i < x.f5.length
    · have hj : i < y.f5.length := by rw [← hn]; exact hi
      have he : x.f5[i] = y.f5[i] := by congr 1
      simp only [impl_same.l0, toI_4, show decide ((i : Int) < (x.f5.length : Int)) = true by simpa using hi, cond_true, ix_lt hi, ix_lt hj, Option.bind_some, w1 (i := i) (by omega), decide_eq_true he]
      exact ih (i + 1) (by omega)
    · simp only [impl_same.l0, toI_4, show decide ((i : Int) < (x.f5.length : Int)) = false by simpa using hi, cond_false]; exact g
/-- Other names: the reference comes to it, or to items that are not the same. -/
theorem snames_no (hk : x.f0 = 7) (hl : x.f4.length = y.f4.length) (hx : x.f4.length ≤ 2000000) (nx : x.f5.length = x.f4.length) (ny : y.f5.length = y.f4.length) (ih : ∀ a ∈ x.f4, ∀ b ∈ y.f4, SameAt a b) : ∀ (n i : Nat) (o : Int), x.f4.length - i ≤ n → o = 1 ∨ o = 2 → x.f5.drop i ≠ y.f5.drop i → Ev (fun k => spec_l01Same.l0 k o (i : Int) x y) 0 := by
  intro n
  induction n with
  | zero =>
    intro i o h ho hd
    exact absurd (by rw [List.drop_of_length_le (by omega), List.drop_of_length_le (by omega)]) hd
  | succ n ihn =>
    intro i o h ho hd
    by_cases hi : i < x.f4.length
    case neg => exact absurd (by rw [List.drop_of_length_le (by omega), List.drop_of_length_le (by omega)]) hd
    have hj : i < y.f4.length := by omega
    have a1 : i < x.f5.length := by omega
    have a2 : i < y.f5.length := by omega
    refine Ev.step ?_
    simp only [spec_l01Same.l0, show decide ((i : Int) < (x.f4.length : Int)) = true by simpa using hi, cond_true, show (x.f0 == 7) = true by simpa using hk, ix_lt a1, ix_lt a2, Option.bind_some]
    by_cases he : x.f5[i] = y.f5[i]
    case neg => simp only [decide_eq_false he, cond_false]; exact Ev.ret _
    have hd' : x.f5.drop (i + 1) ≠ y.f5.drop (i + 1) := fun e => hd (by rw [List.drop_eq_getElem_cons a1, List.drop_eq_getElem_cons a2, he, e])
    simp only [decide_eq_true he, cond_true]
    obtain ⟨m, hm, h3, h4⟩ := ih _ (List.getElem_mem hi) _ (List.getElem_mem hj)
    have j4 : ∀ (o2 : Int), o2 = 1 ∨ o2 = 2 → Ev (fun k => spec_l01Same.j4 k o2 (i : Int) x y) 0 := fun o2 h2 => by
      refine Ev.step ?_
      simp only [spec_l01Same.j4, show (o2 == 0) = false by rcases h2 with rfl | rfl <;> rfl, cond_false, w1 (i := i) (by omega)]
      exact ihn (i + 1) o2 (by omega) h2 hd'
    refine Ev.step ?_
    simp only [spec_l01Same.j1, ix_lt hi, ix_lt hj, Option.bind_some]
    refine Ev.bind h3 ?_
    rcases hm with rfl | rfl | rfl
    · simp only [show ((0 : Int) == 0) = true from rfl, cond_true]
      refine Ev.step ?_
      simp only [spec_l01Same.j2]
      refine Ev.step ?_
      simp only [spec_l01Same.j4, show ((0 : Int) == 0) = true from rfl, cond_true]
      refine Ev.step ?_
      simp only [spec_l01Same.j5, show ((0 : Int) == 0) = true from rfl, cond_true]
      exact Ev.ret _
    · simp only [show ((1 : Int) == 0) = false from rfl, show ((1 : Int) == 2) = false from rfl, cond_false]
      refine Ev.step ?_
      simp only [spec_l01Same.j3]
      exact j4 o ho
    · simp only [show ((2 : Int) == 0) = false from rfl, show ((2 : Int) == 2) = true from rfl, cond_false, cond_true]
      rcases ho with rfl | rfl
      · simp only [show ((1 : Int) == 1) = true from rfl, cond_true]
        refine Ev.step ?_
        simp only [spec_l01Same.j2]
        exact j4 2 (.inr rfl)
      · simp only [show ((2 : Int) == 1) = false from rfl, cond_false]
        refine Ev.step ?_
        simp only [spec_l01Same.j3]
        exact j4 2 (.inr rfl)
theorem same_step (hx : Wf x) (hy : Wf y) (ih : ∀ a ∈ x.f4, ∀ b ∈ y.f4, SameAt a b) : SameAt x y := by
  obtain ⟨kx, lx, nx, wx, zx, ex, px⟩ := hx.p
  obtain ⟨ky, ly, ny, wy, zy, ey, py⟩ := hy.p
  obtain ⟨c, hc, hc0, hcs, hci⟩ := order2 hx hy
  have one : ∀ c : Int, c = 0 ∨ c = 1 ∨ c = 2 → Ev (fun k => spec_l01Same.f (k + 1) x y) c → Ev (fun k => impl_same.f (k + 1) (toI x) (toI y)) c → SameAt x y := fun c h h1 h2 => ⟨c, h, h1.step, h2.step⟩
  by_cases h0 : x.f0 = 0
  · refine one 2 (.inr (.inr rfl)) ?_ ?_ <;> simp only [spec_l01Same.f, impl_same.f, toI_0, show (x.f0 == 0) = true by simpa using h0, cond_true] <;> exact Ev.ret _
  have h0' : (x.f0 == 0) = false := by simpa using h0
  by_cases g0 : y.f0 = 0
  · refine one 2 (.inr (.inr rfl)) ?_ ?_ <;> simp only [spec_l01Same.f, impl_same.f, toI_0, h0', show (y.f0 == 0) = true by simpa using g0, cond_true, cond_false] <;> exact Ev.ret _
  have g0' : (y.f0 == 0) = false := by simpa using g0
  by_cases hk : x.f0 = y.f0
  case neg => refine one 0 (.inl rfl) ?_ ?_ <;> simp only [spec_l01Same.f, impl_same.f, toI_0, h0', g0', show (x.f0 == y.f0) = false by simpa using hk, cond_true, cond_false] <;> exact Ev.ret _
  have hk' : (x.f0 == y.f0) = true := by simpa using hk
  by_cases hlm : x.f0 = 6 ∨ x.f0 = 7
  case neg =>
    have h6 : (x.f0 == 6) = false := by simp; omega
    have h7 : (x.f0 == 7) = false := by simp; omega
    by_cases hl : x.f4.length = y.f4.length
    · by_cases hz : c = 0
      · subst hz
        refine one 1 (.inr (.inl rfl)) ?_ ?_
        · simp only [spec_l01Same.f, h0', g0', hk', h6, h7, cond_true, cond_false, show (((x.f4.length : Nat) : Int) == (y.f4.length : Int)) = true by simp; omega]
          exact Ev.bind hcs (by simp only [show ((0 : Int) == 0) = true from rfl, b2i_, if_true, Option.bind_some]; exact Ev.ret _)
        · simp only [impl_same.f, toI_0, h0', g0', hk', h6, h7, cond_true, cond_false]
          exact Ev.bind hci (by simp only [show ((0 : Int) == 0) = true from rfl, cond_true]; exact Ev.ret _)
      · have hz' : (c == 0) = false := by simpa using hz
        refine one 0 (.inl rfl) ?_ ?_
        · simp only [spec_l01Same.f, h0', g0', hk', h6, h7, cond_true, cond_false, show (((x.f4.length : Nat) : Int) == (y.f4.length : Int)) = true by simp; omega]
          exact Ev.bind hcs (by simp only [hz', b2i_, Bool.false_eq_true, if_false, Option.bind_some]; exact Ev.ret _)
        · simp only [impl_same.f, toI_0, h0', g0', hk', h6, h7, cond_true, cond_false]
          exact Ev.bind hci (by simp only [hz', cond_false]; exact Ev.ret _)
    · have hz : c ≠ 0 := fun h => hl (hc0 h).2
      have hz' : (c == 0) = false := by simpa using hz
      refine one 0 (.inl rfl) ?_ ?_
      · simp only [spec_l01Same.f, h0', g0', hk', h6, h7, cond_true, cond_false, show (((x.f4.length : Nat) : Int) == (y.f4.length : Int)) = false by simp; omega]
        exact Ev.ret _
      · simp only [impl_same.f, toI_0, h0', g0', hk', h6, h7, cond_true, cond_false]
        exact Ev.bind hci (by simp only [hz', cond_false]; exact Ev.ret _)
  -- lists and maps
  have sp : ∀ {R : Int}, Ev (fun k => (bif (((x.f4.length : Nat) : Int) == (y.f4.length : Int)) then spec_l01Same.l0 k 1 0 x y else some 0)) R → Ev (fun k => spec_l01Same.f (k + 1) x y) R := fun {R} g => by
    simp only [spec_l01Same.f, h0', g0', hk', cond_true, cond_false]
    by_cases hl : x.f4.length = y.f4.length
    · simp only [show (((x.f4.length : Nat) : Int) == (y.f4.length : Int)) = true by simp; omega, cond_true] at g ⊢
      have j0 : Ev (fun k => spec_l01Same.j0 k x y) R := by
        refine Ev.step ?_
        simp only [spec_l01Same.j0]
        exact g
      by_cases h6 : x.f0 = 6
      · simp only [show (x.f0 == 6) = true by simpa using h6, cond_true]; exact j0
      · simp only [show (x.f0 == 6) = false by simpa using h6, cond_false, show (x.f0 == 7) = true by simp; omega, cond_true]; exact j0
    · simp only [show (((x.f4.length : Nat) : Int) == (y.f4.length : Int)) = false by simp; omega, cond_false] at g ⊢
      exact g
  have im : ∀ {R : Int}, Ev (fun k => (bif (((x.f4.length : Nat) : Int) == (y.f4.length : Int)) then impl_same.l0 k (toI x) 0 (toI y) else some 0)) R → Ev (fun k => impl_same.f (k + 1) (toI x) (toI y)) R := fun {R} g => by
    simp only [impl_same.f, toI_0, h0', g0', hk', cond_true, cond_false]
    have j0 : Ev (fun k => impl_same.j0 k (toI x) (toI y)) R := by
      refine Ev.step ?_
      simp only [impl_same.j0, toI_5, List.length_map]
      exact g
    by_cases h6 : x.f0 = 6
    · simp only [show (x.f0 == 6) = true by simpa using h6, cond_true]; exact j0
    · simp only [show (x.f0 == 6) = false by simpa using h6, cond_false, show (x.f0 == 7) = true by simp; omega, cond_true]; exact j0
  by_cases hl : x.f4.length = y.f4.length
  case neg =>
    have e : (((x.f4.length : Nat) : Int) == (y.f4.length : Int)) = false := by simp; omega
    exact one 0 (.inl rfl) (sp (by simp only [e, cond_false]; exact Ev.ret _)) (im (by simp only [e, cond_false]; exact Ev.ret _))
  have e : (((x.f4.length : Nat) : Int) == (y.f4.length : Int)) = true := by simp; omega
  have hnl : x.f5.length = y.f5.length := by rw [nx, ny, hk, hl]
  have hxn : x.f5.length ≤ 2000000 := by rw [nx]; split <;> omega
  by_cases hn : x.f5 = y.f5
  · obtain ⟨R, hR, h3, h4⟩ := same_items hlm hl lx nx hn ih _ 0 1 (Nat.le_refl _) (.inl rfl)
    exact one R hR (sp (by simp only [e, cond_true]; exact h3)) (im (by simp only [e, cond_true]; exact inames_ok hn hxn h4 _ 0 (Nat.le_refl _)))
  · have h7 : x.f0 = 7 := by
      rcases hlm with h6 | h7
      · rw [if_neg (by omega)] at nx
        rw [if_neg (by omega)] at ny
        exact absurd ((List.eq_nil_of_length_eq_zero nx).trans (List.eq_nil_of_length_eq_zero ny).symm) hn
      · exact h7
    rw [if_pos h7] at nx
    rw [if_pos (by omega)] at ny
    exact one 0 (.inl rfl) (sp (by simp only [e, cond_true]; exact snames_no h7 hl lx nx ny ih _ 0 1 (Nat.le_refl _) (.inl rfl) (by simpa using hn))) (im (by simp only [e, cond_true]; exact inames_no hnl hxn _ 0 (Nat.le_refl _) (by simpa using hn)))
end
theorem same_ : ∀ (n : Nat) (x y : S42), SizeOf.sizeOf x ≤ n → Wf x → Wf y → SameAt x y := by
  intro n
  induction n using Nat.strongRecOn with
  | _ n ih =>
    intro x y hn hx hy
    exact same_step hx hy (fun a ha b hb => ih (SizeOf.sizeOf a) (by have := item_size ha; omega) a b (Nat.le_refl _) (hx.p.2.2.2.1 a ha) (hy.p.2.2.2.1 b hb))
theorem same2 {x y : S42} (hx : Wf x) (hy : Wf y) : SameAt x y := same_ _ x y (Nat.le_refl _) hx hy
theorem less2 {x y : S42} (hx : Wf x) (hy : Wf y) : ∃ c, Ev (fun k => spec_l01Less.f k x y) c ∧ Ev (fun k => impl_less.f k (toI x) (toI y)) c := by
  obtain ⟨c, hc, hc0, hcs, hci⟩ := order2 hx hy
  unfold spec_l01Less.f impl_less.f
  simp only [toI_0]
  by_cases hk : x.f0 = y.f0
  case neg =>
    refine ⟨2, ?_, ?_⟩ <;> simp only [show (x.f0 == y.f0) = false by simpa using hk, cond_false, bif_same] <;> exact Ev.ret _
  have hk' : (x.f0 == y.f0) = true := by simpa using hk
  by_cases h0 : x.f0 = 0
  · refine ⟨2, ?_, ?_⟩ <;> simp only [hk', show (x.f0 == 0) = true by simpa using h0, cond_true] <;> exact Ev.ret _
  have h0' : (x.f0 == 0) = false := by simpa using h0
  have g0' : (y.f0 == 0) = false := by simp; omega
  by_cases h5 : 4 < x.f0
  · refine ⟨2, ?_, ?_⟩ <;> simp only [hk', h0', g0', decide_eq_true h5, decide_eq_true (show (5 : Int) ≤ x.f0 by omega), cond_true, cond_false] <;> exact Ev.ret _
  · refine ⟨if c < 0 then 1 else 0, ?_, ?_⟩
    · simp only [hk', h0', decide_eq_false h5, cond_true, cond_false]
      refine Ev.bind hcs ?_
      simp only [b2i_, Option.bind_some, decide_eq_true_eq]
      exact Ev.ret _
    · simp only [hk', h0', g0', decide_eq_false (show ¬ (5 : Int) ≤ x.f0 by omega), cond_true, cond_false]
      refine Ev.bind hci ?_
      by_cases hz : c < 0
      · simp only [decide_eq_true hz, cond_true, if_pos hz]; exact Ev.ret _
      · simp only [decide_eq_false hz, cond_false, if_neg hz]; exact Ev.ret _
/-! The laws -/
/-- What both make of two texts. -/
theorem two_ (a b : ByteArray) (d : Int) {fs : Nat → S42 → S42 → Option Int} {fi : Nat → S46 → S46 → Option Int} (h : ∀ x y, Wf x → Wf y → ∃ c, Ev (fun k => fs k x y) c ∧ Ev (fun k => fi k (toI x) (toI y)) c) :
    ∃ c, Ev (fun k => ((spec_l01Read.f k a).bind fun v2 => ((spec_l01Read.f k b).bind fun v3 => (bif decide (v2.f0 < 0) then (some d) else (bif decide (v3.f0 < 0) then (some d) else ((fs k v2 v3).bind fun v4 => (some v4))))))) c ∧
      Ev (fun k => ((impl_two.f k a b).bind fun v2 => (bif v2.2.2 then ((fi k v2.1 v2.2.1).bind fun v3 => (some v3)) else (some d)))) c := by
  have neg : ∀ x : S42, Wf x → decide (x.f0 < 0) = false := fun x hx => by have := hx.p.1; simp; omega
  unfold impl_two.f
  rcases read_ a with ⟨x, hx, h1, h2⟩ | ⟨iv, h1, h2⟩
  · rcases read_ b with ⟨y, hy, h3, h4⟩ | ⟨iv2, h3, h4⟩
    · obtain ⟨c, hs, hi⟩ := h x y hx hy
      refine ⟨c, Ev.bind h1 (Ev.bind h3 ?_), Ev.bind (a := (toI x, toI y, true)) (Ev.bind h2 (Ev.bind h4 ?_)) ?_⟩
      · simp only [neg x hx, neg y hy, cond_false]; exact Ev.bind hs (Ev.ret _)
      · simp only [cond_true]; exact Ev.ret _
      · simp only [cond_true]; exact Ev.bind hi (Ev.ret _)
    · refine ⟨d, Ev.bind h1 (Ev.bind h3 ?_), Ev.bind (a := (toI x, iv2, false)) (Ev.bind h2 (Ev.bind h4 ?_)) ?_⟩
      · simp only [neg x hx, show decide ((-1 : Int) < 0) = true from rfl, cond_false, cond_true]; exact Ev.ret _
      · simp only [cond_true]; exact Ev.ret _
      · simp only [cond_false]; exact Ev.ret _
  · rcases read_ b with ⟨y, hy, h3, h4⟩ | ⟨iv2, h3, h4⟩
    · refine ⟨d, Ev.bind h1 (Ev.bind h3 ?_), Ev.bind (a := (iv, toI y, false)) (Ev.bind h2 (Ev.bind h4 ?_)) ?_⟩
      · simp only [show decide ((-1 : Int) < 0) = true from rfl, cond_true]; exact Ev.ret _
      · simp only [cond_false]; exact Ev.ret _
      · simp only [cond_false]; exact Ev.ret _
    · refine ⟨d, Ev.bind h1 (Ev.bind h3 ?_), Ev.bind (a := (iv, iv2, false)) (Ev.bind h2 (Ev.bind h4 ?_)) ?_⟩
      · simp only [show decide ((-1 : Int) < 0) = true from rfl, cond_true]; exact Ev.ret _
      · simp only [cond_false]; exact Ev.ret _
      · simp only [cond_false]; exact Ev.ret _
end Go.Ab
