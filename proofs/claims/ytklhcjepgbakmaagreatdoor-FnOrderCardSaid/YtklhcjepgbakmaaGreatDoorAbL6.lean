/- The order of values, being the same, being less: both tell the same of values that were read. No condition. -/
import Derived.Test.YtklhcjepgbakmaaGreatDoorAbL4
import Derived.Lib.Bytealg
import Derived.Test.YtklhcjepgbakmaaGreatDoorAbDW
namespace Go.Ab
open Go.Proofs
set_option linter.unusedVariables false
set_option linter.unusedSimpArgs false
/-! Comparing -/
def cmpI (a b : Int) : Int := if a < b then -1 else if b < a then 1 else 0
def cmpB (a b : ByteArray) : Int := if slt a b then -1 else if slt b a then 1 else 0
theorem less_asym : ∀ (a b : List UInt8), Op.bytesLess a b = true → Op.bytesLess b a = false
 | [], [], h => by simp [Op.bytesLess] at h
 | [], _ :: _, _ => by simp [Op.bytesLess]
 | _ :: _, [], h => by simp [Op.bytesLess] at h
 | x :: a, y :: b, h => by
   simp only [Op.bytesLess, Bool.or_eq_true, Bool.and_eq_true, decide_eq_true_eq, beq_iff_eq] at h ⊢
   rw [Bool.eq_false_iff]
   intro h'
   simp only [Bool.or_eq_true, Bool.and_eq_true, decide_eq_true_eq, beq_iff_eq] at h'
   rcases h with h | ⟨rfl, h⟩
   · rcases h' with h' | ⟨rfl, _⟩
     · exact absurd h (by simp only [UInt8.lt_iff_toNat_lt] at h h' ⊢; omega)
     · exact absurd h (by simp only [UInt8.lt_iff_toNat_lt]; omega)
   · rcases h' with h' | ⟨_, h'⟩
     · exact absurd h' (by simp only [UInt8.lt_iff_toNat_lt]; omega)
     · have := less_asym a b h; rw [this] at h'; cases h'
theorem cmp_list : ∀ (a b : List UInt8), Lib.compareBytes a b = (if Op.bytesLess a b then -1 else if Op.bytesLess b a then 1 else 0) ∧ (Lib.compareBytes a b = 0 ↔ a = b)
 | [], [] => by simp [Lib.compareBytes, Op.bytesLess]
 | [], _ :: _ => by simp [Lib.compareBytes, Op.bytesLess]
 | _ :: _, [] => by simp [Lib.compareBytes, Op.bytesLess]
 | x :: a, y :: b => by
   obtain ⟨i1, i2⟩ := cmp_list a b
   unfold Lib.compareBytes
   by_cases h1 : x < y
   · have h2 : ¬ y < x := by simp only [UInt8.lt_iff_toNat_lt] at h1 ⊢; omega
     have h3 : x ≠ y := by rintro rfl; simp only [UInt8.lt_iff_toNat_lt] at h1; omega
     rw [if_pos h1]
     simp [Op.bytesLess, h1, h3]
   · rw [if_neg h1]
     by_cases h2 : y < x
     · have h3 : x ≠ y := by rintro rfl; exact h1 h2
       rw [if_pos h2]
       simp [Op.bytesLess, h1, h2, h3]
     · rw [if_neg h2]
       have h3 : x = y := UInt8.toNat_inj.1 (by simp only [UInt8.lt_iff_toNat_lt] at h1 h2; omega)
       subst h3
       simp only [Op.bytesLess, h1, decide_false, beq_self_eq_true, Bool.true_and, Bool.false_or, List.cons.injEq, true_and]
       exact ⟨i1, i2⟩
theorem compare_ (k : Nat) (a b : ByteArray) : strings_Compare.f k a b = some (cmpB a b) := by
  unfold strings_Compare.f cmpB slt
  rw [ByteArray.toList_eq, ByteArray.toList_eq, (cmp_list _ _).1]
theorem cmpB_eq {a b : ByteArray} : cmpB a b = 0 ↔ a = b := by
  have h : cmpB a b = Lib.compareBytes a.data.toList b.data.toList := by
    unfold cmpB slt
    rw [ByteArray.toList_eq, ByteArray.toList_eq, (cmp_list _ _).1]
  rw [h, (cmp_list _ _).2]
  constructor
  · intro e; exact ByteArray.ext (Array.toList_inj.1 e)
  · rintro rfl; rfl
theorem b2i_ (k : Nat) (b : Bool) : spec_l01Bool.f k b = some (if b then 1 else 0) := by cases b <;> rfl
theorem cmpInts_ (k : Nat) (a b : Int) : spec_l01CompareInts.f k a b = some (cmpI a b) := by
  unfold spec_l01CompareInts.f cmpI
  rw [b2i_, b2i_]
  simp only [Option.bind_some]
  by_cases h1 : a < b
  · rw [if_pos h1, if_neg (by simp; omega), if_pos (by simpa using h1)]; rfl
  · rw [if_neg h1]
    by_cases h2 : b < a
    · rw [if_pos h2, if_pos (by simpa using h2), if_neg (by simpa using h1)]; rfl
    · rw [if_neg h2, if_neg (by simpa using h2), if_neg (by simpa using h1)]; rfl
theorem sign_ (k : Nat) (a b : Int) : impl_sign.f k a b = some (cmpI a b) := by
  unfold impl_sign.f cmpI
  by_cases h1 : a < b
  · rw [if_pos h1, decide_eq_true h1]; rfl
  · rw [if_neg h1, decide_eq_false h1]
    by_cases h2 : b < a
    · rw [if_pos h2, decide_eq_true h2]; rfl
    · rw [if_neg h2, decide_eq_false h2]; rfl
theorem cmpTexts_ (k : Nat) (a b : ByteArray) : spec_l01CompareTexts.f k a b = some (cmpB a b) := by
  unfold spec_l01CompareTexts.f cmpB
  rw [b2i_, b2i_]
  simp only [Option.bind_some]
  cases h1 : slt a b with
  | true =>
    have h2 : slt b a = false := by unfold slt at *; exact less_asym _ _ h1
    rw [h2]; rfl
  | false => cases h2 : slt b a <;> rfl
theorem cmpI_eq {a b : Int} : cmpI a b = 0 ↔ a = b := by 
  unfold cmpI
  split
  · omega
  · split <;> omega
theorem cmpI_rng (a b : Int) : cmpI a b = -1 ∨ cmpI a b = 0 ∨ cmpI a b = 1 := by 
  unfold cmpI
  split
  · simp
  · split <;> simp
theorem cmpB_rng (a b : ByteArray) : cmpB a b = -1 ∨ cmpB a b = 0 ∨ cmpB a b = 1 := by 
  unfold cmpB
  split
  · simp
  · split <;> simp
theorem ix_lt {α : Type} {l : List α} {i : Nat} (h : i < l.length) : ix l (i : Int) = some l[i] := by
  unfold ix; rw [if_pos (by omega), Int.toNat_natCast, List.getElem?_eq_getElem h]
section
variable (x : S42)
theorem toI_0 : (toI x).f0 = x.f0 := by rw [toI_eq]
theorem toI_1 : (toI x).f1 = x.f1 := by rw [toI_eq]
theorem toI_2 : (toI x).f2 = x.f2 := by rw [toI_eq]
theorem toI_3 : (toI x).f3 = x.f3 := by rw [toI_eq]
theorem toI_4 : (toI x).f4 = x.f5 := by rw [toI_eq]
theorem toI_5 : (toI x).f5 = x.f4.map toI := by rw [toI_eq]
end
theorem Wf.p {v : S42} (h : Wf v) : (0 ≤ v.f0 ∧ v.f0 ≤ 10) ∧ v.f4.length ≤ 2000000 ∧ (v.f5.length = if v.f0 = 7 then v.f4.length else 0) ∧ (∀ x ∈ v.f4, Wf x) ∧ (v.f0 = 6 ∨ v.f0 = 7 ∨ v.f0 = 10 → v.f1 = 0 ∧ v.f2 = 0) ∧ (¬ (v.f0 = 6 ∨ v.f0 = 7 ∨ v.f0 = 10) → v.f4 = []) ∧ (v.f0 ≠ 5 → v.f2 = 0) := by
  cases h with | mk _ hk hb hr hl hm hi ht hx hy hp => exact ⟨hk, hl, hm, hi, hx, hy, hp⟩
theorem item_size {x y : S42} (h : y ∈ x.f4) : SizeOf.sizeOf y < SizeOf.sizeOf x := by
  have := List.sizeOf_lt_of_mem h
  cases x; simp only [S42.mk.sizeOf_spec] at this ⊢; omega
/-- Both orders tell one number. -/
def OrdAt (x y : S42) : Prop := ∃ c, (c = -1 ∨ c = 0 ∨ c = 1) ∧ (c = 0 → x.f0 = y.f0 ∧ x.f4.length = y.f4.length) ∧ Ev (fun k => spec_l01Order.f k x y) c ∧ Ev (fun k => impl_order.f k (toI x) (toI y)) c
section
variable {x y : S42}
def Both (f g : Nat → Option Int) (P : Int → Prop) : Prop := ∃ c, (c = -1 ∨ c = 0 ∨ c = 1) ∧ P c ∧ Ev f c ∧ Ev g c
theorem Both.step {f g : Nat → Option Int} {P : Int → Prop} (h : Both (fun k => f (k + 1)) (fun k => g (k + 1)) P) : Both f g P := by
  obtain ⟨c, h1, h2, h3, h4⟩ := h; exact ⟨c, h1, h2, h3.step, h4.step⟩
theorem Both.sstep {f g : Nat → Option Int} {P : Int → Prop} (h : Both (fun k => f (k + 1)) g P) : Both f g P := by
  obtain ⟨c, h1, h2, h3, h4⟩ := h; exact ⟨c, h1, h2, h3.step, h4⟩
theorem Both.istep {f g : Nat → Option Int} {P : Int → Prop} (h : Both f (fun k => g (k + 1)) P) : Both f g P := by
  obtain ⟨c, h1, h2, h3, h4⟩ := h; exact ⟨c, h1, h2, h3, h4.step⟩
theorem Both.bind {α β : Type} {f : Nat → Option α} {g : Nat → Option β} {f' : Nat → α → Option Int} {g' : Nat → β → Option Int} {a : α} {b : β} {P : Int → Prop} (h : Ev f a) (h' : Ev g b) (k : Both (fun n => f' n a) (fun n => g' n b) P) : Both (fun n => (f n).bind (f' n)) (fun n => (g n).bind (g' n)) P := by
  obtain ⟨c, h1, h2, h3, h4⟩ := k; exact ⟨c, h1, h2, h.bind h3, h'.bind h4⟩
theorem Both.ret {P : Int → Prop} {c : Int} (h : c = -1 ∨ c = 0 ∨ c = 1) (hP : P c) : Both (fun _ => some c) (fun _ => some c) P := ⟨c, h, hP, Ev.ret _, Ev.ret _⟩
theorem getm {l : List S42} {i : Nat} (h : i < l.length) : ix (l.map toI) (i : Int) = some (toI l[i]) := by
  rw [ix_lt (by simpa using h)]; simp
/-- The items, side by side: lists and paths. -/
theorem ord_l1 (hx : x.f4.length ≤ 2000000) (hy : y.f4.length ≤ 2000000) (h7 : x.f0 ≠ 7) (ih : ∀ a ∈ x.f4, ∀ b ∈ y.f4, OrdAt a b) : ∀ (n i : Nat), x.f4.length - i ≤ n → Both (fun k => spec_l01Order.l0 k (i : Int) x y) (fun k => impl_order.l1 k (i : Int) (toI x) (toI y)) (fun c => c = 0 → x.f4.length = y.f4.length) := by
  have fin : ∀ i : Nat, Both (fun k => spec_l01Order.j0 k x y) (fun k => impl_order.j2 k (toI x) (toI y)) (fun c => c = 0 → x.f4.length = y.f4.length) := fun i => by
    refine Both.step ?_
    simp only [spec_l01Order.j0, impl_order.j2, cmpInts_, sign_, Option.bind_some, toI_5, List.length_map]
    exact Both.ret (cmpI_rng _ _) (fun h => by rw [cmpI_eq] at h; omega)
  intro n
  induction n with
  | zero =>
    intro i hn
    refine Both.step ?_
    simp only [spec_l01Order.l0, impl_order.l1, toI_5, List.length_map, show decide ((i : Int) < (x.f4.length : Int)) = false by simp; omega, cond_false]
    exact fin i
  | succ n ihn =>
    intro i hn
    refine Both.step ?_
    by_cases hi : i < x.f4.length
    · by_cases hj : i < y.f4.length
      · simp only [spec_l01Order.l0, impl_order.l1, toI_5, List.length_map, show decide ((i : Int) < (x.f4.length : Int)) = true by simpa using hi, show decide ((i : Int) < (y.f4.length : Int)) = true by simpa using hj, cond_true, show (x.f0 == 7) = false by simpa using h7, cond_false, getm hi, getm hj, Option.bind_some]
        refine Both.sstep ?_
        simp only [spec_l01Order.j1, ix_lt hi, ix_lt hj, Option.bind_some]
        obtain ⟨c, h1, h2, h3, h4⟩ := ih _ (List.getElem_mem hi) _ (List.getElem_mem hj)
        refine Both.bind h3 h4 ?_
        by_cases hc : c = 0
        · simp only [show (c == 0) = true by simpa using hc, cond_true, w1 (i := i) (by omega)]
          exact ihn (i + 1) (by omega)
        · simp only [show (c == 0) = false by simpa using hc, cond_false]
          exact Both.ret h1 (fun h => absurd h hc)
      · simp only [spec_l01Order.l0, impl_order.l1, toI_5, List.length_map, show decide ((i : Int) < (x.f4.length : Int)) = true by simpa using hi, show decide ((i : Int) < (y.f4.length : Int)) = false by simpa using hj, cond_true, cond_false]
        exact fin i
    · simp only [spec_l01Order.l0, impl_order.l1, toI_5, List.length_map, show decide ((i : Int) < (x.f4.length : Int)) = false by simpa using hi, cond_false]
      exact fin i
theorem ord_l0 (hx : x.f4.length ≤ 2000000) (hy : y.f4.length ≤ 2000000) (h7 : x.f0 = 7) (nx : x.f5.length = x.f4.length) (ny : y.f5.length = y.f4.length) (ih : ∀ a ∈ x.f4, ∀ b ∈ y.f4, OrdAt a b) : ∀ (n i : Nat), x.f4.length - i ≤ n → Both (fun k => spec_l01Order.l0 k (i : Int) x y) (fun k => impl_order.l0 k (i : Int) (toI x) (toI y)) (fun c => c = 0 → x.f4.length = y.f4.length) := by
  have fin : ∀ i : Nat, Both (fun k => spec_l01Order.j0 k x y) (fun k => impl_order.j0 k (toI x) (toI y)) (fun c => c = 0 → x.f4.length = y.f4.length) := fun i => by
    refine Both.step ?_
    simp only [spec_l01Order.j0, impl_order.j0, cmpInts_, sign_, Option.bind_some, toI_5, List.length_map]
    exact Both.ret (cmpI_rng _ _) (fun h => by rw [cmpI_eq] at h; omega)
  intro n
  induction n with
  | zero =>
    intro i hn
    refine Both.step ?_
    simp only [spec_l01Order.l0, impl_order.l0, toI_5, List.length_map, show decide ((i : Int) < (x.f4.length : Int)) = false by simp; omega, cond_false]
    exact fin i
  | succ n ihn =>
    intro i hn
    refine Both.step ?_
    by_cases hi : i < x.f4.length
    · by_cases hj : i < y.f4.length
      · have hni : i < x.f5.length := by omega
        have hnj : i < y.f5.length := by omega
        simp only [spec_l01Order.l0, impl_order.l0, toI_5, toI_4, List.length_map, show decide ((i : Int) < (x.f4.length : Int)) = true by simpa using hi, show decide ((i : Int) < (y.f4.length : Int)) = true by simpa using hj, cond_true, show (x.f0 == 7) = true by simpa using h7, getm hi, getm hj, ix_lt hni, ix_lt hnj, Option.bind_some, compare_]
        by_cases he : x.f5[i] = y.f5[i]
        · simp only [decide_eq_true he, cond_true, show (cmpB x.f5[i] y.f5[i] == 0) = true by simpa using cmpB_eq.2 he]
          refine Both.sstep ?_
          simp only [spec_l01Order.j1, ix_lt hi, ix_lt hj, Option.bind_some]
          obtain ⟨c, h1, h2, h3, h4⟩ := ih _ (List.getElem_mem hi) _ (List.getElem_mem hj)
          refine Both.bind h3 h4 ?_
          by_cases hc : c = 0
          · simp only [show (c == 0) = true by simpa using hc, cond_true, w1 (i := i) (by omega)]
            exact ihn (i + 1) (by omega)
          · simp only [show (c == 0) = false by simpa using hc, cond_false]
            exact Both.ret h1 (fun h => absurd h hc)
        · have hne : cmpB x.f5[i] y.f5[i] ≠ 0 := fun h => he (cmpB_eq.1 h)
          simp only [decide_eq_false he, cond_false, cmpTexts_, Option.bind_some, show (cmpB x.f5[i] y.f5[i] == 0) = false by simpa using hne]
          exact Both.ret (cmpB_rng _ _) (fun h => absurd h hne)
      · simp only [spec_l01Order.l0, impl_order.l0, toI_5, List.length_map, show decide ((i : Int) < (x.f4.length : Int)) = true by simpa using hi, show decide ((i : Int) < (y.f4.length : Int)) = false by simpa using hj, cond_true, cond_false]
        exact fin i
    · simp only [spec_l01Order.l0, impl_order.l0, toI_5, List.length_map, show decide ((i : Int) < (x.f4.length : Int)) = false by simpa using hi, cond_false]
      exact fin i
theorem ord_step (hx : Wf x) (hy : Wf y) (ih : ∀ a ∈ x.f4, ∀ b ∈ y.f4, OrdAt a b) : OrdAt x y := by
  obtain ⟨kx, lx, nx, wx, zx, ex, px⟩ := hx.p
  obtain ⟨ky, ly, ny, wy, zy, ey, py⟩ := hy.p
  show Both (fun k => spec_l01Order.f k x y) (fun k => impl_order.f k (toI x) (toI y)) (fun c => c = 0 → x.f0 = y.f0 ∧ x.f4.length = y.f4.length)
  refine Both.step ?_
  simp only [spec_l01Order.f, impl_order.f, toI_0, toI_1, toI_2, toI_3]
  by_cases hk : x.f0 = y.f0
  case neg =>
    simp only [show (x.f0 == y.f0) = false by simpa using hk, cond_false, cmpInts_, sign_, spec_l01Rank.f]
    by_cases h0 : x.f0 = 0
    · have h0' : y.f0 ≠ 0 := fun h => hk (h0.trans h.symm)
      simp only [show (x.f0 == 0) = true by simpa using h0, show (0 == x.f0) = true by simpa using h0.symm, show (y.f0 == 0) = false by simpa using h0', cond_true, cond_false, Option.bind_some]
      have : cmpI 100 y.f0 = 1 := by unfold cmpI; rw [if_neg (by omega), if_pos (by omega)]
      rw [this]
      exact Both.ret (by simp) (fun h => by simp at h)
    · by_cases h1 : y.f0 = 0
      · simp only [show (x.f0 == 0) = false by simpa using h0, show (0 == x.f0) = false by simpa using fun h => h0 h.symm, show (y.f0 == 0) = true by simpa using h1, show (0 == y.f0) = true by simpa using h1.symm, cond_true, cond_false, Option.bind_some]
        have : cmpI x.f0 100 = -1 := by unfold cmpI; rw [if_pos (by omega)]
        rw [this]
        exact Both.ret (by simp) (fun h => by simp at h)
      · simp only [show (x.f0 == 0) = false by simpa using h0, show (0 == x.f0) = false by simpa using fun h => h0 h.symm, show (y.f0 == 0) = false by simpa using h1, show (0 == y.f0) = false by simpa using fun h => h1 h.symm, cond_true, cond_false, Option.bind_some]
        exact Both.ret (cmpI_rng _ _) (fun h => absurd (cmpI_eq.1 h) hk)
  simp only [show (x.f0 == y.f0) = true by simpa using hk, cond_true]
  have imp : ∀ {f g : Nat → Option Int}, Both f g (fun c => c = 0 → x.f4.length = y.f4.length) → Both f g (fun c => c = 0 → x.f0 = y.f0 ∧ x.f4.length = y.f4.length) := fun {f g} h => by
    obtain ⟨c, h1, h2, h3, h4⟩ := h; exact ⟨c, h1, fun h => ⟨hk, h2 h⟩, h3, h4⟩
  refine imp ?_
  by_cases h3 : x.f0 = 3
  · have e1 := ex (by omega)
    have e2 := ey (by omega)
    simp only [show (x.f0 == 3) = true by simpa using h3, cond_true, cmpTexts_, compare_, Option.bind_some]
    exact Both.ret (cmpB_rng _ _) (fun _ => by rw [e1, e2])
  have h3' : (x.f0 == 3) = false := by simpa using h3
  by_cases h5 : x.f0 = 5
  · have e1 := ex (by omega)
    have e2 := ey (by omega)
    simp only [h3', cond_false, show (x.f0 == 5) = true by simpa using h5, cond_true, sign_, cmpInts_, Option.bind_some]
    by_cases g1 : x.f1 = y.f1
    · simp only [show (x.f1 == y.f1) = true by simpa using g1, cond_true, show (cmpI x.f1 y.f1 == 0) = true by simpa using cmpI_eq.2 g1]
      by_cases g2 : x.f2 = y.f2
      · simp only [show (x.f2 == y.f2) = true by simpa using g2, cond_true, cmpI_eq.2 g2]
        refine Both.sstep ?_
        simp only [spec_l01Order.l0, e1, List.length_nil, show decide (((0 : Int)) < ((0 : Nat) : Int)) = false from rfl, cond_false]
        refine Both.sstep ?_
        simp only [spec_l01Order.j0, e1, e2, cmpInts_, Option.bind_some]
        exact Both.ret (by simp [cmpI]) (fun _ => rfl)
      · simp only [show (x.f2 == y.f2) = false by simpa using g2, cond_false]
        exact Both.ret (cmpI_rng _ _) (fun _ => by rw [e1, e2])
    · have hne : cmpI x.f1 y.f1 ≠ 0 := fun h => g1 (cmpI_eq.1 h)
      simp only [show (x.f1 == y.f1) = false by simpa using g1, cond_false, show (cmpI x.f1 y.f1 == 0) = false by simpa using hne]
      exact Both.ret (cmpI_rng _ _) (fun _ => by rw [e1, e2])
  have h5' : (x.f0 == 5) = false := by simpa using h5
  have q2 : x.f2 = y.f2 := (px h5).trans (py (by omega)).symm
  simp only [h3', h5', cond_false, show (x.f2 == y.f2) = true by simpa using q2, cond_true]
  by_cases h7 : x.f0 = 7
  · have q1 : x.f1 = y.f1 := (zx (by omega)).1.trans (zy (by omega)).1.symm
    simp only [show (x.f0 == 7) = true by simpa using h7, show (x.f1 == y.f1) = true by simpa using q1, cond_true]
    rw [if_pos h7] at nx
    rw [if_pos (by omega)] at ny
    exact ord_l0 lx ly h7 nx ny ih _ 0 (Nat.le_refl _)
  have h7' : (x.f0 == 7) = false := by simpa using h7
  simp only [h7', cond_false]
  by_cases hl : x.f0 = 6 ∨ x.f0 = 10
  · have q1 : x.f1 = y.f1 := (zx (by omega)).1.trans (zy (by omega)).1.symm
    simp only [show (x.f1 == y.f1) = true by simpa using q1, cond_true]
    have main : Both (fun k => spec_l01Order.l0 k 0 x y) (fun k => impl_order.j1 k true (toI x) (toI y)) (fun c => c = 0 → x.f4.length = y.f4.length) := by
      refine Both.istep ?_
      simp only [impl_order.j1, cond_true]
      exact ord_l1 lx ly h7 ih _ 0 (Nat.le_refl _)
    by_cases h6 : x.f0 = 6
    · simp only [show (x.f0 == 6) = true by simpa using h6, cond_true]; exact main
    · simp only [show (x.f0 == 6) = false by simpa using h6, cond_false, show (x.f0 == 10) = true by simp; omega]; exact main
  · have e1 := ex (by omega)
    have e2 := ey (by omega)
    simp only [show (x.f0 == 6) = false by simp; omega, cond_false, show (x.f0 == 10) = false by simp; omega]
    refine Both.istep ?_
    simp only [impl_order.j1, cond_false, sign_, toI_1, Option.bind_some, cmpInts_]
    by_cases g1 : x.f1 = y.f1
    · simp only [show (x.f1 == y.f1) = true by simpa using g1, cond_true, cmpI_eq.2 g1]
      refine Both.sstep ?_
      simp only [spec_l01Order.l0, e1, List.length_nil, show decide (((0 : Int)) < ((0 : Nat) : Int)) = false from rfl, cond_false]
      refine Both.sstep ?_
      simp only [spec_l01Order.j0, e1, e2, cmpInts_, Option.bind_some]
      exact Both.ret (by simp [cmpI]) (fun _ => rfl)
    · simp only [show (x.f1 == y.f1) = false by simpa using g1, cond_false]
      exact Both.ret (cmpI_rng _ _) (fun _ => by rw [e1, e2])
end
theorem order_ : ∀ (n : Nat) (x y : S42), SizeOf.sizeOf x ≤ n → Wf x → Wf y → OrdAt x y := by
  intro n
  induction n using Nat.strongRecOn with
  | _ n ih =>
    intro x y hn hx hy
    exact ord_step hx hy (fun a ha b hb => ih (SizeOf.sizeOf a) (by have := item_size ha; omega) a b (Nat.le_refl _) (hx.p.2.2.2.1 a ha) (hy.p.2.2.2.1 b hb))
theorem order2 {x y : S42} (hx : Wf x) (hy : Wf y) : OrdAt x y := order_ _ x y (Nat.le_refl _) hx hy
end Go.Ab
namespace Go.Ab
open Go.Proofs
set_option linter.unusedVariables false
set_option linter.unusedSimpArgs false
/-- An order told by -1, 0, 1. -/
structure Cmp3 {α : Type} (f : α → α → Int) : Prop where
  rng : ∀ x y, f x y = -1 ∨ f x y = 0 ∨ f x y = 1
  anti : ∀ x y, f y x = - f x y
  trans : ∀ x y z, f x y ≤ 0 → f y z ≤ 0 → f x z ≤ 0
def thenC (a b : Int) : Int := if a = 0 then b else a
section
variable {α β : Type} {f g : α → α → Int}
theorem Cmp3.eqv (h : Cmp3 f) {x y z : α} (h1 : f x y ≤ 0) (h2 : f y z ≤ 0) (h3 : f x z = 0) : f x y = 0 ∧ f y z = 0 := by
  have a1 := h.anti x z
  have a2 := h.anti x y
  have a3 := h.anti y z
  have t1 := h.trans y z x h2 (by omega)
  have t2 := h.trans z x y (by omega) h1
  omega
theorem Cmp3.andThen (hf : Cmp3 f) (hg : Cmp3 g) : Cmp3 (fun x y => thenC (f x y) (g x y)) where
  rng x y := by
    have h1 := hf.rng x y
    have h2 := hg.rng x y
    unfold thenC; split <;> omega
  anti x y := by
    have h1 := hf.anti x y
    have h2 := hg.anti x y
    unfold thenC; split <;> split <;> omega
  trans x y z h1 h2 := by
    unfold thenC at *
    have r1 := hf.rng x y
    have r2 := hf.rng y z
    have f1 : f x y ≤ 0 := by split at h1 <;> omega
    have f2 : f y z ≤ 0 := by split at h2 <;> omega
    have f3 := hf.trans x y z f1 f2
    split
    · rename_i h0
      obtain ⟨e1, e2⟩ := hf.eqv f1 f2 h0
      rw [if_pos e1] at h1
      rw [if_pos e2] at h2
      exact hg.trans x y z h1 h2
    · exact f3
theorem Cmp3.on (hf : Cmp3 f) (h : β → α) : Cmp3 (fun x y => f (h x) (h y)) := ⟨fun x y => hf.rng _ _, fun x y => hf.anti _ _, fun x y z => hf.trans _ _ _⟩
def lexC (f : α → α → Int) : List α → List α → Int
 | [], [] => 0
 | [], _ :: _ => -1
 | _ :: _, [] => 1
 | a :: l, b :: m => thenC (f a b) (lexC f l m)
theorem lex_rng (hf : Cmp3 f) : ∀ l m : List α, lexC f l m = -1 ∨ lexC f l m = 0 ∨ lexC f l m = 1
 | [], [] => by simp [lexC]
 | [], _ :: _ => by simp [lexC]
 | _ :: _, [] => by simp [lexC]
 | a :: l, b :: m => by
   have h1 := hf.rng a b
   have h2 := lex_rng hf l m
   simp only [lexC, thenC]; split <;> omega
theorem lex_anti (hf : Cmp3 f) : ∀ l m : List α, lexC f m l = - lexC f l m
 | [], [] => by simp [lexC]
 | [], _ :: _ => by simp [lexC]
 | _ :: _, [] => by simp [lexC]
 | a :: l, b :: m => by
   have h1 := hf.anti a b
   have h2 := lex_anti hf l m
   simp only [lexC, thenC]; split <;> split <;> omega
theorem lex_trans (hf : Cmp3 f) : ∀ l m n : List α, lexC f l m ≤ 0 → lexC f m n ≤ 0 → lexC f l n ≤ 0
 | [], _, [], _, _ => by simp [lexC]
 | [], _, _ :: _, _, _ => by simp [lexC]
 | a :: l, [], n, h, _ => by simp [lexC] at h
 | a :: l, b :: m, [], _, h => by simp [lexC] at h
 | a :: l, b :: m, c :: n, h1, h2 => by
   simp only [lexC, thenC] at *
   have r1 := hf.rng a b
   have r2 := hf.rng b c
   have f1 : f a b ≤ 0 := by split at h1 <;> omega
   have f2 : f b c ≤ 0 := by split at h2 <;> omega
   have f3 := hf.trans a b c f1 f2
   split
   · rename_i h0
     obtain ⟨e1, e2⟩ := hf.eqv f1 f2 h0
     rw [if_pos e1] at h1
     rw [if_pos e2] at h2
     exact lex_trans hf l m n h1 h2
   · exact f3
theorem lexCmp (hf : Cmp3 f) : Cmp3 (lexC f) := ⟨lex_rng hf, lex_anti hf, lex_trans hf⟩
end
theorem cmpI3 : Cmp3 cmpI := ⟨cmpI_rng, fun x y => by unfold cmpI; split <;> split <;> (try split) <;> omega, fun x y z => by unfold cmpI; split <;> split <;> split <;> (try split) <;> (try split) <;> (try split) <;> omega⟩
theorem cmpB3 : Cmp3 cmpB := by
  refine ⟨cmpB_rng, fun x y => ?_, fun x y z h1 h2 => ?_⟩
  · unfold cmpB
    cases h : slt x y with
    | true => rw [slt_asymm h]; simp
    | false => cases h' : slt y x <;> simp
  · unfold cmpB at *
    cases hzx : slt z x with
    | false => split <;> simp
    | true =>
      exfalso
      have n1 : slt y x = false := by
        cases h : slt y x with
        | false => rfl
        | true => rw [h, slt_asymm h] at h1; simp at h1
      have n2 : slt z y = false := by
        cases h : slt z y with
        | false => rfl
        | true => rw [h, slt_asymm h] at h2; simp at h2
      cases h3 : slt x y with
      | true => have := slt_trans hzx h3; rw [n2] at this; cases this
      | false =>
        have e := slt_tri h3 n1
        subst e
        rw [n2] at hzx; cases hzx
def rankV (k : Int) : Int := if k = 0 then 100 else k
/-- A list's, map's or path's parts, with their names. -/
def its (x : S42) : List (ByteArray × S42) := if x.f0 = 7 then x.f5.zip x.f4 else x.f4.map fun v => (⟨#[]⟩, v)
def ordN : Nat → S42 → S42 → Int
 | 0, _, _ => 0
 | n + 1, x, y => thenC (cmpI (rankV x.f0) (rankV y.f0)) (thenC (cmpB x.f3 y.f3) (thenC (cmpI x.f1 y.f1) (thenC (cmpI x.f2 y.f2) (lexC (fun a b => thenC (cmpB a.1 b.1) (ordN n a.2 b.2)) (its x) (its y)))))
theorem ordN3 : ∀ n, Cmp3 (ordN n)
 | 0 => ⟨fun _ _ => .inr (.inl rfl), fun _ _ => rfl, fun _ _ _ _ _ => Int.le_refl _⟩
 | n + 1 => (cmpI3.on (fun x : S42 => rankV x.f0)).andThen ((cmpB3.on (fun x : S42 => x.f3)).andThen ((cmpI3.on (fun x : S42 => x.f1)).andThen ((cmpI3.on (fun x : S42 => x.f2)).andThen ((lexCmp ((cmpB3.on (fun p : ByteArray × S42 => p.1)).andThen ((ordN3 n).on (fun p : ByteArray × S42 => p.2)))).on its))))
theorem then0 {a b : Int} : thenC a b = 0 ↔ a = 0 ∧ b = 0 := by
  unfold thenC
  by_cases h0 : a = 0
  · rw [if_pos h0]; exact ⟨fun h => ⟨h0, h⟩, fun h => h.2⟩
  · rw [if_neg h0]; exact ⟨fun h => absurd h h0, fun h => absurd h.1 h0⟩
theorem Cmp3.self {α : Type} {f : α → α → Int} (h : Cmp3 f) (x : α) : f x x = 0 := by have := h.anti x x; omega
theorem lex_eq {α : Type} {f : α → α → Int} : ∀ {l m : List α}, lexC f l m = 0 → (∀ a ∈ l, ∀ b ∈ m, f a b = 0 → a = b) → l = m
 | [], [], _, _ => rfl
 | [], _ :: _, h, _ => by simp [lexC] at h
 | _ :: _, [], h, _ => by simp [lexC] at h
 | a :: l, b :: m, h, hf => by
   simp only [lexC, then0] at h
   rw [hf a (by simp) b (by simp) h.1, lex_eq h.2 (fun x hx y hy => hf x (by simp [hx]) y (by simp [hy]))]
theorem its_mem {x : S42} {p : ByteArray × S42} (h : p ∈ its x) : p.2 ∈ x.f4 := by
  unfold its at h
  split at h
  · exact (List.of_mem_zip (a := p.1) (b := p.2) h).2
  · obtain ⟨v, hv, rfl⟩ := List.mem_map.1 h; exact hv
theorem its_snd {x : S42} (hw : Wf x) : (its x).map (·.2) = x.f4 := by
  obtain ⟨_, _, nx, _⟩ := hw.p
  unfold its
  split
  · rename_i h7
    rw [if_pos h7] at nx
    exact List.map_snd_zip (by omega)
  · rw [List.map_map]; exact List.map_id _
theorem its_fst {x : S42} (hw : Wf x) (h7 : x.f0 = 7) : (its x).map (·.1) = x.f5 := by
  obtain ⟨_, _, nx, _⟩ := hw.p
  rw [if_pos h7] at nx
  unfold its
  rw [if_pos h7]
  exact List.map_fst_zip (by omega)
/-- A text has no number beside it. -/
inductive Wz : S42 → Prop
 | mk (v : S42) (h : v.f0 = 3 → v.f1 = 0) (hi : ∀ y ∈ v.f4, Wz y) : Wz v
theorem txt_z {x : S42} {l : List UInt8} (h : Txt x l) : Wz x := by
  have parts : ∀ (items : List S42) (ls : List (List UInt8)), ls.length = items.length → (∀ (i : Nat) (x : S42) (l : List UInt8), items[i]? = some x → ls[i]? = some l → Wz x) → ∀ y ∈ items, Wz y := fun items ls hl h y hy => by
    obtain ⟨j, hj, e⟩ := List.getElem_of_mem hy
    exact h j y (ls[j]'(by omega)) (by rw [← e]; exact List.getElem?_eq_getElem hj) (List.getElem?_eq_getElem _)
  induction h with
  | list items ls hl h ih => exact .mk _ (fun e => by simp at e) (parts items ls hl ih)
  | map items names ls hl hn hr hk h ih => exact .mk _ (fun e => by simp at e) (parts items ls hl ih)
  | path items ls hl h hk ih => exact .mk _ (fun e => by simp at e) (parts items ls hl ih)
  | thing kind w n h hn => exact .mk _ (fun e => by rcases h with ⟨_, h⟩ | ⟨_, h⟩ <;> simp [h] at e) (fun y hy => by simp at hy)
  | num n h => exact .mk _ (fun e => by simp at e) (fun y hy => by simp at hy)
  | null => exact .mk _ (fun e => by simp at e) (fun y hy => by simp at hy)
  | tru => exact .mk _ (fun e => by simp at e) (fun y hy => by simp at hy)
  | fls => exact .mk _ (fun e => by simp at e) (fun y hy => by simp at hy)
  | text s hs => exact .mk _ (fun _ => rfl) (fun y hy => by simp at hy)
  | date n l h => exact .mk _ (fun e => by simp at e) (fun y hy => by simp at hy)
  | point a b ha hb => exact .mk _ (fun e => by simp at e) (fun y hy => by simp at hy)
theorem Wz.p {v : S42} (h : Wz v) : (v.f0 = 3 → v.f1 = 0) ∧ ∀ y ∈ v.f4, Wz y := by
  cases h with | mk _ h hi => exact ⟨h, hi⟩
/-- The same in the order: the same value. -/
theorem ord_eq : ∀ (n : Nat) (x y : S42), SizeOf.sizeOf x ≤ n → Wf x → Wf y → ordN n x y = 0 → x = y := by
  intro n
  induction n with
  | zero => intro x y hn; cases x; simp at hn
  | succ n ih =>
    intro x y hn hx hy h
    simp only [ordN, then0] at h
    obtain ⟨h0, h3, h1, h2, h4⟩ := h
    have kx := hx.p.1
    have ky := hy.p.1
    have e0 : x.f0 = y.f0 := by
      have := cmpI_eq.1 h0
      unfold rankV at this
      split at this <;> split at this <;> omega
    have e4 : its x = its y := lex_eq h4 (fun a ha b hb he => by
      obtain ⟨q1, q2⟩ := then0.1 he
      have s := item_size (its_mem ha)
      exact Prod.ext (cmpB_eq.1 q1) (ih a.2 b.2 (by omega) (hx.p.2.2.2.1 _ (its_mem ha)) (hy.p.2.2.2.1 _ (its_mem hb)) q2))
    have e5 : x.f4 = y.f4 := by rw [← its_snd hx, ← its_snd hy, e4]
    have e6 : x.f5 = y.f5 := by
      by_cases h7 : x.f0 = 7
      · rw [← its_fst hx h7, ← its_fst hy (by omega), e4]
      · have nx := hx.p.2.2.1
        have ny := hy.p.2.2.1
        rw [if_neg h7] at nx
        rw [if_neg (by omega)] at ny
        rw [List.eq_nil_of_length_eq_zero nx, List.eq_nil_of_length_eq_zero ny]
    have e1 := cmpI_eq.1 h1
    have e2 := cmpI_eq.1 h2
    have e3 := cmpB_eq.1 h3
    cases x; cases y
    simp only at *
    subst e0 e1 e2 e3 e5 e6
    rfl
/-! What the program's order tells -/
section
variable {x y : S42}
theorem its_len (hw : Wf x) : (its x).length = x.f4.length := by
  have := congrArg List.length (its_snd hw)
  rwa [List.length_map] at this
theorem its_get (hw : Wf x) {i : Nat} (h : i < x.f4.length) : ((its x)[i]'(by rw [its_len hw]; exact h)).2 = x.f4[i] := by
  have e := its_snd hw
  have : ((its x).map (·.2))[i]'(by rw [List.length_map, its_len hw]; exact h) = x.f4[i] := by simp only [e]
  rwa [List.getElem_map] at this
theorem its_name (hw : Wf x) (h7 : x.f0 = 7) {i : Nat} (h : i < x.f5.length) (h' : i < x.f4.length) : ((its x)[i]'(by rw [its_len hw]; exact h')).1 = x.f5[i] := by
  have e := its_fst hw h7
  have : ((its x).map (·.1))[i]'(by rw [List.length_map, its_len hw]; exact h') = x.f5[i] := by simp only [e]
  rwa [List.getElem_map] at this
theorem its_no (h7 : x.f0 ≠ 7) {i : Nat} (h : i < (its x).length) : ((its x)[i]).1 = ⟨#[]⟩ := by
  unfold its at *
  simp only [if_neg h7, List.getElem_map]
/-- The order of parts. -/
def pO (n : Nat) (a b : ByteArray × S42) : Int := thenC (cmpB a.1 b.1) (ordN n a.2 b.2)
def OrdIs (n : Nat) (x y : S42) : Prop := Ev (fun k => impl_order.f k (toI x) (toI y)) (ordN n x y)
theorem lex_end {n : Nat} {l m : List (ByteArray × S42)} {i : Nat} (hl : i ≤ l.length) (hm : i ≤ m.length) (h : ¬ (i < l.length ∧ i < m.length)) : lexC (pO n) (l.drop i) (m.drop i) = cmpI l.length m.length := by
  by_cases h1 : i < l.length
  · have e : m.drop i = [] := List.drop_of_length_le (by omega)
    rw [e, List.drop_eq_getElem_cons h1]
    simp only [lexC]
    unfold cmpI; rw [if_neg (by omega), if_pos (by omega)]
  · have e : l.drop i = [] := List.drop_of_length_le (by omega)
    rw [e]
    by_cases h2 : i < m.length
    · rw [List.drop_eq_getElem_cons h2]
      simp only [lexC]
      unfold cmpI; rw [if_pos (by omega)]
    · have e : m.drop i = [] := List.drop_of_length_le (by omega)
      rw [e]
      simp only [lexC]
      unfold cmpI; rw [if_neg (by omega), if_neg (by omega)]
theorem ordI_l1 {n : Nat} (hx : Wf x) (hy : Wf y) (h7 : x.f0 ≠ 7) (h7' : y.f0 ≠ 7) (ih : ∀ a ∈ x.f4, ∀ b ∈ y.f4, OrdIs n a b) : ∀ (q i : Nat), x.f4.length - i ≤ q → i ≤ x.f4.length → i ≤ y.f4.length → Ev (fun k => impl_order.l1 k (i : Int) (toI x) (toI y)) (lexC (pO n) ((its x).drop i) ((its y).drop i)) := by
  have lx := hx.p.2.1
  have ly := hy.p.2.1
  have fin : ∀ i : Nat, i ≤ x.f4.length → i ≤ y.f4.length → ¬ (i < x.f4.length ∧ i < y.f4.length) → Ev (fun k => impl_order.j2 k (toI x) (toI y)) (lexC (pO n) ((its x).drop i) ((its y).drop i)) := fun i h1 h2 h => by
    rw [lex_end (by rw [its_len hx]; exact h1) (by rw [its_len hy]; exact h2) (by rw [its_len hx, its_len hy]; exact h), its_len hx, its_len hy]
    refine Ev.step ?_
    simp only [impl_order.j2, sign_, Option.bind_some, toI_5, List.length_map]
    exact Ev.ret _
  intro q
  induction q with
  | zero =>
    intro i h h1 h2
    refine Ev.step ?_
    simp only [impl_order.l1, toI_5, List.length_map, show decide ((i : Int) < (x.f4.length : Int)) = false by simp; omega, cond_false]
    exact fin i h1 h2 (by omega)
  | succ q ihq =>
    intro i h h1 h2
    refine Ev.step ?_
    by_cases hi : i < x.f4.length
    · by_cases hj : i < y.f4.length
      · simp only [impl_order.l1, toI_5, List.length_map, show decide ((i : Int) < (x.f4.length : Int)) = true by simpa using hi, show decide ((i : Int) < (y.f4.length : Int)) = true by simpa using hj, cond_true, getm hi, getm hj, Option.bind_some]
        refine Ev.bind (ih _ (List.getElem_mem hi) _ (List.getElem_mem hj)) ?_
        have hi' : i < (its x).length := by rw [its_len hx]; exact hi
        have hj' : i < (its y).length := by rw [its_len hy]; exact hj
        have e : lexC (pO n) ((its x).drop i) ((its y).drop i) = thenC (ordN n x.f4[i] y.f4[i]) (lexC (pO n) ((its x).drop (i + 1)) ((its y).drop (i + 1))) := by
          rw [List.drop_eq_getElem_cons hi', List.drop_eq_getElem_cons hj']
          simp only [lexC]
          congr 1
          unfold pO
          rw [its_no h7 hi', its_no h7' hj', its_get hx hi, its_get hy hj, cmpB_eq.2 rfl]
          rfl
        rw [e]
        unfold thenC
        by_cases hc : ordN n x.f4[i] y.f4[i] = 0
        · simp only [show (ordN n x.f4[i] y.f4[i] == 0) = true by simpa using hc, cond_true, w1 (i := i) (by omega), if_pos hc]
          exact ihq (i + 1) (by omega) (by omega) (by omega)
        · simp only [show (ordN n x.f4[i] y.f4[i] == 0) = false by simpa using hc, cond_false, if_neg hc]
          exact Ev.ret _
      · simp only [impl_order.l1, toI_5, List.length_map, show decide ((i : Int) < (x.f4.length : Int)) = true by simpa using hi, show decide ((i : Int) < (y.f4.length : Int)) = false by simpa using hj, cond_true, cond_false]
        exact fin i h1 h2 (by omega)
    · simp only [impl_order.l1, toI_5, List.length_map, show decide ((i : Int) < (x.f4.length : Int)) = false by simpa using hi, cond_false]
      exact fin i h1 h2 (by omega)
theorem ordI_l0 {n : Nat} (hx : Wf x) (hy : Wf y) (h7 : x.f0 = 7) (h7' : y.f0 = 7) (ih : ∀ a ∈ x.f4, ∀ b ∈ y.f4, OrdIs n a b) : ∀ (q i : Nat), x.f4.length - i ≤ q → i ≤ x.f4.length → i ≤ y.f4.length → Ev (fun k => impl_order.l0 k (i : Int) (toI x) (toI y)) (lexC (pO n) ((its x).drop i) ((its y).drop i)) := by
  have lx := hx.p.2.1
  have ly := hy.p.2.1
  have nx := hx.p.2.2.1
  have ny := hy.p.2.2.1
  rw [if_pos h7] at nx
  rw [if_pos h7'] at ny
  have fin : ∀ i : Nat, i ≤ x.f4.length → i ≤ y.f4.length → ¬ (i < x.f4.length ∧ i < y.f4.length) → Ev (fun k => impl_order.j0 k (toI x) (toI y)) (lexC (pO n) ((its x).drop i) ((its y).drop i)) := fun i h1 h2 h => by
    rw [lex_end (by rw [its_len hx]; exact h1) (by rw [its_len hy]; exact h2) (by rw [its_len hx, its_len hy]; exact h), its_len hx, its_len hy]
    refine Ev.step ?_
    simp only [impl_order.j0, sign_, Option.bind_some, toI_5, List.length_map]
    exact Ev.ret _
  intro q
  induction q with
  | zero =>
    intro i h h1 h2
    refine Ev.step ?_
    simp only [impl_order.l0, toI_5, List.length_map, show decide ((i : Int) < (x.f4.length : Int)) = false by simp; omega, cond_false]
    exact fin i h1 h2 (by omega)
  | succ q ihq =>
    intro i h h1 h2
    refine Ev.step ?_
    by_cases hi : i < x.f4.length
    · by_cases hj : i < y.f4.length
      · have hni : i < x.f5.length := by omega
        have hnj : i < y.f5.length := by omega
        simp only [impl_order.l0, toI_5, toI_4, List.length_map, show decide ((i : Int) < (x.f4.length : Int)) = true by simpa using hi, show decide ((i : Int) < (y.f4.length : Int)) = true by simpa using hj, cond_true, getm hi, getm hj, ix_lt hni, ix_lt hnj, Option.bind_some, compare_]
        have hi' : i < (its x).length := by rw [its_len hx]; exact hi
        have hj' : i < (its y).length := by rw [its_len hy]; exact hj
        have e : lexC (pO n) ((its x).drop i) ((its y).drop i) = thenC (thenC (cmpB x.f5[i] y.f5[i]) (ordN n x.f4[i] y.f4[i])) (lexC (pO n) ((its x).drop (i + 1)) ((its y).drop (i + 1))) := by
          rw [List.drop_eq_getElem_cons hi', List.drop_eq_getElem_cons hj']
          simp only [lexC]
          congr 1
          unfold pO
          rw [its_name hx h7 hni hi, its_name hy h7' hnj hj, its_get hx hi, its_get hy hj]
        rw [e]
        unfold thenC
        by_cases hb : cmpB x.f5[i] y.f5[i] = 0
        · simp only [show (cmpB x.f5[i] y.f5[i] == 0) = true by simpa using hb, cond_true, if_pos hb]
          refine Ev.bind (ih _ (List.getElem_mem hi) _ (List.getElem_mem hj)) ?_
          by_cases hc : ordN n x.f4[i] y.f4[i] = 0
          · simp only [show (ordN n x.f4[i] y.f4[i] == 0) = true by simpa using hc, cond_true, w1 (i := i) (by omega), if_pos hc]
            exact ihq (i + 1) (by omega) (by omega) (by omega)
          · simp only [show (ordN n x.f4[i] y.f4[i] == 0) = false by simpa using hc, cond_false, if_neg hc]
            exact Ev.ret _
        · simp only [show (cmpB x.f5[i] y.f5[i] == 0) = false by simpa using hb, cond_false, if_neg hb]
          exact Ev.ret _
      · simp only [impl_order.l0, toI_5, List.length_map, show decide ((i : Int) < (x.f4.length : Int)) = true by simpa using hi, show decide ((i : Int) < (y.f4.length : Int)) = false by simpa using hj, cond_true, cond_false]
        exact fin i h1 h2 (by omega)
    · simp only [impl_order.l0, toI_5, List.length_map, show decide ((i : Int) < (x.f4.length : Int)) = false by simpa using hi, cond_false]
      exact fin i h1 h2 (by omega)
theorem ordI_step {n : Nat} (hx : Wf x) (hy : Wf y) (zx : Wz x) (zy : Wz y) (ih : ∀ a ∈ x.f4, ∀ b ∈ y.f4, OrdIs n a b) : OrdIs (n + 1) x y := by
  obtain ⟨kx, lx, nx, wx, cx, ex, px⟩ := hx.p
  obtain ⟨ky, ly, ny, wy, cy, ey, py⟩ := hy.p
  have tx : x.f0 ≠ 3 → x.f3 = ⟨#[]⟩ := by cases hx with | mk _ hk hb hr hl hm hi ht hx hy hp => exact ht
  have ty : y.f0 ≠ 3 → y.f3 = ⟨#[]⟩ := by cases hy with | mk _ hk hb hr hl hm hi ht hx hy hp => exact ht
  unfold OrdIs
  refine Ev.step ?_
  simp only [impl_order.f, toI_0, toI_1, toI_2, toI_3]
  by_cases hk : x.f0 = y.f0
  case neg =>
    have e : ordN (n + 1) x y = cmpI (rankV x.f0) (rankV y.f0) := by
      have : cmpI (rankV x.f0) (rankV y.f0) ≠ 0 := fun h => by
        have := cmpI_eq.1 h
        unfold rankV at this
        split at this <;> split at this <;> omega
      simp only [ordN]; unfold thenC; rw [if_neg this]
    rw [e]
    simp only [show (x.f0 == y.f0) = false by simpa using hk, cond_false, sign_]
    by_cases h0 : x.f0 = 0
    · have h0' : y.f0 ≠ 0 := fun h => hk (h0.trans h.symm)
      simp only [show (0 == x.f0) = true by simpa using h0.symm, cond_true]
      have : cmpI (rankV x.f0) (rankV y.f0) = 1 := by unfold cmpI rankV; rw [if_pos h0, if_neg h0', if_neg (by omega), if_pos (by omega)]
      rw [this]; exact Ev.ret _
    · by_cases h1 : y.f0 = 0
      · simp only [show (0 == x.f0) = false by simpa using fun h => h0 h.symm, show (0 == y.f0) = true by simpa using h1.symm, cond_true, cond_false]
        have : cmpI (rankV x.f0) (rankV y.f0) = -1 := by unfold cmpI rankV; rw [if_pos h1, if_neg h0, if_pos (by omega)]
        rw [this]; exact Ev.ret _
      · simp only [show (0 == x.f0) = false by simpa using fun h => h0 h.symm, show (0 == y.f0) = false by simpa using fun h => h1 h.symm, cond_false, Option.bind_some]
        have : cmpI (rankV x.f0) (rankV y.f0) = cmpI x.f0 y.f0 := by unfold rankV; rw [if_neg h0, if_neg h1]
        rw [this]; exact Ev.ret _
  have er : cmpI (rankV x.f0) (rankV y.f0) = 0 := cmpI_eq.2 (by rw [hk])
  have th0 : ∀ b, thenC 0 b = b := fun b => by unfold thenC; rw [if_pos rfl]
  have e : ordN (n + 1) x y = thenC (cmpB x.f3 y.f3) (thenC (cmpI x.f1 y.f1) (thenC (cmpI x.f2 y.f2) (lexC (pO n) (its x) (its y)))) := by
    simp only [ordN]; rw [er, th0]; rfl
  rw [e]
  simp only [show (x.f0 == y.f0) = true by simpa using hk, cond_true]
  have none_ : ¬ (x.f0 = 6 ∨ x.f0 = 7 ∨ x.f0 = 10) → lexC (pO n) (its x) (its y) = 0 := fun h => by
    have e1 : its x = [] := List.eq_nil_of_length_eq_zero (by rw [its_len hx, ex h]; rfl)
    have e2 : its y = [] := List.eq_nil_of_length_eq_zero (by rw [its_len hy, ey (by omega)]; rfl)
    rw [e1, e2]; rfl
  have c0 : ∀ a : Int, cmpI a a = 0 := fun a => cmpI_eq.2 rfl
  have then_r : ∀ a : Int, thenC a 0 = a := fun a => by unfold thenC; split <;> simp_all
  by_cases h3 : x.f0 = 3
  · have q1 : cmpI x.f1 y.f1 = 0 := cmpI_eq.2 ((zx.p.1 h3).trans (zy.p.1 (by omega)).symm)
    have q2 : cmpI x.f2 y.f2 = 0 := cmpI_eq.2 ((px (by omega)).trans (py (by omega)).symm)
    rw [q1, q2, th0, th0, none_ (by omega), then_r]
    simp only [show (x.f0 == 3) = true by simpa using h3, cond_true, compare_, Option.bind_some]
    exact Ev.ret _
  have h3' : (x.f0 == 3) = false := by simpa using h3
  have qt : cmpB x.f3 y.f3 = 0 := cmpB_eq.2 ((tx h3).trans (ty (by omega)).symm)
  rw [qt, th0]
  simp only [h3', cond_false]
  by_cases h5 : x.f0 = 5
  · rw [none_ (by omega), then_r]
    simp only [show (x.f0 == 5) = true by simpa using h5, cond_true, sign_, Option.bind_some]
    unfold thenC
    by_cases g1 : cmpI x.f1 y.f1 = 0
    · simp only [show (cmpI x.f1 y.f1 == 0) = true by simpa using g1, cond_true, if_pos g1]; exact Ev.ret _
    · simp only [show (cmpI x.f1 y.f1 == 0) = false by simpa using g1, cond_false, if_neg g1]; exact Ev.ret _
  have q2 : cmpI x.f2 y.f2 = 0 := cmpI_eq.2 ((px h5).trans (py (by omega)).symm)
  rw [q2, th0]
  simp only [show (x.f0 == 5) = false by simpa using h5, cond_false]
  by_cases h7 : x.f0 = 7
  · have q1 : cmpI x.f1 y.f1 = 0 := cmpI_eq.2 ((cx (by omega)).1.trans (cy (by omega)).1.symm)
    rw [q1, th0]
    simp only [show (x.f0 == 7) = true by simpa using h7, cond_true]
    exact ordI_l0 hx hy h7 (by omega) ih _ 0 (Nat.le_refl _) (Nat.zero_le _) (Nat.zero_le _)
  simp only [show (x.f0 == 7) = false by simpa using h7, cond_false]
  by_cases hl : x.f0 = 6 ∨ x.f0 = 10
  · have q1 : cmpI x.f1 y.f1 = 0 := cmpI_eq.2 ((cx (by omega)).1.trans (cy (by omega)).1.symm)
    rw [q1, th0]
    have main : Ev (fun k => impl_order.j1 k true (toI x) (toI y)) (lexC (pO n) (its x) (its y)) := by
      refine Ev.step ?_
      simp only [impl_order.j1, cond_true]
      exact ordI_l1 hx hy h7 (by omega) ih _ 0 (Nat.le_refl _) (Nat.zero_le _) (Nat.zero_le _)
    by_cases h6 : x.f0 = 6
    · simp only [show (x.f0 == 6) = true by simpa using h6, cond_true]; exact main
    · simp only [show (x.f0 == 6) = false by simpa using h6, cond_false, show (x.f0 == 10) = true by simp; omega]; exact main
  · rw [none_ (by omega), then_r]
    simp only [show (x.f0 == 6) = false by simp; omega, cond_false, show (x.f0 == 10) = false by simp; omega]
    refine Ev.step ?_
    simp only [impl_order.j1, cond_false, sign_, toI_1, Option.bind_some]
    exact Ev.ret _
end
theorem ordI : ∀ (n : Nat) (x y : S42), SizeOf.sizeOf x ≤ n → Wf x → Wf y → Wz x → Wz y → OrdIs n x y := by
  intro n
  induction n with
  | zero => intro x y hn; cases x; simp at hn
  | succ n ih =>
    intro x y hn hx hy zx zy
    exact ordI_step hx hy zx zy (fun a ha b hb => ih a b (by have := item_size ha; omega) (hx.p.2.2.2.1 a ha) (hy.p.2.2.2.1 b hb) (zx.p.2 a ha) (zy.p.2 b hb))
/-- A value has one text. -/
theorem txt_one {x : S42} {l l' : List UInt8} (h : Txt x l) (h' : Txt x l') (hl : l.length ≤ 2000) (hl' : l'.length ≤ 2000) : l = l' := by
  have e := (show_s h hl).uniq (show_s h' hl')
  exact bs_inj.1 e
end Go.Ab
