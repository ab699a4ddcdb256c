/- Being the same, as a plain function: it asks for no order. Being less: of two of one kind that have an order just one is less, or they are the same. No condition. -/
import Derived.Test.YtklhcjepgbakmaaGreatDoorAbTW
import Derived.Test.YtklhcjepgbakmaaGreatDoorAbL6
namespace Go.Ab
open Go.Proofs
set_option linter.unusedVariables false
set_option linter.unusedSimpArgs false
def comb (o : Int) (l : List Int) : Int := if 0 ∈ l then 0 else if 2 ∈ l then 2 else o
theorem comb_0 (o : Int) (l : List Int) : comb o (0 :: l) = 0 := by unfold comb; rw [if_pos (by simp)]
theorem comb_1 (o : Int) (l : List Int) : comb o (1 :: l) = comb o l := by
  unfold comb
  simp only [List.mem_cons, show ¬ ((0 : Int) = 1) by decide, show ¬ ((2 : Int) = 1) by decide, false_or]
theorem comb_2 (o : Int) (l : List Int) : comb o (2 :: l) = comb 2 l := by
  unfold comb
  simp only [List.mem_cons, show ¬ ((0 : Int) = 2) by decide, false_or, true_or, if_true]
  split
  · rfl
  · simp
def sameN : Nat → S42 → S42 → Int
 | 0, _, _ => 0
 | n + 1, x, y => if x.f0 = 0 ∨ y.f0 = 0 then 2 else if x.f0 ≠ y.f0 then 0 else if x.f0 = 6 ∨ x.f0 = 7 then (if x.f4.length ≠ y.f4.length ∨ x.f5 ≠ y.f5 then 0 else comb 1 (List.zipWith (sameN n) x.f4 y.f4)) else if ordN (n + 1) x y = 0 then 1 else 0
theorem sameN_sym : ∀ (n : Nat) (x y : S42), sameN n x y = sameN n y x
 | 0, _, _ => rfl
 | n + 1, x, y => by
   have ih : List.zipWith (sameN n) x.f4 y.f4 = List.zipWith (sameN n) y.f4 x.f4 := by
     rw [List.zipWith_comm]
     congr 1
     funext a b
     exact sameN_sym n b a
   have an := (ordN3 (n + 1)).anti x y
   simp only [sameN]
   rw [ih]
   by_cases h0 : x.f0 = 0 ∨ y.f0 = 0
   · have h0' : y.f0 = 0 ∨ x.f0 = 0 := h0.symm
     rw [if_pos h0, if_pos h0']
   · have h0' : ¬ (y.f0 = 0 ∨ x.f0 = 0) := by omega
     rw [if_neg h0, if_neg h0']
     by_cases hk : x.f0 = y.f0
     · have k1 : ¬ (x.f0 ≠ y.f0) := by omega
       have k2 : ¬ (y.f0 ≠ x.f0) := by omega
       rw [if_neg k1, if_neg k2]
       by_cases h6 : x.f0 = 6 ∨ x.f0 = 7
       · have h6' : y.f0 = 6 ∨ y.f0 = 7 := by omega
         rw [if_pos h6, if_pos h6']
         by_cases hl : x.f4.length ≠ y.f4.length ∨ x.f5 ≠ y.f5
         · have hl' : y.f4.length ≠ x.f4.length ∨ y.f5 ≠ x.f5 := hl.imp Ne.symm Ne.symm
           rw [if_pos hl, if_pos hl']
         · have hl' : ¬ (y.f4.length ≠ x.f4.length ∨ y.f5 ≠ x.f5) := fun h => hl (h.imp Ne.symm Ne.symm)
           rw [if_neg hl, if_neg hl']
       · have h6' : ¬ (y.f0 = 6 ∨ y.f0 = 7) := by omega
         rw [if_neg h6, if_neg h6']
         by_cases ho : ordN (n + 1) x y = 0
         · have ho' : ordN (n + 1) y x = 0 := by omega
           rw [if_pos ho, if_pos ho']
         · have ho' : ¬ ordN (n + 1) y x = 0 := by omega
           rw [if_neg ho, if_neg ho']
     · have k1 : x.f0 ≠ y.f0 := hk
       have k2 : y.f0 ≠ x.f0 := by omega
       rw [if_pos k1, if_pos k2]
theorem comb_rng (o : Int) (l : List Int) (h : o = 1 ∨ o = 2) : comb o l = 0 ∨ comb o l = 1 ∨ comb o l = 2 := by
  unfold comb; split
  · exact .inl rfl
  · split
    · exact .inr (.inr rfl)
    · omega
theorem sameN_rng : ∀ (n : Nat) (x y : S42), sameN n x y = 0 ∨ sameN n x y = 1 ∨ sameN n x y = 2
 | 0, _, _ => .inl rfl
 | n + 1, x, y => by
   simp only [sameN]
   repeat' split
   all_goals first | exact comb_rng _ _ (.inl rfl) | simp
def SameIs (n : Nat) (x y : S42) : Prop := Ev (fun k => impl_same.f k (toI x) (toI y)) (sameN n x y)
section
variable {x y : S42}
theorem sameI_l1 {n : Nat} (hl : x.f4.length = y.f4.length) (hx : x.f4.length ≤ 2000000) (ih : ∀ a ∈ x.f4, ∀ b ∈ y.f4, SameIs n a b) : ∀ (q i : Nat) (o : Int), x.f4.length - i ≤ q → o = 1 ∨ o = 2 → Ev (fun k => impl_same.l1 k o (toI x) (i : Int) (toI y)) (comb o (List.zipWith (sameN n) (x.f4.drop i) (y.f4.drop i))) := by
  have fin : ∀ (i : Nat) (o : Int), ¬ i < x.f4.length → o = 1 ∨ o = 2 → Ev (fun k => impl_same.l1 k o (toI x) (i : Int) (toI y)) (comb o (List.zipWith (sameN n) (x.f4.drop i) (y.f4.drop i))) := fun i o h ho => by
    rw [List.drop_of_length_le (show x.f4.length ≤ i by omega)]
    refine Ev.step ?_
    simp only [impl_same.l1, toI_5, List.length_map, show decide ((i : Int) < (x.f4.length : Int)) = false by simpa using h, cond_false, List.zipWith_nil_left]
    rw [show comb o [] = o by unfold comb; simp]
    exact Ev.ret _
  intro q
  induction q with
  | zero => intro i o h ho; exact fin i o (by omega) ho
  | succ q ihq =>
    intro i o h ho
    by_cases hi : i < x.f4.length
    case neg => exact fin i o hi ho
    have hj : i < y.f4.length := by omega
    rw [List.drop_eq_getElem_cons hi, List.drop_eq_getElem_cons hj, List.zipWith_cons_cons]
    refine Ev.step ?_
    simp only [impl_same.l1, toI_5, List.length_map, show decide ((i : Int) < (x.f4.length : Int)) = true by simpa using hi, cond_true, getm hi, getm hj, Option.bind_some, w1 (i := i) (by omega)]
    refine Ev.bind (ih _ (List.getElem_mem hi) _ (List.getElem_mem hj)) ?_
    rcases sameN_rng n x.f4[i] y.f4[i] with e | e | e
    · rw [e, comb_0]; simp only [show ((0 : Int) == 0) = true from rfl, cond_true]; exact Ev.ret _
    · rw [e, comb_1]; simp only [show ((1 : Int) == 0) = false from rfl, show ((1 : Int) == 2) = false from rfl, cond_false]; exact ihq (i + 1) o (by omega) ho
    · rw [e, comb_2]; simp only [show ((2 : Int) == 0) = false from rfl, show ((2 : Int) == 2) = true from rfl, cond_true, cond_false]; exact ihq (i + 1) 2 (by omega) (.inr rfl)
theorem sameI_step {n : Nat} (hx : Wf x) (hy : Wf y) (ho : OrdIs (n + 1) x y) (ih : ∀ a ∈ x.f4, ∀ b ∈ y.f4, SameIs n a b) : SameIs (n + 1) x y := by
  obtain ⟨kx, lx, nx, wx, zx, ex, px⟩ := hx.p
  obtain ⟨ky, ly, ny, wy, zy, ey, py⟩ := hy.p
  unfold SameIs
  refine Ev.step ?_
  simp only [impl_same.f, toI_0, sameN]
  by_cases h0 : x.f0 = 0
  · rw [if_pos (.inl h0)]; simp only [show (x.f0 == 0) = true by simpa using h0, cond_true]; exact Ev.ret _
  by_cases g0 : y.f0 = 0
  · rw [if_pos (.inr g0)]; simp only [show (x.f0 == 0) = false by simpa using h0, show (y.f0 == 0) = true by simpa using g0, cond_true, cond_false]; exact Ev.ret _
  rw [if_neg (by omega)]
  simp only [show (x.f0 == 0) = false by simpa using h0, show (y.f0 == 0) = false by simpa using g0, cond_false]
  by_cases hk : x.f0 = y.f0
  case neg => rw [if_pos hk]; simp only [show (x.f0 == y.f0) = false by simpa using hk, cond_false]; exact Ev.ret _
  rw [if_neg (fun h => h hk)]
  simp only [show (x.f0 == y.f0) = true by simpa using hk, cond_true]
  by_cases hlm : x.f0 = 6 ∨ x.f0 = 7
  case neg =>
    rw [if_neg hlm]
    simp only [show (x.f0 == 6) = false by simp; omega, show (x.f0 == 7) = false by simp; omega, cond_false]
    refine Ev.bind ho ?_
    by_cases hz : ordN (n + 1) x y = 0
    · rw [if_pos hz]; simp only [show (ordN (n + 1) x y == 0) = true by simpa using hz, cond_true]; exact Ev.ret _
    · rw [if_neg hz]; simp only [show (ordN (n + 1) x y == 0) = false by simpa using hz, cond_false]; exact Ev.ret _
  rw [if_pos hlm]
  have j0 : Ev (fun k => impl_same.j0 k (toI x) (toI y)) (if x.f4.length ≠ y.f4.length ∨ x.f5 ≠ y.f5 then 0 else comb 1 (List.zipWith (sameN n) x.f4 y.f4)) := by
    refine Ev.step ?_
    simp only [impl_same.j0, toI_5, List.length_map]
    by_cases hl : x.f4.length = y.f4.length
    case neg =>
      rw [if_pos (.inl hl)]
      simp only [show (((x.f4.length : Nat) : Int) == (y.f4.length : Int)) = false by simp; omega, cond_false]; exact Ev.ret _
    simp only [show (((x.f4.length : Nat) : Int) == (y.f4.length : Int)) = true by simp; omega, cond_true]
    have hnl : x.f5.length = y.f5.length := by rw [nx, ny, hk, hl]
    have hxn : x.f5.length ≤ 2000000 := by rw [nx]; split <;> omega
    by_cases hn : x.f5 = y.f5
    · rw [if_neg (by simp [hl, hn])]
      exact inames_ok hn hxn (sameI_l1 hl lx ih _ 0 1 (Nat.le_refl _) (.inl rfl)) _ 0 (Nat.le_refl _)
    · rw [if_pos (.inr hn)]
      exact inames_no hnl hxn _ 0 (Nat.le_refl _) (by simpa using hn)
  by_cases h6 : x.f0 = 6
  · simp only [show (x.f0 == 6) = true by simpa using h6, cond_true]; exact j0
  · simp only [show (x.f0 == 6) = false by simpa using h6, cond_false, show (x.f0 == 7) = true by simp; omega, cond_true]; exact j0
end
theorem sameI : ∀ (n : Nat) (x y : S42), SizeOf.sizeOf x ≤ n → Wf x → Wf y → Wz x → Wz y → SameIs n x y := by
  intro n
  induction n with
  | zero => intro x y hn; cases x; simp at hn
  | succ n ih =>
    intro x y hn hx hy zx zy
    exact sameI_step hx hy (ordI (n + 1) x y hn hx hy zx zy) (fun a ha b hb => ih a b (by have := item_size ha; omega) (hx.p.2.2.2.1 a ha) (hy.p.2.2.2.1 b hb) (zx.p.2 a ha) (zy.p.2 b hb))
def lessN (n : Nat) (x y : S42) : Int := if x.f0 = 0 ∨ y.f0 = 0 ∨ x.f0 ≠ y.f0 ∨ 5 ≤ x.f0 then 2 else if ordN n x y < 0 then 1 else 0
theorem lessI {n : Nat} {x y : S42} (ho : OrdIs n x y) : Ev (fun k => impl_less.f k (toI x) (toI y)) (lessN n x y) := by
  unfold impl_less.f lessN
  simp only [toI_0]
  by_cases h0 : x.f0 = 0
  · rw [if_pos (.inl h0)]; simp only [show (x.f0 == 0) = true by simpa using h0, cond_true]; exact Ev.ret _
  by_cases g0 : y.f0 = 0
  · rw [if_pos (.inr (.inl g0))]; simp only [show (x.f0 == 0) = false by simpa using h0, show (y.f0 == 0) = true by simpa using g0, cond_true, cond_false]; exact Ev.ret _
  by_cases hk : x.f0 = y.f0
  case neg => rw [if_pos (.inr (.inr (.inl hk)))]; simp only [show (x.f0 == 0) = false by simpa using h0, show (y.f0 == 0) = false by simpa using g0, show (x.f0 == y.f0) = false by simpa using hk, cond_false]; exact Ev.ret _
  by_cases h5 : 5 ≤ x.f0
  · rw [if_pos (.inr (.inr (.inr h5)))]; simp only [show (x.f0 == 0) = false by simpa using h0, show (y.f0 == 0) = false by simpa using g0, show (x.f0 == y.f0) = true by simpa using hk, decide_eq_true h5, cond_true, cond_false]; exact Ev.ret _
  rw [if_neg (by omega)]
  simp only [show (x.f0 == 0) = false by simpa using h0, show (y.f0 == 0) = false by simpa using g0, show (x.f0 == y.f0) = true by simpa using hk, decide_eq_false h5, cond_true, cond_false]
  refine Ev.bind ho ?_
  by_cases hz : ordN n x y < 0
  · rw [if_pos hz]; simp only [decide_eq_true hz, cond_true]; exact Ev.ret _
  · rw [if_neg hz]; simp only [decide_eq_false hz, cond_false]; exact Ev.ret _
end Go.Ab
