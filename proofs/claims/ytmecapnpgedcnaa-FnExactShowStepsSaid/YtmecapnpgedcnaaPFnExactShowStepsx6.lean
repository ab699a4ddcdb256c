/- Walks of Go functions, written by program out of the print of the translation, with contracts of our own where the print has none. -/
import Derived.Test.YtmecapnpgedcnaaPFnExactShowStepsx0
import Derived.Test.YtmecapnpgedcnaaPFnExactShowStepsx5
namespace Go.Proofs.Ytmecapnpgedcnaa.PFnExactShowSteps
open Go.RowKit Go.Proofs.YtmecapnpgedcnaaW.PrintWords Go.Proofs.YtmecapnpgedcnaaW.PrintLast Go.Proofs.YtmecapnpgedcnaaW.PrintMore
attribute [local go_sem] max2_int min2_int max_two min_two max_three min_three max_four min_four   -- for this text's walks alone
set_option linter.unusedVariables false
set_option linter.unusedSimpArgs false

/-! ### spec_l09End: function 37 -/
mutual
def spec_l09End.j0 : Nat → List (S66) → Int → Int → Bool → Option (Int)
 | 0, _, _, _, _ => none
 | k + 1, x0, x1, x2, x24 => if x24 = true then (some (-1)) else (spec_l09End.l0 k x0 x1 x2 (wrap64 (x1 + 1)) 0)
def spec_l09End.l0 : Nat → List (S66) → Int → Int → Int → Int → Option (Int)
 | 0, _, _, _, _, _ => none
 | k + 1, x0, x1, x2, x7, x8 => if 0 ≤ x1 then (if x1 < (x0.length : Int) then (if x8 < ((rd_T66 x0 x1).f2) then ((spec_l09End.f k x0 x7 (wrap64 (x2 + 1))).bind fun t239 => (if t239 < 0 then (some (-1)) else (spec_l09End.l0 k x0 x1 x2 t239 (wrap64 (x8 + 1))))) else (some x7)) else (none)) else (none)
def spec_l09End.f : Nat → List (S66) → Int → Int → Option (Int)
 | 0, _, _, _ => none
 | k + 1, l0, a1, a2 => if a1 ≥ (l0.length : Int) then (spec_l09End.j0 k l0 a1 a2 true) else (if a2 > 20 then (spec_l09End.j0 k l0 a1 a2 true) else (if 0 ≤ a1 then (if a1 < (l0.length : Int) then ((spec_l09Thing.f k ((rd_T66 l0 a1).f0) ((rd_T66 l0 a1).f1) ((rd_T66 l0 a1).f2)).bind fun t237 => (spec_l09End.j0 k l0 a1 a2 (!t237))) else (none)) else (none)))
end
theorem spec_l09End.a1_ {p : Prop} (h : p := by repeat (first | (with_reducible first | exact HB.out | apply below_alloc | apply pw_below_drewN | apply below_drew1) | exact HB.out)) : p := h
set_option maxHeartbeats 8000000 in
set_option maxRecDepth 100000 in
theorem spec_l09End.calls (k : Nat) : ∀ (A0 : Option Addr) (c0 : Nat) (l0 : List (S66)) (a1 : Int) (a2 : Int) (r : Int) (w : World) (hr0 : Kd.C k66 w A0 l0.length l0) (hc0 : l0.length ≤ c0) (h : spec_l09End.f k l0 a1 a2 = some r),
  Calls Try.prog 37 #[.slice A0 l0.length c0, .int .i64 a1, .int .i64 a2] w fun e w' => e = .returned (.int .i64 r) ∧ Below w.heap.size w w' := by
 induction k using Nat.strongRecOn with
 | _ k ih =>
 intro A0 c0 l0 a1 a2 r w hr0 hc0 h
 cases k with
 | zero => exact absurd h (by simp [spec_l09End.f])
 | succ k =>
 simp only [spec_l09End.f] at h
 have hu66 := Try.underlying66
 have HR0 := Aside0.mk hr0
 have HC0 := Aside0.mk hc0
 clear hr0 hc0
 have HB := Aside0.mk (Below.refl w.heap.size w)
 have H : (if a1 ≥ (l0.length : Int) then (spec_l09End.j0 k l0 a1 a2 true) else (if a2 > 20 then (spec_l09End.j0 k l0 a1 a2 true) else (if 0 ≤ a1 then (if a1 < (l0.length : Int) then ((spec_l09Thing.f k ((rd_T66 l0 a1).f0) ((rd_T66 l0 a1).f1) ((rd_T66 l0 a1).f2)).bind fun t237 => (spec_l09End.j0 k l0 a1 a2 (!t237))) else (none)) else (none)))) = some r := h
 clear h
 have HC4 := Aside0.mk H
 clear H
 go_enter Try.func37, Try.ntmps37
 go_upto_region 1 with (fail)
 go_cut [24] (fun v24 wc => ∃ (kq : Nat) (x24_3 : Bool), v24 = .bool x24_3 ∧ Aside0 (spec_l09End.j0 kq l0 a1 a2 x24_3 = some r) ∧ Aside0 (kq ≤ k) ∧ Aside0 (Below w.heap.size w wc))
 case first =>
  have H := HC4.out
  clear HC4
  by_cases c5 : a1 ≥ (l0.length : Int)
  ·rw [if_pos c5] at H
   have c5b0 : decide ((l0.length : Int) ≤ a1) = true := decide_eq_true c5
   clear c5
   (first | rw [c5b0] | (simp only [i64_w, i32_w]; rw [c5b0]) | skip)
   have H' := Aside0.mk H
   clear H
   go_wp2
   go_meet
   case rel => exact ⟨_, (true), (by first | rfl | (simp; done) | (simp [*]; done)), H', ⟨by first | omega | exact Nat.le_refl _⟩, ⟨a1_⟩⟩
  ·rw [if_neg c5] at H
   have c5b0 : decide ((l0.length : Int) ≤ a1) = false := decide_eq_false c5
   clear c5
   (first | rw [c5b0] | (simp only [i64_w, i32_w]; rw [c5b0]) | skip)
   by_cases c6 : a2 > 20
   ·rw [if_pos c6] at H
    have c6b0 : decide (20 < a2) = true := decide_eq_true c6
    clear c6
    have H' := Aside0.mk H
    clear H
    go_wp2
    go_meet
    case rel => exact ⟨_, (true), (by first | rfl | (simp; done) | (simp [*]; done)), H', ⟨by first | omega | exact Nat.le_refl _⟩, ⟨a1_⟩⟩
   ·rw [if_neg c6] at H
    have c6b0 : decide (20 < a2) = false := decide_eq_false c6
    clear c6
    by_cases c7 : 0 ≤ a1
    ·rw [if_pos c7] at H
     have c7b0 : decide (0 ≤ a1) = true := decide_eq_true c7
     clear c7
     by_cases c8 : a1 < (l0.length : Int)
     ·rw [if_pos c8] at H
      have c8b0 : decide (a1 < (l0.length : Int)) = true := decide_eq_true c8
      clear c8
      replace H := Option.bind_eq_some_iff.mp H
      obtain ⟨t237, A90, H⟩ := H
      try dsimp only at H
      have A9 := Aside0.mk A90
      clear A90
      have H' := Aside0.mk H
      clear H
      have p236 : 0 ≤ (a1 : Int) := of_decide_eq_true (by first | (with_reducible assumption) | assumption)
      have q236 : a1 < (l0.length : Int) := of_decide_eq_true (by first | (with_reducible assumption) | assumption)
      obtain ⟨ad236, e236, hx236_0, hx236_1, hx236_2⟩ := at_T66 HR0.out a1 p236 q236
      cases e236
      replace hx236_0 := (HB.out.cell (World.block_lt_of_cell? w _ hx236_0)).trans hx236_0
      replace hx236_1 := (HB.out.cell (World.block_lt_of_cell? w _ hx236_1)).trans hx236_1
      replace hx236_2 := (HB.out.cell (World.block_lt_of_cell? w _ hx236_2)).trans hx236_2
      replace p236 := eq_true p236
      replace q236 := eq_true q236
      go_wp2_with (first | (go_at_call 63; (with_reducible refine (spec_l09Thing.calls k ((rd_T66 l0 a1).f0) ((rd_T66 l0 a1).f1) ((rd_T66 l0 a1).f2) t237 _ A9.out).mono ?_); rintro e w10 ⟨rfl, hb⟩; have n0_ := Aside0.mk (below_step (a1_) hb); clear HB; have HB := n0_; clear n0_; (try clear hb); (try clear hb2); (try clear hk); (try clear hi)))
      go_meet
      case rel => exact ⟨_, (!t237), (by first | rfl | (simp; done) | (simp [*]; done)), H', ⟨by first | omega | exact Nat.le_refl _⟩, ⟨a1_⟩⟩
     ·rw [if_neg c8] at H
      exact absurd H (by simp)
    ·rw [if_neg c7] at H
     exact absurd H (by simp)
 case rest =>
  clear HC4
  try clear p2
  try clear q2
  try clear hx2
  try clear c3
  try clear c5
  try clear c5b0
  try clear c6
  try clear c6b0
  try clear c7
  try clear c7b0
  try clear c8
  try clear c8b0
  try clear hx236_0
  try clear hx236_1
  try clear hx236_2
  try clear p236
  try clear q236
  obtain ⟨kq, x24_3, rfl, HA, HJ3, HB⟩ := hcut
  cases kq with
  | zero => exact absurd HA.out (by simp [spec_l09End.j0])
  | succ kj3 =>
   have H := HA.out
   clear HA
   simp only [spec_l09End.j0] at H
   by_cases c11 : x24_3 = true
   ·subst c11
    rw [if_pos rfl] at H
    try dsimp only at H
    obtain rfl := Option.some.inj H
    go_wp2
    go_ret
    exact ⟨by first | rfl | (simp [errW_none, errW_some] <;> rfl) | (simp [*, errW_none, errW_some] <;> rfl), a1_⟩
   ·replace c11 := Bool.eq_false_iff.mpr c11
    subst c11
    rw [if_neg (show ¬ (false = true) by decide)] at H
    try dsimp only at H
    have H' := Aside0.mk H
    clear H
    go_wp2
    go_loopg [7, 8] kj3 (fun kq v7 v8 w' => ∃ (x7_2 : Int) (x8_2 : Int), v7 = .int .i64 x7_2 ∧ v8 = .int .i64 x8_2 ∧ Aside0 (spec_l09End.l0 kq l0 a1 a2 x7_2 x8_2 = some r) ∧ Aside0 (kq ≤ kj3) ∧ Aside0 (Below w.heap.size w w'))
    case atStart => exact ⟨(wrap64 (a1 + 1)), (0), (by first | rfl | (simp; done) | (simp [*]; done)), (by first | rfl | (simp; done) | (simp [*]; done)), H', ⟨Nat.le_refl _⟩, ⟨a1_⟩⟩
    case round =>
     clear H'
     try clear c1
     try clear p2
     try clear q2
     try clear hx2
     try clear c3
     try clear c5
     try clear c5b0
     try clear c6
     try clear c6b0
     try clear p6
     try clear c7
     try clear c7b0
     try clear c8
     try clear c8b0
     try clear c11
     try clear hx236_0
     try clear hx236_1
     try clear hx236_2
     try clear p2
     try clear p236
     try clear q2
     try clear q236
     obtain ⟨x7_2, x8_2, rfl, rfl, HA, HK2, HB⟩ := hrel
     cases gk with
     | zero => exact absurd HA.out (by simp [spec_l09End.l0])
     | succ k2 =>
      have H := HA.out
      clear HA
      simp only [spec_l09End.l0] at H
      by_cases c12 : 0 ≤ a1
      ·rw [if_pos c12] at H
       have c12b0 : decide (0 ≤ a1) = true := decide_eq_true c12
       clear c12
       by_cases c13 : a1 < (l0.length : Int)
       ·rw [if_pos c13] at H
        have c13b0 : decide (a1 < (l0.length : Int)) = true := decide_eq_true c13
        clear c13
        by_cases c14 : x8_2 < ((rd_T66 l0 a1).f2)
        ·rw [if_pos c14] at H
         have c14b0 : decide (x8_2 < ((rd_T66 l0 a1).f2)) = true := decide_eq_true c14
         clear c14
         replace H := Option.bind_eq_some_iff.mp H
         obtain ⟨t239, A150, H⟩ := H
         try dsimp only at H
         have A15 := Aside0.mk A150
         clear A150
         by_cases c16 : t239 < 0
         ·rw [if_pos c16] at H
          have c16b0 : decide (t239 < 0) = true := decide_eq_true c16
          clear c16
          obtain rfl := Option.some.inj H
          have p238 : 0 ≤ (a1 : Int) := of_decide_eq_true (by first | (with_reducible assumption) | assumption)
          have q238 : a1 < (l0.length : Int) := of_decide_eq_true (by first | (with_reducible assumption) | assumption)
          obtain ⟨ad238, e238, hx238_0, hx238_1, hx238_2⟩ := at_T66 HR0.out a1 p238 q238
          cases e238
          replace hx238_0 := (HB.out.cell (World.block_lt_of_cell? w _ hx238_0)).trans hx238_0
          replace hx238_1 := (HB.out.cell (World.block_lt_of_cell? w _ hx238_1)).trans hx238_1
          replace hx238_2 := (HB.out.cell (World.block_lt_of_cell? w _ hx238_2)).trans hx238_2
          replace p238 := eq_true p238
          replace q238 := eq_true q238
          go_wp2_with (first | ((with_reducible refine gate_callee (f := 37) rfl ?_); refine goesL_ (some 40) rfl rfl Try.func37 (by kernel_rfl) rfl #[.slice (some ad238) l0.length c0, .int .i64 x7_2, .int .i64 (wrap64 (a2 + 1))] rfl (by (try simp only [List.map_toArray, List.map_cons, List.map_nil]); first | done | rfl | (simp only [List.length_drop, List.length_take]; rfl)) ?_; (with_reducible refine (ih k2 (by have := HJ3.out; have := HK2.out; omega) _ _ l0 x7_2 (wrap64 (a2 + 1)) t239 _ ?side1 ?side2 A15.out).mono ?_); (case side1 => exact by repeat (first | exact (Kd.C_below HR0.out HB.out) | (with_reducible refine Kd.C_alloc ?_ _) | (with_reducible refine Kd.C_drewN ?_ _) | (with_reducible refine Kd.C_drew ?_))); (case side2 => exact HC0.out); rintro e w17 ⟨rfl, hb⟩; refine ⟨_, rfl, ?_⟩; have n0_ := Aside0.mk (below_step (a1_) hb); clear HB; have HB := n0_; clear n0_; (try clear hb); (try clear hb2); (try clear hk); (try clear hi)))
          go_ret
          exact ⟨by first | rfl | (simp [errW_none, errW_some] <;> rfl) | (simp [*, errW_none, errW_some] <;> rfl), a1_⟩
         ·rw [if_neg c16] at H
          have c16b0 : decide (t239 < 0) = false := decide_eq_false c16
          clear c16
          have H' := Aside0.mk H
          clear H
          have p238 : 0 ≤ (a1 : Int) := of_decide_eq_true (by first | (with_reducible assumption) | assumption)
          have q238 : a1 < (l0.length : Int) := of_decide_eq_true (by first | (with_reducible assumption) | assumption)
          obtain ⟨ad238, e238, hx238_0, hx238_1, hx238_2⟩ := at_T66 HR0.out a1 p238 q238
          cases e238
          replace hx238_0 := (HB.out.cell (World.block_lt_of_cell? w _ hx238_0)).trans hx238_0
          replace hx238_1 := (HB.out.cell (World.block_lt_of_cell? w _ hx238_1)).trans hx238_1
          replace hx238_2 := (HB.out.cell (World.block_lt_of_cell? w _ hx238_2)).trans hx238_2
          replace p238 := eq_true p238
          replace q238 := eq_true q238
          go_wp2_with (first | ((with_reducible refine gate_callee (f := 37) rfl ?_); refine goesL_ (some 40) rfl rfl Try.func37 (by kernel_rfl) rfl #[.slice (some ad238) l0.length c0, .int .i64 x7_2, .int .i64 (wrap64 (a2 + 1))] rfl (by (try simp only [List.map_toArray, List.map_cons, List.map_nil]); first | done | rfl | (simp only [List.length_drop, List.length_take]; rfl)) ?_; (with_reducible refine (ih k2 (by have := HJ3.out; have := HK2.out; omega) _ _ l0 x7_2 (wrap64 (a2 + 1)) t239 _ ?side1 ?side2 A15.out).mono ?_); (case side1 => exact by repeat (first | exact (Kd.C_below HR0.out HB.out) | (with_reducible refine Kd.C_alloc ?_ _) | (with_reducible refine Kd.C_drewN ?_ _) | (with_reducible refine Kd.C_drew ?_))); (case side2 => exact HC0.out); rintro e w18 ⟨rfl, hb⟩; refine ⟨_, rfl, ?_⟩; have n0_ := Aside0.mk (below_step (a1_) hb); clear HB; have HB := n0_; clear n0_; (try clear hb); (try clear hb2); (try clear hk); (try clear hi)))
          go_roundg k2
          case measure => have := HJ3.out; have := HK2.out; omega
          case rel => exact ⟨(t239), (wrap64 (x8_2 + 1)), (by first | rfl | (simp; done) | (simp [*]; done)), (by first | rfl | (simp; done) | (simp [*]; done)), H', ⟨by have := HJ3.out; have := HK2.out; omega⟩, ⟨a1_⟩⟩
        ·rw [if_neg c14] at H
         have c14b0 : decide (x8_2 < ((rd_T66 l0 a1).f2)) = false := decide_eq_false c14
         clear c14
         obtain rfl := Option.some.inj H
         have p238 : 0 ≤ (a1 : Int) := of_decide_eq_true (by first | (with_reducible assumption) | assumption)
         have q238 : a1 < (l0.length : Int) := of_decide_eq_true (by first | (with_reducible assumption) | assumption)
         obtain ⟨ad238, e238, hx238_0, hx238_1, hx238_2⟩ := at_T66 HR0.out a1 p238 q238
         cases e238
         replace hx238_0 := (HB.out.cell (World.block_lt_of_cell? w _ hx238_0)).trans hx238_0
         replace hx238_1 := (HB.out.cell (World.block_lt_of_cell? w _ hx238_1)).trans hx238_1
         replace hx238_2 := (HB.out.cell (World.block_lt_of_cell? w _ hx238_2)).trans hx238_2
         replace p238 := eq_true p238
         replace q238 := eq_true q238
         go_wp2
         go_ret
         exact ⟨by first | rfl | (simp [errW_none, errW_some] <;> rfl) | (simp [*, errW_none, errW_some] <;> rfl), a1_⟩
       ·rw [if_neg c13] at H
        exact absurd H (by simp)
      ·rw [if_neg c12] at H
       exact absurd H (by simp)

/-! ### spec_StepsFault: function 14 -/
def spec_StepsFault.f (k : Nat) (l0 : List (S66)) : Option (Int) := if (l0.length : Int) > 100 then (some 1) else ((spec_l09End.f k l0 0 1).bind fun t240 => (if t240 = (l0.length : Int) then (some 0) else (some 1)))
theorem spec_StepsFault.a1_ {p : Prop} (h : p := by repeat (first | (with_reducible first | exact HB.out | apply below_alloc | apply pw_below_drewN | apply below_drew1) | exact HB.out)) : p := h
set_option maxHeartbeats 8000000 in
set_option maxRecDepth 100000 in
theorem spec_StepsFault.calls (k : Nat) (A0 : Option Addr) (c0 : Nat) (l0 : List (S66)) (r : Int) (w : World) (hr0 : Kd.C k66 w A0 l0.length l0) (hc0 : l0.length ≤ c0) (h : spec_StepsFault.f k l0 = some r) :
  Calls Try.prog 14 #[.slice A0 l0.length c0] w fun e w' => e = .returned (.int .i64 r) ∧ Below w.heap.size w w' := by
 have HR0 := Aside0.mk hr0
 have HC0 := Aside0.mk hc0
 clear hr0 hc0
 have HB := Aside0.mk (Below.refl w.heap.size w)
 have H : (if (l0.length : Int) > 100 then (some 1) else ((spec_l09End.f k l0 0 1).bind fun t240 => (if t240 = (l0.length : Int) then (some 0) else (some 1)))) = some r := h
 clear h
 by_cases c2 : (l0.length : Int) > 100
 ·rw [if_pos c2] at H
  have c2b0 : decide (100 < (l0.length : Int)) = true := decide_eq_true c2
  have c2b1 : decide (100 < l0.length) = true := decide_eq_true (by omega)
  clear c2
  obtain rfl := Option.some.inj H
  go_enter Try.func14, Try.ntmps14
  go_wp2
  go_ret
  exact ⟨by first | rfl | (simp [errW_none, errW_some] <;> rfl) | (simp [*, errW_none, errW_some] <;> rfl), a1_⟩
 ·rw [if_neg c2] at H
  have c2b0 : decide (100 < (l0.length : Int)) = false := decide_eq_false c2
  have c2b1 : decide (100 < l0.length) = false := decide_eq_false (by omega)
  clear c2
  replace H := Option.bind_eq_some_iff.mp H
  obtain ⟨t240, A30, H⟩ := H
  try dsimp only at H
  have A3 := Aside0.mk A30
  clear A30
  by_cases c4 : t240 = (l0.length : Int)
  ·rw [if_pos c4] at H
   have c4b0 : (t240 == (l0.length : Int)) = true := beq_iff_eq.mpr c4
   have c4b1 : (t240 != (l0.length : Int)) = false := bne_eq_false_iff_eq.mpr c4
   clear c4
   obtain rfl := Option.some.inj H
   go_enter Try.func14, Try.ntmps14
   go_wp2_with (first | (go_at_call 37; (with_reducible refine (spec_l09End.calls k _ _ l0 0 1 t240 _ ?side1 ?side2 A3.out).mono ?_); (case side1 => exact by repeat (first | exact HR0.out | (with_reducible refine Kd.C_alloc ?_ _) | (with_reducible refine Kd.C_drewN ?_ _) | (with_reducible refine Kd.C_drew ?_))); (case side2 => exact HC0.out); rintro e w5 ⟨rfl, hb⟩; have n0_ := Aside0.mk (below_step (a1_) hb); clear HB; have HB := n0_; clear n0_; (try clear hb); (try clear hb2); (try clear hk); (try clear hi)))
   go_ret
   exact ⟨by first | rfl | (simp [errW_none, errW_some] <;> rfl) | (simp [*, errW_none, errW_some] <;> rfl), a1_⟩
  ·rw [if_neg c4] at H
   have c4b0 : (t240 == (l0.length : Int)) = false := beq_eq_false_iff_ne.mpr c4
   have c4b1 : (t240 != (l0.length : Int)) = true := bne_iff_ne.mpr c4
   obtain rfl := Option.some.inj H
   go_enter Try.func14, Try.ntmps14
   go_wp2_with (first | (go_at_call 37; (with_reducible refine (spec_l09End.calls k _ _ l0 0 1 t240 _ ?side1 ?side2 A3.out).mono ?_); (case side1 => exact by repeat (first | exact HR0.out | (with_reducible refine Kd.C_alloc ?_ _) | (with_reducible refine Kd.C_drewN ?_ _) | (with_reducible refine Kd.C_drew ?_))); (case side2 => exact HC0.out); rintro e w6 ⟨rfl, hb⟩; have n0_ := Aside0.mk (below_step (a1_) hb); clear HB; have HB := n0_; clear n0_; (try clear hb); (try clear hb2); (try clear hk); (try clear hi)))
   go_ret
   exact ⟨by first | rfl | (simp [errW_none, errW_some] <;> rfl) | (simp [*, errW_none, errW_some] <;> rfl), a1_⟩

/-! ### spec_l09Second: function 66 -/
def spec_l09Second.f (k : Nat) (l0 : List (S66)) (a1 : Int) : Option (Int) := (spec_l09End.f k l0 (wrap64 (a1 + 1)) 1).bind fun t241 => (some t241)
set_option maxHeartbeats 8000000 in
set_option maxRecDepth 100000 in
theorem spec_l09Second.calls (k : Nat) (A0 : Option Addr) (c0 : Nat) (l0 : List (S66)) (a1 : Int) (r : Int) (w : World) (hr0 : Kd.C k66 w A0 l0.length l0) (hc0 : l0.length ≤ c0) (h : spec_l09Second.f k l0 a1 = some r) :
  Calls Try.prog 66 #[.slice A0 l0.length c0, .int .i64 a1] w fun e w' => e = .returned (.int .i64 r) ∧ Below w.heap.size w w' := by
 have HR0 := Aside0.mk hr0
 have HC0 := Aside0.mk hc0
 clear hr0 hc0
 have HB := Aside0.mk (Below.refl w.heap.size w)
 have H : ((spec_l09End.f k l0 (wrap64 (a1 + 1)) 1).bind fun t241 => (some t241)) = some r := h
 clear h
 replace H := Option.bind_eq_some_iff.mp H
 obtain ⟨t241, A30, H⟩ := H
 try dsimp only at H
 have A3 := Aside0.mk A30
 clear A30
 obtain rfl := Option.some.inj H
 go_enter Try.func66, Try.ntmps66
 go_wp2_with (first | ((with_reducible refine gate_callee (f := 37) rfl ?_); refine goesL_ (some 8) rfl rfl Try.func37 (by kernel_rfl) rfl #[.slice A0 l0.length c0, .int .i64 (wrap64 (a1 + 1)), .int .i64 1] rfl (by (try simp only [List.map_toArray, List.map_cons, List.map_nil]); first | done | rfl | (simp only [List.length_drop, List.length_take]; rfl)) ?_; (with_reducible refine (spec_l09End.calls k _ _ l0 (wrap64 (a1 + 1)) 1 t241 _ ?side1 ?side2 A3.out).mono ?_); (case side1 => exact by repeat (first | exact HR0.out | (with_reducible refine Kd.C_alloc ?_ _) | (with_reducible refine Kd.C_drewN ?_ _) | (with_reducible refine Kd.C_drew ?_))); (case side2 => exact HC0.out); rintro e w4 ⟨rfl, hb⟩; refine ⟨_, rfl, ?_⟩; have n0_ := Aside0.mk (below_step (by repeat (first | (with_reducible first | exact HB.out | apply below_alloc | apply pw_below_drewN | apply below_drew1) | exact HB.out)) hb); clear HB; have HB := n0_; clear n0_; (try clear hb); (try clear hb2); (try clear hk); (try clear hi)))
 go_ret
 exact ⟨by first | rfl | (simp [errW_none, errW_some] <;> rfl) | (simp [*, errW_none, errW_some] <;> rfl), by repeat (first | (with_reducible first | exact HB.out | apply below_alloc | apply pw_below_drewN | apply below_drew1) | exact HB.out)⟩

/-! ### spec_l09Level: function 85 -/
def spec_l09Level.f (a0_0 : Int) (a0_1 : ByteArray) (a0_2 : Int) : Option (Int) := if a0_0 = 5 then (some 1) else (if a0_0 = 4 then (some 2) else (if a0_0 = 6 then (some 3) else (if a0_0 = 7 then (some 3) else (if a0_0 = 8 then (some 3) else (some 4)))))
theorem spec_l09Level.a1_ {p : Prop} (h : p := by repeat (first | (with_reducible first | exact HB.out | apply below_alloc | apply pw_below_drewN | apply below_drew1) | exact HB.out)) : p := h
theorem spec_l09Level.a2_ {p : Prop} (h : p := by first | rfl | (simp [errW_none, errW_some] <;> rfl) | (simp [*, errW_none, errW_some] <;> rfl)) : p := h
theorem spec_l09Level.a3_ {p : Prop} (h : p := by repeat (first | (with_reducible first | exact HB.out | apply below_alloc | apply pw_below_drewN | apply below_drew1 | refine below_set ?_ GE242.out) | exact HB.out)) : p := h
set_option maxHeartbeats 8000000 in
set_option maxRecDepth 100000 in
theorem spec_l09Level.calls (a0_0 : Int) (a0_1 : ByteArray) (a0_2 : Int) (r : Int) (w : World) (h : spec_l09Level.f a0_0 a0_1 a0_2 = some r) :
  Calls Try.prog 85 #[.agg #[.int .i64 a0_0, .string a0_1, .int .i64 a0_2]] w fun e w' => e = .returned (.int .i64 r) ∧ Below w.heap.size w w' := by
 have hu66 := Try.underlying66
 have HB := Aside0.mk (Below.refl w.heap.size w)
 have H : (if a0_0 = 5 then (some 1) else (if a0_0 = 4 then (some 2) else (if a0_0 = 6 then (some 3) else (if a0_0 = 7 then (some 3) else (if a0_0 = 8 then (some 3) else (some 4)))))) = some r := h
 clear h
 by_cases c2 : a0_0 = 5
 ·rw [if_pos c2] at H
  have c2b0 : (a0_0 == 5) = true := beq_iff_eq.mpr c2
  have c2b1 : (a0_0 != 5) = false := bne_eq_false_iff_eq.mpr c2
  clear c2
  obtain rfl := Option.some.inj H
  go_enter Try.func85, Try.ntmps85
  go_wp2_with (first | ((with_reducible refine gate_dst (N := 1) rfl ?_); refine box_event ?hg (N := 1) ?hd (cs := #[.int .i64 a0_0, .string a0_1, .int .i64 a0_2]) (t := 66) ?hr ?_; (case hd => rfl); (case hg => rfl); (case hr => first | (go_simp; done) | (go_simp; rfl)); intro gb242 hg w3 hbox hb; have n_ := c4_ (below_step (a1_) hb) (hbox) ((by rw [hg]; exact (below_size (a1_)) : w.heap.size ≤ gb242)) ((by rw [hg]; exact (below_size (a1_)) : w.heap.size ≤ gb242)); clear HB; obtain ⟨HB, BK242, GW242, GE242⟩ := n_; clear hb hbox hg; obtain ⟨hcz4_0, hcz4_1, hcz4_2, hfz4_0, hfz4_1, hfz4_2⟩ := cf3_ BK242.out))
  go_ret
  exact ⟨a2_, a3_⟩
 ·rw [if_neg c2] at H
  have c2b0 : (a0_0 == 5) = false := beq_eq_false_iff_ne.mpr c2
  have c2b1 : (a0_0 != 5) = true := bne_iff_ne.mpr c2
  by_cases c5 : a0_0 = 4
  ·rw [if_pos c5] at H
   have c5b0 : (a0_0 == 4) = true := beq_iff_eq.mpr c5
   have c5b1 : (a0_0 != 4) = false := bne_eq_false_iff_eq.mpr c5
   clear c5
   obtain rfl := Option.some.inj H
   go_enter Try.func85, Try.ntmps85
   go_wp2_with (first | ((with_reducible refine gate_dst (N := 1) rfl ?_); refine box_event ?hg (N := 1) ?hd (cs := #[.int .i64 a0_0, .string a0_1, .int .i64 a0_2]) (t := 66) ?hr ?_; (case hd => rfl); (case hg => rfl); (case hr => first | (go_simp; done) | (go_simp; rfl)); intro gb242 hg w6 hbox hb; have n_ := c4_ (below_step (a1_) hb) (hbox) ((by rw [hg]; exact (below_size (a1_)) : w.heap.size ≤ gb242)) ((by rw [hg]; exact (below_size (a1_)) : w.heap.size ≤ gb242)); clear HB; obtain ⟨HB, BK242, GW242, GE242⟩ := n_; clear hb hbox hg; obtain ⟨hcz7_0, hcz7_1, hcz7_2, hfz7_0, hfz7_1, hfz7_2⟩ := cf3_ BK242.out))
   go_ret
   exact ⟨a2_, a3_⟩
  ·rw [if_neg c5] at H
   have c5b0 : (a0_0 == 4) = false := beq_eq_false_iff_ne.mpr c5
   have c5b1 : (a0_0 != 4) = true := bne_iff_ne.mpr c5
   by_cases c8 : a0_0 = 6
   ·rw [if_pos c8] at H
    have c8b0 : (a0_0 == 6) = true := beq_iff_eq.mpr c8
    have c8b1 : (a0_0 != 6) = false := bne_eq_false_iff_eq.mpr c8
    clear c8
    obtain rfl := Option.some.inj H
    go_enter Try.func85, Try.ntmps85
    go_wp2_with (first | ((with_reducible refine gate_dst (N := 1) rfl ?_); refine box_event ?hg (N := 1) ?hd (cs := #[.int .i64 a0_0, .string a0_1, .int .i64 a0_2]) (t := 66) ?hr ?_; (case hd => rfl); (case hg => rfl); (case hr => first | (go_simp; done) | (go_simp; rfl)); intro gb242 hg w9 hbox hb; have n_ := c4_ (below_step (a1_) hb) (hbox) ((by rw [hg]; exact (below_size (a1_)) : w.heap.size ≤ gb242)) ((by rw [hg]; exact (below_size (a1_)) : w.heap.size ≤ gb242)); clear HB; obtain ⟨HB, BK242, GW242, GE242⟩ := n_; clear hb hbox hg; obtain ⟨hcz10_0, hcz10_1, hcz10_2, hfz10_0, hfz10_1, hfz10_2⟩ := cf3_ BK242.out))
    go_ret
    exact ⟨a2_, a3_⟩
   ·rw [if_neg c8] at H
    have c8b0 : (a0_0 == 6) = false := beq_eq_false_iff_ne.mpr c8
    have c8b1 : (a0_0 != 6) = true := bne_iff_ne.mpr c8
    by_cases c11 : a0_0 = 7
    ·rw [if_pos c11] at H
     have c11b0 : (a0_0 == 7) = true := beq_iff_eq.mpr c11
     have c11b1 : (a0_0 != 7) = false := bne_eq_false_iff_eq.mpr c11
     clear c11
     obtain rfl := Option.some.inj H
     go_enter Try.func85, Try.ntmps85
     go_wp2_with (first | ((with_reducible refine gate_dst (N := 1) rfl ?_); refine box_event ?hg (N := 1) ?hd (cs := #[.int .i64 a0_0, .string a0_1, .int .i64 a0_2]) (t := 66) ?hr ?_; (case hd => rfl); (case hg => rfl); (case hr => first | (go_simp; done) | (go_simp; rfl)); intro gb242 hg w12 hbox hb; have n_ := c4_ (below_step (a1_) hb) (hbox) ((by rw [hg]; exact (below_size (a1_)) : w.heap.size ≤ gb242)) ((by rw [hg]; exact (below_size (a1_)) : w.heap.size ≤ gb242)); clear HB; obtain ⟨HB, BK242, GW242, GE242⟩ := n_; clear hb hbox hg; obtain ⟨hcz13_0, hcz13_1, hcz13_2, hfz13_0, hfz13_1, hfz13_2⟩ := cf3_ BK242.out))
     go_ret
     exact ⟨a2_, a3_⟩
    ·rw [if_neg c11] at H
     have c11b0 : (a0_0 == 7) = false := beq_eq_false_iff_ne.mpr c11
     have c11b1 : (a0_0 != 7) = true := bne_iff_ne.mpr c11
     by_cases c14 : a0_0 = 8
     ·rw [if_pos c14] at H
      have c14b0 : (a0_0 == 8) = true := beq_iff_eq.mpr c14
      have c14b1 : (a0_0 != 8) = false := bne_eq_false_iff_eq.mpr c14
      clear c14
      obtain rfl := Option.some.inj H
      go_enter Try.func85, Try.ntmps85
      go_wp2_with (first | ((with_reducible refine gate_dst (N := 1) rfl ?_); refine box_event ?hg (N := 1) ?hd (cs := #[.int .i64 a0_0, .string a0_1, .int .i64 a0_2]) (t := 66) ?hr ?_; (case hd => rfl); (case hg => rfl); (case hr => first | (go_simp; done) | (go_simp; rfl)); intro gb242 hg w15 hbox hb; have n_ := c4_ (below_step (a1_) hb) (hbox) ((by rw [hg]; exact (below_size (a1_)) : w.heap.size ≤ gb242)) ((by rw [hg]; exact (below_size (a1_)) : w.heap.size ≤ gb242)); clear HB; obtain ⟨HB, BK242, GW242, GE242⟩ := n_; clear hb hbox hg; obtain ⟨hcz16_0, hcz16_1, hcz16_2, hfz16_0, hfz16_1, hfz16_2⟩ := cf3_ BK242.out))
      go_ret
      exact ⟨a2_, a3_⟩
     ·rw [if_neg c14] at H
      have c14b0 : (a0_0 == 8) = false := beq_eq_false_iff_ne.mpr c14
      have c14b1 : (a0_0 != 8) = true := bne_iff_ne.mpr c14
      obtain rfl := Option.some.inj H
      go_enter Try.func85, Try.ntmps85
      go_wp2_with (first | ((with_reducible refine gate_dst (N := 1) rfl ?_); refine box_event ?hg (N := 1) ?hd (cs := #[.int .i64 a0_0, .string a0_1, .int .i64 a0_2]) (t := 66) ?hr ?_; (case hd => rfl); (case hg => rfl); (case hr => first | (go_simp; done) | (go_simp; rfl)); intro gb242 hg w17 hbox hb; have n_ := c4_ (below_step (a1_) hb) (hbox) ((by rw [hg]; exact (below_size (a1_)) : w.heap.size ≤ gb242)) ((by rw [hg]; exact (below_size (a1_)) : w.heap.size ≤ gb242)); clear HB; obtain ⟨HB, BK242, GW242, GE242⟩ := n_; clear hb hbox hg; obtain ⟨hcz18_0, hcz18_1, hcz18_2, hfz18_0, hfz18_1, hfz18_2⟩ := cf3_ BK242.out))
      go_ret
      exact ⟨a2_, a3_⟩

/-! ### spec_l09Show: function 44 -/
class spec_l09Show.C where
 f : List (S66) → Int → Option (ByteArray)
 calls : ∀ (A0 : Option Addr) (c0 : Nat) (l0 : List (S66)) (a1 : Int) (r : ByteArray) (w : World) (hr0 : Kd.C k66 w A0 l0.length l0) (hc0 : l0.length ≤ c0) (h : f l0 a1 = some r), Calls Try.prog 44 #[.slice A0 l0.length c0, .int .i64 a1] w fun e w' => e = .returned (.string r) ∧ Below w.heap.size w w'
def spec_l09Show.f [spec_l09Show.C] (l0 : List (S66)) (a1 : Int) : Option (ByteArray) := spec_l09Show.C.f l0 a1
theorem spec_l09Show.calls [spec_l09Show.C] (A0 : Option Addr) (c0 : Nat) (l0 : List (S66)) (a1 : Int) (r : ByteArray) (w : World) (hr0 : Kd.C k66 w A0 l0.length l0) (hc0 : l0.length ≤ c0) (h : spec_l09Show.f l0 a1 = some r) : Calls Try.prog 44 #[.slice A0 l0.length c0, .int .i64 a1] w fun e w' => e = .returned (.string r) ∧ Below w.heap.size w w' := spec_l09Show.C.calls A0 c0 l0 a1 r w hr0 hc0 h

/-! ### spec_l09In: function 68 -/
theorem spec_l09In.a1_ {p : Prop} (h : p := by (try simp only [List.map_toArray, List.map_cons, List.map_nil]); first | done | rfl | (simp only [List.length_drop, List.length_take]; rfl)) : p := h
theorem spec_l09In.a2_ {p : Prop} (h : p := by repeat (first | (with_reducible first | exact HB.out | apply below_alloc | apply pw_below_drewN | apply below_drew1) | exact HB.out)) : p := h
section
variable [spec_l09Show.C]
def spec_l09In.f (l0 : List (S66)) (a1 : Int) (a2 : Int) : Option (ByteArray) := (spec_l09Show.f l0 a1).bind fun t243 => (if 0 ≤ a1 then (if a1 < (l0.length : Int) then ((spec_l09Level.f ((rd_T66 l0 a1).f0) ((rd_T66 l0 a1).f1) ((rd_T66 l0 a1).f2)).bind fun t245 => (if t245 < a2 then (if 1 + t243.size ≤ 9223372036854775807 then (if ((⟨#[40]⟩ : ByteArray) ++ t243).size + 1 ≤ 9223372036854775807 then (some (((⟨#[40]⟩ : ByteArray) ++ t243) ++ (⟨#[41]⟩ : ByteArray))) else (none)) else (none)) else (some t243))) else (none)) else (none))
set_option maxHeartbeats 8000000 in
set_option maxRecDepth 100000 in
theorem spec_l09In.calls (A0 : Option Addr) (c0 : Nat) (l0 : List (S66)) (a1 : Int) (a2 : Int) (r : ByteArray) (w : World) (hr0 : Kd.C k66 w A0 l0.length l0) (hc0 : l0.length ≤ c0) (h : spec_l09In.f l0 a1 a2 = some r) :
  Calls Try.prog 68 #[.slice A0 l0.length c0, .int .i64 a1, .int .i64 a2] w fun e w' => e = .returned (.string r) ∧ Below w.heap.size w w' := by
 have hu66 := Try.underlying66
 have HR0 := Aside0.mk hr0
 have HC0 := Aside0.mk hc0
 clear hr0 hc0
 have HB := Aside0.mk (Below.refl w.heap.size w)
 have H : ((spec_l09Show.f l0 a1).bind fun t243 => (if 0 ≤ a1 then (if a1 < (l0.length : Int) then ((spec_l09Level.f ((rd_T66 l0 a1).f0) ((rd_T66 l0 a1).f1) ((rd_T66 l0 a1).f2)).bind fun t245 => (if t245 < a2 then (if 1 + t243.size ≤ 9223372036854775807 then (if ((⟨#[40]⟩ : ByteArray) ++ t243).size + 1 ≤ 9223372036854775807 then (some (((⟨#[40]⟩ : ByteArray) ++ t243) ++ (⟨#[41]⟩ : ByteArray))) else (none)) else (none)) else (some t243))) else (none)) else (none))) = some r := h
 clear h
 replace H := Option.bind_eq_some_iff.mp H
 obtain ⟨t243, A40, H⟩ := H
 try dsimp only at H
 have A4 := Aside0.mk A40
 clear A40
 by_cases c5 : 0 ≤ a1
 ·rw [if_pos c5] at H
  have c5b0 : decide (0 ≤ a1) = true := decide_eq_true c5
  clear c5
  by_cases c6 : a1 < (l0.length : Int)
  ·rw [if_pos c6] at H
   have c6b0 : decide (a1 < (l0.length : Int)) = true := decide_eq_true c6
   clear c6
   replace H := Option.bind_eq_some_iff.mp H
   obtain ⟨t245, A70, H⟩ := H
   try dsimp only at H
   have A7 := Aside0.mk A70
   clear A70
   by_cases c8 : t245 < a2
   ·rw [if_pos c8] at H
    have c8b0 : decide (t245 < a2) = true := decide_eq_true c8
    clear c8
    by_cases c9 : 1 + t243.size ≤ 9223372036854775807
    ·rw [if_pos c9] at H
     have c9b0 := eq_true c9
     have c9b1 : decide (1 + t243.size ≤ 9223372036854775807) = true := decide_eq_true c9
     try have c9b2 : (9223372036854775807 < 1 + t243.size) = False := eq_false (Nat.not_lt.2 c9)
     by_cases c10 : ((⟨#[40]⟩ : ByteArray) ++ t243).size + 1 ≤ 9223372036854775807
     ·rw [if_pos c10] at H
      have c10b0 := eq_true c10
      have c10s : (1 + (t243).size) + 1 ≤ 9223372036854775807 := by (have h_ := c10; (try simp only [ByteArray.size_append] at h_); first | exact h_ | omega)
      try have c10t : (9223372036854775807 < (1 + (t243).size) + 1) = False := eq_false (Nat.not_lt.2 c10s)
      have c10b1 : decide (((⟨#[40]⟩ : ByteArray) ++ t243).size + 1 ≤ 9223372036854775807) = true := decide_eq_true c10
      try have c10b2 : (9223372036854775807 < ((⟨#[40]⟩ : ByteArray) ++ t243).size + 1) = False := eq_false (Nat.not_lt.2 c10)
      obtain rfl := Option.some.inj H
      go_enter Try.func68, Try.ntmps68
      go_wp2_with (first | ((with_reducible refine gate_callee (f := 44) rfl ?_); refine goesL_ (some 10) rfl rfl Try.func44 (by kernel_rfl) rfl #[.slice A0 l0.length c0, .int .i64 a1] rfl (a1_) ?_; (with_reducible refine (spec_l09Show.calls _ _ l0 a1 t243 _ ?side1 ?side2 A4.out).mono ?_); (case side1 => exact by repeat (first | exact HR0.out | (with_reducible refine Kd.C_alloc ?_ _) | (with_reducible refine Kd.C_drewN ?_ _) | (with_reducible refine Kd.C_drew ?_))); (case side2 => exact HC0.out); rintro e w11 ⟨rfl, hb⟩; refine ⟨_, rfl, ?_⟩; have n0_ := Aside0.mk (below_step (a2_) hb); clear HB; have HB := n0_; clear n0_; (try clear hb); (try clear hb2); (try clear hk); (try clear hi); have p244 : 0 ≤ (a1 : Int) := of_decide_eq_true (by first | (with_reducible assumption) | assumption); have q244 : a1 < (l0.length : Int) := of_decide_eq_true (by first | (with_reducible assumption) | assumption); obtain ⟨ad244, e244, hx244_0, hx244_1, hx244_2⟩ := at_T66 HR0.out a1 p244 q244; cases e244; replace hx244_0 := (HB.out.cell (World.block_lt_of_cell? w _ hx244_0)).trans hx244_0; replace hx244_1 := (HB.out.cell (World.block_lt_of_cell? w _ hx244_1)).trans hx244_1; replace hx244_2 := (HB.out.cell (World.block_lt_of_cell? w _ hx244_2)).trans hx244_2; replace p244 := eq_true p244; replace q244 := eq_true q244) | ((with_reducible refine gate_callee (f := 85) rfl ?_); refine goesL_ (some 15) rfl rfl Try.func85 (by kernel_rfl) rfl #[.agg #[.int .i64 ((rd_T66 l0 a1).f0), .string ((rd_T66 l0 a1).f1), .int .i64 ((rd_T66 l0 a1).f2)]] rfl (a1_) ?_; (with_reducible refine (spec_l09Level.calls ((rd_T66 l0 a1).f0) ((rd_T66 l0 a1).f1) ((rd_T66 l0 a1).f2) t245 _ A7.out).mono ?_); rintro e w12 ⟨rfl, hb⟩; refine ⟨_, rfl, ?_⟩; have n0_ := Aside0.mk (below_step (a2_) hb); clear HB; have HB := n0_; clear n0_; (try clear hb); (try clear hb2); (try clear hk); (try clear hi)))
      go_ret
      exact ⟨by first | rfl | (simp [errW_none, errW_some] <;> rfl) | (simp [*, errW_none, errW_some] <;> rfl), a2_⟩
     ·rw [if_neg c10] at H
      exact absurd H (by simp)
    ·rw [if_neg c9] at H
     exact absurd H (by simp)
   ·rw [if_neg c8] at H
    have c8b0 : decide (t245 < a2) = false := decide_eq_false c8
    clear c8
    obtain rfl := Option.some.inj H
    go_enter Try.func68, Try.ntmps68
    go_wp2_with (first | ((with_reducible refine gate_callee (f := 44) rfl ?_); refine goesL_ (some 10) rfl rfl Try.func44 (by kernel_rfl) rfl #[.slice A0 l0.length c0, .int .i64 a1] rfl (a1_) ?_; (with_reducible refine (spec_l09Show.calls _ _ l0 a1 t243 _ ?side1 ?side2 A4.out).mono ?_); (case side1 => exact by repeat (first | exact HR0.out | (with_reducible refine Kd.C_alloc ?_ _) | (with_reducible refine Kd.C_drewN ?_ _) | (with_reducible refine Kd.C_drew ?_))); (case side2 => exact HC0.out); rintro e w13 ⟨rfl, hb⟩; refine ⟨_, rfl, ?_⟩; have n0_ := Aside0.mk (below_step (a2_) hb); clear HB; have HB := n0_; clear n0_; (try clear hb); (try clear hb2); (try clear hk); (try clear hi); have p244 : 0 ≤ (a1 : Int) := of_decide_eq_true (by first | (with_reducible assumption) | assumption); have q244 : a1 < (l0.length : Int) := of_decide_eq_true (by first | (with_reducible assumption) | assumption); obtain ⟨ad244, e244, hx244_0, hx244_1, hx244_2⟩ := at_T66 HR0.out a1 p244 q244; cases e244; replace hx244_0 := (HB.out.cell (World.block_lt_of_cell? w _ hx244_0)).trans hx244_0; replace hx244_1 := (HB.out.cell (World.block_lt_of_cell? w _ hx244_1)).trans hx244_1; replace hx244_2 := (HB.out.cell (World.block_lt_of_cell? w _ hx244_2)).trans hx244_2; replace p244 := eq_true p244; replace q244 := eq_true q244) | ((with_reducible refine gate_callee (f := 85) rfl ?_); refine goesL_ (some 15) rfl rfl Try.func85 (by kernel_rfl) rfl #[.agg #[.int .i64 ((rd_T66 l0 a1).f0), .string ((rd_T66 l0 a1).f1), .int .i64 ((rd_T66 l0 a1).f2)]] rfl (a1_) ?_; (with_reducible refine (spec_l09Level.calls ((rd_T66 l0 a1).f0) ((rd_T66 l0 a1).f1) ((rd_T66 l0 a1).f2) t245 _ A7.out).mono ?_); rintro e w14 ⟨rfl, hb⟩; refine ⟨_, rfl, ?_⟩; have n0_ := Aside0.mk (below_step (a2_) hb); clear HB; have HB := n0_; clear n0_; (try clear hb); (try clear hb2); (try clear hk); (try clear hi)))
    go_ret
    exact ⟨by first | rfl | (simp [errW_none, errW_some] <;> rfl) | (simp [*, errW_none, errW_some] <;> rfl), a2_⟩
  ·rw [if_neg c6] at H
   exact absurd H (by simp)
 ·rw [if_neg c5] at H
  exact absurd H (by simp)
end

/-! ### spec_l09Show1: function 44 -/
theorem spec_l09Show1.a1_ {p : Prop} (h : p := by first | rfl | (simp [errW_none, errW_some] <;> rfl) | (simp [*, errW_none, errW_some] <;> rfl)) : p := h
theorem spec_l09Show1.a2_ {p : Prop} (h : p := by repeat (first | (with_reducible first | exact HB.out | apply below_alloc | apply pw_below_drewN | apply below_drew1) | exact HB.out)) : p := h
theorem spec_l09Show1.a3_ {p : Prop} (h : p := by (try simp only [List.map_toArray, List.map_cons, List.map_nil]); first | done | rfl | (simp only [List.length_drop, List.length_take]; rfl)) : p := h
theorem spec_l09Show1.a4_ {p : Prop} (h : p := by repeat (first | exact HR0.out | (with_reducible refine Kd.C_alloc ?_ _) | (with_reducible refine Kd.C_drewN ?_ _) | (with_reducible refine Kd.C_drew ?_))) : p := h
theorem spec_l09Show1.a5_ {p : Prop} (h : p := by repeat (first | exact (Kd.C_below HR0.out HB.out) | (with_reducible refine Kd.C_alloc ?_ _) | (with_reducible refine Kd.C_drewN ?_ _) | (with_reducible refine Kd.C_drew ?_))) : p := h
section
variable [spec_l09Show.C]
def spec_l09Show1.f (k : Nat) (l0 : List (S66)) (a1 : Int) : Option (ByteArray) := if 0 ≤ a1 then (if a1 < (l0.length : Int) then (if ((rd_T66 l0 a1).f0) = 2 then (if 1 + ((rd_T66 l0 a1).f1).size ≤ 9223372036854775807 then (some ((⟨#[94]⟩ : ByteArray) ++ ((rd_T66 l0 a1).f1))) else (none)) else (if ((rd_T66 l0 a1).f0) = 3 then (if 1 + ((rd_T66 l0 a1).f1).size ≤ 9223372036854775807 then (if ((⟨#[91]⟩ : ByteArray) ++ ((rd_T66 l0 a1).f1)).size + 1 ≤ 9223372036854775807 then (some (((⟨#[91]⟩ : ByteArray) ++ ((rd_T66 l0 a1).f1)) ++ (⟨#[93]⟩ : ByteArray))) else (none)) else (none)) else (if ((rd_T66 l0 a1).f0) = 4 then ((spec_l09In.f l0 (wrap64 (a1 + 1)) 2).bind fun t249 => (if t249.size + 1 ≤ 9223372036854775807 then ((spec_l09Second.f k l0 a1).bind fun t250 => ((spec_l09In.f l0 t250 3).bind fun t251 => (if (t249 ++ (⟨#[47]⟩ : ByteArray)).size + t251.size ≤ 9223372036854775807 then (some ((t249 ++ (⟨#[47]⟩ : ByteArray)) ++ t251)) else (none)))) else (none))) else (if ((rd_T66 l0 a1).f0) = 5 then ((spec_l09In.f l0 (wrap64 (a1 + 1)) 1).bind fun t252 => (if t252.size + 1 ≤ 9223372036854775807 then ((spec_l09Second.f k l0 a1).bind fun t253 => ((spec_l09In.f l0 t253 2).bind fun t254 => (if (t252 ++ (⟨#[124]⟩ : ByteArray)).size + t254.size ≤ 9223372036854775807 then (some ((t252 ++ (⟨#[124]⟩ : ByteArray)) ++ t254)) else (none)))) else (none))) else (if ((rd_T66 l0 a1).f0) = 6 then ((spec_l09In.f l0 (wrap64 (a1 + 1)) 3).bind fun t255 => (if t255.size + 1 ≤ 9223372036854775807 then (some (t255 ++ (⟨#[42]⟩ : ByteArray))) else (none))) else (if ((rd_T66 l0 a1).f0) = 7 then ((spec_l09In.f l0 (wrap64 (a1 + 1)) 3).bind fun t256 => (if t256.size + 1 ≤ 9223372036854775807 then (some (t256 ++ (⟨#[43]⟩ : ByteArray))) else (none))) else (if ((rd_T66 l0 a1).f0) = 8 then ((spec_l09In.f l0 (wrap64 (a1 + 1)) 3).bind fun t257 => (if t257.size + 1 ≤ 9223372036854775807 then (some (t257 ++ (⟨#[63]⟩ : ByteArray))) else (none))) else (some ((rd_T66 l0 a1).f1))))))))) else (none)) else (none)
set_option maxHeartbeats 8000000 in
set_option maxRecDepth 100000 in
theorem spec_l09Show1.calls (k : Nat) (A0 : Option Addr) (c0 : Nat) (l0 : List (S66)) (a1 : Int) (r : ByteArray) (w : World) (hr0 : Kd.C k66 w A0 l0.length l0) (hc0 : l0.length ≤ c0) (h : spec_l09Show1.f k l0 a1 = some r) :
  Calls Try.prog 44 #[.slice A0 l0.length c0, .int .i64 a1] w fun e w' => e = .returned (.string r) ∧ Below w.heap.size w w' := by
 have HR0 := Aside0.mk hr0
 have HC0 := Aside0.mk hc0
 clear hr0 hc0
 have HB := Aside0.mk (Below.refl w.heap.size w)
 have H : (if 0 ≤ a1 then (if a1 < (l0.length : Int) then (if ((rd_T66 l0 a1).f0) = 2 then (if 1 + ((rd_T66 l0 a1).f1).size ≤ 9223372036854775807 then (some ((⟨#[94]⟩ : ByteArray) ++ ((rd_T66 l0 a1).f1))) else (none)) else (if ((rd_T66 l0 a1).f0) = 3 then (if 1 + ((rd_T66 l0 a1).f1).size ≤ 9223372036854775807 then (if ((⟨#[91]⟩ : ByteArray) ++ ((rd_T66 l0 a1).f1)).size + 1 ≤ 9223372036854775807 then (some (((⟨#[91]⟩ : ByteArray) ++ ((rd_T66 l0 a1).f1)) ++ (⟨#[93]⟩ : ByteArray))) else (none)) else (none)) else (if ((rd_T66 l0 a1).f0) = 4 then ((spec_l09In.f l0 (wrap64 (a1 + 1)) 2).bind fun t249 => (if t249.size + 1 ≤ 9223372036854775807 then ((spec_l09Second.f k l0 a1).bind fun t250 => ((spec_l09In.f l0 t250 3).bind fun t251 => (if (t249 ++ (⟨#[47]⟩ : ByteArray)).size + t251.size ≤ 9223372036854775807 then (some ((t249 ++ (⟨#[47]⟩ : ByteArray)) ++ t251)) else (none)))) else (none))) else (if ((rd_T66 l0 a1).f0) = 5 then ((spec_l09In.f l0 (wrap64 (a1 + 1)) 1).bind fun t252 => (if t252.size + 1 ≤ 9223372036854775807 then ((spec_l09Second.f k l0 a1).bind fun t253 => ((spec_l09In.f l0 t253 2).bind fun t254 => (if (t252 ++ (⟨#[124]⟩ : ByteArray)).size + t254.size ≤ 9223372036854775807 then (some ((t252 ++ (⟨#[124]⟩ : ByteArray)) ++ t254)) else (none)))) else (none))) else (if ((rd_T66 l0 a1).f0) = 6 then ((spec_l09In.f l0 (wrap64 (a1 + 1)) 3).bind fun t255 => (if t255.size + 1 ≤ 9223372036854775807 then (some (t255 ++ (⟨#[42]⟩ : ByteArray))) else (none))) else (if ((rd_T66 l0 a1).f0) = 7 then ((spec_l09In.f l0 (wrap64 (a1 + 1)) 3).bind fun t256 => (if t256.size + 1 ≤ 9223372036854775807 then (some (t256 ++ (⟨#[43]⟩ : ByteArray))) else (none))) else (if ((rd_T66 l0 a1).f0) = 8 then ((spec_l09In.f l0 (wrap64 (a1 + 1)) 3).bind fun t257 => (if t257.size + 1 ≤ 9223372036854775807 then (some (t257 ++ (⟨#[63]⟩ : ByteArray))) else (none))) else (some ((rd_T66 l0 a1).f1))))))))) else (none)) else (none)) = some r := h
 clear h
 by_cases c3 : 0 ≤ a1
 ·rw [if_pos c3] at H
  have c3b0 : decide (0 ≤ a1) = true := decide_eq_true c3
  clear c3
  by_cases c4 : a1 < (l0.length : Int)
  ·rw [if_pos c4] at H
   have c4b0 : decide (a1 < (l0.length : Int)) = true := decide_eq_true c4
   clear c4
   by_cases c5 : ((rd_T66 l0 a1).f0) = 2
   ·rw [if_pos c5] at H
    have c5b0 : (((rd_T66 l0 a1).f0) == 2) = true := beq_iff_eq.mpr c5
    have c5b1 : (((rd_T66 l0 a1).f0) != 2) = false := bne_eq_false_iff_eq.mpr c5
    clear c5
    by_cases c6 : 1 + ((rd_T66 l0 a1).f1).size ≤ 9223372036854775807
    ·rw [if_pos c6] at H
     have c6b0 := eq_true c6
     have c6b1 : decide (1 + ((rd_T66 l0 a1).f1).size ≤ 9223372036854775807) = true := decide_eq_true c6
     try have c6b2 : (9223372036854775807 < 1 + ((rd_T66 l0 a1).f1).size) = False := eq_false (Nat.not_lt.2 c6)
     obtain rfl := Option.some.inj H
     have p246 : 0 ≤ (a1 : Int) := of_decide_eq_true (by first | (with_reducible assumption) | assumption)
     have q246 : a1 < (l0.length : Int) := of_decide_eq_true (by first | (with_reducible assumption) | assumption)
     obtain ⟨ad246, e246, hx246_0, hx246_1, hx246_2⟩ := at_T66 HR0.out a1 p246 q246
     cases e246
     replace p246 := eq_true p246
     replace q246 := eq_true q246
     have p247 : 0 ≤ (a1 : Int) := of_decide_eq_true (by first | (with_reducible assumption) | assumption)
     have q247 : a1 < (l0.length : Int) := of_decide_eq_true (by first | (with_reducible assumption) | assumption)
     obtain ⟨ad247, e247, hx247_0, hx247_1, hx247_2⟩ := at_T66 HR0.out a1 p247 q247
     obtain rfl : ad246 = ad247 := (by injection e247)
     replace p247 := eq_true p247
     replace q247 := eq_true q247
     go_enter Try.func44, Try.ntmps44
     go_wp2
     go_ret
     exact ⟨a1_, a2_⟩
    ·rw [if_neg c6] at H
     exact absurd H (by simp)
   ·rw [if_neg c5] at H
    have c5b0 : (((rd_T66 l0 a1).f0) == 2) = false := beq_eq_false_iff_ne.mpr c5
    have c5b1 : (((rd_T66 l0 a1).f0) != 2) = true := bne_iff_ne.mpr c5
    by_cases c7 : ((rd_T66 l0 a1).f0) = 3
    ·rw [if_pos c7] at H
     have c7b0 : (((rd_T66 l0 a1).f0) == 3) = true := beq_iff_eq.mpr c7
     have c7b1 : (((rd_T66 l0 a1).f0) != 3) = false := bne_eq_false_iff_eq.mpr c7
     clear c7
     by_cases c8 : 1 + ((rd_T66 l0 a1).f1).size ≤ 9223372036854775807
     ·rw [if_pos c8] at H
      have c8b0 := eq_true c8
      have c8b1 : decide (1 + ((rd_T66 l0 a1).f1).size ≤ 9223372036854775807) = true := decide_eq_true c8
      try have c8b2 : (9223372036854775807 < 1 + ((rd_T66 l0 a1).f1).size) = False := eq_false (Nat.not_lt.2 c8)
      by_cases c9 : ((⟨#[91]⟩ : ByteArray) ++ ((rd_T66 l0 a1).f1)).size + 1 ≤ 9223372036854775807
      ·rw [if_pos c9] at H
       have c9b0 := eq_true c9
       have c9s : (1 + ((rd_T66 l0 a1).f1).size) + 1 ≤ 9223372036854775807 := by (have h_ := c9; (try simp only [ByteArray.size_append] at h_); first | exact h_ | omega)
       try have c9t : (9223372036854775807 < (1 + ((rd_T66 l0 a1).f1).size) + 1) = False := eq_false (Nat.not_lt.2 c9s)
       have c9b1 : decide (((⟨#[91]⟩ : ByteArray) ++ ((rd_T66 l0 a1).f1)).size + 1 ≤ 9223372036854775807) = true := decide_eq_true c9
       try have c9b2 : (9223372036854775807 < ((⟨#[91]⟩ : ByteArray) ++ ((rd_T66 l0 a1).f1)).size + 1) = False := eq_false (Nat.not_lt.2 c9)
       obtain rfl := Option.some.inj H
       have p246 : 0 ≤ (a1 : Int) := of_decide_eq_true (by first | (with_reducible assumption) | assumption)
       have q246 : a1 < (l0.length : Int) := of_decide_eq_true (by first | (with_reducible assumption) | assumption)
       obtain ⟨ad246, e246, hx246_0, hx246_1, hx246_2⟩ := at_T66 HR0.out a1 p246 q246
       cases e246
       replace p246 := eq_true p246
       replace q246 := eq_true q246
       have p248 : 0 ≤ (a1 : Int) := of_decide_eq_true (by first | (with_reducible assumption) | assumption)
       have q248 : a1 < (l0.length : Int) := of_decide_eq_true (by first | (with_reducible assumption) | assumption)
       obtain ⟨ad248, e248, hx248_0, hx248_1, hx248_2⟩ := at_T66 HR0.out a1 p248 q248
       obtain rfl : ad246 = ad248 := (by injection e248)
       replace p248 := eq_true p248
       replace q248 := eq_true q248
       go_enter Try.func44, Try.ntmps44
       go_wp2
       go_ret
       exact ⟨a1_, a2_⟩
      ·rw [if_neg c9] at H
       exact absurd H (by simp)
     ·rw [if_neg c8] at H
      exact absurd H (by simp)
    ·rw [if_neg c7] at H
     have c7b0 : (((rd_T66 l0 a1).f0) == 3) = false := beq_eq_false_iff_ne.mpr c7
     have c7b1 : (((rd_T66 l0 a1).f0) != 3) = true := bne_iff_ne.mpr c7
     by_cases c10 : ((rd_T66 l0 a1).f0) = 4
     ·rw [if_pos c10] at H
      have c10b0 : (((rd_T66 l0 a1).f0) == 4) = true := beq_iff_eq.mpr c10
      have c10b1 : (((rd_T66 l0 a1).f0) != 4) = false := bne_eq_false_iff_eq.mpr c10
      clear c10
      replace H := Option.bind_eq_some_iff.mp H
      obtain ⟨t249, A110, H⟩ := H
      try dsimp only at H
      have A11 := Aside0.mk A110
      clear A110
      by_cases c12 : t249.size + 1 ≤ 9223372036854775807
      ·rw [if_pos c12] at H
       have c12b0 := eq_true c12
       have c12b1 : decide (t249.size + 1 ≤ 9223372036854775807) = true := decide_eq_true c12
       try have c12b2 : (9223372036854775807 < t249.size + 1) = False := eq_false (Nat.not_lt.2 c12)
       replace H := Option.bind_eq_some_iff.mp H
       obtain ⟨t250, A130, H⟩ := H
       try dsimp only at H
       have A13 := Aside0.mk A130
       clear A130
       replace H := Option.bind_eq_some_iff.mp H
       obtain ⟨t251, A140, H⟩ := H
       try dsimp only at H
       have A14 := Aside0.mk A140
       clear A140
       by_cases c15 : (t249 ++ (⟨#[47]⟩ : ByteArray)).size + t251.size ≤ 9223372036854775807
       ·rw [if_pos c15] at H
        have c15b0 := eq_true c15
        have c15s : ((t249).size + 1) + ((t251).size) ≤ 9223372036854775807 := by (have h_ := c15; (try simp only [ByteArray.size_append] at h_); first | exact h_ | omega)
        try have c15t : (9223372036854775807 < ((t249).size + 1) + ((t251).size)) = False := eq_false (Nat.not_lt.2 c15s)
        have c15b1 : decide ((t249 ++ (⟨#[47]⟩ : ByteArray)).size + t251.size ≤ 9223372036854775807) = true := decide_eq_true c15
        try have c15b2 : (9223372036854775807 < (t249 ++ (⟨#[47]⟩ : ByteArray)).size + t251.size) = False := eq_false (Nat.not_lt.2 c15)
        obtain rfl := Option.some.inj H
        have p246 : 0 ≤ (a1 : Int) := of_decide_eq_true (by first | (with_reducible assumption) | assumption)
        have q246 : a1 < (l0.length : Int) := of_decide_eq_true (by first | (with_reducible assumption) | assumption)
        obtain ⟨ad246, e246, hx246_0, hx246_1, hx246_2⟩ := at_T66 HR0.out a1 p246 q246
        cases e246
        replace p246 := eq_true p246
        replace q246 := eq_true q246
        go_enter Try.func44, Try.ntmps44
        go_wp2_with (first | ((with_reducible refine gate_callee (f := 68) rfl ?_); refine goesL_ (some 32) rfl rfl Try.func68 (by kernel_rfl) rfl #[.slice (some ad246) l0.length c0, .int .i64 (wrap64 (a1 + 1)), .int .i64 2] rfl (a3_) ?_; (with_reducible refine (spec_l09In.calls _ _ l0 (wrap64 (a1 + 1)) 2 t249 _ ?side1 ?side2 A11.out).mono ?_); (case side1 => exact a4_); (case side2 => exact HC0.out); rintro e w16 ⟨rfl, hb⟩; refine ⟨_, rfl, ?_⟩; have n0_ := Aside0.mk (below_step (a2_) hb); clear HB; have HB := n0_; clear n0_; (try clear hb); (try clear hb2); (try clear hk); (try clear hi)) | ((with_reducible refine gate_callee (f := 66) rfl ?_); refine goesL_ (some 37) rfl rfl Try.func66 (by kernel_rfl) rfl #[.slice (some ad246) l0.length c0, .int .i64 a1] rfl (a3_) ?_; (with_reducible refine (spec_l09Second.calls k _ _ l0 a1 t250 _ ?side1 ?side2 A13.out).mono ?_); (case side1 => exact a5_); (case side2 => exact HC0.out); rintro e w17 ⟨rfl, hb⟩; refine ⟨_, rfl, ?_⟩; have n0_ := Aside0.mk (below_step (a2_) hb); clear HB; have HB := n0_; clear n0_; (try clear hb); (try clear hb2); (try clear hk); (try clear hi)) | ((with_reducible refine gate_callee (f := 68) rfl ?_); refine goesL_ (some 38) rfl rfl Try.func68 (by kernel_rfl) rfl #[.slice (some ad246) l0.length c0, .int .i64 t250, .int .i64 3] rfl (a3_) ?_; (with_reducible refine (spec_l09In.calls _ _ l0 t250 3 t251 _ ?side1 ?side2 A14.out).mono ?_); (case side1 => exact a5_); (case side2 => exact HC0.out); rintro e w18 ⟨rfl, hb⟩; refine ⟨_, rfl, ?_⟩; have n0_ := Aside0.mk (below_step (a2_) hb); clear HB; have HB := n0_; clear n0_; (try clear hb); (try clear hb2); (try clear hk); (try clear hi)))
        go_ret
        exact ⟨a1_, a2_⟩
       ·rw [if_neg c15] at H
        exact absurd H (by simp)
      ·rw [if_neg c12] at H
       exact absurd H (by simp)
     ·rw [if_neg c10] at H
      have c10b0 : (((rd_T66 l0 a1).f0) == 4) = false := beq_eq_false_iff_ne.mpr c10
      have c10b1 : (((rd_T66 l0 a1).f0) != 4) = true := bne_iff_ne.mpr c10
      by_cases c19 : ((rd_T66 l0 a1).f0) = 5
      ·rw [if_pos c19] at H
       have c19b0 : (((rd_T66 l0 a1).f0) == 5) = true := beq_iff_eq.mpr c19
       have c19b1 : (((rd_T66 l0 a1).f0) != 5) = false := bne_eq_false_iff_eq.mpr c19
       clear c19
       replace H := Option.bind_eq_some_iff.mp H
       obtain ⟨t252, A200, H⟩ := H
       try dsimp only at H
       have A20 := Aside0.mk A200
       clear A200
       by_cases c21 : t252.size + 1 ≤ 9223372036854775807
       ·rw [if_pos c21] at H
        have c21b0 := eq_true c21
        have c21b1 : decide (t252.size + 1 ≤ 9223372036854775807) = true := decide_eq_true c21
        try have c21b2 : (9223372036854775807 < t252.size + 1) = False := eq_false (Nat.not_lt.2 c21)
        replace H := Option.bind_eq_some_iff.mp H
        obtain ⟨t253, A220, H⟩ := H
        try dsimp only at H
        have A22 := Aside0.mk A220
        clear A220
        replace H := Option.bind_eq_some_iff.mp H
        obtain ⟨t254, A230, H⟩ := H
        try dsimp only at H
        have A23 := Aside0.mk A230
        clear A230
        by_cases c24 : (t252 ++ (⟨#[124]⟩ : ByteArray)).size + t254.size ≤ 9223372036854775807
        ·rw [if_pos c24] at H
         have c24b0 := eq_true c24
         have c24s : ((t252).size + 1) + ((t254).size) ≤ 9223372036854775807 := by (have h_ := c24; (try simp only [ByteArray.size_append] at h_); first | exact h_ | omega)
         try have c24t : (9223372036854775807 < ((t252).size + 1) + ((t254).size)) = False := eq_false (Nat.not_lt.2 c24s)
         have c24b1 : decide ((t252 ++ (⟨#[124]⟩ : ByteArray)).size + t254.size ≤ 9223372036854775807) = true := decide_eq_true c24
         try have c24b2 : (9223372036854775807 < (t252 ++ (⟨#[124]⟩ : ByteArray)).size + t254.size) = False := eq_false (Nat.not_lt.2 c24)
         obtain rfl := Option.some.inj H
         have p246 : 0 ≤ (a1 : Int) := of_decide_eq_true (by first | (with_reducible assumption) | assumption)
         have q246 : a1 < (l0.length : Int) := of_decide_eq_true (by first | (with_reducible assumption) | assumption)
         obtain ⟨ad246, e246, hx246_0, hx246_1, hx246_2⟩ := at_T66 HR0.out a1 p246 q246
         cases e246
         replace p246 := eq_true p246
         replace q246 := eq_true q246
         go_enter Try.func44, Try.ntmps44
         go_wp2_with (first | ((with_reducible refine gate_callee (f := 68) rfl ?_); refine goesL_ (some 45) rfl rfl Try.func68 (by kernel_rfl) rfl #[.slice (some ad246) l0.length c0, .int .i64 (wrap64 (a1 + 1)), .int .i64 1] rfl (a3_) ?_; (with_reducible refine (spec_l09In.calls _ _ l0 (wrap64 (a1 + 1)) 1 t252 _ ?side1 ?side2 A20.out).mono ?_); (case side1 => exact a4_); (case side2 => exact HC0.out); rintro e w25 ⟨rfl, hb⟩; refine ⟨_, rfl, ?_⟩; have n0_ := Aside0.mk (below_step (a2_) hb); clear HB; have HB := n0_; clear n0_; (try clear hb); (try clear hb2); (try clear hk); (try clear hi)) | ((with_reducible refine gate_callee (f := 66) rfl ?_); refine goesL_ (some 50) rfl rfl Try.func66 (by kernel_rfl) rfl #[.slice (some ad246) l0.length c0, .int .i64 a1] rfl (a3_) ?_; (with_reducible refine (spec_l09Second.calls k _ _ l0 a1 t253 _ ?side1 ?side2 A22.out).mono ?_); (case side1 => exact a5_); (case side2 => exact HC0.out); rintro e w26 ⟨rfl, hb⟩; refine ⟨_, rfl, ?_⟩; have n0_ := Aside0.mk (below_step (a2_) hb); clear HB; have HB := n0_; clear n0_; (try clear hb); (try clear hb2); (try clear hk); (try clear hi)) | ((with_reducible refine gate_callee (f := 68) rfl ?_); refine goesL_ (some 51) rfl rfl Try.func68 (by kernel_rfl) rfl #[.slice (some ad246) l0.length c0, .int .i64 t253, .int .i64 2] rfl (a3_) ?_; (with_reducible refine (spec_l09In.calls _ _ l0 t253 2 t254 _ ?side1 ?side2 A23.out).mono ?_); (case side1 => exact a5_); (case side2 => exact HC0.out); rintro e w27 ⟨rfl, hb⟩; refine ⟨_, rfl, ?_⟩; have n0_ := Aside0.mk (below_step (a2_) hb); clear HB; have HB := n0_; clear n0_; (try clear hb); (try clear hb2); (try clear hk); (try clear hi)))
         go_ret
         exact ⟨a1_, a2_⟩
        ·rw [if_neg c24] at H
         exact absurd H (by simp)
       ·rw [if_neg c21] at H
        exact absurd H (by simp)
      ·rw [if_neg c19] at H
       have c19b0 : (((rd_T66 l0 a1).f0) == 5) = false := beq_eq_false_iff_ne.mpr c19
       have c19b1 : (((rd_T66 l0 a1).f0) != 5) = true := bne_iff_ne.mpr c19
       by_cases c28 : ((rd_T66 l0 a1).f0) = 6
       ·rw [if_pos c28] at H
        have c28b0 : (((rd_T66 l0 a1).f0) == 6) = true := beq_iff_eq.mpr c28
        have c28b1 : (((rd_T66 l0 a1).f0) != 6) = false := bne_eq_false_iff_eq.mpr c28
        clear c28
        replace H := Option.bind_eq_some_iff.mp H
        obtain ⟨t255, A290, H⟩ := H
        try dsimp only at H
        have A29 := Aside0.mk A290
        clear A290
        by_cases c30 : t255.size + 1 ≤ 9223372036854775807
        ·rw [if_pos c30] at H
         have c30b0 := eq_true c30
         have c30b1 : decide (t255.size + 1 ≤ 9223372036854775807) = true := decide_eq_true c30
         try have c30b2 : (9223372036854775807 < t255.size + 1) = False := eq_false (Nat.not_lt.2 c30)
         obtain rfl := Option.some.inj H
         have p246 : 0 ≤ (a1 : Int) := of_decide_eq_true (by first | (with_reducible assumption) | assumption)
         have q246 : a1 < (l0.length : Int) := of_decide_eq_true (by first | (with_reducible assumption) | assumption)
         obtain ⟨ad246, e246, hx246_0, hx246_1, hx246_2⟩ := at_T66 HR0.out a1 p246 q246
         cases e246
         replace p246 := eq_true p246
         replace q246 := eq_true q246
         go_enter Try.func44, Try.ntmps44
         go_wp2_with (first | ((with_reducible refine gate_callee (f := 68) rfl ?_); refine goesL_ (some 58) rfl rfl Try.func68 (by kernel_rfl) rfl #[.slice (some ad246) l0.length c0, .int .i64 (wrap64 (a1 + 1)), .int .i64 3] rfl (a3_) ?_; (with_reducible refine (spec_l09In.calls _ _ l0 (wrap64 (a1 + 1)) 3 t255 _ ?side1 ?side2 A29.out).mono ?_); (case side1 => exact a4_); (case side2 => exact HC0.out); rintro e w31 ⟨rfl, hb⟩; refine ⟨_, rfl, ?_⟩; have n0_ := Aside0.mk (below_step (a2_) hb); clear HB; have HB := n0_; clear n0_; (try clear hb); (try clear hb2); (try clear hk); (try clear hi)))
         go_ret
         exact ⟨a1_, a2_⟩
        ·rw [if_neg c30] at H
         exact absurd H (by simp)
       ·rw [if_neg c28] at H
        have c28b0 : (((rd_T66 l0 a1).f0) == 6) = false := beq_eq_false_iff_ne.mpr c28
        have c28b1 : (((rd_T66 l0 a1).f0) != 6) = true := bne_iff_ne.mpr c28
        by_cases c32 : ((rd_T66 l0 a1).f0) = 7
        ·rw [if_pos c32] at H
         have c32b0 : (((rd_T66 l0 a1).f0) == 7) = true := beq_iff_eq.mpr c32
         have c32b1 : (((rd_T66 l0 a1).f0) != 7) = false := bne_eq_false_iff_eq.mpr c32
         clear c32
         replace H := Option.bind_eq_some_iff.mp H
         obtain ⟨t256, A330, H⟩ := H
         try dsimp only at H
         have A33 := Aside0.mk A330
         clear A330
         by_cases c34 : t256.size + 1 ≤ 9223372036854775807
         ·rw [if_pos c34] at H
          have c34b0 := eq_true c34
          have c34b1 : decide (t256.size + 1 ≤ 9223372036854775807) = true := decide_eq_true c34
          try have c34b2 : (9223372036854775807 < t256.size + 1) = False := eq_false (Nat.not_lt.2 c34)
          obtain rfl := Option.some.inj H
          have p246 : 0 ≤ (a1 : Int) := of_decide_eq_true (by first | (with_reducible assumption) | assumption)
          have q246 : a1 < (l0.length : Int) := of_decide_eq_true (by first | (with_reducible assumption) | assumption)
          obtain ⟨ad246, e246, hx246_0, hx246_1, hx246_2⟩ := at_T66 HR0.out a1 p246 q246
          cases e246
          replace p246 := eq_true p246
          replace q246 := eq_true q246
          go_enter Try.func44, Try.ntmps44
          go_wp2_with (first | ((with_reducible refine gate_callee (f := 68) rfl ?_); refine goesL_ (some 65) rfl rfl Try.func68 (by kernel_rfl) rfl #[.slice (some ad246) l0.length c0, .int .i64 (wrap64 (a1 + 1)), .int .i64 3] rfl (a3_) ?_; (with_reducible refine (spec_l09In.calls _ _ l0 (wrap64 (a1 + 1)) 3 t256 _ ?side1 ?side2 A33.out).mono ?_); (case side1 => exact a4_); (case side2 => exact HC0.out); rintro e w35 ⟨rfl, hb⟩; refine ⟨_, rfl, ?_⟩; have n0_ := Aside0.mk (below_step (a2_) hb); clear HB; have HB := n0_; clear n0_; (try clear hb); (try clear hb2); (try clear hk); (try clear hi)))
          go_ret
          exact ⟨a1_, a2_⟩
         ·rw [if_neg c34] at H
          exact absurd H (by simp)
        ·rw [if_neg c32] at H
         have c32b0 : (((rd_T66 l0 a1).f0) == 7) = false := beq_eq_false_iff_ne.mpr c32
         have c32b1 : (((rd_T66 l0 a1).f0) != 7) = true := bne_iff_ne.mpr c32
         by_cases c36 : ((rd_T66 l0 a1).f0) = 8
         ·rw [if_pos c36] at H
          have c36b0 : (((rd_T66 l0 a1).f0) == 8) = true := beq_iff_eq.mpr c36
          have c36b1 : (((rd_T66 l0 a1).f0) != 8) = false := bne_eq_false_iff_eq.mpr c36
          clear c36
          replace H := Option.bind_eq_some_iff.mp H
          obtain ⟨t257, A370, H⟩ := H
          try dsimp only at H
          have A37 := Aside0.mk A370
          clear A370
          by_cases c38 : t257.size + 1 ≤ 9223372036854775807
          ·rw [if_pos c38] at H
           have c38b0 := eq_true c38
           have c38b1 : decide (t257.size + 1 ≤ 9223372036854775807) = true := decide_eq_true c38
           try have c38b2 : (9223372036854775807 < t257.size + 1) = False := eq_false (Nat.not_lt.2 c38)
           obtain rfl := Option.some.inj H
           have p246 : 0 ≤ (a1 : Int) := of_decide_eq_true (by first | (with_reducible assumption) | assumption)
           have q246 : a1 < (l0.length : Int) := of_decide_eq_true (by first | (with_reducible assumption) | assumption)
           obtain ⟨ad246, e246, hx246_0, hx246_1, hx246_2⟩ := at_T66 HR0.out a1 p246 q246
           cases e246
           replace p246 := eq_true p246
           replace q246 := eq_true q246
           go_enter Try.func44, Try.ntmps44
           go_wp2_with (first | ((with_reducible refine gate_callee (f := 68) rfl ?_); refine goesL_ (some 72) rfl rfl Try.func68 (by kernel_rfl) rfl #[.slice (some ad246) l0.length c0, .int .i64 (wrap64 (a1 + 1)), .int .i64 3] rfl (a3_) ?_; (with_reducible refine (spec_l09In.calls _ _ l0 (wrap64 (a1 + 1)) 3 t257 _ ?side1 ?side2 A37.out).mono ?_); (case side1 => exact a4_); (case side2 => exact HC0.out); rintro e w39 ⟨rfl, hb⟩; refine ⟨_, rfl, ?_⟩; have n0_ := Aside0.mk (below_step (a2_) hb); clear HB; have HB := n0_; clear n0_; (try clear hb); (try clear hb2); (try clear hk); (try clear hi)))
           go_ret
           exact ⟨a1_, a2_⟩
          ·rw [if_neg c38] at H
           exact absurd H (by simp)
         ·rw [if_neg c36] at H
          have c36b0 : (((rd_T66 l0 a1).f0) == 8) = false := beq_eq_false_iff_ne.mpr c36
          have c36b1 : (((rd_T66 l0 a1).f0) != 8) = true := bne_iff_ne.mpr c36
          obtain rfl := Option.some.inj H
          have p246 : 0 ≤ (a1 : Int) := of_decide_eq_true (by first | (with_reducible assumption) | assumption)
          have q246 : a1 < (l0.length : Int) := of_decide_eq_true (by first | (with_reducible assumption) | assumption)
          obtain ⟨ad246, e246, hx246_0, hx246_1, hx246_2⟩ := at_T66 HR0.out a1 p246 q246
          cases e246
          replace p246 := eq_true p246
          replace q246 := eq_true q246
          have p258 : 0 ≤ (a1 : Int) := of_decide_eq_true (by first | (with_reducible assumption) | assumption)
          have q258 : a1 < (l0.length : Int) := of_decide_eq_true (by first | (with_reducible assumption) | assumption)
          obtain ⟨ad258, e258, hx258_0, hx258_1, hx258_2⟩ := at_T66 HR0.out a1 p258 q258
          obtain rfl : ad246 = ad258 := (by injection e258)
          replace p258 := eq_true p258
          replace q258 := eq_true q258
          go_enter Try.func44, Try.ntmps44
          go_wp2
          go_ret
          exact ⟨a1_, a2_⟩
  ·rw [if_neg c4] at H
   exact absurd H (by simp)
 ·rw [if_neg c3] at H
  exact absurd H (by simp)
end

/-! ### spec_l09Show2: function 44 -/
structure spec_l09Show2.B where
 c : spec_l09Show.C
def spec_l09Show2.I : Nat → spec_l09Show2.B
 | 0 => ⟨⟨fun _ _ => none, fun A0 c0 l0 a1 r w hr0 hc0 h => by cases h⟩⟩
 | k + 1 => ⟨⟨fun l0 a1 => @spec_l09Show1.f (spec_l09Show2.I k).c k l0 a1, fun A0 c0 l0 a1 r w hr0 hc0 h => @spec_l09Show1.calls (spec_l09Show2.I k).c k A0 c0 l0 a1 r w hr0 hc0 h⟩⟩
def spec_l09Show2.f (k : Nat) (l0 : List (S66)) (a1 : Int) : Option (ByteArray) := (spec_l09Show2.I k).c.f l0 a1
theorem spec_l09Show2.calls (k : Nat) (A0 : Option Addr) (c0 : Nat) (l0 : List (S66)) (a1 : Int) (r : ByteArray) (w : World) (hr0 : Kd.C k66 w A0 l0.length l0) (hc0 : l0.length ≤ c0) (h : spec_l09Show2.f k l0 a1 = some r) : Calls Try.prog 44 #[.slice A0 l0.length c0, .int .i64 a1] w fun e w' => e = .returned (.string r) ∧ Below w.heap.size w w' := (spec_l09Show2.I k).c.calls A0 c0 l0 a1 r w hr0 hc0 h

end Go.Proofs.Ytmecapnpgedcnaa.PFnExactShowSteps
