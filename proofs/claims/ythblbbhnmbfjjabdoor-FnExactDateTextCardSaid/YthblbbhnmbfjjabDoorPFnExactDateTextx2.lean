/- Walks of Go functions, written by program out of the print of the translation, with contracts of our own where the print has none. -/
import Derived.Test.YthblbbhnmbfjjabDoorPFnExactDateTextx0
import Derived.Test.YthblbbhnmbfjjabDoorPFnExactDateTextx1
namespace Go.Proofs.YthblbbhnmbfjjabDoor.PFnExactDateText
open Go.RowKit Go.Proofs.YthblbbhnmbfjjabDoorW.PrintWords Go.Proofs.YthblbbhnmbfjjabDoorW.PrintLast Go.Proofs.YthblbbhnmbfjjabDoorW.PrintMore
attribute [local go_sem] max2_int min2_int max_two min_two max_three min_three max_four min_four   -- for this text's walks alone
set_option linter.unusedVariables false
set_option linter.unusedSimpArgs false

/-! ### spec_l01Date: function 7 -/
mutual
def spec_l01Date.l0 : Nat → Int → Int → Option (ByteArray)
 | 0, _, _ => none
 | k + 1, x0, x3 => (spec_l01Days.f (wrap64 (x3 + 1))).bind fun t124 => (if t124 ≤ x0 then (spec_l01Date.l0 k x0 (wrap64 (x3 + 1))) else ((spec_l01Days.f x3).bind fun t125 => (spec_l01Date.l1 k (wrap64 (x0 - t125)) x3 1)))
def spec_l01Date.l1 : Nat → Int → Int → Int → Option (ByteArray)
 | 0, _, _, _ => none
 | k + 1, x0, x3, x4 => (spec_l01Month.f x3 x4).bind fun t126 => (if x0 ≥ t126 then ((spec_l01Month.f x3 x4).bind fun t127 => (spec_l01Date.l1 k (wrap64 (x0 - t127)) x3 (wrap64 (x4 + 1)))) else ((spec_l01Dec.f k x3).bind fun t128 => (spec_l01Date.l2 k x0 x4 t128)))
def spec_l01Date.l2 : Nat → Int → Int → ByteArray → Option (ByteArray)
 | 0, _, _, _ => none
 | k + 1, x0, x4, x5 => if (x5.size : Int) < 4 then (if 1 + x5.size ≤ 9223372036854775807 then (spec_l01Date.l2 k x0 x4 ((⟨#[48]⟩ : ByteArray) ++ x5)) else (none)) else (if 1 + x5.size ≤ 9223372036854775807 then (if ((⟨#[64]⟩ : ByteArray) ++ x5).size + 1 ≤ 9223372036854775807 then ((spec_l01Two.f k x4).bind fun t129 => (if (((⟨#[64]⟩ : ByteArray) ++ x5) ++ (⟨#[45]⟩ : ByteArray)).size + t129.size ≤ 9223372036854775807 then (if ((((⟨#[64]⟩ : ByteArray) ++ x5) ++ (⟨#[45]⟩ : ByteArray)) ++ t129).size + 1 ≤ 9223372036854775807 then ((spec_l01Two.f k (wrap64 (x0 + 1))).bind fun t130 => (if (((((⟨#[64]⟩ : ByteArray) ++ x5) ++ (⟨#[45]⟩ : ByteArray)) ++ t129) ++ (⟨#[45]⟩ : ByteArray)).size + t130.size ≤ 9223372036854775807 then (some ((((((⟨#[64]⟩ : ByteArray) ++ x5) ++ (⟨#[45]⟩ : ByteArray)) ++ t129) ++ (⟨#[45]⟩ : ByteArray)) ++ t130)) else (none))) else (none)) else (none))) else (none)) else (none))
end
def spec_l01Date.f (k : Nat) (a0 : Int) : Option (ByteArray) := spec_l01Date.l0 k a0 (wrap64 ((wrap64 (Int.tdiv a0 366)) + 1))
theorem spec_l01Date.mono_l : ∀ k, (∀ y0 y1, LeO (spec_l01Date.l0 k y0 y1) (spec_l01Date.l0 (k + 1) y0 y1)) ∧ (∀ y0 y1 y2, LeO (spec_l01Date.l1 k y0 y1 y2) (spec_l01Date.l1 (k + 1) y0 y1 y2)) ∧ (∀ y0 y1 y2, LeO (spec_l01Date.l2 k y0 y1 y2) (spec_l01Date.l2 (k + 1) y0 y1 y2))
 | 0 => ⟨fun _ _ r h => by simp [spec_l01Date.l0] at h, fun _ _ _ r h => by simp [spec_l01Date.l1] at h, fun _ _ _ r h => by simp [spec_l01Date.l2] at h⟩
 | k + 1 => by
  obtain ⟨ih0, ih1, ih2⟩ := spec_l01Date.mono_l k
  refine ⟨?_, ?_, ?_⟩
  ·intro y0 y1
   unfold spec_l01Date.l0
   repeat' first
   | (with_reducible exact ih0 _ _)
   | (with_reducible exact ih1 _ _ _)
   | (with_reducible exact ih2 _ _ _)
   | (with_reducible exact spec_l01Dec.mono _ _)
   | (with_reducible exact spec_l01Two.mono _ _)
   | (with_reducible exact LeO.refl _)
   | (with_reducible exact LeO.none _)
   | (with_reducible refine LeO.ite ?_ ?_)
   | (with_reducible refine LeO.bind ?_ (fun _ => ?_))
   | exact ih0 _ _
   | exact ih1 _ _ _
   | exact ih2 _ _ _
   | exact spec_l01Dec.mono _ _
   | exact spec_l01Two.mono _ _
   | exact LeO.none _
   | refine LeO.ite ?_ ?_
   | refine LeO.bind ?_ (fun _ => ?_)
  ·intro y0 y1 y2
   unfold spec_l01Date.l1
   repeat' first
   | (with_reducible exact ih0 _ _)
   | (with_reducible exact ih1 _ _ _)
   | (with_reducible exact ih2 _ _ _)
   | (with_reducible exact spec_l01Dec.mono _ _)
   | (with_reducible exact spec_l01Two.mono _ _)
   | (with_reducible exact LeO.refl _)
   | (with_reducible exact LeO.none _)
   | (with_reducible refine LeO.ite ?_ ?_)
   | (with_reducible refine LeO.bind ?_ (fun _ => ?_))
   | exact ih0 _ _
   | exact ih1 _ _ _
   | exact ih2 _ _ _
   | exact spec_l01Dec.mono _ _
   | exact spec_l01Two.mono _ _
   | exact LeO.none _
   | refine LeO.ite ?_ ?_
   | refine LeO.bind ?_ (fun _ => ?_)
  ·intro y0 y1 y2
   unfold spec_l01Date.l2
   repeat' first
   | (with_reducible exact ih0 _ _)
   | (with_reducible exact ih1 _ _ _)
   | (with_reducible exact ih2 _ _ _)
   | (with_reducible exact spec_l01Dec.mono _ _)
   | (with_reducible exact spec_l01Two.mono _ _)
   | (with_reducible exact LeO.refl _)
   | (with_reducible exact LeO.none _)
   | (with_reducible refine LeO.ite ?_ ?_)
   | (with_reducible refine LeO.bind ?_ (fun _ => ?_))
   | exact ih0 _ _
   | exact ih1 _ _ _
   | exact ih2 _ _ _
   | exact spec_l01Dec.mono _ _
   | exact spec_l01Two.mono _ _
   | exact LeO.none _
   | refine LeO.ite ?_ ?_
   | refine LeO.bind ?_ (fun _ => ?_)
theorem spec_l01Date.mono : ∀ a0 k, LeO (spec_l01Date.f k a0) (spec_l01Date.f (k + 1) a0) := by
 intro a0 k
 obtain ⟨ih0, ih1, ih2⟩ := spec_l01Date.mono_l k
 unfold spec_l01Date.f
 repeat' first
   | (with_reducible exact ih0 _ _)
   | (with_reducible exact ih1 _ _ _)
   | (with_reducible exact ih2 _ _ _)
   | (with_reducible exact spec_l01Dec.mono _ _)
   | (with_reducible exact spec_l01Two.mono _ _)
   | (with_reducible exact LeO.refl _)
   | (with_reducible exact LeO.none _)
   | (with_reducible refine LeO.ite ?_ ?_)
   | (with_reducible refine LeO.bind ?_ (fun _ => ?_))
   | exact ih0 _ _
   | exact ih1 _ _ _
   | exact ih2 _ _ _
   | exact spec_l01Dec.mono _ _
   | exact spec_l01Two.mono _ _
   | exact LeO.none _
   | refine LeO.ite ?_ ?_
   | refine LeO.bind ?_ (fun _ => ?_)
set_option maxHeartbeats 8000000 in
set_option maxRecDepth 100000 in
theorem spec_l01Date.calls (k : Nat) (a0 : Int) (r : ByteArray) (w : World) (h : spec_l01Date.f k a0 = some r) :
  Calls Tryd.prog 7 #[.int .i64 a0] w fun e w' => e = .returned (.string r) ∧ Below w.heap.size w w' := by
 have HB := Aside0.mk (Below.refl w.heap.size w)
 have H : (spec_l01Date.l0 k a0 (wrap64 ((wrap64 (Int.tdiv a0 366)) + 1))) = some r := h
 clear h
 have H' := Aside0.mk H
 clear H
 go_enter Tryd.func7, Tryd.ntmps7
 go_wp2
 go_loopg [3] k (fun kq v3 w' => ∃ (x3_1 : Int), v3 = .int .i64 x3_1 ∧ Aside0 (spec_l01Date.l0 kq a0 x3_1 = some r) ∧ Aside0 (kq ≤ k) ∧ Aside0 (Below w.heap.size w w'))
 case atStart => exact ⟨(wrap64 ((wrap64 (Int.tdiv a0 366)) + 1)), (by first | rfl | (simp; done) | (simp [*]; done)), H', ⟨Nat.le_refl _⟩, ⟨by repeat (first | (with_reducible first | exact HB.out | apply below_alloc | apply pw_below_drewN | apply below_drew1) | exact HB.out)⟩⟩
 case round =>
  clear H'
  obtain ⟨x3_1, rfl, HA, HK1, HB⟩ := hrel
  cases gk with
  | zero => exact absurd HA.out (by simp [spec_l01Date.l0])
  | succ k1 =>
   have H := HA.out
   clear HA
   simp only [spec_l01Date.l0] at H
   replace H := Option.bind_eq_some_iff.mp H
   obtain ⟨t124, A20, H⟩ := H
   replace H : (if t124 ≤ a0 then (spec_l01Date.l0 k1 a0 (wrap64 (x3_1 + 1))) else ((spec_l01Days.f x3_1).bind fun t125 => (spec_l01Date.l1 k1 (wrap64 (a0 - t125)) x3_1 1))) = some r := H
   have A2 := Aside0.mk A20
   clear A20
   by_cases c3 : t124 ≤ a0
   ·rw [if_pos c3] at H
    have c3b0 : decide (t124 ≤ a0) = true := decide_eq_true c3
    clear c3
    have H' := Aside0.mk H
    clear H
    go_wp2_with (first | ((with_reducible refine gate_callee (f := 6) rfl ?_); refine goesL_ (some 11) rfl rfl Tryd.func6 (by kernel_rfl) rfl #[.int .i64 (wrap64 (x3_1 + 1))] rfl (by (try simp only [List.map_toArray, List.map_cons, List.map_nil]); first | done | rfl | (simp only [List.length_drop, List.length_take]; rfl)) ?_; (with_reducible refine (spec_l01Days.calls (wrap64 (x3_1 + 1)) t124 _ A2.out).mono ?_); rintro e w' ⟨rfl, ⟨nd, rfl⟩⟩; refine ⟨_, rfl, ?_⟩))
    go_roundg k1
    case measure => have := HK1.out; omega
    case rel => exact ⟨(wrap64 (x3_1 + 1)), (by first | rfl | (simp; done) | (simp [*]; done)), H', ⟨by have := HK1.out; omega⟩, ⟨by repeat (first | (with_reducible first | exact HB.out | apply below_alloc | apply pw_below_drewN | apply below_drew1) | exact HB.out)⟩⟩
   ·rw [if_neg c3] at H
    have c3b0 : decide (t124 ≤ a0) = false := decide_eq_false c3
    clear c3
    replace H := Option.bind_eq_some_iff.mp H
    obtain ⟨t125, A40, H⟩ := H
    replace H : (spec_l01Date.l1 k1 (wrap64 (a0 - t125)) x3_1 1) = some r := H
    have A4 := Aside0.mk A40
    clear A40
    have H' := Aside0.mk H
    clear H
    go_wp2_with (first | ((with_reducible refine gate_callee (f := 6) rfl ?_); refine goesL_ (some 11) rfl rfl Tryd.func6 (by kernel_rfl) rfl #[.int .i64 (wrap64 (x3_1 + 1))] rfl (by (try simp only [List.map_toArray, List.map_cons, List.map_nil]); first | done | rfl | (simp only [List.length_drop, List.length_take]; rfl)) ?_; (with_reducible refine (spec_l01Days.calls (wrap64 (x3_1 + 1)) t124 _ A2.out).mono ?_); rintro e w' ⟨rfl, ⟨nd, rfl⟩⟩; refine ⟨_, rfl, ?_⟩) | ((with_reducible refine gate_callee (f := 6) rfl ?_); refine goesL_ (some 18) rfl rfl Tryd.func6 (by kernel_rfl) rfl #[.int .i64 x3_1] rfl (by (try simp only [List.map_toArray, List.map_cons, List.map_nil]); first | done | rfl | (simp only [List.length_drop, List.length_take]; rfl)) ?_; (with_reducible refine (spec_l01Days.calls x3_1 t125 _ A4.out).mono ?_); rintro e w' ⟨rfl, ⟨nd, rfl⟩⟩; refine ⟨_, rfl, ?_⟩))
    go_loopg [0, 4] k1 (fun kq v0 v4 w' => ∃ (x0_2 : Int) (x4_2 : Int), v0 = .int .i64 x0_2 ∧ v4 = .int .i64 x4_2 ∧ Aside0 (spec_l01Date.l1 kq x0_2 x3_1 x4_2 = some r) ∧ Aside0 (kq ≤ k1) ∧ Aside0 (Below w.heap.size w w'))
    case atStart => exact ⟨(wrap64 (a0 - t125)), (1), (by first | rfl | (simp; done) | (simp [*]; done)), (by first | rfl | (simp; done) | (simp [*]; done)), H', ⟨Nat.le_refl _⟩, ⟨by repeat (first | (with_reducible first | exact HB.out | apply below_alloc | apply pw_below_drewN | apply below_drew1) | exact HB.out)⟩⟩
    case round =>
     clear H'
     try clear p2
     try clear c3
     try clear c3b0
     obtain ⟨x0_2, x4_2, rfl, rfl, HA, HK2, HB⟩ := hrel
     cases gk with
     | zero => exact absurd HA.out (by simp [spec_l01Date.l1])
     | succ k2 =>
      have H := HA.out
      clear HA
      simp only [spec_l01Date.l1] at H
      replace H := Option.bind_eq_some_iff.mp H
      obtain ⟨t126, A50, H⟩ := H
      replace H : (if x0_2 ≥ t126 then ((spec_l01Month.f x3_1 x4_2).bind fun t127 => (spec_l01Date.l1 k2 (wrap64 (x0_2 - t127)) x3_1 (wrap64 (x4_2 + 1)))) else ((spec_l01Dec.f k2 x3_1).bind fun t128 => (spec_l01Date.l2 k2 x0_2 x4_2 t128))) = some r := H
      have A5 := Aside0.mk A50
      clear A50
      by_cases c6 : x0_2 ≥ t126
      ·rw [if_pos c6] at H
       have c6b0 : decide (t126 ≤ x0_2) = true := decide_eq_true c6
       clear c6
       replace H := Option.bind_eq_some_iff.mp H
       obtain ⟨t127, A70, H⟩ := H
       replace H : (spec_l01Date.l1 k2 (wrap64 (x0_2 - t127)) x3_1 (wrap64 (x4_2 + 1))) = some r := H
       have A7 := Aside0.mk A70
       clear A70
       have H' := Aside0.mk H
       clear H
       go_wp2_with (first | ((with_reducible refine gate_callee (f := 9) rfl ?_); refine goesL_ (some 23) rfl rfl Tryd.func9 (by kernel_rfl) rfl #[.int .i64 x3_1, .int .i64 x4_2] rfl (by (try simp only [List.map_toArray, List.map_cons, List.map_nil]); first | done | rfl | (simp only [List.length_drop, List.length_take]; rfl)) ?_; (with_reducible refine (spec_l01Month.calls x3_1 x4_2 t126 _ A5.out).mono ?_); rintro e w8 ⟨rfl, hb⟩; refine ⟨_, rfl, ?_⟩; have n0_ := Aside0.mk (below_step (by repeat (first | (with_reducible first | exact HB.out | apply below_alloc | apply pw_below_drewN | apply below_drew1) | exact HB.out)) hb); clear HB; have HB := n0_; clear n0_; (try clear hb); (try clear hb2); (try clear hk); (try clear hi)) | ((with_reducible refine gate_callee (f := 9) rfl ?_); refine goesL_ (some 28) rfl rfl Tryd.func9 (by kernel_rfl) rfl #[.int .i64 x3_1, .int .i64 x4_2] rfl (by (try simp only [List.map_toArray, List.map_cons, List.map_nil]); first | done | rfl | (simp only [List.length_drop, List.length_take]; rfl)) ?_; (with_reducible refine (spec_l01Month.calls x3_1 x4_2 t127 _ A7.out).mono ?_); rintro e w9 ⟨rfl, hb⟩; refine ⟨_, rfl, ?_⟩; have n0_ := Aside0.mk (below_step (by repeat (first | (with_reducible first | exact HB.out | apply below_alloc | apply pw_below_drewN | apply below_drew1) | exact HB.out)) hb); clear HB; have HB := n0_; clear n0_; (try clear hb); (try clear hb2); (try clear hk); (try clear hi)))
       go_roundg k2
       case measure => have := HK1.out; have := HK2.out; omega
       case rel => exact ⟨(wrap64 (x0_2 - t127)), (wrap64 (x4_2 + 1)), (by first | rfl | (simp; done) | (simp [*]; done)), (by first | rfl | (simp; done) | (simp [*]; done)), H', ⟨by have := HK1.out; have := HK2.out; omega⟩, ⟨by repeat (first | (with_reducible first | exact HB.out | apply below_alloc | apply pw_below_drewN | apply below_drew1) | exact HB.out)⟩⟩
      ·rw [if_neg c6] at H
       have c6b0 : decide (t126 ≤ x0_2) = false := decide_eq_false c6
       clear c6
       replace H := Option.bind_eq_some_iff.mp H
       obtain ⟨t128, A100, H⟩ := H
       replace H : (spec_l01Date.l2 k2 x0_2 x4_2 t128) = some r := H
       have A10 := Aside0.mk A100
       clear A100
       have H' := Aside0.mk H
       clear H
       go_wp2_with (first | ((with_reducible refine gate_callee (f := 9) rfl ?_); refine goesL_ (some 23) rfl rfl Tryd.func9 (by kernel_rfl) rfl #[.int .i64 x3_1, .int .i64 x4_2] rfl (by (try simp only [List.map_toArray, List.map_cons, List.map_nil]); first | done | rfl | (simp only [List.length_drop, List.length_take]; rfl)) ?_; (with_reducible refine (spec_l01Month.calls x3_1 x4_2 t126 _ A5.out).mono ?_); rintro e w11 ⟨rfl, hb⟩; refine ⟨_, rfl, ?_⟩; have n0_ := Aside0.mk (below_step (by repeat (first | (with_reducible first | exact HB.out | apply below_alloc | apply pw_below_drewN | apply below_drew1) | exact HB.out)) hb); clear HB; have HB := n0_; clear n0_; (try clear hb); (try clear hb2); (try clear hk); (try clear hi)) | ((with_reducible refine gate_callee (f := 10) rfl ?_); refine goesL_ (some 33) rfl rfl Tryd.func10 (by kernel_rfl) rfl #[.int .i64 x3_1] rfl (by (try simp only [List.map_toArray, List.map_cons, List.map_nil]); first | done | rfl | (simp only [List.length_drop, List.length_take]; rfl)) ?_; (with_reducible refine (spec_l01Dec.calls k2 x3_1 t128 _ A10.out).mono ?_); rintro e w12 ⟨rfl, hb⟩; refine ⟨_, rfl, ?_⟩; have n0_ := Aside0.mk (below_step (by repeat (first | (with_reducible first | exact HB.out | apply below_alloc | apply pw_below_drewN | apply below_drew1) | exact HB.out)) hb); clear HB; have HB := n0_; clear n0_; (try clear hb); (try clear hb2); (try clear hk); (try clear hi)))
       go_loopg [5] k2 (fun kq v5 w' => ∃ (x5_3 : ByteArray), v5 = .string x5_3 ∧ Aside0 (spec_l01Date.l2 kq x0_2 x4_2 x5_3 = some r) ∧ Aside0 (kq ≤ k2) ∧ Aside0 (Below w.heap.size w w'))
       case atStart => exact ⟨(t128), (by first | rfl | (simp; done) | (simp [*]; done)), H', ⟨Nat.le_refl _⟩, ⟨by repeat (first | (with_reducible first | exact HB.out | apply below_alloc | apply pw_below_drewN | apply below_drew1) | exact HB.out)⟩⟩
       case round =>
        clear H'
        try clear c1
        try clear p2
        try clear c3
        try clear c3b0
        try clear c6
        try clear c6b0
        try clear p6
        try clear c7
        try clear c9
        try clear c10
        try clear p2
        obtain ⟨x5_3, rfl, HA, HK3, HB⟩ := hrel
        cases gk with
        | zero => exact absurd HA.out (by simp [spec_l01Date.l2])
        | succ k3 =>
         have H := HA.out
         clear HA
         simp only [spec_l01Date.l2] at H
         by_cases c13 : (x5_3.size : Int) < 4
         ·rw [if_pos c13] at H
          have c13b0 : decide ((x5_3.size : Int) < 4) = true := decide_eq_true c13
          have c13b1 : decide (x5_3.size < 4) = true := decide_eq_true (by omega)
          clear c13
          by_cases c14 : 1 + x5_3.size ≤ 9223372036854775807
          ·rw [if_pos c14] at H
           have c14b0 := eq_true c14
           have c14b1 : decide (1 + x5_3.size ≤ 9223372036854775807) = true := decide_eq_true c14
           try have c14b2 : (9223372036854775807 < 1 + x5_3.size) = False := eq_false (Nat.not_lt.2 c14)
           have H' := Aside0.mk H
           clear H
           go_wp2
           go_roundg k3
           case measure => have := HK1.out; have := HK2.out; have := HK3.out; omega
           case rel => exact ⟨((⟨#[48]⟩ : ByteArray) ++ x5_3), (by first | rfl | (simp; done) | (simp [*]; done)), H', ⟨by have := HK1.out; have := HK2.out; have := HK3.out; omega⟩, ⟨by repeat (first | (with_reducible first | exact HB.out | apply below_alloc | apply pw_below_drewN | apply below_drew1) | exact HB.out)⟩⟩
          ·rw [if_neg c14] at H
           exact absurd H (by simp)
         ·rw [if_neg c13] at H
          have c13b0 : decide ((x5_3.size : Int) < 4) = false := decide_eq_false c13
          have c13b1 : decide (x5_3.size < 4) = false := decide_eq_false (by omega)
          clear c13
          by_cases c15 : 1 + x5_3.size ≤ 9223372036854775807
          ·rw [if_pos c15] at H
           have c15b0 := eq_true c15
           have c15b1 : decide (1 + x5_3.size ≤ 9223372036854775807) = true := decide_eq_true c15
           try have c15b2 : (9223372036854775807 < 1 + x5_3.size) = False := eq_false (Nat.not_lt.2 c15)
           by_cases c16 : ((⟨#[64]⟩ : ByteArray) ++ x5_3).size + 1 ≤ 9223372036854775807
           ·rw [if_pos c16] at H
            have c16b0 := eq_true c16
            have c16s : (1 + (x5_3).size) + 1 ≤ 9223372036854775807 := by (have h_ := c16; (try simp only [ByteArray.size_append] at h_); first | exact h_ | omega)
            have c16b1 : decide (((⟨#[64]⟩ : ByteArray) ++ x5_3).size + 1 ≤ 9223372036854775807) = true := decide_eq_true c16
            try have c16b2 : (9223372036854775807 < ((⟨#[64]⟩ : ByteArray) ++ x5_3).size + 1) = False := eq_false (Nat.not_lt.2 c16)
            replace H := Option.bind_eq_some_iff.mp H
            obtain ⟨t129, A170, H⟩ := H
            replace H : (if (((⟨#[64]⟩ : ByteArray) ++ x5_3) ++ (⟨#[45]⟩ : ByteArray)).size + t129.size ≤ 9223372036854775807 then (if ((((⟨#[64]⟩ : ByteArray) ++ x5_3) ++ (⟨#[45]⟩ : ByteArray)) ++ t129).size + 1 ≤ 9223372036854775807 then ((spec_l01Two.f k3 (wrap64 (x0_2 + 1))).bind fun t130 => (if (((((⟨#[64]⟩ : ByteArray) ++ x5_3) ++ (⟨#[45]⟩ : ByteArray)) ++ t129) ++ (⟨#[45]⟩ : ByteArray)).size + t130.size ≤ 9223372036854775807 then (some ((((((⟨#[64]⟩ : ByteArray) ++ x5_3) ++ (⟨#[45]⟩ : ByteArray)) ++ t129) ++ (⟨#[45]⟩ : ByteArray)) ++ t130)) else (none))) else (none)) else (none)) = some r := H
            have A17 := Aside0.mk A170
            clear A170
            by_cases c18 : (((⟨#[64]⟩ : ByteArray) ++ x5_3) ++ (⟨#[45]⟩ : ByteArray)).size + t129.size ≤ 9223372036854775807
            ·rw [if_pos c18] at H
             have c18b0 := eq_true c18
             have c18s : (1 + (x5_3).size + 1) + ((t129).size) ≤ 9223372036854775807 := by (have h_ := c18; (try simp only [ByteArray.size_append] at h_); first | exact h_ | omega)
             have c18b1 : decide ((((⟨#[64]⟩ : ByteArray) ++ x5_3) ++ (⟨#[45]⟩ : ByteArray)).size + t129.size ≤ 9223372036854775807) = true := decide_eq_true c18
             try have c18b2 : (9223372036854775807 < (((⟨#[64]⟩ : ByteArray) ++ x5_3) ++ (⟨#[45]⟩ : ByteArray)).size + t129.size) = False := eq_false (Nat.not_lt.2 c18)
             by_cases c19 : ((((⟨#[64]⟩ : ByteArray) ++ x5_3) ++ (⟨#[45]⟩ : ByteArray)) ++ t129).size + 1 ≤ 9223372036854775807
             ·rw [if_pos c19] at H
              have c19b0 := eq_true c19
              have c19s : (1 + (x5_3).size + 1 + (t129).size) + 1 ≤ 9223372036854775807 := by (have h_ := c19; (try simp only [ByteArray.size_append] at h_); first | exact h_ | omega)
              have c19b1 : decide (((((⟨#[64]⟩ : ByteArray) ++ x5_3) ++ (⟨#[45]⟩ : ByteArray)) ++ t129).size + 1 ≤ 9223372036854775807) = true := decide_eq_true c19
              try have c19b2 : (9223372036854775807 < ((((⟨#[64]⟩ : ByteArray) ++ x5_3) ++ (⟨#[45]⟩ : ByteArray)) ++ t129).size + 1) = False := eq_false (Nat.not_lt.2 c19)
              replace H := Option.bind_eq_some_iff.mp H
              obtain ⟨t130, A200, H⟩ := H
              replace H : (if (((((⟨#[64]⟩ : ByteArray) ++ x5_3) ++ (⟨#[45]⟩ : ByteArray)) ++ t129) ++ (⟨#[45]⟩ : ByteArray)).size + t130.size ≤ 9223372036854775807 then (some ((((((⟨#[64]⟩ : ByteArray) ++ x5_3) ++ (⟨#[45]⟩ : ByteArray)) ++ t129) ++ (⟨#[45]⟩ : ByteArray)) ++ t130)) else (none)) = some r := H
              have A20 := Aside0.mk A200
              clear A200
              by_cases c21 : (((((⟨#[64]⟩ : ByteArray) ++ x5_3) ++ (⟨#[45]⟩ : ByteArray)) ++ t129) ++ (⟨#[45]⟩ : ByteArray)).size + t130.size ≤ 9223372036854775807
              ·rw [if_pos c21] at H
               have c21b0 := eq_true c21
               have c21s : (1 + (x5_3).size + 1 + (t129).size + 1) + ((t130).size) ≤ 9223372036854775807 := by (have h_ := c21; (try simp only [ByteArray.size_append] at h_); first | exact h_ | omega)
               have c21b1 : decide ((((((⟨#[64]⟩ : ByteArray) ++ x5_3) ++ (⟨#[45]⟩ : ByteArray)) ++ t129) ++ (⟨#[45]⟩ : ByteArray)).size + t130.size ≤ 9223372036854775807) = true := decide_eq_true c21
               try have c21b2 : (9223372036854775807 < (((((⟨#[64]⟩ : ByteArray) ++ x5_3) ++ (⟨#[45]⟩ : ByteArray)) ++ t129) ++ (⟨#[45]⟩ : ByteArray)).size + t130.size) = False := eq_false (Nat.not_lt.2 c21)
               obtain rfl := Option.some.inj H
               go_wp2_with (first | ((with_reducible refine gate_callee (f := 11) rfl ?_); refine goesL_ (some 43) rfl rfl Tryd.func11 (by kernel_rfl) rfl #[.int .i64 x4_2] rfl (by (try simp only [List.map_toArray, List.map_cons, List.map_nil]); first | done | rfl | (simp only [List.length_drop, List.length_take]; rfl)) ?_; (with_reducible refine (spec_l01Two.calls k3 x4_2 t129 _ A17.out).mono ?_); rintro e w22 ⟨rfl, hb⟩; refine ⟨_, rfl, ?_⟩; have n0_ := Aside0.mk (below_step (by repeat (first | (with_reducible first | exact HB.out | apply below_alloc | apply pw_below_drewN | apply below_drew1) | exact HB.out)) hb); clear HB; have HB := n0_; clear n0_; (try clear hb); (try clear hb2); (try clear hk); (try clear hi)) | ((with_reducible refine gate_callee (f := 11) rfl ?_); refine goesL_ (some 48) rfl rfl Tryd.func11 (by kernel_rfl) rfl #[.int .i64 (wrap64 (x0_2 + 1))] rfl (by (try simp only [List.map_toArray, List.map_cons, List.map_nil]); first | done | rfl | (simp only [List.length_drop, List.length_take]; rfl)) ?_; (with_reducible refine (spec_l01Two.calls k3 (wrap64 (x0_2 + 1)) t130 _ A20.out).mono ?_); rintro e w23 ⟨rfl, hb⟩; refine ⟨_, rfl, ?_⟩; have n0_ := Aside0.mk (below_step (by repeat (first | (with_reducible first | exact HB.out | apply below_alloc | apply pw_below_drewN | apply below_drew1) | exact HB.out)) hb); clear HB; have HB := n0_; clear n0_; (try clear hb); (try clear hb2); (try clear hk); (try clear hi)))
               go_ret
               exact ⟨by first | rfl | (simp [errW_none, errW_some] <;> rfl) | (simp [*, errW_none, errW_some] <;> rfl), by repeat (first | (with_reducible first | exact HB.out | apply below_alloc | apply pw_below_drewN | apply below_drew1) | exact HB.out)⟩
              ·rw [if_neg c21] at H
               exact absurd H (by simp)
             ·rw [if_neg c19] at H
              exact absurd H (by simp)
            ·rw [if_neg c18] at H
             exact absurd H (by simp)
           ·rw [if_neg c16] at H
            exact absurd H (by simp)
          ·rw [if_neg c15] at H
           exact absurd H (by simp)

/-! ### spec_DateText: function 4 -/
def spec_DateText.f (k : Nat) (a0 : Int) : Option (ByteArray) := if a0 < 0 then (some (⟨#[]⟩ : ByteArray)) else ((spec_l01Days.f 10000).bind fun t131 => (if a0 ≥ t131 then (some (⟨#[]⟩ : ByteArray)) else ((spec_l01Date.f k a0).bind fun t132 => (some t132))))
theorem spec_DateText.mono : ∀ a0 k, LeO (spec_DateText.f k a0) (spec_DateText.f (k + 1) a0) := by
 intro a0 k
 unfold spec_DateText.f
 repeat' first
   | (with_reducible exact spec_l01Date.mono _ _)
   | (with_reducible exact LeO.refl _)
   | (with_reducible exact LeO.none _)
   | (with_reducible refine LeO.ite ?_ ?_)
   | (with_reducible refine LeO.bind ?_ (fun _ => ?_))
   | exact spec_l01Date.mono _ _
   | exact LeO.none _
   | refine LeO.ite ?_ ?_
   | refine LeO.bind ?_ (fun _ => ?_)
set_option maxHeartbeats 8000000 in
set_option maxRecDepth 100000 in
theorem spec_DateText.calls (k : Nat) (a0 : Int) (r : ByteArray) (w : World) (h : spec_DateText.f k a0 = some r) :
  Calls Tryd.prog 4 #[.int .i64 a0] w fun e w' => e = .returned (.string r) ∧ Below w.heap.size w w' := by
 have HB := Aside0.mk (Below.refl w.heap.size w)
 have H : (if a0 < 0 then (some (⟨#[]⟩ : ByteArray)) else ((spec_l01Days.f 10000).bind fun t131 => (if a0 ≥ t131 then (some (⟨#[]⟩ : ByteArray)) else ((spec_l01Date.f k a0).bind fun t132 => (some t132))))) = some r := h
 clear h
 by_cases c2 : a0 < 0
 ·rw [if_pos c2] at H
  have c2b0 : decide (a0 < 0) = true := decide_eq_true c2
  clear c2
  obtain rfl := Option.some.inj H
  go_enter Tryd.func4, Tryd.ntmps4
  go_wp2
  go_ret
  exact ⟨by first | rfl | (simp [errW_none, errW_some] <;> rfl) | (simp [*, errW_none, errW_some] <;> rfl), by repeat (first | (with_reducible first | exact HB.out | apply below_alloc | apply pw_below_drewN | apply below_drew1) | exact HB.out)⟩
 ·rw [if_neg c2] at H
  have c2b0 : decide (a0 < 0) = false := decide_eq_false c2
  clear c2
  replace H := Option.bind_eq_some_iff.mp H
  obtain ⟨t131, A30, H⟩ := H
  replace H : (if a0 ≥ t131 then (some (⟨#[]⟩ : ByteArray)) else ((spec_l01Date.f k a0).bind fun t132 => (some t132))) = some r := H
  have A3 := Aside0.mk A30
  clear A30
  by_cases c4 : a0 ≥ t131
  ·rw [if_pos c4] at H
   have c4b0 : decide (t131 ≤ a0) = true := decide_eq_true c4
   clear c4
   obtain rfl := Option.some.inj H
   go_enter Tryd.func4, Tryd.ntmps4
   go_wp2_with (first | (go_at_call 6; (with_reducible refine (spec_l01Days.calls 10000 t131 _ A3.out).mono ?_); rintro e w' ⟨rfl, ⟨nd, rfl⟩⟩))
   go_ret
   exact ⟨by first | rfl | (simp [errW_none, errW_some] <;> rfl) | (simp [*, errW_none, errW_some] <;> rfl), by repeat (first | (with_reducible first | exact HB.out | apply below_alloc | apply pw_below_drewN | apply below_drew1) | exact HB.out)⟩
  ·rw [if_neg c4] at H
   have c4b0 : decide (t131 ≤ a0) = false := decide_eq_false c4
   clear c4
   replace H := Option.bind_eq_some_iff.mp H
   obtain ⟨t132, A50, H⟩ := H
   replace H : (some t132) = some r := H
   have A5 := Aside0.mk A50
   clear A50
   obtain rfl := Option.some.inj H
   go_enter Tryd.func4, Tryd.ntmps4
   go_wp2_with (first | (go_at_call 6; (with_reducible refine (spec_l01Days.calls 10000 t131 _ A3.out).mono ?_); rintro e w' ⟨rfl, ⟨nd, rfl⟩⟩) | ((with_reducible refine gate_callee (f := 7) rfl ?_); refine goesL_ (some 11) rfl rfl Tryd.func7 (by kernel_rfl) rfl #[.int .i64 a0] rfl (by (try simp only [List.map_toArray, List.map_cons, List.map_nil]); first | done | rfl | (simp only [List.length_drop, List.length_take]; rfl)) ?_; (with_reducible refine (spec_l01Date.calls k a0 t132 _ A5.out).mono ?_); rintro e w6 ⟨rfl, hb⟩; refine ⟨_, rfl, ?_⟩; have n0_ := Aside0.mk (below_step (by repeat (first | (with_reducible first | exact HB.out | apply below_alloc | apply pw_below_drewN | apply below_drew1) | exact HB.out)) hb); clear HB; have HB := n0_; clear n0_; (try clear hb); (try clear hb2); (try clear hk); (try clear hi)))
   go_ret
   exact ⟨by first | rfl | (simp [errW_none, errW_some] <;> rfl) | (simp [*, errW_none, errW_some] <;> rfl), by repeat (first | (with_reducible first | exact HB.out | apply below_alloc | apply pw_below_drewN | apply below_drew1) | exact HB.out)⟩

/-! ### impl_leap: function 18 -/
def impl_leap.f (a0 : Int) : Option (Bool) := if (Int.tmod a0 4) = 0 then (if (Int.tmod a0 100) = 0 then (some ((Int.tmod a0 400) == 0)) else (some true)) else (some false)
set_option maxHeartbeats 8000000 in
set_option maxRecDepth 100000 in
theorem impl_leap.calls (a0 : Int) (r : Bool) (w : World) (h : impl_leap.f a0 = some r) :
  Calls Tryd.prog 18 #[.int .i64 a0] w fun e w' => e = .returned (.bool r) ∧ Drawn0 w w' := by
 have H : (if (Int.tmod a0 4) = 0 then (if (Int.tmod a0 100) = 0 then (some ((Int.tmod a0 400) == 0)) else (some true)) else (some false)) = some r := h
 clear h
 by_cases c2 : (Int.tmod a0 4) = 0
 ·rw [if_pos c2] at H
  have c2b0 : ((Int.tmod a0 4) == 0) = true := beq_iff_eq.mpr c2
  have c2b1 : ((Int.tmod a0 4) != 0) = false := bne_eq_false_iff_eq.mpr c2
  clear c2
  by_cases c3 : (Int.tmod a0 100) = 0
  ·rw [if_pos c3] at H
   have c3b0 : ((Int.tmod a0 100) == 0) = true := beq_iff_eq.mpr c3
   have c3b1 : ((Int.tmod a0 100) != 0) = false := bne_eq_false_iff_eq.mpr c3
   clear c3
   obtain rfl := Option.some.inj H
   go_enter Tryd.func18, Tryd.ntmps18
   go_wp2
   go_ret
   exact ⟨by first | rfl | (simp; done) | (simp [*]; done), by repeat (first | exact Drawn0.refl _ | apply Drawn0.step)⟩
  ·rw [if_neg c3] at H
   have c3b0 : ((Int.tmod a0 100) == 0) = false := beq_eq_false_iff_ne.mpr c3
   have c3b1 : ((Int.tmod a0 100) != 0) = true := bne_iff_ne.mpr c3
   obtain rfl := Option.some.inj H
   go_enter Tryd.func18, Tryd.ntmps18
   go_wp2
   go_ret
   exact ⟨by first | rfl | (simp; done) | (simp [*]; done), by repeat (first | exact Drawn0.refl _ | apply Drawn0.step)⟩
 ·rw [if_neg c2] at H
  have c2b0 : ((Int.tmod a0 4) == 0) = false := beq_eq_false_iff_ne.mpr c2
  have c2b1 : ((Int.tmod a0 4) != 0) = true := bne_iff_ne.mpr c2
  obtain rfl := Option.some.inj H
  go_enter Tryd.func18, Tryd.ntmps18
  go_wp2
  go_ret
  exact ⟨by first | rfl | (simp; done) | (simp [*]; done), by repeat (first | exact Drawn0.refl _ | apply Drawn0.step)⟩

/-! ### impl_monthDays: function 13 -/
def impl_monthDays.f (a0 : Int) (a1 : Int) : Option (Int) := if a1 = 2 then ((impl_leap.f a0).bind fun t133 => (if t133 = true then (some 29) else (some 28))) else (if a1 = 4 then (some 30) else (if a1 = 6 then (some 30) else (if a1 = 9 then (some 30) else (if a1 = 11 then (some 30) else (some 31)))))
set_option maxHeartbeats 8000000 in
set_option maxRecDepth 100000 in
theorem impl_monthDays.calls (a0 : Int) (a1 : Int) (r : Int) (w : World) (h : impl_monthDays.f a0 a1 = some r) :
  Calls Tryd.prog 13 #[.int .i64 a0, .int .i64 a1] w fun e w' => e = .returned (.int .i64 r) ∧ Drawn0 w w' := by
 have H : (if a1 = 2 then ((impl_leap.f a0).bind fun t133 => (if t133 = true then (some 29) else (some 28))) else (if a1 = 4 then (some 30) else (if a1 = 6 then (some 30) else (if a1 = 9 then (some 30) else (if a1 = 11 then (some 30) else (some 31)))))) = some r := h
 clear h
 by_cases c3 : a1 = 2
 ·rw [if_pos c3] at H
  have c3b0 : (a1 == 2) = true := beq_iff_eq.mpr c3
  have c3b1 : (a1 != 2) = false := bne_eq_false_iff_eq.mpr c3
  clear c3
  replace H := Option.bind_eq_some_iff.mp H
  obtain ⟨t133, A40, H⟩ := H
  replace H : (if t133 = true then (some 29) else (some 28)) = some r := H
  have A4 := Aside0.mk A40
  clear A40
  by_cases c5 : t133 = true
  ·subst c5
   have H1 : (some 29) = some r := by rw [if_pos rfl] at H; exact H
   clear H
   have H := H1
   clear H1
   obtain rfl := Option.some.inj H
   go_enter Tryd.func13, Tryd.ntmps13
   go_wp2_with (first | ((with_reducible refine gate_callee (f := 18) rfl ?_); refine goesL_ (some 9) rfl rfl Tryd.func18 (by kernel_rfl) rfl #[.int .i64 a0] rfl (by (try simp only [List.map_toArray, List.map_cons, List.map_nil]); first | done | rfl | (simp only [List.length_drop, List.length_take]; rfl)) ?_; (with_reducible refine (impl_leap.calls a0 true _ A4.out).mono ?_); rintro e w' ⟨rfl, ⟨nd, rfl⟩⟩; refine ⟨_, rfl, ?_⟩))
   go_ret
   exact ⟨by first | rfl | (simp; done) | (simp [*]; done), by repeat (first | exact Drawn0.refl _ | apply Drawn0.step)⟩
  ·replace c5 := Bool.eq_false_iff.mpr c5
   subst c5
   have H1 : (some 28) = some r := by rw [if_neg (show ¬ (false = true) by decide)] at H; exact H
   clear H
   have H := H1
   clear H1
   obtain rfl := Option.some.inj H
   go_enter Tryd.func13, Tryd.ntmps13
   go_wp2_with (first | ((with_reducible refine gate_callee (f := 18) rfl ?_); refine goesL_ (some 9) rfl rfl Tryd.func18 (by kernel_rfl) rfl #[.int .i64 a0] rfl (by (try simp only [List.map_toArray, List.map_cons, List.map_nil]); first | done | rfl | (simp only [List.length_drop, List.length_take]; rfl)) ?_; (with_reducible refine (impl_leap.calls a0 false _ A4.out).mono ?_); rintro e w' ⟨rfl, ⟨nd, rfl⟩⟩; refine ⟨_, rfl, ?_⟩))
   go_ret
   exact ⟨by first | rfl | (simp; done) | (simp [*]; done), by repeat (first | exact Drawn0.refl _ | apply Drawn0.step)⟩
 ·rw [if_neg c3] at H
  have c3b0 : (a1 == 2) = false := beq_eq_false_iff_ne.mpr c3
  have c3b1 : (a1 != 2) = true := bne_iff_ne.mpr c3
  by_cases c6 : a1 = 4
  ·rw [if_pos c6] at H
   have c6b0 : (a1 == 4) = true := beq_iff_eq.mpr c6
   have c6b1 : (a1 != 4) = false := bne_eq_false_iff_eq.mpr c6
   clear c6
   obtain rfl := Option.some.inj H
   go_enter Tryd.func13, Tryd.ntmps13
   go_wp2
   go_ret
   exact ⟨by first | rfl | (simp; done) | (simp [*]; done), by repeat (first | exact Drawn0.refl _ | apply Drawn0.step)⟩
  ·rw [if_neg c6] at H
   have c6b0 : (a1 == 4) = false := beq_eq_false_iff_ne.mpr c6
   have c6b1 : (a1 != 4) = true := bne_iff_ne.mpr c6
   by_cases c7 : a1 = 6
   ·rw [if_pos c7] at H
    have c7b0 : (a1 == 6) = true := beq_iff_eq.mpr c7
    have c7b1 : (a1 != 6) = false := bne_eq_false_iff_eq.mpr c7
    clear c7
    obtain rfl := Option.some.inj H
    go_enter Tryd.func13, Tryd.ntmps13
    go_wp2
    go_ret
    exact ⟨by first | rfl | (simp; done) | (simp [*]; done), by repeat (first | exact Drawn0.refl _ | apply Drawn0.step)⟩
   ·rw [if_neg c7] at H
    have c7b0 : (a1 == 6) = false := beq_eq_false_iff_ne.mpr c7
    have c7b1 : (a1 != 6) = true := bne_iff_ne.mpr c7
    by_cases c8 : a1 = 9
    ·rw [if_pos c8] at H
     have c8b0 : (a1 == 9) = true := beq_iff_eq.mpr c8
     have c8b1 : (a1 != 9) = false := bne_eq_false_iff_eq.mpr c8
     clear c8
     obtain rfl := Option.some.inj H
     go_enter Tryd.func13, Tryd.ntmps13
     go_wp2
     go_ret
     exact ⟨by first | rfl | (simp; done) | (simp [*]; done), by repeat (first | exact Drawn0.refl _ | apply Drawn0.step)⟩
    ·rw [if_neg c8] at H
     have c8b0 : (a1 == 9) = false := beq_eq_false_iff_ne.mpr c8
     have c8b1 : (a1 != 9) = true := bne_iff_ne.mpr c8
     by_cases c9 : a1 = 11
     ·rw [if_pos c9] at H
      have c9b0 : (a1 == 11) = true := beq_iff_eq.mpr c9
      have c9b1 : (a1 != 11) = false := bne_eq_false_iff_eq.mpr c9
      clear c9
      obtain rfl := Option.some.inj H
      go_enter Tryd.func13, Tryd.ntmps13
      go_wp2
      go_ret
      exact ⟨by first | rfl | (simp; done) | (simp [*]; done), by repeat (first | exact Drawn0.refl _ | apply Drawn0.step)⟩
     ·rw [if_neg c9] at H
      have c9b0 : (a1 == 11) = false := beq_eq_false_iff_ne.mpr c9
      have c9b1 : (a1 != 11) = true := bne_iff_ne.mpr c9
      obtain rfl := Option.some.inj H
      go_enter Tryd.func13, Tryd.ntmps13
      go_wp2
      go_ret
      exact ⟨by first | rfl | (simp; done) | (simp [*]; done), by repeat (first | exact Drawn0.refl _ | apply Drawn0.step)⟩

/-! ### impl_dayNumber: function 12 -/
def impl_dayNumber.l0 : Nat → Int → Int → Int → Int → Int → Option (Int)
 | 0, _, _, _, _, _ => none
 | k + 1, x0, x1, x2, x8, x9 => if x9 < x1 then ((impl_monthDays.f x0 x9).bind fun t134 => (impl_dayNumber.l0 k x0 x1 x2 (wrap64 (x8 + t134)) (wrap64 (x9 + 1)))) else (some (wrap64 ((wrap64 (x8 + x2)) - 1)))
def impl_dayNumber.f (k : Nat) (a0 : Int) (a1 : Int) (a2 : Int) : Option (Int) := impl_dayNumber.l0 k a0 a1 a2 (wrap64 ((wrap64 ((wrap64 ((wrap64 ((wrap64 (a0 - 1)) * 365)) + (wrap64 (Int.tdiv (wrap64 (a0 - 1)) 4)))) - (wrap64 (Int.tdiv (wrap64 (a0 - 1)) 100)))) + (wrap64 (Int.tdiv (wrap64 (a0 - 1)) 400)))) 1
theorem impl_dayNumber.mono_l : ∀ k, (∀ y0 y1 y2 y3 y4, LeO (impl_dayNumber.l0 k y0 y1 y2 y3 y4) (impl_dayNumber.l0 (k + 1) y0 y1 y2 y3 y4))
 | 0 => fun _ _ _ _ _ r h => by simp [impl_dayNumber.l0] at h
 | k + 1 => by
  have ih0 := impl_dayNumber.mono_l k
  ·intro y0 y1 y2 y3 y4
   unfold impl_dayNumber.l0
   repeat' first
   | (with_reducible exact ih0 _ _ _ _ _)
   | (with_reducible exact LeO.refl _)
   | (with_reducible exact LeO.none _)
   | (with_reducible refine LeO.ite ?_ ?_)
   | (with_reducible refine LeO.bind ?_ (fun _ => ?_))
   | exact ih0 _ _ _ _ _
   | exact LeO.none _
   | refine LeO.ite ?_ ?_
   | refine LeO.bind ?_ (fun _ => ?_)
theorem impl_dayNumber.mono : ∀ a0 a1 a2 k, LeO (impl_dayNumber.f k a0 a1 a2) (impl_dayNumber.f (k + 1) a0 a1 a2) := by
 intro a0 a1 a2 k
 have ih0 := impl_dayNumber.mono_l k
 unfold impl_dayNumber.f
 repeat' first
   | (with_reducible exact ih0 _ _ _ _ _)
   | (with_reducible exact LeO.refl _)
   | (with_reducible exact LeO.none _)
   | (with_reducible refine LeO.ite ?_ ?_)
   | (with_reducible refine LeO.bind ?_ (fun _ => ?_))
   | exact ih0 _ _ _ _ _
   | exact LeO.none _
   | refine LeO.ite ?_ ?_
   | refine LeO.bind ?_ (fun _ => ?_)
set_option maxHeartbeats 8000000 in
set_option maxRecDepth 100000 in
theorem impl_dayNumber.calls (k : Nat) (a0 : Int) (a1 : Int) (a2 : Int) (r : Int) (w : World) (h : impl_dayNumber.f k a0 a1 a2 = some r) :
  Calls Tryd.prog 12 #[.int .i64 a0, .int .i64 a1, .int .i64 a2] w fun e w' => e = .returned (.int .i64 r) ∧ Drawn0 w w' := by
 have H : (impl_dayNumber.l0 k a0 a1 a2 (wrap64 ((wrap64 ((wrap64 ((wrap64 ((wrap64 (a0 - 1)) * 365)) + (wrap64 (Int.tdiv (wrap64 (a0 - 1)) 4)))) - (wrap64 (Int.tdiv (wrap64 (a0 - 1)) 100)))) + (wrap64 (Int.tdiv (wrap64 (a0 - 1)) 400)))) 1) = some r := h
 clear h
 have H' := Aside0.mk H
 clear H
 go_enter Tryd.func12, Tryd.ntmps12
 go_wp2
 go_loopg [8, 9] k (fun kq v8 v9 w' => ∃ (x8_1 : Int) (x9_1 : Int), v8 = .int .i64 x8_1 ∧ v9 = .int .i64 x9_1 ∧ Aside0 (impl_dayNumber.l0 kq a0 a1 a2 x8_1 x9_1 = some r) ∧ Aside0 (kq ≤ k) ∧ Drawn0 w w')
 case atStart => exact ⟨(wrap64 ((wrap64 ((wrap64 ((wrap64 ((wrap64 (a0 - 1)) * 365)) + (wrap64 (Int.tdiv (wrap64 (a0 - 1)) 4)))) - (wrap64 (Int.tdiv (wrap64 (a0 - 1)) 100)))) + (wrap64 (Int.tdiv (wrap64 (a0 - 1)) 400)))), (1), (by first | rfl | (simp; done) | (simp [*]; done)), (by first | rfl | (simp; done) | (simp [*]; done)), H', ⟨Nat.le_refl _⟩, by repeat (first | exact Drawn0.refl _ | apply Drawn0.step)⟩
 case round =>
  clear H'
  try clear c1
  try clear p2
  obtain ⟨x8_1, x9_1, rfl, rfl, HA, HK1, ⟨m1, rfl⟩⟩ := hrel
  cases gk with
  | zero => exact absurd HA.out (by simp [impl_dayNumber.l0])
  | succ k1 =>
   have H := HA.out
   clear HA
   simp only [impl_dayNumber.l0] at H
   by_cases c4 : x9_1 < a1
   ·rw [if_pos c4] at H
    have c4b0 : decide (x9_1 < a1) = true := decide_eq_true c4
    clear c4
    replace H := Option.bind_eq_some_iff.mp H
    obtain ⟨t134, A50, H⟩ := H
    replace H : (impl_dayNumber.l0 k1 a0 a1 a2 (wrap64 (x8_1 + t134)) (wrap64 (x9_1 + 1))) = some r := H
    have A5 := Aside0.mk A50
    clear A50
    have H' := Aside0.mk H
    clear H
    go_wp2_with (first | ((with_reducible refine gate_callee (f := 13) rfl ?_); refine goesL_ (some 31) rfl rfl Tryd.func13 (by kernel_rfl) rfl #[.int .i64 a0, .int .i64 x9_1] rfl (by (try simp only [List.map_toArray, List.map_cons, List.map_nil]); first | done | rfl | (simp only [List.length_drop, List.length_take]; rfl)) ?_; (with_reducible refine (impl_monthDays.calls a0 x9_1 t134 _ A5.out).mono ?_); rintro e w' ⟨rfl, ⟨nd, rfl⟩⟩; refine ⟨_, rfl, ?_⟩))
    go_roundg k1
    case measure => have := HK1.out; omega
    case rel => exact ⟨(wrap64 (x8_1 + t134)), (wrap64 (x9_1 + 1)), (by first | rfl | (simp; done) | (simp [*]; done)), (by first | rfl | (simp; done) | (simp [*]; done)), H', ⟨by have := HK1.out; omega⟩, by repeat (first | exact Drawn0.refl _ | apply Drawn0.step)⟩
   ·rw [if_neg c4] at H
    have c4b0 : decide (x9_1 < a1) = false := decide_eq_false c4
    clear c4
    obtain rfl := Option.some.inj H
    go_wp2
    go_ret
    exact ⟨by first | rfl | (simp; done) | (simp [*]; done), by repeat (first | exact Drawn0.refl _ | apply Drawn0.step)⟩

/-! ### impl_num: function 15 -/
/-- The table internal/strconv.uint64pow10 is the program's. -/
def Gp (w : World) : Prop := Lib.TabIs Tryd.prog w "internal/strconv.uint64pow10" .u64 Lib.pow10Tab
theorem Gp_below {w w1 : World} (h : Gp w) (hb : Below w.heap.size w w1) : Gp w1 := Lib.tabBelow_of_tabIs h w1 hb
def G (w : World) : Prop := Gp w
theorem G_below {w w1 : World} (h : G w) (hb : Below w.heap.size w w1) : G w1 := Gp_below h hb
theorem G_drewN {w : World} (h : G w) (n : Nat) : G (w.drewN n) := h
theorem G_drew {w : World} (h : G w) : G w.drew := h
theorem G_pow {w : World} (h : G w) : Gp w := h
def impl_num.f (a0 : Int) : Option (ByteArray) := if -9223372036854775808 ≤ a0 then (if a0 ≤ 9223372036854775807 then some ⟨(Lib.itoa a0).toArray⟩ else none) else none
set_option maxHeartbeats 8000000 in
set_option maxRecDepth 100000 in
theorem impl_num.calls (a0 : Int) (r : ByteArray) (w : World) (HG : Aside0 (G w)) (h : impl_num.f a0 = some r) :
  Calls Tryd.prog 15 #[.int .i64 a0] w fun e w' => e = .returned (.string r) ∧ Below w.heap.size w w' := by
 unfold impl_num.f at h
 by_cases h1 : -9223372036854775808 ≤ a0
 case neg => rw [if_neg h1] at h; cases h
 by_cases h2 : a0 ≤ 9223372036854775807
 case neg => rw [if_pos h1, if_neg h2] at h; cases h
 rw [if_pos h1, if_pos h2] at h
 have HR := Aside0.mk (Option.some.inj h)
 clear h
 go_enter Tryd.func15, Tryd.ntmps15
 go_wp2_with fail
 refine (Tryd.strconv_FormatInt_10 a0 h1 h2 _ ?ht).mono ?_
 case ht => exact G_pow HG.out
 rintro e w' ⟨rfl, k, os, hw⟩
 have hb := Aside0.mk (show Below w.heap.size w w' from by rw [hw]; exact Lib.below_grow _ _ (Nat.le_refl _) _ _)
 clear hw
 rw [HR.out]
 go_wp2
 go_ret
 exact ⟨by first | rfl | (simp; done), hb.out⟩

/-! ### impl_dateText: function 8 -/
def padB (s : ByteArray) (c : Nat) : ByteArray := (⟨(Lib.repeatL [48] c).toArray⟩ : ByteArray) ++ s
def impl_pad.f (x w : Int) : Option (ByteArray) := (impl_num.f x).bind fun s => if s.size ≤ 20 then (if (s.size : Int) ≤ w then (if w ≤ 20 then some (padB s (w - s.size).toNat) else none) else none) else none
theorem padB_size (s : ByteArray) (c : Nat) : (padB s c).size = c + s.size := by
 unfold padB
 rw [ByteArray.size_append]
 congr 1
 induction c with
 | zero => rfl
 | succ n ih =>
  simp only [Lib.repeatL, ByteArray.size, List.size_toArray] at *
  simp [ih]
theorem impl_pad.small {x w : Int} {r : ByteArray} (h : impl_pad.f x w = some r) : r.size ≤ 20 := by
 unfold impl_pad.f at h
 obtain ⟨s, _, h⟩ := Option.bind_eq_some_iff.1 h
 by_cases h1 : s.size ≤ 20
 case neg => rw [if_neg h1] at h; cases h
 by_cases h2 : (s.size : Int) ≤ w
 case neg => rw [if_pos h1, if_neg h2] at h; cases h
 by_cases h3 : w ≤ 20
 case neg => rw [if_pos h1, if_pos h2, if_neg h3] at h; cases h
 rw [if_pos h1, if_pos h2, if_pos h3] at h
 obtain rfl := Option.some.inj h
 rw [padB_size]
 omega
set_option maxHeartbeats 8000000 in
set_option maxRecDepth 100000 in
theorem impl_pad.calls (a0 a1 : Int) (r : ByteArray) (w : World) (HG : Aside0 (G w)) (h : impl_pad.f a0 a1 = some r) :
  Calls Tryd.prog 14 #[.int .i64 a0, .int .i64 a1] w fun e w' => e = .returned (.string r) ∧ Below w.heap.size w w' := by
 unfold impl_pad.f at h
 obtain ⟨s, hs, h⟩ := Option.bind_eq_some_iff.1 h
 have HS := Aside0.mk hs
 clear hs
 by_cases h1 : s.size ≤ 20
 case neg => rw [if_neg h1] at h; cases h
 by_cases h2 : (s.size : Int) ≤ a1
 case neg => rw [if_pos h1, if_neg h2] at h; cases h
 by_cases h3 : a1 ≤ 20
 case neg => rw [if_pos h1, if_pos h2, if_neg h3] at h; cases h
 rw [if_pos h1, if_pos h2, if_pos h3] at h
 have HR := Aside0.mk (Option.some.inj h)
 clear h
 have HB := Aside0.mk (Below.refl w.heap.size w)
 obtain ⟨c, hc⟩ : ∃ c : Nat, a1 - (s.size : Int) = c := ⟨(a1 - s.size).toNat, by omega⟩
 have hc2 : c ≤ 20 := by omega
 have HC := Aside0.mk hc
 clear hc
 go_enter Tryd.func14, Tryd.ntmps14
 go_wp2_with (go_at_call 15; (with_reducible refine (impl_num.calls a0 s _ HG HS.out).mono ?_); rintro e w1 ⟨rfl, hb⟩; have n0_ := Aside0.mk (below_step HB.out hb); clear HB hb; have HB := n0_; clear n0_)
 go_wp2_with fail
 rw [HC.out]
 refine (Tryd.strings_Repeat ⟨#[48]⟩ c _ (by omega) (by show 1 * c ≤ _; omega)).mono ?_
 rintro e w2 ⟨rfl, hb⟩
 have n0_ := Aside0.mk (below_step HB.out hb)
 clear HB hb
 have HB := n0_
 clear n0_
 have HR2 := Aside0.mk (show (⟨(Lib.repeatL (⟨#[48]⟩ : ByteArray).data.toList c).toArray⟩ : ByteArray) ++ s = r from by
  have e := HR.out
  rw [HC.out, show ((c : Int)).toNat = c from by omega] at e
  exact e)
 have hz : (⟨(Lib.repeatL (⟨#[48]⟩ : ByteArray).data.toList c).toArray⟩ : ByteArray).size ≤ 20 := by
  have e := padB_size ⟨#[]⟩ c
  unfold padB at e
  rw [ByteArray.size_append] at e
  have e2 : (⟨(Lib.repeatL (⟨#[48]⟩ : ByteArray).data.toList c).toArray⟩ : ByteArray).size + 0 = c + 0 := e
  omega
 generalize (⟨(Lib.repeatL (⟨#[48]⟩ : ByteArray).data.toList c).toArray⟩ : ByteArray) = z at HR2 hz
 clear HR HC HS
 go_wp2
 go_ret
 exact ⟨by first | (rw [HR2.out]; rfl) | (rw [HR2.out]; simp; done), HB.out⟩
def impl_dateText.l1 : Nat → Int → Int → Int → Option (ByteArray)
 | 0, _, _, _ => none
 | k + 1, x0, x3, x4 => (impl_monthDays.f x3 x4).bind fun t => if x0 ≥ t then impl_dateText.l1 k (wrap64 (x0 - t)) x3 (wrap64 (x4 + 1)) else ((impl_pad.f x3 4).bind fun a => ((impl_pad.f x4 2).bind fun b => ((impl_pad.f (wrap64 (x0 + 1)) 2).bind fun c => some ((⟨#[64]⟩ : ByteArray) ++ a ++ (⟨#[45]⟩ : ByteArray) ++ b ++ (⟨#[45]⟩ : ByteArray) ++ c))))
def impl_dateText.l0 : Nat → Int → Int → Option (ByteArray)
 | 0, _, _ => none
 | k + 1, x0, x3 => (impl_dayNumber.f k (wrap64 (x3 + 1)) 1 1).bind fun t => if t ≤ x0 then impl_dateText.l0 k x0 (wrap64 (x3 + 1)) else ((impl_dayNumber.f k x3 1 1).bind fun u => impl_dateText.l1 k (wrap64 (x0 - u)) x3 1)
def impl_dateText.f (k : Nat) (a0 : Int) : Option (ByteArray) := impl_dateText.l0 k a0 (wrap64 ((wrap64 (Int.tdiv a0 366)) + 1))
theorem impl_dateText.mono_l1 : ∀ (k : Nat) (x y z : Int), LeO (impl_dateText.l1 k x y z) (impl_dateText.l1 (k + 1) x y z)
 | 0 => fun _ _ _ r h => by simp [impl_dateText.l1] at h
 | k + 1 => by
  have ih := impl_dateText.mono_l1 k
  intro x y z
  unfold impl_dateText.l1
  refine LeO.bind (LeO.refl _) (fun _ => LeO.ite (ih _ _ _) (LeO.refl _))
theorem impl_dateText.mono_l0 : ∀ (k : Nat) (x y : Int), LeO (impl_dateText.l0 k x y) (impl_dateText.l0 (k + 1) x y)
 | 0 => fun _ _ r h => by simp [impl_dateText.l0] at h
 | k + 1 => by
  have ih := impl_dateText.mono_l0 k
  intro x y
  unfold impl_dateText.l0
  exact LeO.bind (impl_dayNumber.mono _ _ _ _) (fun _ => LeO.ite (ih _ _) (LeO.bind (impl_dayNumber.mono _ _ _ _) (fun _ => impl_dateText.mono_l1 _ _ _ _)))
theorem impl_dateText.mono : ∀ a0 k, LeO (impl_dateText.f k a0) (impl_dateText.f (k + 1) a0) := fun a0 k => impl_dateText.mono_l0 k a0 _
set_option maxHeartbeats 8000000 in
set_option maxRecDepth 100000 in
theorem impl_dateText.calls (k : Nat) (a0 : Int) (r : ByteArray) (w : World) (HG : Aside0 (G w)) (h : impl_dateText.f k a0 = some r) :
  Calls Tryd.prog 8 #[.int .i64 a0] w fun e w' => e = .returned (.string r) ∧ Below w.heap.size w w' := by
 have H' := Aside0.mk (show impl_dateText.l0 k a0 (wrap64 ((wrap64 (Int.tdiv a0 366)) + 1)) = some r from h)
 clear h
 have HB := Aside0.mk (Below.refl w.heap.size w)
 go_enter Tryd.func8, Tryd.ntmps8
 go_wp2
 go_loopg [3] k (fun kq v3 w' => ∃ (x3_1 : Int), v3 = .int .i64 x3_1 ∧ Aside0 (impl_dateText.l0 kq a0 x3_1 = some r) ∧ Aside0 (kq ≤ k) ∧ Aside0 (Below w.heap.size w w'))
 case atStart => exact ⟨_, (by first | rfl | (simp; done) | (simp [*]; done)), H', ⟨Nat.le_refl _⟩, ⟨by repeat (first | (with_reducible first | exact HB.out | apply below_alloc | apply pw_below_drewN | apply below_drew1) | exact HB.out)⟩⟩
 case round =>
  clear H' HB
  obtain ⟨x3_1, rfl, HA, HK1, HB⟩ := hrel
  cases gk with
  | zero => exact absurd HA.out (by simp [impl_dateText.l0])
  | succ k1 =>
   have H := HA.out
   clear HA
   simp only [impl_dateText.l0] at H
   obtain ⟨t, A1, H⟩ := Option.bind_eq_some_iff.1 H
   have A1 := Aside0.mk A1
   by_cases c1 : t ≤ a0
   ·simp only [if_pos c1] at H
    have c1b : decide (t ≤ a0) = true := decide_eq_true c1
    clear c1
    have H' := Aside0.mk H
    clear H
    go_wp2_with (go_at_call 12; (with_reducible refine (impl_dayNumber.calls k1 _ 1 1 t _ A1.out).mono ?_); rintro e w' ⟨rfl, ⟨nd, rfl⟩⟩)
    go_roundg k1
    case measure => have := HK1.out; omega
    case rel => exact ⟨_, (by first | rfl | (simp; done) | (simp [*]; done)), H', ⟨by have := HK1.out; omega⟩, ⟨by repeat (first | (with_reducible first | exact HB.out | apply below_alloc | apply pw_below_drewN | apply below_drew1) | exact HB.out)⟩⟩
   ·simp only [if_neg c1] at H
    have c1b : decide (t ≤ a0) = false := decide_eq_false c1
    clear c1
    obtain ⟨u, A2, H⟩ := Option.bind_eq_some_iff.1 H
    have A2 := Aside0.mk A2
    have H' := Aside0.mk H
    clear H
    go_wp2_with (first | (go_at_call 12; (with_reducible refine (impl_dayNumber.calls k1 _ 1 1 t _ A1.out).mono ?_); rintro e w' ⟨rfl, ⟨nd, rfl⟩⟩) | (go_at_call 12; (with_reducible refine (impl_dayNumber.calls k1 _ 1 1 u _ A2.out).mono ?_); rintro e w' ⟨rfl, ⟨nd, rfl⟩⟩))
    clear A1 A2
    go_loopg [0, 4] k1 (fun kq v0 v4 w' => ∃ (x0_1 x4_1 : Int), v0 = .int .i64 x0_1 ∧ v4 = .int .i64 x4_1 ∧ Aside0 (impl_dateText.l1 kq x0_1 x3_1 x4_1 = some r) ∧ Aside0 (kq ≤ k1) ∧ Aside0 (Below w.heap.size w w'))
    case atStart => exact ⟨_, _, (by first | rfl | (simp; done) | (simp [*]; done)), (by first | rfl | (simp; done) | (simp [*]; done)), H', ⟨Nat.le_refl _⟩, ⟨by repeat (first | (with_reducible first | exact HB.out | apply below_alloc | apply pw_below_drewN | apply below_drew1) | exact HB.out)⟩⟩
    case round =>
     clear H' HB
     obtain ⟨x0_1, x4_1, rfl, rfl, HA, HK2, HB⟩ := hrel
     cases gk with
     | zero => exact absurd HA.out (by simp [impl_dateText.l1])
     | succ k2 =>
      have H := HA.out
      clear HA
      simp only [impl_dateText.l1] at H
      obtain ⟨t2, A3, H⟩ := Option.bind_eq_some_iff.1 H
      have A3 := Aside0.mk A3
      by_cases c2 : x0_1 ≥ t2
      ·simp only [if_pos c2] at H
       have c2b : decide (t2 ≤ x0_1) = true := decide_eq_true c2
       clear c2
       have H' := Aside0.mk H
       clear H
       go_wp2_with (go_at_call 13; (with_reducible refine (impl_monthDays.calls x3_1 x4_1 t2 _ A3.out).mono ?_); rintro e w' ⟨rfl, ⟨nd, rfl⟩⟩)
       go_roundg k2
       case measure => have := HK2.out; omega
       case rel => exact ⟨_, _, (by first | rfl | (simp; done) | (simp [*]; done)), (by first | rfl | (simp; done) | (simp [*]; done)), H', ⟨by have := HK2.out; omega⟩, ⟨by repeat (first | (with_reducible first | exact HB.out | apply below_alloc | apply pw_below_drewN | apply below_drew1) | exact HB.out)⟩⟩
      ·simp only [if_neg c2] at H
       have c2b : decide (t2 ≤ x0_1) = false := decide_eq_false c2
       clear c2
       obtain ⟨pa, A4, H⟩ := Option.bind_eq_some_iff.1 H
       obtain ⟨pb, A5, H⟩ := Option.bind_eq_some_iff.1 H
       obtain ⟨pc, A6, H⟩ := Option.bind_eq_some_iff.1 H
       have z4 := impl_pad.small A4
       have z5 := impl_pad.small A5
       have z6 := impl_pad.small A6
       have A4 := Aside0.mk A4
       have A5 := Aside0.mk A5
       have A6 := Aside0.mk A6
       have HR := Aside0.mk (Option.some.inj H)
       clear H
       go_wp2_with (go_at_call 13; (with_reducible refine (impl_monthDays.calls x3_1 x4_1 t2 _ A3.out).mono ?_); rintro e w' ⟨rfl, ⟨nd, rfl⟩⟩)
       refine (impl_pad.calls _ _ pa _ ?gg A4.out).mono ?_
       case gg => exact ⟨G_below HG.out (by repeat (first | (with_reducible first | exact HB.out | apply below_alloc | apply pw_below_drewN | apply below_drew1) | exact HB.out))⟩
       rintro e w5 ⟨rfl, hb⟩
       have n0_ := Aside0.mk (below_step (by repeat (first | (with_reducible first | exact HB.out | apply below_alloc | apply pw_below_drewN | apply below_drew1) | exact HB.out)) hb)
       clear HB hb
       have HB := n0_
       clear n0_
       go_wp2_with fail
       refine (impl_pad.calls _ _ pb _ ?gg A5.out).mono ?_
       case gg => exact ⟨G_below HG.out (by repeat (first | (with_reducible first | exact HB.out | apply below_alloc | apply pw_below_drewN | apply below_drew1) | exact HB.out))⟩
       rintro e w5 ⟨rfl, hb⟩
       have n0_ := Aside0.mk (below_step (by repeat (first | (with_reducible first | exact HB.out | apply below_alloc | apply pw_below_drewN | apply below_drew1) | exact HB.out)) hb)
       clear HB hb
       have HB := n0_
       clear n0_
       go_wp2_with fail
       refine (impl_pad.calls _ _ pc _ ?gg A6.out).mono ?_
       case gg => exact ⟨G_below HG.out (by repeat (first | (with_reducible first | exact HB.out | apply below_alloc | apply pw_below_drewN | apply below_drew1) | exact HB.out))⟩
       rintro e w5 ⟨rfl, hb⟩
       have n0_ := Aside0.mk (below_step (by repeat (first | (with_reducible first | exact HB.out | apply below_alloc | apply pw_below_drewN | apply below_drew1) | exact HB.out)) hb)
       clear HB hb
       have HB := n0_
       clear n0_
       go_wp2
       go_ret
       exact ⟨by first | (rw [← HR.out]; rfl) | (rw [← HR.out]; simp; done), HB.out⟩

/-! ### impl_DateText: function 5 -/
def impl_DateText.f (k : Nat) (a0 : Int) : Option (ByteArray) := if a0 < 0 then (some (⟨#[]⟩ : ByteArray)) else (if a0 > 3652058 then (some (⟨#[]⟩ : ByteArray)) else ((impl_dateText.f k a0).bind fun t135 => (some t135)))
theorem impl_DateText.mono : ∀ a0 k, LeO (impl_DateText.f k a0) (impl_DateText.f (k + 1) a0) := by
 intro a0 k
 unfold impl_DateText.f
 repeat' first
   | (with_reducible exact impl_dateText.mono _ _)
   | (with_reducible exact LeO.refl _)
   | (with_reducible exact LeO.none _)
   | (with_reducible refine LeO.ite ?_ ?_)
   | (with_reducible refine LeO.bind ?_ (fun _ => ?_))
   | exact impl_dateText.mono _ _
   | exact LeO.none _
   | refine LeO.ite ?_ ?_
   | refine LeO.bind ?_ (fun _ => ?_)
set_option maxHeartbeats 8000000 in
set_option maxRecDepth 100000 in
theorem impl_DateText.calls (k : Nat) (a0 : Int) (r : ByteArray) (w : World) (HG : Aside0 (G w)) (h : impl_DateText.f k a0 = some r) :
  Calls Tryd.prog 5 #[.int .i64 a0] w fun e w' => e = .returned (.string r) ∧ Below w.heap.size w w' := by
 have HB := Aside0.mk (Below.refl w.heap.size w)
 have H : (if a0 < 0 then (some (⟨#[]⟩ : ByteArray)) else (if a0 > 3652058 then (some (⟨#[]⟩ : ByteArray)) else ((impl_dateText.f k a0).bind fun t135 => (some t135)))) = some r := h
 clear h
 by_cases c2 : a0 < 0
 ·rw [if_pos c2] at H
  have c2b0 : decide (a0 < 0) = true := decide_eq_true c2
  clear c2
  obtain rfl := Option.some.inj H
  go_enter Tryd.func5, Tryd.ntmps5
  go_wp2
  go_ret
  exact ⟨by first | rfl | (simp [errW_none, errW_some] <;> rfl) | (simp [*, errW_none, errW_some] <;> rfl), by repeat (first | (with_reducible first | exact HB.out | apply below_alloc | apply pw_below_drewN | apply below_drew1) | exact HB.out)⟩
 ·rw [if_neg c2] at H
  have c2b0 : decide (a0 < 0) = false := decide_eq_false c2
  clear c2
  by_cases c3 : a0 > 3652058
  ·rw [if_pos c3] at H
   have c3b0 : decide (3652058 < a0) = true := decide_eq_true c3
   clear c3
   obtain rfl := Option.some.inj H
   go_enter Tryd.func5, Tryd.ntmps5
   go_wp2
   go_ret
   exact ⟨by first | rfl | (simp [errW_none, errW_some] <;> rfl) | (simp [*, errW_none, errW_some] <;> rfl), by repeat (first | (with_reducible first | exact HB.out | apply below_alloc | apply pw_below_drewN | apply below_drew1) | exact HB.out)⟩
  ·rw [if_neg c3] at H
   have c3b0 : decide (3652058 < a0) = false := decide_eq_false c3
   clear c3
   replace H := Option.bind_eq_some_iff.mp H
   obtain ⟨t135, A40, H⟩ := H
   replace H : (some t135) = some r := H
   have A4 := Aside0.mk A40
   clear A40
   obtain rfl := Option.some.inj H
   go_enter Tryd.func5, Tryd.ntmps5
   go_wp2_with (first | ((with_reducible refine gate_callee (f := 8) rfl ?_); refine goesL_ (some 10) rfl rfl Tryd.func8 (by kernel_rfl) rfl #[.int .i64 a0] rfl (by (try simp only [List.map_toArray, List.map_cons, List.map_nil]); first | done | rfl | (simp only [List.length_drop, List.length_take]; rfl)) ?_; (with_reducible refine (impl_dateText.calls k a0 t135 _ ?sideG A4.out).mono ?_); (case sideG => first | exact HG | ((refine ⟨G_below HG.out ?_⟩); (repeat (first | (with_reducible first | exact HB.out | apply below_alloc | apply pw_below_drewN | apply below_drew1) | exact HB.out)); done) | exact ⟨G_below HG.out HB.out⟩ | exact ⟨HG.out⟩); rintro e w5 ⟨rfl, hb⟩; refine ⟨_, rfl, ?_⟩; have n0_ := Aside0.mk (below_step (by repeat (first | (with_reducible first | exact HB.out | apply below_alloc | apply pw_below_drewN | apply below_drew1) | exact HB.out)) hb); clear HB; have HB := n0_; clear n0_; (try clear hb); (try clear hb2); (try clear hk); (try clear hi)))
   go_ret
   exact ⟨by first | rfl | (simp [errW_none, errW_some] <;> rfl) | (simp [*, errW_none, errW_some] <;> rfl), by repeat (first | (with_reducible first | exact HB.out | apply below_alloc | apply pw_below_drewN | apply below_drew1) | exact HB.out)⟩

end Go.Proofs.YthblbbhnmbfjjabDoor.PFnExactDateText
