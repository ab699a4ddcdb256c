/- Walks of Go functions, written by program out of the print of the translation, with contracts of our own where the print has none. -/
import Derived.Test.YtmecapnpgedcnaaPFnExactGrantsFaultx0
import Derived.Test.YtmecapnpgedcnaaPFnExactGrantsFaultx7
import Derived.Test.YtmecapnpgedcnaaPFnExactGrantsFaultx10
namespace Go.Proofs.Ytmecapnpgedcnaa.PFnExactGrantsFault
open Go.RowKit Go.Proofs.YtmecapnpgedcnaaW.PrintWords Go.Proofs.YtmecapnpgedcnaaW.PrintLast Go.Proofs.YtmecapnpgedcnaaW.PrintMore
attribute [local go_sem] max2_int min2_int max_two min_two max_three min_three max_four min_four   -- for this text's walks alone
set_option linter.unusedVariables false
set_option linter.unusedSimpArgs false

/-! ### impl_Grant_ok: function 62 -/
def impl_Grant_ok.l0 : Nat → Int → List ByteArray → Int → Int → ByteArray → Bool → ByteArray → ByteArray → ByteArray → Option (Bool)
 | 0, _, _, _, _, _, _, _, _, _ => none
 | k + 1, x3, x12, x13, x14, x361000, x361001, x361002, x361003, x361004 => if x14 < x13 then (if 0 ≤ x14 then (if x14 < (x12.length : Int) then (if (rdOf ByteArray.empty x12 x14).toList = ([] : List UInt8) then (impl_Grant_ok.l0 k x3 x12 x13 (wrap64 (x14 + 1)) x361000 x361001 x361002 x361003 x361004) else (impl_Grant_ok.l0 k (wrap64 (x3 + 1)) x12 x13 (wrap64 (x14 + 1)) x361000 x361001 x361002 x361003 x361004)) else (none)) else (none)) else (if x361000.toList = ([] : List UInt8) then (if x3 = 1 then (if x361002.toList = ([] : List UInt8) then (if x361003.toList = ([] : List UInt8) then (if x361004.toList = ([] : List UInt8) then (some true) else ((impl_isName.f k x361004).bind fun t365 => (some t365))) else ((impl_isName.f k x361003).bind fun t366 => (if t366 = true then (if x361004.toList = ([] : List UInt8) then (some true) else ((impl_isName.f k x361004).bind fun t367 => (some t367))) else (some false)))) else ((impl_LabelsFault.f k x361002).bind fun t368 => (if t368 = 0 then (if x361003.toList = ([] : List UInt8) then (if x361004.toList = ([] : List UInt8) then (some true) else ((impl_isName.f k x361004).bind fun t369 => (some t369))) else ((impl_isName.f k x361003).bind fun t370 => (if t370 = true then (if x361004.toList = ([] : List UInt8) then (some true) else ((impl_isName.f k x361004).bind fun t371 => (some t371))) else (some false)))) else (some false)))) else (some false)) else ((impl_isName.f k x361000).bind fun t372 => (if t372 = true then (if x3 = 1 then (if x361002.toList = ([] : List UInt8) then (if x361003.toList = ([] : List UInt8) then (if x361004.toList = ([] : List UInt8) then (some true) else ((impl_isName.f k x361004).bind fun t373 => (some t373))) else ((impl_isName.f k x361003).bind fun t374 => (if t374 = true then (if x361004.toList = ([] : List UInt8) then (some true) else ((impl_isName.f k x361004).bind fun t375 => (some t375))) else (some false)))) else ((impl_LabelsFault.f k x361002).bind fun t376 => (if t376 = 0 then (if x361003.toList = ([] : List UInt8) then (if x361004.toList = ([] : List UInt8) then (some true) else ((impl_isName.f k x361004).bind fun t377 => (some t377))) else ((impl_isName.f k x361003).bind fun t378 => (if t378 = true then (if x361004.toList = ([] : List UInt8) then (some true) else ((impl_isName.f k x361004).bind fun t379 => (some t379))) else (some false)))) else (some false)))) else (some false)) else (some false))))
def impl_Grant_ok.f (k : Nat) (a0_0 : ByteArray) (a0_1 : Bool) (a0_2 : ByteArray) (a0_3 : ByteArray) (a0_4 : ByteArray) : Option (Bool) := (some (([a0_2, a0_3, a0_4] : List ByteArray) : List ByteArray)).bind fun y361 => (impl_Grant_ok.l0 k 0 y361 (y361.length : Int) 0 a0_0 a0_1 a0_2 a0_3 a0_4)
theorem impl_Grant_ok.a1_ {p : Prop} (h : p := by repeat (first | (with_reducible first | exact HB.out | apply below_alloc | apply pw_below_drewN | apply below_drew1) | exact HB.out)) : p := h
theorem impl_Grant_ok.a2_ {p : Prop} (h : p := by repeat (first | (with_reducible first | exact HB.out | apply below_alloc | apply pw_below_drewN | apply below_drew1 | refine below_set ?_ GE360.out) | exact HB.out)) : p := h
theorem impl_Grant_ok.a3_ {p : Prop} (h : p := by (with_reducible repeat (first | refine blk_drewN ?_ _ | refine blk_drew ?_ | refine blk_alloc ?_ _)); exact BK360.out) : p := h
theorem impl_Grant_ok.a4_ {p : Prop} (h : p := by (with_reducible repeat (first | apply Kd.R_alloc | apply Kd.R_drewN | apply Kd.R_drew)); exact HO_12.out) : p := h
theorem impl_Grant_ok.a5_ {p : Prop} (h : p := by first | rfl | (simp [errW_none, errW_some] <;> rfl) | (simp [*, errW_none, errW_some] <;> rfl)) : p := h
set_option maxHeartbeats 8000000 in
set_option maxRecDepth 100000 in
theorem impl_Grant_ok.calls (k : Nat) (a0_0 : ByteArray) (a0_1 : Bool) (a0_2 : ByteArray) (a0_3 : ByteArray) (a0_4 : ByteArray) (r : Bool) (w : World) (h : impl_Grant_ok.f k a0_0 a0_1 a0_2 a0_3 a0_4 = some r) :
  Calls Try.prog 62 #[.agg #[.string a0_0, .bool a0_1, .string a0_2, .string a0_3, .string a0_4]] w fun e w' => e = .returned (.bool r) ∧ Below w.heap.size w w' := by
 have hu55 := Try.underlying55
 have HB := Aside0.mk (Below.refl w.heap.size w)
 have H : ((some (([a0_2, a0_3, a0_4] : List ByteArray) : List ByteArray)).bind fun y361 => (impl_Grant_ok.l0 k 0 y361 (y361.length : Int) 0 a0_0 a0_1 a0_2 a0_3 a0_4)) = some r := h
 clear h
 obtain ⟨y361, hy361⟩ : ∃ y_ : List ByteArray, y_ = (([a0_2, a0_3, a0_4] : List ByteArray)) := ⟨_, rfl⟩
 replace H : (impl_Grant_ok.l0 k 0 y361 (y361.length : Int) 0 a0_0 a0_1 a0_2 a0_3 a0_4) = some r := by first | (rw [hy361]; with_reducible exact H) | (have H2_ := (Option.bind_some _ _).symm.trans H; rw [hy361]; with_reducible exact H2_) | (have H2_ := (Option.bind_some _ _).symm.trans H; with_reducible exact H2_) | with_reducible exact H | (rw [hy361]; exact H) | exact H
 have Ny361 := Aside0.mk hy361
 clear hy361
 have H' := Aside0.mk H
 clear H
 go_enter Try.func62, Try.ntmps62
 go_wp2_with (first | ((with_reducible refine gate_dst (N := 1) rfl ?_); refine box_event ?hg (N := 1) ?hd (cs := #[.string a0_0, .bool a0_1, .string a0_2, .string a0_3, .string a0_4]) (t := 55) ?hr ?_; (case hd => rfl); (case hg => rfl); (case hr => first | (go_simp; done) | (go_simp; rfl)); intro gb360 hg w2 hbox hb; have n_ := c4_ (below_step (a1_) hb) (hbox) ((by rw [hg]; exact (below_size (a1_)) : w.heap.size ≤ gb360)) ((by rw [hg]; exact (below_size (a1_)) : w.heap.size ≤ gb360)); clear HB; obtain ⟨HB, BK360, GW360, GE360⟩ := n_; clear hb hbox hg; have hcz3_0 : w2.cell? ⟨gb360, 0, none⟩ = some (.string a0_0) := (blk_cell BK360.out 0).trans rfl; have hcz3_1 : w2.cell? ⟨gb360, 1, none⟩ = some (.bool a0_1) := (blk_cell BK360.out 1).trans rfl; have hcz3_2 : w2.cell? ⟨gb360, 2, none⟩ = some (.string a0_2) := (blk_cell BK360.out 2).trans rfl; have hcz3_3 : w2.cell? ⟨gb360, 3, none⟩ = some (.string a0_3) := (blk_cell BK360.out 3).trans rfl; have hcz3_4 : w2.cell? ⟨gb360, 4, none⟩ = some (.string a0_4) := (blk_cell BK360.out 4).trans rfl; have hfz3_0 := blk_frozen BK360.out 0; have hfz3_1 := blk_frozen BK360.out 1; have hfz3_2 := blk_frozen BK360.out 2; have hfz3_3 := blk_frozen BK360.out 3; have hfz3_4 := blk_frozen BK360.out 4) | ((with_reducible refine gate_dst (N := 12) rfl ?_); refine Kd.R_lit Kd.string _ 9 ?hg (N := 12) ?hd (xs := ([a0_2, a0_3, a0_4] : List ByteArray)) (inner := [.string a0_2, .string a0_3, .string a0_4]) (ok := fun _ => True) (okp := fun _ => True) ?hr ?hp (fun _ hk => hk) trivial (Below.refl _ _) (Nat.le_refl _) (by simp) ?_; (case hd => rfl); (case hg => rfl); (case hr => first | (go_simp; done) | (go_simp; rfl)); (case hp => exact (Reps.one (show Kd.M Kd.string _ _ _ a0_2 [.string a0_2] from rfl) (Reps.one (show Kd.M Kd.string _ _ _ a0_3 [.string a0_3] from rfl) (Reps.one (show Kd.M Kd.string _ _ _ a0_4 [.string a0_4] from rfl) (Reps.none _ _))))); intro v362 w4 ho5 hb hg_ hnew_; clear hg_ hnew_; (first | rw [← Ny361.out] at ho5 | (simp only [Int.reduceToNat] at ho5; rw [← Ny361.out] at ho5)); have n_ := c3_ (Kd.R_lower ho5 (below_size (a2_))) (blk_below (g := gb360) (o := .cells #[.string a0_0, .bool a0_1, .string a0_2, .string a0_3, .string a0_4] 55 (0, 0)) (a3_) hb) (below_step (a2_) hb); clear BK360 HB; obtain ⟨HO363, BK360, HB⟩ := n_; clear hb ho5; obtain ⟨Ao6, co6, eo6⟩ := Kd.R_slice HO363.out; subst eo6))
 go_loopg [3, 14] k (fun kq v3 v14 w' => ∃ (x3_1 : Int) (x14_1 : Int), v3 = .int .i64 x3_1 ∧ v14 = .int .i64 x14_1 ∧ Aside0 (impl_Grant_ok.l0 kq x3_1 y361 (y361.length : Int) x14_1 a0_0 a0_1 a0_2 a0_3 a0_4 = some r) ∧ Aside0 (kq ≤ k) ∧ Aside0 (Kd.R Kd.string 9 w' w.heap.size (fun _ => True) (.slice Ao6 y361.length co6) y361) ∧ Aside0 (w'.heap[gb360]? = some (.cells #[.string a0_0, .bool a0_1, .string a0_2, .string a0_3, .string a0_4] 55 (0, 0))) ∧ Aside0 (Below w.heap.size w w'))
 case atStart => exact ⟨(0), (0), (by first | rfl | (simp; done) | (simp [*]; done)), (by first | rfl | (simp; done) | (simp [*]; done)), H', ⟨Nat.le_refl _⟩, ⟨by (with_reducible repeat (first | apply Kd.R_alloc | apply Kd.R_drewN | apply Kd.R_drew)); exact HO363.out⟩, ⟨a3_⟩, ⟨a2_⟩⟩
 case round =>
  clear H'
  try clear p2
  try clear c6
  try clear hcz3_0
  try clear hcz3_1
  try clear hcz3_2
  try clear hcz3_3
  try clear hcz3_4
  try clear hfz3_0
  try clear hfz3_1
  try clear hfz3_2
  try clear hfz3_3
  try clear hfz3_4
  obtain ⟨x3_1, x14_1, rfl, rfl, HA, HK1, HO_12, BK360, HB⟩ := hrel
  cases gk with
  | zero => exact absurd HA.out (by simp [impl_Grant_ok.l0])
  | succ k1 =>
   have H := HA.out
   clear HA
   simp only [impl_Grant_ok.l0] at H
   by_cases c7 : x14_1 < (y361.length : Int)
   ·rw [if_pos c7] at H
    have c7b0 : decide (x14_1 < (y361.length : Int)) = true := decide_eq_true c7
    clear c7
    by_cases c8 : 0 ≤ x14_1
    ·rw [if_pos c8] at H
     have c8b0 : decide (0 ≤ x14_1) = true := decide_eq_true c8
     clear c8
     by_cases c9 : x14_1 < (y361.length : Int)
     ·rw [if_pos c9] at H
      have c9b0 : decide (x14_1 < (y361.length : Int)) = true := decide_eq_true c9
      clear c9
      by_cases c10 : (rdOf ByteArray.empty y361 x14_1).toList = ([] : List UInt8)
      ·rw [if_pos c10] at H
       have c10b0 : ((rdOf ByteArray.empty y361 x14_1).toList == ([] : List UInt8)) = true := beq_iff_eq.mpr c10
       have c10b1 : ((rdOf ByteArray.empty y361 x14_1).toList != ([] : List UInt8)) = false := bne_eq_false_iff_eq.mpr c10
       clear c10
       have H' := Aside0.mk H
       clear H
       have p364 : 0 ≤ (x14_1 : Int) := of_decide_eq_true (by first | (with_reducible assumption) | assumption)
       have q364 : x14_1 < (y361.length : Int) := of_decide_eq_true (by first | (with_reducible assumption) | assumption)
       obtain ⟨ad364, e364, hx364_0⟩ := Kd.at_string (Kd.R_reads' HO_12.out).2.2 x14_1 p364 q364
       cases e364
       replace p364 := eq_true p364
       replace q364 := eq_true q364
       go_wp2
       go_roundg k1
       case measure => have := HK1.out; omega
       case rel => exact ⟨(x3_1), (wrap64 (x14_1 + 1)), (by first | rfl | (simp; done) | (simp [*]; done)), (by first | rfl | (simp; done) | (simp [*]; done)), H', ⟨by have := HK1.out; omega⟩, ⟨a4_⟩, ⟨a3_⟩, ⟨a2_⟩⟩
      ·rw [if_neg c10] at H
       have c10b0 : ((rdOf ByteArray.empty y361 x14_1).toList == ([] : List UInt8)) = false := beq_eq_false_iff_ne.mpr c10
       have c10b1 : ((rdOf ByteArray.empty y361 x14_1).toList != ([] : List UInt8)) = true := bne_iff_ne.mpr c10
       have H' := Aside0.mk H
       clear H
       have p364 : 0 ≤ (x14_1 : Int) := of_decide_eq_true (by first | (with_reducible assumption) | assumption)
       have q364 : x14_1 < (y361.length : Int) := of_decide_eq_true (by first | (with_reducible assumption) | assumption)
       obtain ⟨ad364, e364, hx364_0⟩ := Kd.at_string (Kd.R_reads' HO_12.out).2.2 x14_1 p364 q364
       cases e364
       replace p364 := eq_true p364
       replace q364 := eq_true q364
       go_wp2
       go_roundg k1
       case measure => have := HK1.out; omega
       case rel => exact ⟨(wrap64 (x3_1 + 1)), (wrap64 (x14_1 + 1)), (by first | rfl | (simp; done) | (simp [*]; done)), (by first | rfl | (simp; done) | (simp [*]; done)), H', ⟨by have := HK1.out; omega⟩, ⟨a4_⟩, ⟨a3_⟩, ⟨a2_⟩⟩
     ·rw [if_neg c9] at H
      exact absurd H (by simp)
    ·rw [if_neg c8] at H
     exact absurd H (by simp)
   ·rw [if_neg c7] at H
    have c7b0 : decide (x14_1 < (y361.length : Int)) = false := decide_eq_false c7
    clear c7
    by_cases c11 : a0_0.toList = ([] : List UInt8)
    ·rw [if_pos c11] at H
     have c11b0 : (a0_0.toList == ([] : List UInt8)) = true := beq_iff_eq.mpr c11
     have c11b1 : (a0_0.toList != ([] : List UInt8)) = false := bne_eq_false_iff_eq.mpr c11
     clear c11
     by_cases c12 : x3_1 = 1
     ·rw [if_pos c12] at H
      have c12b0 : (x3_1 == 1) = true := beq_iff_eq.mpr c12
      have c12b1 : (x3_1 != 1) = false := bne_eq_false_iff_eq.mpr c12
      clear c12
      by_cases c13 : a0_2.toList = ([] : List UInt8)
      ·rw [if_pos c13] at H
       have c13b0 : (a0_2.toList == ([] : List UInt8)) = true := beq_iff_eq.mpr c13
       have c13b1 : (a0_2.toList != ([] : List UInt8)) = false := bne_eq_false_iff_eq.mpr c13
       clear c13
       by_cases c14 : a0_3.toList = ([] : List UInt8)
       ·rw [if_pos c14] at H
        have c14b0 : (a0_3.toList == ([] : List UInt8)) = true := beq_iff_eq.mpr c14
        have c14b1 : (a0_3.toList != ([] : List UInt8)) = false := bne_eq_false_iff_eq.mpr c14
        clear c14
        by_cases c15 : a0_4.toList = ([] : List UInt8)
        ·rw [if_pos c15] at H
         have c15b0 : (a0_4.toList == ([] : List UInt8)) = true := beq_iff_eq.mpr c15
         have c15b1 : (a0_4.toList != ([] : List UInt8)) = false := bne_eq_false_iff_eq.mpr c15
         clear c15
         obtain rfl := Option.some.inj H
         have hcz16_0 : wr.cell? ⟨gb360, 0, none⟩ = some (.string a0_0) := (blk_cell BK360.out 0).trans rfl
         have hcz16_1 : wr.cell? ⟨gb360, 1, none⟩ = some (.bool a0_1) := (blk_cell BK360.out 1).trans rfl
         have hcz16_2 : wr.cell? ⟨gb360, 2, none⟩ = some (.string a0_2) := (blk_cell BK360.out 2).trans rfl
         have hcz16_3 : wr.cell? ⟨gb360, 3, none⟩ = some (.string a0_3) := (blk_cell BK360.out 3).trans rfl
         have hcz16_4 : wr.cell? ⟨gb360, 4, none⟩ = some (.string a0_4) := (blk_cell BK360.out 4).trans rfl
         have hfz16_0 := blk_frozen BK360.out 0
         have hfz16_1 := blk_frozen BK360.out 1
         have hfz16_2 := blk_frozen BK360.out 2
         have hfz16_3 := blk_frozen BK360.out 3
         have hfz16_4 := blk_frozen BK360.out 4
         go_wp2
         go_ret
         exact ⟨a5_, a2_⟩
        ·rw [if_neg c15] at H
         have c15b0 : (a0_4.toList == ([] : List UInt8)) = false := beq_eq_false_iff_ne.mpr c15
         have c15b1 : (a0_4.toList != ([] : List UInt8)) = true := bne_iff_ne.mpr c15
         replace H := Option.bind_eq_some_iff.mp H
         obtain ⟨t365, A170, H⟩ := H
         replace H : (some t365) = some r := H
         have A17 := Aside0.mk A170
         clear A170
         obtain rfl := Option.some.inj H
         have hcz18_0 : wr.cell? ⟨gb360, 0, none⟩ = some (.string a0_0) := (blk_cell BK360.out 0).trans rfl
         have hcz18_1 : wr.cell? ⟨gb360, 1, none⟩ = some (.bool a0_1) := (blk_cell BK360.out 1).trans rfl
         have hcz18_2 : wr.cell? ⟨gb360, 2, none⟩ = some (.string a0_2) := (blk_cell BK360.out 2).trans rfl
         have hcz18_3 : wr.cell? ⟨gb360, 3, none⟩ = some (.string a0_3) := (blk_cell BK360.out 3).trans rfl
         have hcz18_4 : wr.cell? ⟨gb360, 4, none⟩ = some (.string a0_4) := (blk_cell BK360.out 4).trans rfl
         have hfz18_0 := blk_frozen BK360.out 0
         have hfz18_1 := blk_frozen BK360.out 1
         have hfz18_2 := blk_frozen BK360.out 2
         have hfz18_3 := blk_frozen BK360.out 3
         have hfz18_4 := blk_frozen BK360.out 4
         go_wp2_with (first | (go_at_call 84; (with_reducible refine (impl_isName.calls k1 a0_4 t365 _ A17.out).mono ?_); rintro e w' ⟨rfl, ⟨nd, rfl⟩⟩))
         go_ret
         exact ⟨a5_, a2_⟩
       ·rw [if_neg c14] at H
        have c14b0 : (a0_3.toList == ([] : List UInt8)) = false := beq_eq_false_iff_ne.mpr c14
        have c14b1 : (a0_3.toList != ([] : List UInt8)) = true := bne_iff_ne.mpr c14
        replace H := Option.bind_eq_some_iff.mp H
        obtain ⟨t366, A190, H⟩ := H
        replace H : (if t366 = true then (if a0_4.toList = ([] : List UInt8) then (some true) else ((impl_isName.f k1 a0_4).bind fun t367 => (some t367))) else (some false)) = some r := H
        have A19 := Aside0.mk A190
        clear A190
        by_cases c20 : t366 = true
        ·subst c20
         have H1 : (if a0_4.toList = ([] : List UInt8) then (some true) else ((impl_isName.f k1 a0_4).bind fun t367 => (some t367))) = some r := by rw [if_pos rfl] at H; exact H
         clear H
         have H := H1
         clear H1
         by_cases c21 : a0_4.toList = ([] : List UInt8)
         ·rw [if_pos c21] at H
          have c21b0 : (a0_4.toList == ([] : List UInt8)) = true := beq_iff_eq.mpr c21
          have c21b1 : (a0_4.toList != ([] : List UInt8)) = false := bne_eq_false_iff_eq.mpr c21
          clear c21
          obtain rfl := Option.some.inj H
          have hcz22_0 : wr.cell? ⟨gb360, 0, none⟩ = some (.string a0_0) := (blk_cell BK360.out 0).trans rfl
          have hcz22_1 : wr.cell? ⟨gb360, 1, none⟩ = some (.bool a0_1) := (blk_cell BK360.out 1).trans rfl
          have hcz22_2 : wr.cell? ⟨gb360, 2, none⟩ = some (.string a0_2) := (blk_cell BK360.out 2).trans rfl
          have hcz22_3 : wr.cell? ⟨gb360, 3, none⟩ = some (.string a0_3) := (blk_cell BK360.out 3).trans rfl
          have hcz22_4 : wr.cell? ⟨gb360, 4, none⟩ = some (.string a0_4) := (blk_cell BK360.out 4).trans rfl
          have hfz22_0 := blk_frozen BK360.out 0
          have hfz22_1 := blk_frozen BK360.out 1
          have hfz22_2 := blk_frozen BK360.out 2
          have hfz22_3 := blk_frozen BK360.out 3
          have hfz22_4 := blk_frozen BK360.out 4
          go_wp2_with (first | (go_at_call 84; (with_reducible refine (impl_isName.calls k1 a0_3 true _ A19.out).mono ?_); rintro e w' ⟨rfl, ⟨nd, rfl⟩⟩))
          go_ret
          exact ⟨a5_, a2_⟩
         ·rw [if_neg c21] at H
          have c21b0 : (a0_4.toList == ([] : List UInt8)) = false := beq_eq_false_iff_ne.mpr c21
          have c21b1 : (a0_4.toList != ([] : List UInt8)) = true := bne_iff_ne.mpr c21
          replace H := Option.bind_eq_some_iff.mp H
          obtain ⟨t367, A230, H⟩ := H
          replace H : (some t367) = some r := H
          have A23 := Aside0.mk A230
          clear A230
          obtain rfl := Option.some.inj H
          have hcz24_0 : wr.cell? ⟨gb360, 0, none⟩ = some (.string a0_0) := (blk_cell BK360.out 0).trans rfl
          have hcz24_1 : wr.cell? ⟨gb360, 1, none⟩ = some (.bool a0_1) := (blk_cell BK360.out 1).trans rfl
          have hcz24_2 : wr.cell? ⟨gb360, 2, none⟩ = some (.string a0_2) := (blk_cell BK360.out 2).trans rfl
          have hcz24_3 : wr.cell? ⟨gb360, 3, none⟩ = some (.string a0_3) := (blk_cell BK360.out 3).trans rfl
          have hcz24_4 : wr.cell? ⟨gb360, 4, none⟩ = some (.string a0_4) := (blk_cell BK360.out 4).trans rfl
          have hfz24_0 := blk_frozen BK360.out 0
          have hfz24_1 := blk_frozen BK360.out 1
          have hfz24_2 := blk_frozen BK360.out 2
          have hfz24_3 := blk_frozen BK360.out 3
          have hfz24_4 := blk_frozen BK360.out 4
          go_wp2_with (first | (go_at_call 84; (with_reducible refine (impl_isName.calls k1 a0_3 true _ A19.out).mono ?_); rintro e w' ⟨rfl, ⟨nd, rfl⟩⟩) | (go_at_call 84; (with_reducible refine (impl_isName.calls k1 a0_4 t367 _ A23.out).mono ?_); rintro e w' ⟨rfl, ⟨nd, rfl⟩⟩))
          go_ret
          exact ⟨a5_, a2_⟩
        ·replace c20 := Bool.eq_false_iff.mpr c20
         subst c20
         have H1 : (some false) = some r := by rw [if_neg (show ¬ (false = true) by decide)] at H; exact H
         clear H
         have H := H1
         clear H1
         obtain rfl := Option.some.inj H
         have hcz25_0 : wr.cell? ⟨gb360, 0, none⟩ = some (.string a0_0) := (blk_cell BK360.out 0).trans rfl
         have hcz25_1 : wr.cell? ⟨gb360, 1, none⟩ = some (.bool a0_1) := (blk_cell BK360.out 1).trans rfl
         have hcz25_2 : wr.cell? ⟨gb360, 2, none⟩ = some (.string a0_2) := (blk_cell BK360.out 2).trans rfl
         have hcz25_3 : wr.cell? ⟨gb360, 3, none⟩ = some (.string a0_3) := (blk_cell BK360.out 3).trans rfl
         have hcz25_4 : wr.cell? ⟨gb360, 4, none⟩ = some (.string a0_4) := (blk_cell BK360.out 4).trans rfl
         have hfz25_0 := blk_frozen BK360.out 0
         have hfz25_1 := blk_frozen BK360.out 1
         have hfz25_2 := blk_frozen BK360.out 2
         have hfz25_3 := blk_frozen BK360.out 3
         have hfz25_4 := blk_frozen BK360.out 4
         go_wp2_with (first | (go_at_call 84; (with_reducible refine (impl_isName.calls k1 a0_3 false _ A19.out).mono ?_); rintro e w' ⟨rfl, ⟨nd, rfl⟩⟩))
         go_ret
         exact ⟨a5_, a2_⟩
      ·rw [if_neg c13] at H
       have c13b0 : (a0_2.toList == ([] : List UInt8)) = false := beq_eq_false_iff_ne.mpr c13
       have c13b1 : (a0_2.toList != ([] : List UInt8)) = true := bne_iff_ne.mpr c13
       replace H := Option.bind_eq_some_iff.mp H
       obtain ⟨t368, A260, H⟩ := H
       replace H : (if t368 = 0 then (if a0_3.toList = ([] : List UInt8) then (if a0_4.toList = ([] : List UInt8) then (some true) else ((impl_isName.f k1 a0_4).bind fun t369 => (some t369))) else ((impl_isName.f k1 a0_3).bind fun t370 => (if t370 = true then (if a0_4.toList = ([] : List UInt8) then (some true) else ((impl_isName.f k1 a0_4).bind fun t371 => (some t371))) else (some false)))) else (some false)) = some r := H
       have A26 := Aside0.mk A260
       clear A260
       by_cases c27 : t368 = 0
       ·rw [if_pos c27] at H
        have c27b0 : (t368 == 0) = true := beq_iff_eq.mpr c27
        have c27b1 : (t368 != 0) = false := bne_eq_false_iff_eq.mpr c27
        clear c27
        by_cases c28 : a0_3.toList = ([] : List UInt8)
        ·rw [if_pos c28] at H
         have c28b0 : (a0_3.toList == ([] : List UInt8)) = true := beq_iff_eq.mpr c28
         have c28b1 : (a0_3.toList != ([] : List UInt8)) = false := bne_eq_false_iff_eq.mpr c28
         clear c28
         by_cases c29 : a0_4.toList = ([] : List UInt8)
         ·rw [if_pos c29] at H
          have c29b0 : (a0_4.toList == ([] : List UInt8)) = true := beq_iff_eq.mpr c29
          have c29b1 : (a0_4.toList != ([] : List UInt8)) = false := bne_eq_false_iff_eq.mpr c29
          clear c29
          obtain rfl := Option.some.inj H
          have hcz30_0 : wr.cell? ⟨gb360, 0, none⟩ = some (.string a0_0) := (blk_cell BK360.out 0).trans rfl
          have hcz30_1 : wr.cell? ⟨gb360, 1, none⟩ = some (.bool a0_1) := (blk_cell BK360.out 1).trans rfl
          have hcz30_2 : wr.cell? ⟨gb360, 2, none⟩ = some (.string a0_2) := (blk_cell BK360.out 2).trans rfl
          have hcz30_3 : wr.cell? ⟨gb360, 3, none⟩ = some (.string a0_3) := (blk_cell BK360.out 3).trans rfl
          have hcz30_4 : wr.cell? ⟨gb360, 4, none⟩ = some (.string a0_4) := (blk_cell BK360.out 4).trans rfl
          have hfz30_0 := blk_frozen BK360.out 0
          have hfz30_1 := blk_frozen BK360.out 1
          have hfz30_2 := blk_frozen BK360.out 2
          have hfz30_3 := blk_frozen BK360.out 3
          have hfz30_4 := blk_frozen BK360.out 4
          go_wp2_with (first | (go_at_call 79; (with_reducible refine (impl_LabelsFault.calls k1 a0_2 t368 _ A26.out).mono ?_); rintro e w31 ⟨rfl, hb⟩; have n_ := c3_ (Kd.R_below (a4_) hb) (blk_below (g := gb360) (o := .cells #[.string a0_0, .bool a0_1, .string a0_2, .string a0_3, .string a0_4] 55 (0, 0)) (a3_) hb) (below_step (a2_) hb); clear HO_12 BK360 HB; obtain ⟨HO_12, BK360, HB⟩ := n_; (try clear hb); (try clear hb2); (try clear hk); (try clear hi); have hcz32_0 : w31.cell? ⟨gb360, 0, none⟩ = some (.string a0_0) := (blk_cell BK360.out 0).trans rfl; have hcz32_1 : w31.cell? ⟨gb360, 1, none⟩ = some (.bool a0_1) := (blk_cell BK360.out 1).trans rfl; have hcz32_2 : w31.cell? ⟨gb360, 2, none⟩ = some (.string a0_2) := (blk_cell BK360.out 2).trans rfl; have hcz32_3 : w31.cell? ⟨gb360, 3, none⟩ = some (.string a0_3) := (blk_cell BK360.out 3).trans rfl; have hcz32_4 : w31.cell? ⟨gb360, 4, none⟩ = some (.string a0_4) := (blk_cell BK360.out 4).trans rfl; have hfz32_0 := blk_frozen BK360.out 0; have hfz32_1 := blk_frozen BK360.out 1; have hfz32_2 := blk_frozen BK360.out 2; have hfz32_3 := blk_frozen BK360.out 3; have hfz32_4 := blk_frozen BK360.out 4))
          go_ret
          exact ⟨a5_, a2_⟩
         ·rw [if_neg c29] at H
          have c29b0 : (a0_4.toList == ([] : List UInt8)) = false := beq_eq_false_iff_ne.mpr c29
          have c29b1 : (a0_4.toList != ([] : List UInt8)) = true := bne_iff_ne.mpr c29
          replace H := Option.bind_eq_some_iff.mp H
          obtain ⟨t369, A330, H⟩ := H
          replace H : (some t369) = some r := H
          have A33 := Aside0.mk A330
          clear A330
          obtain rfl := Option.some.inj H
          have hcz34_0 : wr.cell? ⟨gb360, 0, none⟩ = some (.string a0_0) := (blk_cell BK360.out 0).trans rfl
          have hcz34_1 : wr.cell? ⟨gb360, 1, none⟩ = some (.bool a0_1) := (blk_cell BK360.out 1).trans rfl
          have hcz34_2 : wr.cell? ⟨gb360, 2, none⟩ = some (.string a0_2) := (blk_cell BK360.out 2).trans rfl
          have hcz34_3 : wr.cell? ⟨gb360, 3, none⟩ = some (.string a0_3) := (blk_cell BK360.out 3).trans rfl
          have hcz34_4 : wr.cell? ⟨gb360, 4, none⟩ = some (.string a0_4) := (blk_cell BK360.out 4).trans rfl
          have hfz34_0 := blk_frozen BK360.out 0
          have hfz34_1 := blk_frozen BK360.out 1
          have hfz34_2 := blk_frozen BK360.out 2
          have hfz34_3 := blk_frozen BK360.out 3
          have hfz34_4 := blk_frozen BK360.out 4
          go_wp2_with (first | (go_at_call 79; (with_reducible refine (impl_LabelsFault.calls k1 a0_2 t368 _ A26.out).mono ?_); rintro e w35 ⟨rfl, hb⟩; have n_ := c3_ (Kd.R_below (a4_) hb) (blk_below (g := gb360) (o := .cells #[.string a0_0, .bool a0_1, .string a0_2, .string a0_3, .string a0_4] 55 (0, 0)) (a3_) hb) (below_step (a2_) hb); clear HO_12 BK360 HB; obtain ⟨HO_12, BK360, HB⟩ := n_; (try clear hb); (try clear hb2); (try clear hk); (try clear hi); have hcz36_0 : w35.cell? ⟨gb360, 0, none⟩ = some (.string a0_0) := (blk_cell BK360.out 0).trans rfl; have hcz36_1 : w35.cell? ⟨gb360, 1, none⟩ = some (.bool a0_1) := (blk_cell BK360.out 1).trans rfl; have hcz36_2 : w35.cell? ⟨gb360, 2, none⟩ = some (.string a0_2) := (blk_cell BK360.out 2).trans rfl; have hcz36_3 : w35.cell? ⟨gb360, 3, none⟩ = some (.string a0_3) := (blk_cell BK360.out 3).trans rfl; have hcz36_4 : w35.cell? ⟨gb360, 4, none⟩ = some (.string a0_4) := (blk_cell BK360.out 4).trans rfl; have hfz36_0 := blk_frozen BK360.out 0; have hfz36_1 := blk_frozen BK360.out 1; have hfz36_2 := blk_frozen BK360.out 2; have hfz36_3 := blk_frozen BK360.out 3; have hfz36_4 := blk_frozen BK360.out 4) | (go_at_call 84; (with_reducible refine (impl_isName.calls k1 a0_4 t369 _ A33.out).mono ?_); rintro e w' ⟨rfl, ⟨nd, rfl⟩⟩))
          go_ret
          exact ⟨a5_, a2_⟩
        ·rw [if_neg c28] at H
         have c28b0 : (a0_3.toList == ([] : List UInt8)) = false := beq_eq_false_iff_ne.mpr c28
         have c28b1 : (a0_3.toList != ([] : List UInt8)) = true := bne_iff_ne.mpr c28
         replace H := Option.bind_eq_some_iff.mp H
         obtain ⟨t370, A370, H⟩ := H
         replace H : (if t370 = true then (if a0_4.toList = ([] : List UInt8) then (some true) else ((impl_isName.f k1 a0_4).bind fun t371 => (some t371))) else (some false)) = some r := H
         have A37 := Aside0.mk A370
         clear A370
         by_cases c38 : t370 = true
         ·subst c38
          have H1 : (if a0_4.toList = ([] : List UInt8) then (some true) else ((impl_isName.f k1 a0_4).bind fun t371 => (some t371))) = some r := by rw [if_pos rfl] at H; exact H
          clear H
          have H := H1
          clear H1
          by_cases c39 : a0_4.toList = ([] : List UInt8)
          ·rw [if_pos c39] at H
           have c39b0 : (a0_4.toList == ([] : List UInt8)) = true := beq_iff_eq.mpr c39
           have c39b1 : (a0_4.toList != ([] : List UInt8)) = false := bne_eq_false_iff_eq.mpr c39
           clear c39
           obtain rfl := Option.some.inj H
           have hcz40_0 : wr.cell? ⟨gb360, 0, none⟩ = some (.string a0_0) := (blk_cell BK360.out 0).trans rfl
           have hcz40_1 : wr.cell? ⟨gb360, 1, none⟩ = some (.bool a0_1) := (blk_cell BK360.out 1).trans rfl
           have hcz40_2 : wr.cell? ⟨gb360, 2, none⟩ = some (.string a0_2) := (blk_cell BK360.out 2).trans rfl
           have hcz40_3 : wr.cell? ⟨gb360, 3, none⟩ = some (.string a0_3) := (blk_cell BK360.out 3).trans rfl
           have hcz40_4 : wr.cell? ⟨gb360, 4, none⟩ = some (.string a0_4) := (blk_cell BK360.out 4).trans rfl
           have hfz40_0 := blk_frozen BK360.out 0
           have hfz40_1 := blk_frozen BK360.out 1
           have hfz40_2 := blk_frozen BK360.out 2
           have hfz40_3 := blk_frozen BK360.out 3
           have hfz40_4 := blk_frozen BK360.out 4
           go_wp2_with (first | (go_at_call 79; (with_reducible refine (impl_LabelsFault.calls k1 a0_2 t368 _ A26.out).mono ?_); rintro e w41 ⟨rfl, hb⟩; have n_ := c3_ (Kd.R_below (a4_) hb) (blk_below (g := gb360) (o := .cells #[.string a0_0, .bool a0_1, .string a0_2, .string a0_3, .string a0_4] 55 (0, 0)) (a3_) hb) (below_step (a2_) hb); clear HO_12 BK360 HB; obtain ⟨HO_12, BK360, HB⟩ := n_; (try clear hb); (try clear hb2); (try clear hk); (try clear hi); have hcz42_0 : w41.cell? ⟨gb360, 0, none⟩ = some (.string a0_0) := (blk_cell BK360.out 0).trans rfl; have hcz42_1 : w41.cell? ⟨gb360, 1, none⟩ = some (.bool a0_1) := (blk_cell BK360.out 1).trans rfl; have hcz42_2 : w41.cell? ⟨gb360, 2, none⟩ = some (.string a0_2) := (blk_cell BK360.out 2).trans rfl; have hcz42_3 : w41.cell? ⟨gb360, 3, none⟩ = some (.string a0_3) := (blk_cell BK360.out 3).trans rfl; have hcz42_4 : w41.cell? ⟨gb360, 4, none⟩ = some (.string a0_4) := (blk_cell BK360.out 4).trans rfl; have hfz42_0 := blk_frozen BK360.out 0; have hfz42_1 := blk_frozen BK360.out 1; have hfz42_2 := blk_frozen BK360.out 2; have hfz42_3 := blk_frozen BK360.out 3; have hfz42_4 := blk_frozen BK360.out 4) | (go_at_call 84; (with_reducible refine (impl_isName.calls k1 a0_3 true _ A37.out).mono ?_); rintro e w' ⟨rfl, ⟨nd, rfl⟩⟩))
           go_ret
           exact ⟨a5_, a2_⟩
          ·rw [if_neg c39] at H
           have c39b0 : (a0_4.toList == ([] : List UInt8)) = false := beq_eq_false_iff_ne.mpr c39
           have c39b1 : (a0_4.toList != ([] : List UInt8)) = true := bne_iff_ne.mpr c39
           replace H := Option.bind_eq_some_iff.mp H
           obtain ⟨t371, A430, H⟩ := H
           replace H : (some t371) = some r := H
           have A43 := Aside0.mk A430
           clear A430
           obtain rfl := Option.some.inj H
           have hcz44_0 : wr.cell? ⟨gb360, 0, none⟩ = some (.string a0_0) := (blk_cell BK360.out 0).trans rfl
           have hcz44_1 : wr.cell? ⟨gb360, 1, none⟩ = some (.bool a0_1) := (blk_cell BK360.out 1).trans rfl
           have hcz44_2 : wr.cell? ⟨gb360, 2, none⟩ = some (.string a0_2) := (blk_cell BK360.out 2).trans rfl
           have hcz44_3 : wr.cell? ⟨gb360, 3, none⟩ = some (.string a0_3) := (blk_cell BK360.out 3).trans rfl
           have hcz44_4 : wr.cell? ⟨gb360, 4, none⟩ = some (.string a0_4) := (blk_cell BK360.out 4).trans rfl
           have hfz44_0 := blk_frozen BK360.out 0
           have hfz44_1 := blk_frozen BK360.out 1
           have hfz44_2 := blk_frozen BK360.out 2
           have hfz44_3 := blk_frozen BK360.out 3
           have hfz44_4 := blk_frozen BK360.out 4
           go_wp2_with (first | (go_at_call 79; (with_reducible refine (impl_LabelsFault.calls k1 a0_2 t368 _ A26.out).mono ?_); rintro e w45 ⟨rfl, hb⟩; have n_ := c3_ (Kd.R_below (a4_) hb) (blk_below (g := gb360) (o := .cells #[.string a0_0, .bool a0_1, .string a0_2, .string a0_3, .string a0_4] 55 (0, 0)) (a3_) hb) (below_step (a2_) hb); clear HO_12 BK360 HB; obtain ⟨HO_12, BK360, HB⟩ := n_; (try clear hb); (try clear hb2); (try clear hk); (try clear hi); have hcz46_0 : w45.cell? ⟨gb360, 0, none⟩ = some (.string a0_0) := (blk_cell BK360.out 0).trans rfl; have hcz46_1 : w45.cell? ⟨gb360, 1, none⟩ = some (.bool a0_1) := (blk_cell BK360.out 1).trans rfl; have hcz46_2 : w45.cell? ⟨gb360, 2, none⟩ = some (.string a0_2) := (blk_cell BK360.out 2).trans rfl; have hcz46_3 : w45.cell? ⟨gb360, 3, none⟩ = some (.string a0_3) := (blk_cell BK360.out 3).trans rfl; have hcz46_4 : w45.cell? ⟨gb360, 4, none⟩ = some (.string a0_4) := (blk_cell BK360.out 4).trans rfl; have hfz46_0 := blk_frozen BK360.out 0; have hfz46_1 := blk_frozen BK360.out 1; have hfz46_2 := blk_frozen BK360.out 2; have hfz46_3 := blk_frozen BK360.out 3; have hfz46_4 := blk_frozen BK360.out 4) | (go_at_call 84; (with_reducible refine (impl_isName.calls k1 a0_3 true _ A37.out).mono ?_); rintro e w' ⟨rfl, ⟨nd, rfl⟩⟩) | (go_at_call 84; (with_reducible refine (impl_isName.calls k1 a0_4 t371 _ A43.out).mono ?_); rintro e w' ⟨rfl, ⟨nd, rfl⟩⟩))
           go_ret
           exact ⟨a5_, a2_⟩
         ·replace c38 := Bool.eq_false_iff.mpr c38
          subst c38
          have H1 : (some false) = some r := by rw [if_neg (show ¬ (false = true) by decide)] at H; exact H
          clear H
          have H := H1
          clear H1
          obtain rfl := Option.some.inj H
          have hcz47_0 : wr.cell? ⟨gb360, 0, none⟩ = some (.string a0_0) := (blk_cell BK360.out 0).trans rfl
          have hcz47_1 : wr.cell? ⟨gb360, 1, none⟩ = some (.bool a0_1) := (blk_cell BK360.out 1).trans rfl
          have hcz47_2 : wr.cell? ⟨gb360, 2, none⟩ = some (.string a0_2) := (blk_cell BK360.out 2).trans rfl
          have hcz47_3 : wr.cell? ⟨gb360, 3, none⟩ = some (.string a0_3) := (blk_cell BK360.out 3).trans rfl
          have hcz47_4 : wr.cell? ⟨gb360, 4, none⟩ = some (.string a0_4) := (blk_cell BK360.out 4).trans rfl
          have hfz47_0 := blk_frozen BK360.out 0
          have hfz47_1 := blk_frozen BK360.out 1
          have hfz47_2 := blk_frozen BK360.out 2
          have hfz47_3 := blk_frozen BK360.out 3
          have hfz47_4 := blk_frozen BK360.out 4
          go_wp2_with (first | (go_at_call 79; (with_reducible refine (impl_LabelsFault.calls k1 a0_2 t368 _ A26.out).mono ?_); rintro e w48 ⟨rfl, hb⟩; have n_ := c3_ (Kd.R_below (a4_) hb) (blk_below (g := gb360) (o := .cells #[.string a0_0, .bool a0_1, .string a0_2, .string a0_3, .string a0_4] 55 (0, 0)) (a3_) hb) (below_step (a2_) hb); clear HO_12 BK360 HB; obtain ⟨HO_12, BK360, HB⟩ := n_; (try clear hb); (try clear hb2); (try clear hk); (try clear hi); have hcz49_0 : w48.cell? ⟨gb360, 0, none⟩ = some (.string a0_0) := (blk_cell BK360.out 0).trans rfl; have hcz49_1 : w48.cell? ⟨gb360, 1, none⟩ = some (.bool a0_1) := (blk_cell BK360.out 1).trans rfl; have hcz49_2 : w48.cell? ⟨gb360, 2, none⟩ = some (.string a0_2) := (blk_cell BK360.out 2).trans rfl; have hcz49_3 : w48.cell? ⟨gb360, 3, none⟩ = some (.string a0_3) := (blk_cell BK360.out 3).trans rfl; have hcz49_4 : w48.cell? ⟨gb360, 4, none⟩ = some (.string a0_4) := (blk_cell BK360.out 4).trans rfl; have hfz49_0 := blk_frozen BK360.out 0; have hfz49_1 := blk_frozen BK360.out 1; have hfz49_2 := blk_frozen BK360.out 2; have hfz49_3 := blk_frozen BK360.out 3; have hfz49_4 := blk_frozen BK360.out 4) | (go_at_call 84; (with_reducible refine (impl_isName.calls k1 a0_3 false _ A37.out).mono ?_); rintro e w' ⟨rfl, ⟨nd, rfl⟩⟩))
          go_ret
          exact ⟨a5_, a2_⟩
       ·rw [if_neg c27] at H
        have c27b0 : (t368 == 0) = false := beq_eq_false_iff_ne.mpr c27
        have c27b1 : (t368 != 0) = true := bne_iff_ne.mpr c27
        obtain rfl := Option.some.inj H
        have hcz50_0 : wr.cell? ⟨gb360, 0, none⟩ = some (.string a0_0) := (blk_cell BK360.out 0).trans rfl
        have hcz50_1 : wr.cell? ⟨gb360, 1, none⟩ = some (.bool a0_1) := (blk_cell BK360.out 1).trans rfl
        have hcz50_2 : wr.cell? ⟨gb360, 2, none⟩ = some (.string a0_2) := (blk_cell BK360.out 2).trans rfl
        have hcz50_3 : wr.cell? ⟨gb360, 3, none⟩ = some (.string a0_3) := (blk_cell BK360.out 3).trans rfl
        have hcz50_4 : wr.cell? ⟨gb360, 4, none⟩ = some (.string a0_4) := (blk_cell BK360.out 4).trans rfl
        have hfz50_0 := blk_frozen BK360.out 0
        have hfz50_1 := blk_frozen BK360.out 1
        have hfz50_2 := blk_frozen BK360.out 2
        have hfz50_3 := blk_frozen BK360.out 3
        have hfz50_4 := blk_frozen BK360.out 4
        go_wp2_with (first | (go_at_call 79; (with_reducible refine (impl_LabelsFault.calls k1 a0_2 t368 _ A26.out).mono ?_); rintro e w51 ⟨rfl, hb⟩; have n_ := c3_ (Kd.R_below (a4_) hb) (blk_below (g := gb360) (o := .cells #[.string a0_0, .bool a0_1, .string a0_2, .string a0_3, .string a0_4] 55 (0, 0)) (a3_) hb) (below_step (a2_) hb); clear HO_12 BK360 HB; obtain ⟨HO_12, BK360, HB⟩ := n_; (try clear hb); (try clear hb2); (try clear hk); (try clear hi)))
        go_ret
        exact ⟨a5_, a2_⟩
     ·rw [if_neg c12] at H
      have c12b0 : (x3_1 == 1) = false := beq_eq_false_iff_ne.mpr c12
      have c12b1 : (x3_1 != 1) = true := bne_iff_ne.mpr c12
      obtain rfl := Option.some.inj H
      have hcz52_0 : wr.cell? ⟨gb360, 0, none⟩ = some (.string a0_0) := (blk_cell BK360.out 0).trans rfl
      have hcz52_1 : wr.cell? ⟨gb360, 1, none⟩ = some (.bool a0_1) := (blk_cell BK360.out 1).trans rfl
      have hcz52_2 : wr.cell? ⟨gb360, 2, none⟩ = some (.string a0_2) := (blk_cell BK360.out 2).trans rfl
      have hcz52_3 : wr.cell? ⟨gb360, 3, none⟩ = some (.string a0_3) := (blk_cell BK360.out 3).trans rfl
      have hcz52_4 : wr.cell? ⟨gb360, 4, none⟩ = some (.string a0_4) := (blk_cell BK360.out 4).trans rfl
      have hfz52_0 := blk_frozen BK360.out 0
      have hfz52_1 := blk_frozen BK360.out 1
      have hfz52_2 := blk_frozen BK360.out 2
      have hfz52_3 := blk_frozen BK360.out 3
      have hfz52_4 := blk_frozen BK360.out 4
      go_wp2
      go_ret
      exact ⟨a5_, a2_⟩
    ·rw [if_neg c11] at H
     have c11b0 : (a0_0.toList == ([] : List UInt8)) = false := beq_eq_false_iff_ne.mpr c11
     have c11b1 : (a0_0.toList != ([] : List UInt8)) = true := bne_iff_ne.mpr c11
     replace H := Option.bind_eq_some_iff.mp H
     obtain ⟨t372, A530, H⟩ := H
     replace H : (if t372 = true then (if x3_1 = 1 then (if a0_2.toList = ([] : List UInt8) then (if a0_3.toList = ([] : List UInt8) then (if a0_4.toList = ([] : List UInt8) then (some true) else ((impl_isName.f k1 a0_4).bind fun t373 => (some t373))) else ((impl_isName.f k1 a0_3).bind fun t374 => (if t374 = true then (if a0_4.toList = ([] : List UInt8) then (some true) else ((impl_isName.f k1 a0_4).bind fun t375 => (some t375))) else (some false)))) else ((impl_LabelsFault.f k1 a0_2).bind fun t376 => (if t376 = 0 then (if a0_3.toList = ([] : List UInt8) then (if a0_4.toList = ([] : List UInt8) then (some true) else ((impl_isName.f k1 a0_4).bind fun t377 => (some t377))) else ((impl_isName.f k1 a0_3).bind fun t378 => (if t378 = true then (if a0_4.toList = ([] : List UInt8) then (some true) else ((impl_isName.f k1 a0_4).bind fun t379 => (some t379))) else (some false)))) else (some false)))) else (some false)) else (some false)) = some r := H
     have A53 := Aside0.mk A530
     clear A530
     by_cases c54 : t372 = true
     ·subst c54
      have H1 : (if x3_1 = 1 then (if a0_2.toList = ([] : List UInt8) then (if a0_3.toList = ([] : List UInt8) then (if a0_4.toList = ([] : List UInt8) then (some true) else ((impl_isName.f k1 a0_4).bind fun t373 => (some t373))) else ((impl_isName.f k1 a0_3).bind fun t374 => (if t374 = true then (if a0_4.toList = ([] : List UInt8) then (some true) else ((impl_isName.f k1 a0_4).bind fun t375 => (some t375))) else (some false)))) else ((impl_LabelsFault.f k1 a0_2).bind fun t376 => (if t376 = 0 then (if a0_3.toList = ([] : List UInt8) then (if a0_4.toList = ([] : List UInt8) then (some true) else ((impl_isName.f k1 a0_4).bind fun t377 => (some t377))) else ((impl_isName.f k1 a0_3).bind fun t378 => (if t378 = true then (if a0_4.toList = ([] : List UInt8) then (some true) else ((impl_isName.f k1 a0_4).bind fun t379 => (some t379))) else (some false)))) else (some false)))) else (some false)) = some r := by rw [if_pos rfl] at H; exact H
      clear H
      have H := H1
      clear H1
      by_cases c55 : x3_1 = 1
      ·rw [if_pos c55] at H
       have c55b0 : (x3_1 == 1) = true := beq_iff_eq.mpr c55
       have c55b1 : (x3_1 != 1) = false := bne_eq_false_iff_eq.mpr c55
       clear c55
       by_cases c56 : a0_2.toList = ([] : List UInt8)
       ·rw [if_pos c56] at H
        have c56b0 : (a0_2.toList == ([] : List UInt8)) = true := beq_iff_eq.mpr c56
        have c56b1 : (a0_2.toList != ([] : List UInt8)) = false := bne_eq_false_iff_eq.mpr c56
        clear c56
        by_cases c57 : a0_3.toList = ([] : List UInt8)
        ·rw [if_pos c57] at H
         have c57b0 : (a0_3.toList == ([] : List UInt8)) = true := beq_iff_eq.mpr c57
         have c57b1 : (a0_3.toList != ([] : List UInt8)) = false := bne_eq_false_iff_eq.mpr c57
         clear c57
         by_cases c58 : a0_4.toList = ([] : List UInt8)
         ·rw [if_pos c58] at H
          have c58b0 : (a0_4.toList == ([] : List UInt8)) = true := beq_iff_eq.mpr c58
          have c58b1 : (a0_4.toList != ([] : List UInt8)) = false := bne_eq_false_iff_eq.mpr c58
          clear c58
          obtain rfl := Option.some.inj H
          have hcz59_0 : wr.cell? ⟨gb360, 0, none⟩ = some (.string a0_0) := (blk_cell BK360.out 0).trans rfl
          have hcz59_1 : wr.cell? ⟨gb360, 1, none⟩ = some (.bool a0_1) := (blk_cell BK360.out 1).trans rfl
          have hcz59_2 : wr.cell? ⟨gb360, 2, none⟩ = some (.string a0_2) := (blk_cell BK360.out 2).trans rfl
          have hcz59_3 : wr.cell? ⟨gb360, 3, none⟩ = some (.string a0_3) := (blk_cell BK360.out 3).trans rfl
          have hcz59_4 : wr.cell? ⟨gb360, 4, none⟩ = some (.string a0_4) := (blk_cell BK360.out 4).trans rfl
          have hfz59_0 := blk_frozen BK360.out 0
          have hfz59_1 := blk_frozen BK360.out 1
          have hfz59_2 := blk_frozen BK360.out 2
          have hfz59_3 := blk_frozen BK360.out 3
          have hfz59_4 := blk_frozen BK360.out 4
          go_wp2_with (first | (go_at_call 84; (with_reducible refine (impl_isName.calls k1 a0_0 true _ A53.out).mono ?_); rintro e w' ⟨rfl, ⟨nd, rfl⟩⟩))
          go_ret
          exact ⟨a5_, a2_⟩
         ·rw [if_neg c58] at H
          have c58b0 : (a0_4.toList == ([] : List UInt8)) = false := beq_eq_false_iff_ne.mpr c58
          have c58b1 : (a0_4.toList != ([] : List UInt8)) = true := bne_iff_ne.mpr c58
          replace H := Option.bind_eq_some_iff.mp H
          obtain ⟨t373, A600, H⟩ := H
          replace H : (some t373) = some r := H
          have A60 := Aside0.mk A600
          clear A600
          obtain rfl := Option.some.inj H
          have hcz61_0 : wr.cell? ⟨gb360, 0, none⟩ = some (.string a0_0) := (blk_cell BK360.out 0).trans rfl
          have hcz61_1 : wr.cell? ⟨gb360, 1, none⟩ = some (.bool a0_1) := (blk_cell BK360.out 1).trans rfl
          have hcz61_2 : wr.cell? ⟨gb360, 2, none⟩ = some (.string a0_2) := (blk_cell BK360.out 2).trans rfl
          have hcz61_3 : wr.cell? ⟨gb360, 3, none⟩ = some (.string a0_3) := (blk_cell BK360.out 3).trans rfl
          have hcz61_4 : wr.cell? ⟨gb360, 4, none⟩ = some (.string a0_4) := (blk_cell BK360.out 4).trans rfl
          have hfz61_0 := blk_frozen BK360.out 0
          have hfz61_1 := blk_frozen BK360.out 1
          have hfz61_2 := blk_frozen BK360.out 2
          have hfz61_3 := blk_frozen BK360.out 3
          have hfz61_4 := blk_frozen BK360.out 4
          go_wp2_with (first | (go_at_call 84; (with_reducible refine (impl_isName.calls k1 a0_0 true _ A53.out).mono ?_); rintro e w' ⟨rfl, ⟨nd, rfl⟩⟩) | (go_at_call 84; (with_reducible refine (impl_isName.calls k1 a0_4 t373 _ A60.out).mono ?_); rintro e w' ⟨rfl, ⟨nd, rfl⟩⟩))
          go_ret
          exact ⟨a5_, a2_⟩
        ·rw [if_neg c57] at H
         have c57b0 : (a0_3.toList == ([] : List UInt8)) = false := beq_eq_false_iff_ne.mpr c57
         have c57b1 : (a0_3.toList != ([] : List UInt8)) = true := bne_iff_ne.mpr c57
         replace H := Option.bind_eq_some_iff.mp H
         obtain ⟨t374, A620, H⟩ := H
         replace H : (if t374 = true then (if a0_4.toList = ([] : List UInt8) then (some true) else ((impl_isName.f k1 a0_4).bind fun t375 => (some t375))) else (some false)) = some r := H
         have A62 := Aside0.mk A620
         clear A620
         by_cases c63 : t374 = true
         ·subst c63
          have H1 : (if a0_4.toList = ([] : List UInt8) then (some true) else ((impl_isName.f k1 a0_4).bind fun t375 => (some t375))) = some r := by rw [if_pos rfl] at H; exact H
          clear H
          have H := H1
          clear H1
          by_cases c64 : a0_4.toList = ([] : List UInt8)
          ·rw [if_pos c64] at H
           have c64b0 : (a0_4.toList == ([] : List UInt8)) = true := beq_iff_eq.mpr c64
           have c64b1 : (a0_4.toList != ([] : List UInt8)) = false := bne_eq_false_iff_eq.mpr c64
           clear c64
           obtain rfl := Option.some.inj H
           have hcz65_0 : wr.cell? ⟨gb360, 0, none⟩ = some (.string a0_0) := (blk_cell BK360.out 0).trans rfl
           have hcz65_1 : wr.cell? ⟨gb360, 1, none⟩ = some (.bool a0_1) := (blk_cell BK360.out 1).trans rfl
           have hcz65_2 : wr.cell? ⟨gb360, 2, none⟩ = some (.string a0_2) := (blk_cell BK360.out 2).trans rfl
           have hcz65_3 : wr.cell? ⟨gb360, 3, none⟩ = some (.string a0_3) := (blk_cell BK360.out 3).trans rfl
           have hcz65_4 : wr.cell? ⟨gb360, 4, none⟩ = some (.string a0_4) := (blk_cell BK360.out 4).trans rfl
           have hfz65_0 := blk_frozen BK360.out 0
           have hfz65_1 := blk_frozen BK360.out 1
           have hfz65_2 := blk_frozen BK360.out 2
           have hfz65_3 := blk_frozen BK360.out 3
           have hfz65_4 := blk_frozen BK360.out 4
           go_wp2_with (first | (go_at_call 84; (with_reducible refine (impl_isName.calls k1 a0_0 true _ A53.out).mono ?_); rintro e w' ⟨rfl, ⟨nd, rfl⟩⟩) | (go_at_call 84; (with_reducible refine (impl_isName.calls k1 a0_3 true _ A62.out).mono ?_); rintro e w' ⟨rfl, ⟨nd, rfl⟩⟩))
           go_ret
           exact ⟨a5_, a2_⟩
          ·rw [if_neg c64] at H
           have c64b0 : (a0_4.toList == ([] : List UInt8)) = false := beq_eq_false_iff_ne.mpr c64
           have c64b1 : (a0_4.toList != ([] : List UInt8)) = true := bne_iff_ne.mpr c64
           replace H := Option.bind_eq_some_iff.mp H
           obtain ⟨t375, A660, H⟩ := H
           replace H : (some t375) = some r := H
           have A66 := Aside0.mk A660
           clear A660
           obtain rfl := Option.some.inj H
           have hcz67_0 : wr.cell? ⟨gb360, 0, none⟩ = some (.string a0_0) := (blk_cell BK360.out 0).trans rfl
           have hcz67_1 : wr.cell? ⟨gb360, 1, none⟩ = some (.bool a0_1) := (blk_cell BK360.out 1).trans rfl
           have hcz67_2 : wr.cell? ⟨gb360, 2, none⟩ = some (.string a0_2) := (blk_cell BK360.out 2).trans rfl
           have hcz67_3 : wr.cell? ⟨gb360, 3, none⟩ = some (.string a0_3) := (blk_cell BK360.out 3).trans rfl
           have hcz67_4 : wr.cell? ⟨gb360, 4, none⟩ = some (.string a0_4) := (blk_cell BK360.out 4).trans rfl
           have hfz67_0 := blk_frozen BK360.out 0
           have hfz67_1 := blk_frozen BK360.out 1
           have hfz67_2 := blk_frozen BK360.out 2
           have hfz67_3 := blk_frozen BK360.out 3
           have hfz67_4 := blk_frozen BK360.out 4
           go_wp2_with (first | (go_at_call 84; (with_reducible refine (impl_isName.calls k1 a0_0 true _ A53.out).mono ?_); rintro e w' ⟨rfl, ⟨nd, rfl⟩⟩) | (go_at_call 84; (with_reducible refine (impl_isName.calls k1 a0_3 true _ A62.out).mono ?_); rintro e w' ⟨rfl, ⟨nd, rfl⟩⟩) | (go_at_call 84; (with_reducible refine (impl_isName.calls k1 a0_4 t375 _ A66.out).mono ?_); rintro e w' ⟨rfl, ⟨nd, rfl⟩⟩))
           go_ret
           exact ⟨a5_, a2_⟩
         ·replace c63 := Bool.eq_false_iff.mpr c63
          subst c63
          have H1 : (some false) = some r := by rw [if_neg (show ¬ (false = true) by decide)] at H; exact H
          clear H
          have H := H1
          clear H1
          obtain rfl := Option.some.inj H
          have hcz68_0 : wr.cell? ⟨gb360, 0, none⟩ = some (.string a0_0) := (blk_cell BK360.out 0).trans rfl
          have hcz68_1 : wr.cell? ⟨gb360, 1, none⟩ = some (.bool a0_1) := (blk_cell BK360.out 1).trans rfl
          have hcz68_2 : wr.cell? ⟨gb360, 2, none⟩ = some (.string a0_2) := (blk_cell BK360.out 2).trans rfl
          have hcz68_3 : wr.cell? ⟨gb360, 3, none⟩ = some (.string a0_3) := (blk_cell BK360.out 3).trans rfl
          have hcz68_4 : wr.cell? ⟨gb360, 4, none⟩ = some (.string a0_4) := (blk_cell BK360.out 4).trans rfl
          have hfz68_0 := blk_frozen BK360.out 0
          have hfz68_1 := blk_frozen BK360.out 1
          have hfz68_2 := blk_frozen BK360.out 2
          have hfz68_3 := blk_frozen BK360.out 3
          have hfz68_4 := blk_frozen BK360.out 4
          go_wp2_with (first | (go_at_call 84; (with_reducible refine (impl_isName.calls k1 a0_0 true _ A53.out).mono ?_); rintro e w' ⟨rfl, ⟨nd, rfl⟩⟩) | (go_at_call 84; (with_reducible refine (impl_isName.calls k1 a0_3 false _ A62.out).mono ?_); rintro e w' ⟨rfl, ⟨nd, rfl⟩⟩))
          go_ret
          exact ⟨a5_, a2_⟩
       ·rw [if_neg c56] at H
        have c56b0 : (a0_2.toList == ([] : List UInt8)) = false := beq_eq_false_iff_ne.mpr c56
        have c56b1 : (a0_2.toList != ([] : List UInt8)) = true := bne_iff_ne.mpr c56
        replace H := Option.bind_eq_some_iff.mp H
        obtain ⟨t376, A690, H⟩ := H
        replace H : (if t376 = 0 then (if a0_3.toList = ([] : List UInt8) then (if a0_4.toList = ([] : List UInt8) then (some true) else ((impl_isName.f k1 a0_4).bind fun t377 => (some t377))) else ((impl_isName.f k1 a0_3).bind fun t378 => (if t378 = true then (if a0_4.toList = ([] : List UInt8) then (some true) else ((impl_isName.f k1 a0_4).bind fun t379 => (some t379))) else (some false)))) else (some false)) = some r := H
        have A69 := Aside0.mk A690
        clear A690
        by_cases c70 : t376 = 0
        ·rw [if_pos c70] at H
         have c70b0 : (t376 == 0) = true := beq_iff_eq.mpr c70
         have c70b1 : (t376 != 0) = false := bne_eq_false_iff_eq.mpr c70
         clear c70
         by_cases c71 : a0_3.toList = ([] : List UInt8)
         ·rw [if_pos c71] at H
          have c71b0 : (a0_3.toList == ([] : List UInt8)) = true := beq_iff_eq.mpr c71
          have c71b1 : (a0_3.toList != ([] : List UInt8)) = false := bne_eq_false_iff_eq.mpr c71
          clear c71
          by_cases c72 : a0_4.toList = ([] : List UInt8)
          ·rw [if_pos c72] at H
           have c72b0 : (a0_4.toList == ([] : List UInt8)) = true := beq_iff_eq.mpr c72
           have c72b1 : (a0_4.toList != ([] : List UInt8)) = false := bne_eq_false_iff_eq.mpr c72
           clear c72
           obtain rfl := Option.some.inj H
           have hcz73_0 : wr.cell? ⟨gb360, 0, none⟩ = some (.string a0_0) := (blk_cell BK360.out 0).trans rfl
           have hcz73_1 : wr.cell? ⟨gb360, 1, none⟩ = some (.bool a0_1) := (blk_cell BK360.out 1).trans rfl
           have hcz73_2 : wr.cell? ⟨gb360, 2, none⟩ = some (.string a0_2) := (blk_cell BK360.out 2).trans rfl
           have hcz73_3 : wr.cell? ⟨gb360, 3, none⟩ = some (.string a0_3) := (blk_cell BK360.out 3).trans rfl
           have hcz73_4 : wr.cell? ⟨gb360, 4, none⟩ = some (.string a0_4) := (blk_cell BK360.out 4).trans rfl
           have hfz73_0 := blk_frozen BK360.out 0
           have hfz73_1 := blk_frozen BK360.out 1
           have hfz73_2 := blk_frozen BK360.out 2
           have hfz73_3 := blk_frozen BK360.out 3
           have hfz73_4 := blk_frozen BK360.out 4
           go_wp2_with (first | (go_at_call 84; (with_reducible refine (impl_isName.calls k1 a0_0 true _ A53.out).mono ?_); rintro e w' ⟨rfl, ⟨nd, rfl⟩⟩) | (go_at_call 79; (with_reducible refine (impl_LabelsFault.calls k1 a0_2 t376 _ A69.out).mono ?_); rintro e w74 ⟨rfl, hb⟩; have n_ := c3_ (Kd.R_below (a4_) hb) (blk_below (g := gb360) (o := .cells #[.string a0_0, .bool a0_1, .string a0_2, .string a0_3, .string a0_4] 55 (0, 0)) (a3_) hb) (below_step (a2_) hb); clear HO_12 BK360 HB; obtain ⟨HO_12, BK360, HB⟩ := n_; (try clear hb); (try clear hb2); (try clear hk); (try clear hi); have hcz75_0 : w74.cell? ⟨gb360, 0, none⟩ = some (.string a0_0) := (blk_cell BK360.out 0).trans rfl; have hcz75_1 : w74.cell? ⟨gb360, 1, none⟩ = some (.bool a0_1) := (blk_cell BK360.out 1).trans rfl; have hcz75_2 : w74.cell? ⟨gb360, 2, none⟩ = some (.string a0_2) := (blk_cell BK360.out 2).trans rfl; have hcz75_3 : w74.cell? ⟨gb360, 3, none⟩ = some (.string a0_3) := (blk_cell BK360.out 3).trans rfl; have hcz75_4 : w74.cell? ⟨gb360, 4, none⟩ = some (.string a0_4) := (blk_cell BK360.out 4).trans rfl; have hfz75_0 := blk_frozen BK360.out 0; have hfz75_1 := blk_frozen BK360.out 1; have hfz75_2 := blk_frozen BK360.out 2; have hfz75_3 := blk_frozen BK360.out 3; have hfz75_4 := blk_frozen BK360.out 4))
           go_ret
           exact ⟨a5_, a2_⟩
          ·rw [if_neg c72] at H
           have c72b0 : (a0_4.toList == ([] : List UInt8)) = false := beq_eq_false_iff_ne.mpr c72
           have c72b1 : (a0_4.toList != ([] : List UInt8)) = true := bne_iff_ne.mpr c72
           replace H := Option.bind_eq_some_iff.mp H
           obtain ⟨t377, A760, H⟩ := H
           replace H : (some t377) = some r := H
           have A76 := Aside0.mk A760
           clear A760
           obtain rfl := Option.some.inj H
           have hcz77_0 : wr.cell? ⟨gb360, 0, none⟩ = some (.string a0_0) := (blk_cell BK360.out 0).trans rfl
           have hcz77_1 : wr.cell? ⟨gb360, 1, none⟩ = some (.bool a0_1) := (blk_cell BK360.out 1).trans rfl
           have hcz77_2 : wr.cell? ⟨gb360, 2, none⟩ = some (.string a0_2) := (blk_cell BK360.out 2).trans rfl
           have hcz77_3 : wr.cell? ⟨gb360, 3, none⟩ = some (.string a0_3) := (blk_cell BK360.out 3).trans rfl
           have hcz77_4 : wr.cell? ⟨gb360, 4, none⟩ = some (.string a0_4) := (blk_cell BK360.out 4).trans rfl
           have hfz77_0 := blk_frozen BK360.out 0
           have hfz77_1 := blk_frozen BK360.out 1
           have hfz77_2 := blk_frozen BK360.out 2
           have hfz77_3 := blk_frozen BK360.out 3
           have hfz77_4 := blk_frozen BK360.out 4
           go_wp2_with (first | (go_at_call 84; (with_reducible refine (impl_isName.calls k1 a0_0 true _ A53.out).mono ?_); rintro e w' ⟨rfl, ⟨nd, rfl⟩⟩) | (go_at_call 79; (with_reducible refine (impl_LabelsFault.calls k1 a0_2 t376 _ A69.out).mono ?_); rintro e w78 ⟨rfl, hb⟩; have n_ := c3_ (Kd.R_below (a4_) hb) (blk_below (g := gb360) (o := .cells #[.string a0_0, .bool a0_1, .string a0_2, .string a0_3, .string a0_4] 55 (0, 0)) (a3_) hb) (below_step (a2_) hb); clear HO_12 BK360 HB; obtain ⟨HO_12, BK360, HB⟩ := n_; (try clear hb); (try clear hb2); (try clear hk); (try clear hi); have hcz79_0 : w78.cell? ⟨gb360, 0, none⟩ = some (.string a0_0) := (blk_cell BK360.out 0).trans rfl; have hcz79_1 : w78.cell? ⟨gb360, 1, none⟩ = some (.bool a0_1) := (blk_cell BK360.out 1).trans rfl; have hcz79_2 : w78.cell? ⟨gb360, 2, none⟩ = some (.string a0_2) := (blk_cell BK360.out 2).trans rfl; have hcz79_3 : w78.cell? ⟨gb360, 3, none⟩ = some (.string a0_3) := (blk_cell BK360.out 3).trans rfl; have hcz79_4 : w78.cell? ⟨gb360, 4, none⟩ = some (.string a0_4) := (blk_cell BK360.out 4).trans rfl; have hfz79_0 := blk_frozen BK360.out 0; have hfz79_1 := blk_frozen BK360.out 1; have hfz79_2 := blk_frozen BK360.out 2; have hfz79_3 := blk_frozen BK360.out 3; have hfz79_4 := blk_frozen BK360.out 4) | (go_at_call 84; (with_reducible refine (impl_isName.calls k1 a0_4 t377 _ A76.out).mono ?_); rintro e w' ⟨rfl, ⟨nd, rfl⟩⟩))
           go_ret
           exact ⟨a5_, a2_⟩
         ·rw [if_neg c71] at H
          have c71b0 : (a0_3.toList == ([] : List UInt8)) = false := beq_eq_false_iff_ne.mpr c71
          have c71b1 : (a0_3.toList != ([] : List UInt8)) = true := bne_iff_ne.mpr c71
          replace H := Option.bind_eq_some_iff.mp H
          obtain ⟨t378, A800, H⟩ := H
          replace H : (if t378 = true then (if a0_4.toList = ([] : List UInt8) then (some true) else ((impl_isName.f k1 a0_4).bind fun t379 => (some t379))) else (some false)) = some r := H
          have A80 := Aside0.mk A800
          clear A800
          by_cases c81 : t378 = true
          ·subst c81
           have H1 : (if a0_4.toList = ([] : List UInt8) then (some true) else ((impl_isName.f k1 a0_4).bind fun t379 => (some t379))) = some r := by rw [if_pos rfl] at H; exact H
           clear H
           have H := H1
           clear H1
           by_cases c82 : a0_4.toList = ([] : List UInt8)
           ·rw [if_pos c82] at H
            have c82b0 : (a0_4.toList == ([] : List UInt8)) = true := beq_iff_eq.mpr c82
            have c82b1 : (a0_4.toList != ([] : List UInt8)) = false := bne_eq_false_iff_eq.mpr c82
            clear c82
            obtain rfl := Option.some.inj H
            have hcz83_0 : wr.cell? ⟨gb360, 0, none⟩ = some (.string a0_0) := (blk_cell BK360.out 0).trans rfl
            have hcz83_1 : wr.cell? ⟨gb360, 1, none⟩ = some (.bool a0_1) := (blk_cell BK360.out 1).trans rfl
            have hcz83_2 : wr.cell? ⟨gb360, 2, none⟩ = some (.string a0_2) := (blk_cell BK360.out 2).trans rfl
            have hcz83_3 : wr.cell? ⟨gb360, 3, none⟩ = some (.string a0_3) := (blk_cell BK360.out 3).trans rfl
            have hcz83_4 : wr.cell? ⟨gb360, 4, none⟩ = some (.string a0_4) := (blk_cell BK360.out 4).trans rfl
            have hfz83_0 := blk_frozen BK360.out 0
            have hfz83_1 := blk_frozen BK360.out 1
            have hfz83_2 := blk_frozen BK360.out 2
            have hfz83_3 := blk_frozen BK360.out 3
            have hfz83_4 := blk_frozen BK360.out 4
            go_wp2_with (first | (go_at_call 84; (with_reducible refine (impl_isName.calls k1 a0_0 true _ A53.out).mono ?_); rintro e w' ⟨rfl, ⟨nd, rfl⟩⟩) | (go_at_call 79; (with_reducible refine (impl_LabelsFault.calls k1 a0_2 t376 _ A69.out).mono ?_); rintro e w84 ⟨rfl, hb⟩; have n_ := c3_ (Kd.R_below (a4_) hb) (blk_below (g := gb360) (o := .cells #[.string a0_0, .bool a0_1, .string a0_2, .string a0_3, .string a0_4] 55 (0, 0)) (a3_) hb) (below_step (a2_) hb); clear HO_12 BK360 HB; obtain ⟨HO_12, BK360, HB⟩ := n_; (try clear hb); (try clear hb2); (try clear hk); (try clear hi); have hcz85_0 : w84.cell? ⟨gb360, 0, none⟩ = some (.string a0_0) := (blk_cell BK360.out 0).trans rfl; have hcz85_1 : w84.cell? ⟨gb360, 1, none⟩ = some (.bool a0_1) := (blk_cell BK360.out 1).trans rfl; have hcz85_2 : w84.cell? ⟨gb360, 2, none⟩ = some (.string a0_2) := (blk_cell BK360.out 2).trans rfl; have hcz85_3 : w84.cell? ⟨gb360, 3, none⟩ = some (.string a0_3) := (blk_cell BK360.out 3).trans rfl; have hcz85_4 : w84.cell? ⟨gb360, 4, none⟩ = some (.string a0_4) := (blk_cell BK360.out 4).trans rfl; have hfz85_0 := blk_frozen BK360.out 0; have hfz85_1 := blk_frozen BK360.out 1; have hfz85_2 := blk_frozen BK360.out 2; have hfz85_3 := blk_frozen BK360.out 3; have hfz85_4 := blk_frozen BK360.out 4) | (go_at_call 84; (with_reducible refine (impl_isName.calls k1 a0_3 true _ A80.out).mono ?_); rintro e w' ⟨rfl, ⟨nd, rfl⟩⟩))
            go_ret
            exact ⟨a5_, a2_⟩
           ·rw [if_neg c82] at H
            have c82b0 : (a0_4.toList == ([] : List UInt8)) = false := beq_eq_false_iff_ne.mpr c82
            have c82b1 : (a0_4.toList != ([] : List UInt8)) = true := bne_iff_ne.mpr c82
            replace H := Option.bind_eq_some_iff.mp H
            obtain ⟨t379, A860, H⟩ := H
            replace H : (some t379) = some r := H
            have A86 := Aside0.mk A860
            clear A860
            obtain rfl := Option.some.inj H
            have hcz87_0 : wr.cell? ⟨gb360, 0, none⟩ = some (.string a0_0) := (blk_cell BK360.out 0).trans rfl
            have hcz87_1 : wr.cell? ⟨gb360, 1, none⟩ = some (.bool a0_1) := (blk_cell BK360.out 1).trans rfl
            have hcz87_2 : wr.cell? ⟨gb360, 2, none⟩ = some (.string a0_2) := (blk_cell BK360.out 2).trans rfl
            have hcz87_3 : wr.cell? ⟨gb360, 3, none⟩ = some (.string a0_3) := (blk_cell BK360.out 3).trans rfl
            have hcz87_4 : wr.cell? ⟨gb360, 4, none⟩ = some (.string a0_4) := (blk_cell BK360.out 4).trans rfl
            have hfz87_0 := blk_frozen BK360.out 0
            have hfz87_1 := blk_frozen BK360.out 1
            have hfz87_2 := blk_frozen BK360.out 2
            have hfz87_3 := blk_frozen BK360.out 3
            have hfz87_4 := blk_frozen BK360.out 4
            go_wp2_with (first | (go_at_call 84; (with_reducible refine (impl_isName.calls k1 a0_0 true _ A53.out).mono ?_); rintro e w' ⟨rfl, ⟨nd, rfl⟩⟩) | (go_at_call 79; (with_reducible refine (impl_LabelsFault.calls k1 a0_2 t376 _ A69.out).mono ?_); rintro e w88 ⟨rfl, hb⟩; have n_ := c3_ (Kd.R_below (a4_) hb) (blk_below (g := gb360) (o := .cells #[.string a0_0, .bool a0_1, .string a0_2, .string a0_3, .string a0_4] 55 (0, 0)) (a3_) hb) (below_step (a2_) hb); clear HO_12 BK360 HB; obtain ⟨HO_12, BK360, HB⟩ := n_; (try clear hb); (try clear hb2); (try clear hk); (try clear hi); have hcz89_0 : w88.cell? ⟨gb360, 0, none⟩ = some (.string a0_0) := (blk_cell BK360.out 0).trans rfl; have hcz89_1 : w88.cell? ⟨gb360, 1, none⟩ = some (.bool a0_1) := (blk_cell BK360.out 1).trans rfl; have hcz89_2 : w88.cell? ⟨gb360, 2, none⟩ = some (.string a0_2) := (blk_cell BK360.out 2).trans rfl; have hcz89_3 : w88.cell? ⟨gb360, 3, none⟩ = some (.string a0_3) := (blk_cell BK360.out 3).trans rfl; have hcz89_4 : w88.cell? ⟨gb360, 4, none⟩ = some (.string a0_4) := (blk_cell BK360.out 4).trans rfl; have hfz89_0 := blk_frozen BK360.out 0; have hfz89_1 := blk_frozen BK360.out 1; have hfz89_2 := blk_frozen BK360.out 2; have hfz89_3 := blk_frozen BK360.out 3; have hfz89_4 := blk_frozen BK360.out 4) | (go_at_call 84; (with_reducible refine (impl_isName.calls k1 a0_3 true _ A80.out).mono ?_); rintro e w' ⟨rfl, ⟨nd, rfl⟩⟩) | (go_at_call 84; (with_reducible refine (impl_isName.calls k1 a0_4 t379 _ A86.out).mono ?_); rintro e w' ⟨rfl, ⟨nd, rfl⟩⟩))
            go_ret
            exact ⟨a5_, a2_⟩
          ·replace c81 := Bool.eq_false_iff.mpr c81
           subst c81
           have H1 : (some false) = some r := by rw [if_neg (show ¬ (false = true) by decide)] at H; exact H
           clear H
           have H := H1
           clear H1
           obtain rfl := Option.some.inj H
           have hcz90_0 : wr.cell? ⟨gb360, 0, none⟩ = some (.string a0_0) := (blk_cell BK360.out 0).trans rfl
           have hcz90_1 : wr.cell? ⟨gb360, 1, none⟩ = some (.bool a0_1) := (blk_cell BK360.out 1).trans rfl
           have hcz90_2 : wr.cell? ⟨gb360, 2, none⟩ = some (.string a0_2) := (blk_cell BK360.out 2).trans rfl
           have hcz90_3 : wr.cell? ⟨gb360, 3, none⟩ = some (.string a0_3) := (blk_cell BK360.out 3).trans rfl
           have hcz90_4 : wr.cell? ⟨gb360, 4, none⟩ = some (.string a0_4) := (blk_cell BK360.out 4).trans rfl
           have hfz90_0 := blk_frozen BK360.out 0
           have hfz90_1 := blk_frozen BK360.out 1
           have hfz90_2 := blk_frozen BK360.out 2
           have hfz90_3 := blk_frozen BK360.out 3
           have hfz90_4 := blk_frozen BK360.out 4
           go_wp2_with (first | (go_at_call 84; (with_reducible refine (impl_isName.calls k1 a0_0 true _ A53.out).mono ?_); rintro e w' ⟨rfl, ⟨nd, rfl⟩⟩) | (go_at_call 79; (with_reducible refine (impl_LabelsFault.calls k1 a0_2 t376 _ A69.out).mono ?_); rintro e w91 ⟨rfl, hb⟩; have n_ := c3_ (Kd.R_below (a4_) hb) (blk_below (g := gb360) (o := .cells #[.string a0_0, .bool a0_1, .string a0_2, .string a0_3, .string a0_4] 55 (0, 0)) (a3_) hb) (below_step (a2_) hb); clear HO_12 BK360 HB; obtain ⟨HO_12, BK360, HB⟩ := n_; (try clear hb); (try clear hb2); (try clear hk); (try clear hi); have hcz92_0 : w91.cell? ⟨gb360, 0, none⟩ = some (.string a0_0) := (blk_cell BK360.out 0).trans rfl; have hcz92_1 : w91.cell? ⟨gb360, 1, none⟩ = some (.bool a0_1) := (blk_cell BK360.out 1).trans rfl; have hcz92_2 : w91.cell? ⟨gb360, 2, none⟩ = some (.string a0_2) := (blk_cell BK360.out 2).trans rfl; have hcz92_3 : w91.cell? ⟨gb360, 3, none⟩ = some (.string a0_3) := (blk_cell BK360.out 3).trans rfl; have hcz92_4 : w91.cell? ⟨gb360, 4, none⟩ = some (.string a0_4) := (blk_cell BK360.out 4).trans rfl; have hfz92_0 := blk_frozen BK360.out 0; have hfz92_1 := blk_frozen BK360.out 1; have hfz92_2 := blk_frozen BK360.out 2; have hfz92_3 := blk_frozen BK360.out 3; have hfz92_4 := blk_frozen BK360.out 4) | (go_at_call 84; (with_reducible refine (impl_isName.calls k1 a0_3 false _ A80.out).mono ?_); rintro e w' ⟨rfl, ⟨nd, rfl⟩⟩))
           go_ret
           exact ⟨a5_, a2_⟩
        ·rw [if_neg c70] at H
         have c70b0 : (t376 == 0) = false := beq_eq_false_iff_ne.mpr c70
         have c70b1 : (t376 != 0) = true := bne_iff_ne.mpr c70
         obtain rfl := Option.some.inj H
         have hcz93_0 : wr.cell? ⟨gb360, 0, none⟩ = some (.string a0_0) := (blk_cell BK360.out 0).trans rfl
         have hcz93_1 : wr.cell? ⟨gb360, 1, none⟩ = some (.bool a0_1) := (blk_cell BK360.out 1).trans rfl
         have hcz93_2 : wr.cell? ⟨gb360, 2, none⟩ = some (.string a0_2) := (blk_cell BK360.out 2).trans rfl
         have hcz93_3 : wr.cell? ⟨gb360, 3, none⟩ = some (.string a0_3) := (blk_cell BK360.out 3).trans rfl
         have hcz93_4 : wr.cell? ⟨gb360, 4, none⟩ = some (.string a0_4) := (blk_cell BK360.out 4).trans rfl
         have hfz93_0 := blk_frozen BK360.out 0
         have hfz93_1 := blk_frozen BK360.out 1
         have hfz93_2 := blk_frozen BK360.out 2
         have hfz93_3 := blk_frozen BK360.out 3
         have hfz93_4 := blk_frozen BK360.out 4
         go_wp2_with (first | (go_at_call 84; (with_reducible refine (impl_isName.calls k1 a0_0 true _ A53.out).mono ?_); rintro e w' ⟨rfl, ⟨nd, rfl⟩⟩) | (go_at_call 79; (with_reducible refine (impl_LabelsFault.calls k1 a0_2 t376 _ A69.out).mono ?_); rintro e w94 ⟨rfl, hb⟩; have n_ := c3_ (Kd.R_below (a4_) hb) (blk_below (g := gb360) (o := .cells #[.string a0_0, .bool a0_1, .string a0_2, .string a0_3, .string a0_4] 55 (0, 0)) (a3_) hb) (below_step (a2_) hb); clear HO_12 BK360 HB; obtain ⟨HO_12, BK360, HB⟩ := n_; (try clear hb); (try clear hb2); (try clear hk); (try clear hi)))
         go_ret
         exact ⟨a5_, a2_⟩
      ·rw [if_neg c55] at H
       have c55b0 : (x3_1 == 1) = false := beq_eq_false_iff_ne.mpr c55
       have c55b1 : (x3_1 != 1) = true := bne_iff_ne.mpr c55
       obtain rfl := Option.some.inj H
       have hcz95_0 : wr.cell? ⟨gb360, 0, none⟩ = some (.string a0_0) := (blk_cell BK360.out 0).trans rfl
       have hcz95_1 : wr.cell? ⟨gb360, 1, none⟩ = some (.bool a0_1) := (blk_cell BK360.out 1).trans rfl
       have hcz95_2 : wr.cell? ⟨gb360, 2, none⟩ = some (.string a0_2) := (blk_cell BK360.out 2).trans rfl
       have hcz95_3 : wr.cell? ⟨gb360, 3, none⟩ = some (.string a0_3) := (blk_cell BK360.out 3).trans rfl
       have hcz95_4 : wr.cell? ⟨gb360, 4, none⟩ = some (.string a0_4) := (blk_cell BK360.out 4).trans rfl
       have hfz95_0 := blk_frozen BK360.out 0
       have hfz95_1 := blk_frozen BK360.out 1
       have hfz95_2 := blk_frozen BK360.out 2
       have hfz95_3 := blk_frozen BK360.out 3
       have hfz95_4 := blk_frozen BK360.out 4
       go_wp2_with (first | (go_at_call 84; (with_reducible refine (impl_isName.calls k1 a0_0 true _ A53.out).mono ?_); rintro e w' ⟨rfl, ⟨nd, rfl⟩⟩))
       go_ret
       exact ⟨a5_, a2_⟩
     ·replace c54 := Bool.eq_false_iff.mpr c54
      subst c54
      have H1 : (some false) = some r := by rw [if_neg (show ¬ (false = true) by decide)] at H; exact H
      clear H
      have H := H1
      clear H1
      obtain rfl := Option.some.inj H
      have hcz96_0 : wr.cell? ⟨gb360, 0, none⟩ = some (.string a0_0) := (blk_cell BK360.out 0).trans rfl
      have hcz96_1 : wr.cell? ⟨gb360, 1, none⟩ = some (.bool a0_1) := (blk_cell BK360.out 1).trans rfl
      have hcz96_2 : wr.cell? ⟨gb360, 2, none⟩ = some (.string a0_2) := (blk_cell BK360.out 2).trans rfl
      have hcz96_3 : wr.cell? ⟨gb360, 3, none⟩ = some (.string a0_3) := (blk_cell BK360.out 3).trans rfl
      have hcz96_4 : wr.cell? ⟨gb360, 4, none⟩ = some (.string a0_4) := (blk_cell BK360.out 4).trans rfl
      have hfz96_0 := blk_frozen BK360.out 0
      have hfz96_1 := blk_frozen BK360.out 1
      have hfz96_2 := blk_frozen BK360.out 2
      have hfz96_3 := blk_frozen BK360.out 3
      have hfz96_4 := blk_frozen BK360.out 4
      go_wp2_with (first | (go_at_call 84; (with_reducible refine (impl_isName.calls k1 a0_0 false _ A53.out).mono ?_); rintro e w' ⟨rfl, ⟨nd, rfl⟩⟩))
      go_ret
      exact ⟨a5_, a2_⟩

/-! ### impl_grantsOk_1: function 61 -/
def impl_grantsOk_1.f (k : Nat) (a0_0 : ByteArray) (a0_1 : Bool) (a0_2 : ByteArray) (a0_3 : ByteArray) (a0_4 : ByteArray) : Option (Bool) := (impl_Grant_ok.f k a0_0 a0_1 a0_2 a0_3 a0_4).bind fun t381 => (some (!t381))
theorem impl_grantsOk_1.a1_ {p : Prop} (h : p := by repeat (first | (with_reducible first | exact HB.out | apply below_alloc | apply pw_below_drewN | apply below_drew1) | exact HB.out)) : p := h
set_option maxHeartbeats 8000000 in
set_option maxRecDepth 100000 in
theorem impl_grantsOk_1.calls (k : Nat) (a0_0 : ByteArray) (a0_1 : Bool) (a0_2 : ByteArray) (a0_3 : ByteArray) (a0_4 : ByteArray) (r : Bool) (w : World) (h : impl_grantsOk_1.f k a0_0 a0_1 a0_2 a0_3 a0_4 = some r) :
  Calls Try.prog 61 #[.agg #[.string a0_0, .bool a0_1, .string a0_2, .string a0_3, .string a0_4]] w fun e w' => e = .returned (.bool r) ∧ Below w.heap.size w w' := by
 have hu55 := Try.underlying55
 have HB := Aside0.mk (Below.refl w.heap.size w)
 have H : ((impl_Grant_ok.f k a0_0 a0_1 a0_2 a0_3 a0_4).bind fun t381 => (some (!t381))) = some r := h
 clear h
 replace H := Option.bind_eq_some_iff.mp H
 obtain ⟨t381, A20, H⟩ := H
 replace H : (some (!t381)) = some r := H
 have A2 := Aside0.mk A20
 clear A20
 obtain rfl := Option.some.inj H
 go_enter Try.func61, Try.ntmps61
 go_wp2_with (first | ((with_reducible refine gate_dst (N := 1) rfl ?_); refine box_event ?hg (N := 1) ?hd (cs := #[.string a0_0, .bool a0_1, .string a0_2, .string a0_3, .string a0_4]) (t := 55) ?hr ?_; (case hd => rfl); (case hg => rfl); (case hr => first | (go_simp; done) | (go_simp; rfl)); intro gb380 hg w3 hbox hb; have n_ := c4_ (below_step (a1_) hb) (hbox) ((by rw [hg]; exact (below_size (a1_)) : w.heap.size ≤ gb380)) ((by rw [hg]; exact (below_size (a1_)) : w.heap.size ≤ gb380)); clear HB; obtain ⟨HB, BK380, GW380, GE380⟩ := n_; clear hb hbox hg; have hcz4_0 : w3.cell? ⟨gb380, 0, none⟩ = some (.string a0_0) := (blk_cell BK380.out 0).trans rfl; have hcz4_1 : w3.cell? ⟨gb380, 1, none⟩ = some (.bool a0_1) := (blk_cell BK380.out 1).trans rfl; have hcz4_2 : w3.cell? ⟨gb380, 2, none⟩ = some (.string a0_2) := (blk_cell BK380.out 2).trans rfl; have hcz4_3 : w3.cell? ⟨gb380, 3, none⟩ = some (.string a0_3) := (blk_cell BK380.out 3).trans rfl; have hcz4_4 : w3.cell? ⟨gb380, 4, none⟩ = some (.string a0_4) := (blk_cell BK380.out 4).trans rfl; have hfz4_0 := blk_frozen BK380.out 0; have hfz4_1 := blk_frozen BK380.out 1; have hfz4_2 := blk_frozen BK380.out 2; have hfz4_3 := blk_frozen BK380.out 3; have hfz4_4 := blk_frozen BK380.out 4) | ((with_reducible refine gate_callee (f := 62) rfl ?_); refine goesL_ (some 4) rfl rfl Try.func62 (by kernel_rfl) rfl #[.agg #[.string a0_0, .bool a0_1, .string a0_2, .string a0_3, .string a0_4]] rfl (by (try simp only [List.map_toArray, List.map_cons, List.map_nil]); first | done | rfl | (simp only [List.length_drop, List.length_take]; rfl)) ?_; (with_reducible refine (impl_Grant_ok.calls k a0_0 a0_1 a0_2 a0_3 a0_4 t381 _ A2.out).mono ?_); rintro e w5 ⟨rfl, hb⟩; refine ⟨_, rfl, ?_⟩; have n_ := c2_ (blk_below (g := gb380) (o := .cells #[.string a0_0, .bool a0_1, .string a0_2, .string a0_3, .string a0_4] 55 (0, 0)) (by (with_reducible repeat (first | refine blk_drewN ?_ _ | refine blk_drew ?_ | refine blk_alloc ?_ _)); exact BK380.out) hb) (below_step (by repeat (first | (with_reducible first | exact HB.out | apply below_alloc | apply pw_below_drewN | apply below_drew1 | refine below_set ?_ GE380.out) | exact HB.out)) hb); clear BK380 HB; obtain ⟨BK380, HB⟩ := n_; (try clear hb); (try clear hb2); (try clear hk); (try clear hi)))
 go_ret
 exact ⟨by first | rfl | (simp [errW_none, errW_some] <;> rfl) | (simp [*, errW_none, errW_some] <;> rfl), by repeat (first | (with_reducible first | exact HB.out | apply below_alloc | apply pw_below_drewN | apply below_drew1 | refine below_set ?_ GE380.out) | exact HB.out)⟩

end Go.Proofs.Ytmecapnpgedcnaa.PFnExactGrantsFault
