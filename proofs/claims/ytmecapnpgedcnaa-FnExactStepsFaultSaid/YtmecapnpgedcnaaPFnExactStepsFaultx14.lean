/- Walks of Go functions, written by program out of the print of the translation, with contracts of our own where the print has none. -/
import Derived.Test.YtmecapnpgedcnaaPFnExactStepsFaultx0
import Derived.Test.YtmecapnpgedcnaaPFnExactStepsFaultx1
import Derived.Test.YtmecapnpgedcnaaPFnExactStepsFaultx7
import Derived.Test.YtmecapnpgedcnaaPFnExactStepsFaultx13
namespace Go.Proofs.Ytmecapnpgedcnaa.PFnExactStepsFault
open Go.RowKit Go.Proofs.YtmecapnpgedcnaaW.PrintWords Go.Proofs.YtmecapnpgedcnaaW.PrintLast Go.Proofs.YtmecapnpgedcnaaW.PrintMore
attribute [local go_sem] max2_int min2_int max_two min_two max_three min_three max_four min_four   -- for this text's walks alone
set_option linter.unusedVariables false
set_option linter.unusedSimpArgs false

/-! ### laws_eqPathStepS: function 17 -/
def laws_eqPathStepS.l0 : Nat → List (S66) → List (S66) → Int → Option (Bool)
 | 0, _, _, _ => none
 | k + 1, x0, x1, x5 => if x5 < (x0.length : Int) then (if 0 ≤ x5 then (if x5 < (x1.length : Int) then ((laws_eqPathStep.f ((rd_T66 x0 x5).f0) ((rd_T66 x0 x5).f1) ((rd_T66 x0 x5).f2) ((rd_T66 x1 x5).f0) ((rd_T66 x1 x5).f1) ((rd_T66 x1 x5).f2)).bind fun t411 => (if t411 = true then (laws_eqPathStepS.l0 k x0 x1 (wrap64 (x5 + 1))) else (some false))) else (none)) else (none)) else (some true)
def laws_eqPathStepS.f (k : Nat) (l0 : List (S66)) (l1 : List (S66)) : Option (Bool) := if (l0.length : Int) = (l1.length : Int) then (laws_eqPathStepS.l0 k l0 l1 0) else (some false)
theorem laws_eqPathStepS.mono_l : ∀ k, (∀ y0 y1 y2, LeO (laws_eqPathStepS.l0 k y0 y1 y2) (laws_eqPathStepS.l0 (k + 1) y0 y1 y2))
 | 0 => fun _ _ _ r h => by simp [laws_eqPathStepS.l0] at h
 | k + 1 => by
  have ih0 := laws_eqPathStepS.mono_l k
  ·intro y0 y1 y2
   unfold laws_eqPathStepS.l0
   repeat' first
   | (with_reducible exact ih0 _ _ _)
   | (with_reducible exact LeO.refl _)
   | (with_reducible exact LeO.none _)
   | (with_reducible refine LeO.ite ?_ ?_)
   | (with_reducible refine LeO.bind ?_ (fun _ => ?_))
   | exact ih0 _ _ _
   | exact LeO.none _
   | refine LeO.ite ?_ ?_
   | refine LeO.bind ?_ (fun _ => ?_)
theorem laws_eqPathStepS.mono : ∀ a0 a1 k, LeO (laws_eqPathStepS.f k a0 a1) (laws_eqPathStepS.f (k + 1) a0 a1) := by
 intro a0 a1 k
 have ih0 := laws_eqPathStepS.mono_l k
 unfold laws_eqPathStepS.f
 repeat' first
   | (with_reducible exact ih0 _ _ _)
   | (with_reducible exact LeO.refl _)
   | (with_reducible exact LeO.none _)
   | (with_reducible refine LeO.ite ?_ ?_)
   | (with_reducible refine LeO.bind ?_ (fun _ => ?_))
   | exact ih0 _ _ _
   | exact LeO.none _
   | refine LeO.ite ?_ ?_
   | refine LeO.bind ?_ (fun _ => ?_)
def laws_eqPathStepS.T6 : Bool × List (List Nat × List Nat) := (true, [([], []), ([], []), ([0, 1], [0, 1]), ([2], [2]), ([], []), ([], []), ([4, 5], [4, 5]), ([6], [6]), ([3, 7], [3, 7]), ([8], [8])])
def laws_eqPathStepS.B6 : List Nat := [0, 0, 3, 7, 0, 0, 48, 112, 255, 511]
theorem laws_eqPathStepS.tab6 : rtab .any (opsOf Try.f17 6) = laws_eqPathStepS.T6 := by kernel_rfl
theorem laws_eqPathStepS.bits6 : waitsOk laws_eqPathStepS.T6.2 laws_eqPathStepS.B6 = true := by kernel_rfl
theorem laws_eqPathStepS.a1_ {p : Prop} (h : p := by repeat (first | (with_reducible first | exact HB.out | apply below_alloc | apply pw_below_drewN | apply below_drew1) | exact HB.out)) : p := h
set_option maxHeartbeats 8000000 in
set_option maxRecDepth 100000 in
theorem laws_eqPathStepS.calls (k : Nat) (A0 : Option Addr) (c0 : Nat) (l0 : List (S66)) (A1 : Option Addr) (c1 : Nat) (l1 : List (S66)) (r : Bool) (w : World) (hr0 : Kd.C k66 w A0 l0.length l0) (hc0 : l0.length ≤ c0) (hr1 : Kd.C k66 w A1 l1.length l1) (hc1 : l1.length ≤ c1) (h : laws_eqPathStepS.f k l0 l1 = some r) :
  Calls Try.prog 17 #[.slice A0 l0.length c0, .slice A1 l1.length c1] w fun e w' => e = .returned (.bool r) ∧ Below w.heap.size w w' := by
 have hu66 := Try.underlying66
 have HR0 := Aside0.mk hr0
 have HC0 := Aside0.mk hc0
 clear hr0 hc0
 have HR1 := Aside0.mk hr1
 have HC1 := Aside0.mk hc1
 clear hr1 hc1
 have HB := Aside0.mk (Below.refl w.heap.size w)
 have H : (if (l0.length : Int) = (l1.length : Int) then (laws_eqPathStepS.l0 k l0 l1 0) else (some false)) = some r := h
 clear h
 by_cases c3 : (l0.length : Int) = (l1.length : Int)
 ·rw [if_pos c3] at H
  have c3b0 : ((l0.length : Int) == (l1.length : Int)) = true := beq_iff_eq.mpr c3
  have c3b1 : ((l0.length : Int) != (l1.length : Int)) = false := bne_eq_false_iff_eq.mpr c3
  have c3b2 : (l0.length == l1.length) = true := by first | simpa using c3 | (simp at c3 ⊢; omega)
  clear c3
  have H' := Aside0.mk H
  clear H
  go_enter Try.func17, Try.ntmps17
  go_wp2
  go_loopg [5] k (fun kq v5 w' => ∃ (x5_1 : Int), v5 = .int .i64 x5_1 ∧ Aside0 (laws_eqPathStepS.l0 kq l0 l1 x5_1 = some r) ∧ Aside0 (kq ≤ k) ∧ Aside0 (Below w.heap.size w w'))
  case atStart => exact ⟨(0), (by first | rfl | (simp; done) | (simp [*]; done)), H', ⟨Nat.le_refl _⟩, ⟨a1_⟩⟩
  case round =>
   clear H'
   try clear c1
   try clear p2
   try clear c3
   try clear c3b0
   try clear c3b1
   try clear c3b2
   obtain ⟨x5_1, rfl, HA, HK1, HB⟩ := hrel
   cases gk with
   | zero => exact absurd HA.out (by simp [laws_eqPathStepS.l0])
   | succ k1 =>
    have H := HA.out
    clear HA
    simp only [laws_eqPathStepS.l0] at H
    by_cases c4 : x5_1 < (l0.length : Int)
    ·rw [if_pos c4] at H
     have c4b0 : decide (x5_1 < (l0.length : Int)) = true := decide_eq_true c4
     clear c4
     by_cases c5 : 0 ≤ x5_1
     ·rw [if_pos c5] at H
      have c5b0 : decide (0 ≤ x5_1) = true := decide_eq_true c5
      clear c5
      by_cases c6 : x5_1 < (l1.length : Int)
      ·rw [if_pos c6] at H
       have c6b0 : decide (x5_1 < (l1.length : Int)) = true := decide_eq_true c6
       clear c6
       replace H := Option.bind_eq_some_iff.mp H
       obtain ⟨t411, A70, H⟩ := H
       replace H : (if t411 = true then (laws_eqPathStepS.l0 k1 l0 l1 (wrap64 (x5_1 + 1))) else (some false)) = some r := H
       have A7 := Aside0.mk A70
       clear A70
       by_cases c8 : t411 = true
       ·subst c8
        have H1 : (laws_eqPathStepS.l0 k1 l0 l1 (wrap64 (x5_1 + 1))) = some r := by rw [if_pos rfl] at H; exact H
        clear H
        have H := H1
        clear H1
        have H' := Aside0.mk H
        clear H
        try go_wp2
        have n0_ := Aside0.mk (below_drew1 HB.out)
        clear HB
        have HB := n0_
        clear n0_
        have p409 : 0 ≤ (x5_1 : Int) := of_decide_eq_true (by first | (with_reducible assumption) | assumption)
        have q409 : x5_1 < (l0.length : Int) := of_decide_eq_true (by first | (with_reducible assumption) | assumption)
        obtain ⟨ad409, e409, hx409_0, hx409_1, hx409_2⟩ := at_T66 HR0.out x5_1 p409 q409
        have hw409_2 := hx409_2
        have hw409_1 := hx409_1
        have hw409_0 := hx409_0
        cases e409
        replace hx409_0 := (HB.out.cell (World.block_lt_of_cell? w _ hx409_0)).trans hx409_0
        replace hx409_1 := (HB.out.cell (World.block_lt_of_cell? w _ hx409_1)).trans hx409_1
        replace hx409_2 := (HB.out.cell (World.block_lt_of_cell? w _ hx409_2)).trans hx409_2
        replace p409 := eq_true p409
        replace q409 := eq_true q409
        have p410 : 0 ≤ (x5_1 : Int) := of_decide_eq_true (by first | (with_reducible assumption) | assumption)
        have q410 : x5_1 < (l1.length : Int) := of_decide_eq_true (by first | (with_reducible assumption) | assumption)
        obtain ⟨ad410, e410, hx410_0, hx410_1, hx410_2⟩ := at_T66 HR1.out x5_1 p410 q410
        have hw410_2 := hx410_2
        have hw410_1 := hx410_1
        have hw410_0 := hx410_0
        cases e410
        replace hx410_0 := (HB.out.cell (World.block_lt_of_cell? w _ hx410_0)).trans hx410_0
        replace hx410_1 := (HB.out.cell (World.block_lt_of_cell? w _ hx410_1)).trans hx410_1
        replace hx410_2 := (HB.out.cell (World.block_lt_of_cell? w _ hx410_2)).trans hx410_2
        replace p410 := eq_true p410
        replace q410 := eq_true q410
        refine start_ (n := 10) (S := fun w' => w'.cell? (ad409.add ((x5_1).toNat * 3)) = some (.int .i64 ((rd_T66 l0 x5_1).f0)) ∧ w'.cell? ⟨(ad409.add ((x5_1).toNat * 3)).block, (ad409.add ((x5_1).toNat * 3)).off + 1, none⟩ = some (.string ((rd_T66 l0 x5_1).f1)) ∧ w'.cell? ⟨(ad409.add ((x5_1).toNat * 3)).block, (ad409.add ((x5_1).toNat * 3)).off + 2, none⟩ = some (.int .i64 ((rd_T66 l0 x5_1).f2)) ∧ w'.cell? (ad410.add ((x5_1).toNat * 3)) = some (.int .i64 ((rd_T66 l1 x5_1).f0)) ∧ w'.cell? ⟨(ad410.add ((x5_1).toNat * 3)).block, (ad410.add ((x5_1).toNat * 3)).off + 1, none⟩ = some (.string ((rd_T66 l1 x5_1).f1)) ∧ w'.cell? ⟨(ad410.add ((x5_1).toNat * 3)).block, (ad410.add ((x5_1).toNat * 3)).off + 2, none⟩ = some (.int .i64 ((rd_T66 l1 x5_1).f2))) (ds := []) (bs_ 10 0) (by kernel_rfl) (by kernel_rfl) (by kernel_rfl) ⟨((HB.out.cell (World.block_lt_of_cell? w _ hw409_0)).trans hw409_0), ((HB.out.cell (World.block_lt_of_cell? w _ hw409_1)).trans hw409_1), ((HB.out.cell (World.block_lt_of_cell? w _ hw409_2)).trans hw409_2), ((HB.out.cell (World.block_lt_of_cell? w _ hw410_0)).trans hw410_0), ((HB.out.cell (World.block_lt_of_cell? w _ hw410_1)).trans hw410_1), ((HB.out.cell (World.block_lt_of_cell? w _ hw410_2)).trans hw410_2)⟩ (fun hHeld => ?_); refine with_tabW laws_eqPathStepS.tab6 laws_eqPathStepS.bits6 (fun HT_ HW_ => ?_)
        generalize wr.drew = w9 at HB hx409_0 hx409_1 hx409_2 hx410_0 hx410_1 hx410_2 hHeld ⊢
        refine pu_ (i := 0) (N := some 17) (v := ?_) (a' := ?_) 1 rfl rfl HT_ (Or.inl ⟨by rfl, ?_⟩) ?_ ?_
        rotate_left
        ·intro w'
         go_simp
         with_reducible rfl
        rotate_left
        ·simp only [pt_]
         rfl
        refine pu_ (i := 1) (N := some 18) (v := ?_) (a' := ?_) 3 rfl rfl HT_ (Or.inl ⟨by rfl, ?_⟩) ?_ ?_
        rotate_left
        ·intro w'
         go_simp
         with_reducible rfl
        rotate_left
        ·simp only [pt_]
         rfl
        refine pu_ (i := 2) (N := some 19) (v := ?_) (a' := ?_) 7 rfl rfl HT_ (Or.inl ⟨by rfl, ?_⟩) ?_ ?_
        rotate_left
        ·intro w'
         go_simp
         with_reducible rfl
        rotate_left
        ·simp only [pt_]
         rfl
        refine pu_ (i := 4) (N := some 21) (v := ?_) (a' := ?_) 23 rfl rfl HT_ (Or.inl ⟨by rfl, ?_⟩) ?_ ?_
        rotate_left
        ·intro w'
         go_simp
         with_reducible rfl
        rotate_left
        ·simp only [pt_]
         rfl
        refine pu_ (i := 5) (N := some 22) (v := ?_) (a' := ?_) 55 rfl rfl HT_ (Or.inl ⟨by rfl, ?_⟩) ?_ ?_
        rotate_left
        ·intro w'
         go_simp
         with_reducible rfl
        rotate_left
        ·simp only [pt_]
         rfl
        refine pu_ (i := 6) (N := some 23) (v := ?_) (a' := ?_) 119 rfl rfl HT_ (Or.inl ⟨by rfl, ?_⟩) ?_ ?_
        rotate_left
        ·intro w'
         go_simp
         with_reducible rfl
        rotate_left
        ·simp only [pt_]
         rfl
        refine tk_ (i := 3) (N := some 20) (v := ?_) (a' := ?_) 127 rfl rfl HT_ HW_ (Or.inl ⟨by rfl, ?_⟩) hHeld ?_ ?_
        rotate_left
        ·rintro w' ⟨s0, s1, s2, s3, s4, s5⟩
         go_simp
         with_reducible rfl
        rotate_left
        ·simp only [pt_]
         rfl
        refine tk_ (i := 7) (N := some 24) (v := ?_) (a' := ?_) 255 rfl rfl HT_ HW_ (Or.inl ⟨by rfl, ?_⟩) hHeld ?_ ?_
        rotate_left
        ·rintro w' ⟨s0, s1, s2, s3, s4, s5⟩
         go_simp
         with_reducible rfl
        rotate_left
        ·simp only [pt_]
         rfl
        refine one_ (i := 8) (N := some 25) (bs_ 10 511) rfl rfl (one_of HT_.out (by kernel_rfl)) (by decide) (fun K hK => ?_)
        refine goes_ Try.func40 (by kernel_rfl) rfl #[.agg #[.int .i64 ((rd_T66 l0 x5_1).f0), .string ((rd_T66 l0 x5_1).f1), .int .i64 ((rd_T66 l0 x5_1).f2)], .agg #[.int .i64 ((rd_T66 l1 x5_1).f0), .string ((rd_T66 l1 x5_1).f1), .int .i64 ((rd_T66 l1 x5_1).f2)]] (by rfl) rfl rfl (by (try simp only [List.map_toArray, List.map_cons, List.map_nil]); first | done | rfl | (simp only [List.length_drop, List.length_take]; rfl)) ?_
        with_reducible refine (laws_eqPathStep.calls ((rd_T66 l0 x5_1).f0) ((rd_T66 l0 x5_1).f1) ((rd_T66 l0 x5_1).f2) ((rd_T66 l1 x5_1).f0) ((rd_T66 l1 x5_1).f1) ((rd_T66 l1 x5_1).f2) true _ A7.out).mono ?_
        rintro e w10 ⟨rfl, hb⟩
        refine ⟨_, rfl, ?_⟩
        have n0_ := Aside0.mk (below_step (a1_) hb)
        clear HB
        have HB := n0_
        clear n0_
        (try clear hb)
        (try clear hb2)
        (try clear hk)
        (try clear hi)
        refine hK.out _ _ ⟨((HB.out.cell (World.block_lt_of_cell? w _ hw409_0)).trans hw409_0), ((HB.out.cell (World.block_lt_of_cell? w _ hw409_1)).trans hw409_1), ((HB.out.cell (World.block_lt_of_cell? w _ hw409_2)).trans hw409_2), ((HB.out.cell (World.block_lt_of_cell? w _ hw410_0)).trans hw410_0), ((HB.out.cell (World.block_lt_of_cell? w _ hw410_1)).trans hw410_1), ((HB.out.cell (World.block_lt_of_cell? w _ hw410_2)).trans hw410_2)⟩ (fun hHeld => ?_)
        clear hK K
        refine norm_ (a' := ?_) ?_ ?_
        rotate_left
        ·show Act.put _ (some 25) _ = _
         simp only [pt_]
         rfl
        refine pu_ (i := 9) (N := some 26) (v := ?_) (a' := ?_) 1023 rfl rfl HT_ (Or.inl ⟨by rfl, ?_⟩) ?_ ?_
        rotate_left
        ·intro w'
         go_simp
         with_reducible rfl
        rotate_left
        ·simp only [pt_]
         rfl
        refine done_ (done_of HT_.out (by kernel_rfl)) ?_
        try go_wp2
        go_roundg k1
        case measure => have := HK1.out; omega
        case rel => exact ⟨(wrap64 (x5_1 + 1)), (by first | rfl | (simp; done) | (simp [*]; done)), H', ⟨by have := HK1.out; omega⟩, ⟨a1_⟩⟩
       ·replace c8 := Bool.eq_false_iff.mpr c8
        subst c8
        have H1 : (some false) = some r := by rw [if_neg (show ¬ (false = true) by decide)] at H; exact H
        clear H
        have H := H1
        clear H1
        obtain rfl := Option.some.inj H
        try go_wp2
        have n0_ := Aside0.mk (below_drew1 HB.out)
        clear HB
        have HB := n0_
        clear n0_
        have p409 : 0 ≤ (x5_1 : Int) := of_decide_eq_true (by first | (with_reducible assumption) | assumption)
        have q409 : x5_1 < (l0.length : Int) := of_decide_eq_true (by first | (with_reducible assumption) | assumption)
        obtain ⟨ad409, e409, hx409_0, hx409_1, hx409_2⟩ := at_T66 HR0.out x5_1 p409 q409
        have hw409_2 := hx409_2
        have hw409_1 := hx409_1
        have hw409_0 := hx409_0
        cases e409
        replace hx409_0 := (HB.out.cell (World.block_lt_of_cell? w _ hx409_0)).trans hx409_0
        replace hx409_1 := (HB.out.cell (World.block_lt_of_cell? w _ hx409_1)).trans hx409_1
        replace hx409_2 := (HB.out.cell (World.block_lt_of_cell? w _ hx409_2)).trans hx409_2
        replace p409 := eq_true p409
        replace q409 := eq_true q409
        have p410 : 0 ≤ (x5_1 : Int) := of_decide_eq_true (by first | (with_reducible assumption) | assumption)
        have q410 : x5_1 < (l1.length : Int) := of_decide_eq_true (by first | (with_reducible assumption) | assumption)
        obtain ⟨ad410, e410, hx410_0, hx410_1, hx410_2⟩ := at_T66 HR1.out x5_1 p410 q410
        have hw410_2 := hx410_2
        have hw410_1 := hx410_1
        have hw410_0 := hx410_0
        cases e410
        replace hx410_0 := (HB.out.cell (World.block_lt_of_cell? w _ hx410_0)).trans hx410_0
        replace hx410_1 := (HB.out.cell (World.block_lt_of_cell? w _ hx410_1)).trans hx410_1
        replace hx410_2 := (HB.out.cell (World.block_lt_of_cell? w _ hx410_2)).trans hx410_2
        replace p410 := eq_true p410
        replace q410 := eq_true q410
        refine start_ (n := 10) (S := fun w' => w'.cell? (ad409.add ((x5_1).toNat * 3)) = some (.int .i64 ((rd_T66 l0 x5_1).f0)) ∧ w'.cell? ⟨(ad409.add ((x5_1).toNat * 3)).block, (ad409.add ((x5_1).toNat * 3)).off + 1, none⟩ = some (.string ((rd_T66 l0 x5_1).f1)) ∧ w'.cell? ⟨(ad409.add ((x5_1).toNat * 3)).block, (ad409.add ((x5_1).toNat * 3)).off + 2, none⟩ = some (.int .i64 ((rd_T66 l0 x5_1).f2)) ∧ w'.cell? (ad410.add ((x5_1).toNat * 3)) = some (.int .i64 ((rd_T66 l1 x5_1).f0)) ∧ w'.cell? ⟨(ad410.add ((x5_1).toNat * 3)).block, (ad410.add ((x5_1).toNat * 3)).off + 1, none⟩ = some (.string ((rd_T66 l1 x5_1).f1)) ∧ w'.cell? ⟨(ad410.add ((x5_1).toNat * 3)).block, (ad410.add ((x5_1).toNat * 3)).off + 2, none⟩ = some (.int .i64 ((rd_T66 l1 x5_1).f2))) (ds := []) (bs_ 10 0) (by kernel_rfl) (by kernel_rfl) (by kernel_rfl) ⟨((HB.out.cell (World.block_lt_of_cell? w _ hw409_0)).trans hw409_0), ((HB.out.cell (World.block_lt_of_cell? w _ hw409_1)).trans hw409_1), ((HB.out.cell (World.block_lt_of_cell? w _ hw409_2)).trans hw409_2), ((HB.out.cell (World.block_lt_of_cell? w _ hw410_0)).trans hw410_0), ((HB.out.cell (World.block_lt_of_cell? w _ hw410_1)).trans hw410_1), ((HB.out.cell (World.block_lt_of_cell? w _ hw410_2)).trans hw410_2)⟩ (fun hHeld => ?_); refine with_tabW laws_eqPathStepS.tab6 laws_eqPathStepS.bits6 (fun HT_ HW_ => ?_)
        generalize wr.drew = w11 at HB hx409_0 hx409_1 hx409_2 hx410_0 hx410_1 hx410_2 hHeld ⊢
        refine pu_ (i := 0) (N := some 17) (v := ?_) (a' := ?_) 1 rfl rfl HT_ (Or.inl ⟨by rfl, ?_⟩) ?_ ?_
        rotate_left
        ·intro w'
         go_simp
         with_reducible rfl
        rotate_left
        ·simp only [pt_]
         rfl
        refine pu_ (i := 1) (N := some 18) (v := ?_) (a' := ?_) 3 rfl rfl HT_ (Or.inl ⟨by rfl, ?_⟩) ?_ ?_
        rotate_left
        ·intro w'
         go_simp
         with_reducible rfl
        rotate_left
        ·simp only [pt_]
         rfl
        refine pu_ (i := 2) (N := some 19) (v := ?_) (a' := ?_) 7 rfl rfl HT_ (Or.inl ⟨by rfl, ?_⟩) ?_ ?_
        rotate_left
        ·intro w'
         go_simp
         with_reducible rfl
        rotate_left
        ·simp only [pt_]
         rfl
        refine pu_ (i := 4) (N := some 21) (v := ?_) (a' := ?_) 23 rfl rfl HT_ (Or.inl ⟨by rfl, ?_⟩) ?_ ?_
        rotate_left
        ·intro w'
         go_simp
         with_reducible rfl
        rotate_left
        ·simp only [pt_]
         rfl
        refine pu_ (i := 5) (N := some 22) (v := ?_) (a' := ?_) 55 rfl rfl HT_ (Or.inl ⟨by rfl, ?_⟩) ?_ ?_
        rotate_left
        ·intro w'
         go_simp
         with_reducible rfl
        rotate_left
        ·simp only [pt_]
         rfl
        refine pu_ (i := 6) (N := some 23) (v := ?_) (a' := ?_) 119 rfl rfl HT_ (Or.inl ⟨by rfl, ?_⟩) ?_ ?_
        rotate_left
        ·intro w'
         go_simp
         with_reducible rfl
        rotate_left
        ·simp only [pt_]
         rfl
        refine tk_ (i := 3) (N := some 20) (v := ?_) (a' := ?_) 127 rfl rfl HT_ HW_ (Or.inl ⟨by rfl, ?_⟩) hHeld ?_ ?_
        rotate_left
        ·rintro w' ⟨s0, s1, s2, s3, s4, s5⟩
         go_simp
         with_reducible rfl
        rotate_left
        ·simp only [pt_]
         rfl
        refine tk_ (i := 7) (N := some 24) (v := ?_) (a' := ?_) 255 rfl rfl HT_ HW_ (Or.inl ⟨by rfl, ?_⟩) hHeld ?_ ?_
        rotate_left
        ·rintro w' ⟨s0, s1, s2, s3, s4, s5⟩
         go_simp
         with_reducible rfl
        rotate_left
        ·simp only [pt_]
         rfl
        refine one_ (i := 8) (N := some 25) (bs_ 10 511) rfl rfl (one_of HT_.out (by kernel_rfl)) (by decide) (fun K hK => ?_)
        refine goes_ Try.func40 (by kernel_rfl) rfl #[.agg #[.int .i64 ((rd_T66 l0 x5_1).f0), .string ((rd_T66 l0 x5_1).f1), .int .i64 ((rd_T66 l0 x5_1).f2)], .agg #[.int .i64 ((rd_T66 l1 x5_1).f0), .string ((rd_T66 l1 x5_1).f1), .int .i64 ((rd_T66 l1 x5_1).f2)]] (by rfl) rfl rfl (by (try simp only [List.map_toArray, List.map_cons, List.map_nil]); first | done | rfl | (simp only [List.length_drop, List.length_take]; rfl)) ?_
        with_reducible refine (laws_eqPathStep.calls ((rd_T66 l0 x5_1).f0) ((rd_T66 l0 x5_1).f1) ((rd_T66 l0 x5_1).f2) ((rd_T66 l1 x5_1).f0) ((rd_T66 l1 x5_1).f1) ((rd_T66 l1 x5_1).f2) false _ A7.out).mono ?_
        rintro e w12 ⟨rfl, hb⟩
        refine ⟨_, rfl, ?_⟩
        have n0_ := Aside0.mk (below_step (a1_) hb)
        clear HB
        have HB := n0_
        clear n0_
        (try clear hb)
        (try clear hb2)
        (try clear hk)
        (try clear hi)
        refine hK.out _ _ ⟨((HB.out.cell (World.block_lt_of_cell? w _ hw409_0)).trans hw409_0), ((HB.out.cell (World.block_lt_of_cell? w _ hw409_1)).trans hw409_1), ((HB.out.cell (World.block_lt_of_cell? w _ hw409_2)).trans hw409_2), ((HB.out.cell (World.block_lt_of_cell? w _ hw410_0)).trans hw410_0), ((HB.out.cell (World.block_lt_of_cell? w _ hw410_1)).trans hw410_1), ((HB.out.cell (World.block_lt_of_cell? w _ hw410_2)).trans hw410_2)⟩ (fun hHeld => ?_)
        clear hK K
        refine norm_ (a' := ?_) ?_ ?_
        rotate_left
        ·show Act.put _ (some 25) _ = _
         simp only [pt_]
         rfl
        refine pu_ (i := 9) (N := some 26) (v := ?_) (a' := ?_) 1023 rfl rfl HT_ (Or.inl ⟨by rfl, ?_⟩) ?_ ?_
        rotate_left
        ·intro w'
         go_simp
         with_reducible rfl
        rotate_left
        ·simp only [pt_]
         rfl
        refine done_ (done_of HT_.out (by kernel_rfl)) ?_
        try go_wp2
        go_ret
        exact ⟨by first | rfl | (simp [errW_none, errW_some] <;> rfl) | (simp [*, errW_none, errW_some] <;> rfl), a1_⟩
      ·rw [if_neg c6] at H
       exact absurd H (by simp)
     ·rw [if_neg c5] at H
      exact absurd H (by simp)
    ·rw [if_neg c4] at H
     have c4b0 : decide (x5_1 < (l0.length : Int)) = false := decide_eq_false c4
     clear c4
     obtain rfl := Option.some.inj H
     go_wp2
     go_ret
     exact ⟨by first | rfl | (simp [errW_none, errW_some] <;> rfl) | (simp [*, errW_none, errW_some] <;> rfl), a1_⟩
 ·rw [if_neg c3] at H
  have c3b0 : ((l0.length : Int) == (l1.length : Int)) = false := beq_eq_false_iff_ne.mpr c3
  have c3b1 : ((l0.length : Int) != (l1.length : Int)) = true := bne_iff_ne.mpr c3
  have c3b2 : (l0.length == l1.length) = false := by first | simpa using c3 | (simp at c3 ⊢; omega)
  obtain rfl := Option.some.inj H
  go_enter Try.func17, Try.ntmps17
  go_wp2
  go_ret
  exact ⟨by first | rfl | (simp [errW_none, errW_some] <;> rfl) | (simp [*, errW_none, errW_some] <;> rfl), a1_⟩

/-! ### laws_FnExactStepsFault: function 4 -/
def laws_FnExactStepsFault.f (k : Nat) (l0 : List (S64)) : Option (Bool) := (laws_szPathStepS.f k l0 1048576).bind fun t412 => (if t412 < 0 then (some true) else ((laws_toPathStepS.f k l0).bind fun t413 => ((spec_StepsFault.f k t413).bind fun t416 => ((laws_toPathStepS.f k l0).bind fun t417 => ((impl_StepsFault.f k t417).bind fun t420 => (if t420 = t416 then ((laws_toPathStepS.f k l0).bind fun t421 => ((laws_eqPathStepS.f k t417 t421).bind fun t424 => (if t424 = true then (some true) else (some false)))) else (some false)))))))
theorem laws_FnExactStepsFault.a1_ {p : Prop} (h : p := by (try simp only [List.map_toArray, List.map_cons, List.map_nil]); first | done | rfl | (simp only [List.length_drop, List.length_take]; rfl)) : p := h
theorem laws_FnExactStepsFault.a2_ {p : Prop} (h : p := by repeat (first | exact HR0.out | (with_reducible refine Kd.C_alloc ?_ _) | (with_reducible refine Kd.C_drewN ?_ _) | (with_reducible refine Kd.C_drew ?_))) : p := h
theorem laws_FnExactStepsFault.a3_ {p : Prop} (h : p := by repeat (first | (with_reducible first | exact HB.out | apply below_alloc | apply pw_below_drewN | apply below_drew1) | exact HB.out)) : p := h
theorem laws_FnExactStepsFault.a4_ {p : Prop} (h : p := by first | rfl | (simp [errW_none, errW_some] <;> rfl) | (simp [*, errW_none, errW_some] <;> rfl)) : p := h
theorem laws_FnExactStepsFault.a5_ {p : Prop} (h : p := by repeat (first | exact (Kd.C_below HR0.out HB.out) | (with_reducible refine Kd.C_alloc ?_ _) | (with_reducible refine Kd.C_drewN ?_ _) | (with_reducible refine Kd.C_drew ?_))) : p := h
theorem laws_FnExactStepsFault.a6_ {p : Prop} (h : p := by repeat (first | exact (Kd.R_reads' HO415.out).2.2 | (with_reducible refine Kd.C_alloc ?_ _) | (with_reducible refine Kd.C_drewN ?_ _) | (with_reducible refine Kd.C_drew ?_))) : p := h
theorem laws_FnExactStepsFault.a7_ {p : Prop} (h : p := by (with_reducible repeat (first | apply Kd.R_alloc | apply Kd.R_drewN | apply Kd.R_drew)); exact HO415.out) : p := h
theorem laws_FnExactStepsFault.a8_ {p : Prop} (h : p := by repeat (first | exact (Kd.R_reads' HO419.out).2.2 | (with_reducible refine Kd.C_alloc ?_ _) | (with_reducible refine Kd.C_drewN ?_ _) | (with_reducible refine Kd.C_drew ?_))) : p := h
theorem laws_FnExactStepsFault.a9_ {p : Prop} (h : p := by (with_reducible repeat (first | apply Kd.R_alloc | apply Kd.R_drewN | apply Kd.R_drew)); exact HO419.out) : p := h
set_option maxHeartbeats 8000000 in
set_option maxRecDepth 100000 in
theorem laws_FnExactStepsFault.calls (k : Nat) (A0 : Option Addr) (c0 : Nat) (l0 : List (S64)) (r : Bool) (w : World) (hr0 : Kd.C k64 w A0 l0.length l0) (hc0 : l0.length ≤ c0) (h : laws_FnExactStepsFault.f k l0 = some r) :
  Calls Try.prog 4 #[.slice A0 l0.length c0] w fun e w' => e = .returned (.bool r) ∧ Below w.heap.size w w' := by
 have HR0 := Aside0.mk hr0
 have HC0 := Aside0.mk hc0
 clear hr0 hc0
 have HB := Aside0.mk (Below.refl w.heap.size w)
 have H : ((laws_szPathStepS.f k l0 1048576).bind fun t412 => (if t412 < 0 then (some true) else ((laws_toPathStepS.f k l0).bind fun t413 => ((spec_StepsFault.f k t413).bind fun t416 => ((laws_toPathStepS.f k l0).bind fun t417 => ((impl_StepsFault.f k t417).bind fun t420 => (if t420 = t416 then ((laws_toPathStepS.f k l0).bind fun t421 => ((laws_eqPathStepS.f k t417 t421).bind fun t424 => (if t424 = true then (some true) else (some false)))) else (some false)))))))) = some r := h
 clear h
 replace H := Option.bind_eq_some_iff.mp H
 obtain ⟨t412, A20, H⟩ := H
 replace H : (if t412 < 0 then (some true) else ((laws_toPathStepS.f k l0).bind fun t413 => ((spec_StepsFault.f k t413).bind fun t416 => ((laws_toPathStepS.f k l0).bind fun t417 => ((impl_StepsFault.f k t417).bind fun t420 => (if t420 = t416 then ((laws_toPathStepS.f k l0).bind fun t421 => ((laws_eqPathStepS.f k t417 t421).bind fun t424 => (if t424 = true then (some true) else (some false)))) else (some false))))))) = some r := H
 have A2 := Aside0.mk A20
 clear A20
 by_cases c3 : t412 < 0
 ·rw [if_pos c3] at H
  have c3b0 : decide (t412 < 0) = true := decide_eq_true c3
  clear c3
  obtain rfl := Option.some.inj H
  go_enter Try.func4, Try.ntmps4
  go_wp2_with (first | ((with_reducible refine gate_callee (f := 13) rfl ?_); refine goesL_ (some 9) rfl rfl Try.func13 (by kernel_rfl) rfl #[.slice A0 l0.length c0, .int .i64 1048576] rfl (a1_) ?_; (with_reducible refine (laws_szPathStepS.calls k _ _ l0 1048576 t412 _ ?side1 ?side2 A2.out).mono ?_); (case side1 => exact a2_); (case side2 => exact HC0.out); rintro e w4 ⟨rfl, hb⟩; refine ⟨_, rfl, ?_⟩; have n0_ := Aside0.mk (below_step (a3_) hb); clear HB; have HB := n0_; clear n0_; (try clear hb); (try clear hb2); (try clear hk); (try clear hi)))
  go_ret
  exact ⟨a4_, a3_⟩
 ·rw [if_neg c3] at H
  have c3b0 : decide (t412 < 0) = false := decide_eq_false c3
  clear c3
  replace H := Option.bind_eq_some_iff.mp H
  obtain ⟨t413, A50, H⟩ := H
  replace H : ((spec_StepsFault.f k t413).bind fun t416 => ((laws_toPathStepS.f k l0).bind fun t417 => ((impl_StepsFault.f k t417).bind fun t420 => (if t420 = t416 then ((laws_toPathStepS.f k l0).bind fun t421 => ((laws_eqPathStepS.f k t417 t421).bind fun t424 => (if t424 = true then (some true) else (some false)))) else (some false))))) = some r := H
  have A5 := Aside0.mk A50
  clear A50
  replace H := Option.bind_eq_some_iff.mp H
  obtain ⟨t416, A60, H⟩ := H
  replace H : ((laws_toPathStepS.f k l0).bind fun t417 => ((impl_StepsFault.f k t417).bind fun t420 => (if t420 = t416 then ((laws_toPathStepS.f k l0).bind fun t421 => ((laws_eqPathStepS.f k t417 t421).bind fun t424 => (if t424 = true then (some true) else (some false)))) else (some false)))) = some r := H
  have A6 := Aside0.mk A60
  clear A60
  replace H := Option.bind_eq_some_iff.mp H
  obtain ⟨t417, A70, H⟩ := H
  replace H : ((impl_StepsFault.f k t417).bind fun t420 => (if t420 = t416 then ((laws_toPathStepS.f k l0).bind fun t421 => ((laws_eqPathStepS.f k t417 t421).bind fun t424 => (if t424 = true then (some true) else (some false)))) else (some false))) = some r := H
  have A7 := Aside0.mk A70
  clear A70
  replace H := Option.bind_eq_some_iff.mp H
  obtain ⟨t420, A80, H⟩ := H
  replace H : (if t420 = t416 then ((laws_toPathStepS.f k l0).bind fun t421 => ((laws_eqPathStepS.f k t417 t421).bind fun t424 => (if t424 = true then (some true) else (some false)))) else (some false)) = some r := H
  have A8 := Aside0.mk A80
  clear A80
  by_cases c9 : t420 = t416
  ·rw [if_pos c9] at H
   have c9b0 : (t420 == t416) = true := beq_iff_eq.mpr c9
   have c9b1 : (t420 != t416) = false := bne_eq_false_iff_eq.mpr c9
   clear c9
   replace H := Option.bind_eq_some_iff.mp H
   obtain ⟨t421, A100, H⟩ := H
   replace H : ((laws_eqPathStepS.f k t417 t421).bind fun t424 => (if t424 = true then (some true) else (some false))) = some r := H
   have A10 := Aside0.mk A100
   clear A100
   replace H := Option.bind_eq_some_iff.mp H
   obtain ⟨t424, A110, H⟩ := H
   replace H : (if t424 = true then (some true) else (some false)) = some r := H
   have A11 := Aside0.mk A110
   clear A110
   by_cases c12 : t424 = true
   ·subst c12
    have H1 : (some true) = some r := by rw [if_pos rfl] at H; exact H
    clear H
    have H := H1
    clear H1
    obtain rfl := Option.some.inj H
    go_enter Try.func4, Try.ntmps4
    go_wp2_with (first | ((with_reducible refine gate_callee (f := 13) rfl ?_); refine goesL_ (some 9) rfl rfl Try.func13 (by kernel_rfl) rfl #[.slice A0 l0.length c0, .int .i64 1048576] rfl (a1_) ?_; (with_reducible refine (laws_szPathStepS.calls k _ _ l0 1048576 t412 _ ?side1 ?side2 A2.out).mono ?_); (case side1 => exact a2_); (case side2 => exact HC0.out); rintro e w13 ⟨rfl, hb⟩; refine ⟨_, rfl, ?_⟩; have n0_ := Aside0.mk (below_step (a3_) hb); clear HB; have HB := n0_; clear n0_; (try clear hb); (try clear hb2); (try clear hk); (try clear hi)) | ((with_reducible refine gate_callee (f := 15) rfl ?_); refine goesL_ (some 13) rfl rfl Try.func15 (by kernel_rfl) rfl #[.slice A0 l0.length c0] rfl (a1_) ?_; (with_reducible refine (laws_toPathStepS.calls k _ _ l0 t413 _ ?side1 ?side2 A5.out).mono ?_); (case side1 => exact a5_); (case side2 => exact HC0.out); rintro e w14 ⟨v414, rfl, ho0, hb⟩; refine ⟨_, rfl, ?_⟩; have n_ := c2_ (Kd.R_lower ho0 (below_size (a3_))) (below_step (a3_) hb); clear HB; obtain ⟨HO415, HB⟩ := n_; (try clear hb); (try clear hb2); (try clear hk); (try clear hi); (try clear ho0); obtain ⟨Ao15, co15, eo15⟩ := Kd.R_slice HO415.out; subst eo15) | ((with_reducible refine gate_callee (f := 14) rfl ?_); refine goesL_ (some 14) rfl rfl Try.func14 (by kernel_rfl) rfl #[.slice Ao15 t413.length co15] rfl (a1_) ?_; (with_reducible refine (spec_StepsFault.calls k _ _ t413 t416 _ ?side1 ?side2 A6.out).mono ?_); (case side1 => exact a6_); (case side2 => exact (Kd.R_reads' HO415.out).2.1); rintro e w16 ⟨rfl, hb⟩; refine ⟨_, rfl, ?_⟩; have n_ := c2_ (Kd.R_below (a7_) hb) (below_step (a3_) hb); clear HO415 HB; obtain ⟨HO415, HB⟩ := n_; (try clear hb); (try clear hb2); (try clear hk); (try clear hi)) | ((with_reducible refine gate_callee (f := 15) rfl ?_); refine goesL_ (some 16) rfl rfl Try.func15 (by kernel_rfl) rfl #[.slice A0 l0.length c0] rfl (a1_) ?_; (with_reducible refine (laws_toPathStepS.calls k _ _ l0 t417 _ ?side1 ?side2 A7.out).mono ?_); (case side1 => exact a5_); (case side2 => exact HC0.out); rintro e w17 ⟨v418, rfl, ho0, hb⟩; refine ⟨_, rfl, ?_⟩; have n_ := c3_ (Kd.R_elder' (a7_) (Kd.R_base ho0) hb) (Kd.R_lower (Kd.R_new' ho0 (Kd.R_lt (a7_))) (below_size (a3_))) (below_step (a3_) hb); clear HO415 HB; obtain ⟨HO415, HO419, HB⟩ := n_; (try clear hb); (try clear hb2); (try clear hk); (try clear hi); (try clear ho0); obtain ⟨Ao18, co18, eo18⟩ := Kd.R_slice HO419.out; subst eo18) | ((with_reducible refine gate_callee (f := 16) rfl ?_); refine goesL_ (some 18) rfl rfl Try.func16 (by kernel_rfl) rfl #[.slice Ao18 t417.length co18] rfl (a1_) ?_; (with_reducible refine (impl_StepsFault.calls k _ _ t417 t420 _ ?side1 ?side2 A8.out).mono ?_); (case side1 => exact a8_); (case side2 => exact (Kd.R_reads' HO419.out).2.1); rintro e w19 ⟨rfl, hb⟩; refine ⟨_, rfl, ?_⟩; have n_ := c3_ (Kd.R_below (a7_) hb) (Kd.R_below (a9_) hb) (below_step (a3_) hb); clear HO415 HO419 HB; obtain ⟨HO415, HO419, HB⟩ := n_; (try clear hb); (try clear hb2); (try clear hk); (try clear hi)) | ((with_reducible refine gate_callee (f := 15) rfl ?_); refine goesL_ (some 24) rfl rfl Try.func15 (by kernel_rfl) rfl #[.slice A0 l0.length c0] rfl (a1_) ?_; (with_reducible refine (laws_toPathStepS.calls k _ _ l0 t421 _ ?side1 ?side2 A10.out).mono ?_); (case side1 => exact a5_); (case side2 => exact HC0.out); rintro e w20 ⟨v422, rfl, ho0, hb⟩; refine ⟨_, rfl, ?_⟩; have n_ := c4_ (Kd.R_elder' (a7_) (Kd.R_base ho0) hb) (Kd.R_elder' (a9_) (Kd.R_base ho0) hb) (Kd.R_lower (Kd.R_new' (Kd.R_new' ho0 (Kd.R_lt (a7_))) (Kd.R_lt (a9_))) (below_size (a3_))) (below_step (a3_) hb); clear HO415 HO419 HB; obtain ⟨HO415, HO419, HO423, HB⟩ := n_; (try clear hb); (try clear hb2); (try clear hk); (try clear hi); (try clear ho0); obtain ⟨Ao21, co21, eo21⟩ := Kd.R_slice HO423.out; subst eo21) | ((with_reducible refine gate_callee (f := 17) rfl ?_); refine goesL_ (some 25) rfl rfl Try.func17 (by kernel_rfl) rfl #[.slice Ao18 t417.length co18, .slice Ao21 t421.length co21] rfl (a1_) ?_; (with_reducible refine (laws_eqPathStepS.calls k _ _ t417 _ _ t421 true _ ?side1 ?side2 ?side3 ?side4 A11.out).mono ?_); (case side1 => exact a8_); (case side2 => exact (Kd.R_reads' HO419.out).2.1); (case side3 => exact by repeat (first | exact (Kd.R_reads' HO423.out).2.2 | (with_reducible refine Kd.C_alloc ?_ _) | (with_reducible refine Kd.C_drewN ?_ _) | (with_reducible refine Kd.C_drew ?_))); (case side4 => exact (Kd.R_reads' HO423.out).2.1); rintro e w22 ⟨rfl, hb⟩; refine ⟨_, rfl, ?_⟩; have n_ := c4_ (Kd.R_below (a7_) hb) (Kd.R_below (a9_) hb) (Kd.R_below (by (with_reducible repeat (first | apply Kd.R_alloc | apply Kd.R_drewN | apply Kd.R_drew)); exact HO423.out) hb) (below_step (a3_) hb); clear HO415 HO419 HO423 HB; obtain ⟨HO415, HO419, HO423, HB⟩ := n_; (try clear hb); (try clear hb2); (try clear hk); (try clear hi)))
    go_ret
    exact ⟨a4_, a3_⟩
   ·replace c12 := Bool.eq_false_iff.mpr c12
    subst c12
    have H1 : (some false) = some r := by rw [if_neg (show ¬ (false = true) by decide)] at H; exact H
    clear H
    have H := H1
    clear H1
    obtain rfl := Option.some.inj H
    go_enter Try.func4, Try.ntmps4
    go_wp2_with (first | ((with_reducible refine gate_callee (f := 13) rfl ?_); refine goesL_ (some 9) rfl rfl Try.func13 (by kernel_rfl) rfl #[.slice A0 l0.length c0, .int .i64 1048576] rfl (a1_) ?_; (with_reducible refine (laws_szPathStepS.calls k _ _ l0 1048576 t412 _ ?side1 ?side2 A2.out).mono ?_); (case side1 => exact a2_); (case side2 => exact HC0.out); rintro e w23 ⟨rfl, hb⟩; refine ⟨_, rfl, ?_⟩; have n0_ := Aside0.mk (below_step (a3_) hb); clear HB; have HB := n0_; clear n0_; (try clear hb); (try clear hb2); (try clear hk); (try clear hi)) | ((with_reducible refine gate_callee (f := 15) rfl ?_); refine goesL_ (some 13) rfl rfl Try.func15 (by kernel_rfl) rfl #[.slice A0 l0.length c0] rfl (a1_) ?_; (with_reducible refine (laws_toPathStepS.calls k _ _ l0 t413 _ ?side1 ?side2 A5.out).mono ?_); (case side1 => exact a5_); (case side2 => exact HC0.out); rintro e w24 ⟨v414, rfl, ho0, hb⟩; refine ⟨_, rfl, ?_⟩; have n_ := c2_ (Kd.R_lower ho0 (below_size (a3_))) (below_step (a3_) hb); clear HB; obtain ⟨HO415, HB⟩ := n_; (try clear hb); (try clear hb2); (try clear hk); (try clear hi); (try clear ho0); obtain ⟨Ao25, co25, eo25⟩ := Kd.R_slice HO415.out; subst eo25) | ((with_reducible refine gate_callee (f := 14) rfl ?_); refine goesL_ (some 14) rfl rfl Try.func14 (by kernel_rfl) rfl #[.slice Ao25 t413.length co25] rfl (a1_) ?_; (with_reducible refine (spec_StepsFault.calls k _ _ t413 t416 _ ?side1 ?side2 A6.out).mono ?_); (case side1 => exact a6_); (case side2 => exact (Kd.R_reads' HO415.out).2.1); rintro e w26 ⟨rfl, hb⟩; refine ⟨_, rfl, ?_⟩; have n_ := c2_ (Kd.R_below (a7_) hb) (below_step (a3_) hb); clear HO415 HB; obtain ⟨HO415, HB⟩ := n_; (try clear hb); (try clear hb2); (try clear hk); (try clear hi)) | ((with_reducible refine gate_callee (f := 15) rfl ?_); refine goesL_ (some 16) rfl rfl Try.func15 (by kernel_rfl) rfl #[.slice A0 l0.length c0] rfl (a1_) ?_; (with_reducible refine (laws_toPathStepS.calls k _ _ l0 t417 _ ?side1 ?side2 A7.out).mono ?_); (case side1 => exact a5_); (case side2 => exact HC0.out); rintro e w27 ⟨v418, rfl, ho0, hb⟩; refine ⟨_, rfl, ?_⟩; have n_ := c3_ (Kd.R_elder' (a7_) (Kd.R_base ho0) hb) (Kd.R_lower (Kd.R_new' ho0 (Kd.R_lt (a7_))) (below_size (a3_))) (below_step (a3_) hb); clear HO415 HB; obtain ⟨HO415, HO419, HB⟩ := n_; (try clear hb); (try clear hb2); (try clear hk); (try clear hi); (try clear ho0); obtain ⟨Ao28, co28, eo28⟩ := Kd.R_slice HO419.out; subst eo28) | ((with_reducible refine gate_callee (f := 16) rfl ?_); refine goesL_ (some 18) rfl rfl Try.func16 (by kernel_rfl) rfl #[.slice Ao28 t417.length co28] rfl (a1_) ?_; (with_reducible refine (impl_StepsFault.calls k _ _ t417 t420 _ ?side1 ?side2 A8.out).mono ?_); (case side1 => exact a8_); (case side2 => exact (Kd.R_reads' HO419.out).2.1); rintro e w29 ⟨rfl, hb⟩; refine ⟨_, rfl, ?_⟩; have n_ := c3_ (Kd.R_below (a7_) hb) (Kd.R_below (a9_) hb) (below_step (a3_) hb); clear HO415 HO419 HB; obtain ⟨HO415, HO419, HB⟩ := n_; (try clear hb); (try clear hb2); (try clear hk); (try clear hi)) | ((with_reducible refine gate_callee (f := 15) rfl ?_); refine goesL_ (some 24) rfl rfl Try.func15 (by kernel_rfl) rfl #[.slice A0 l0.length c0] rfl (a1_) ?_; (with_reducible refine (laws_toPathStepS.calls k _ _ l0 t421 _ ?side1 ?side2 A10.out).mono ?_); (case side1 => exact a5_); (case side2 => exact HC0.out); rintro e w30 ⟨v422, rfl, ho0, hb⟩; refine ⟨_, rfl, ?_⟩; have n_ := c4_ (Kd.R_elder' (a7_) (Kd.R_base ho0) hb) (Kd.R_elder' (a9_) (Kd.R_base ho0) hb) (Kd.R_lower (Kd.R_new' (Kd.R_new' ho0 (Kd.R_lt (a7_))) (Kd.R_lt (a9_))) (below_size (a3_))) (below_step (a3_) hb); clear HO415 HO419 HB; obtain ⟨HO415, HO419, HO423, HB⟩ := n_; (try clear hb); (try clear hb2); (try clear hk); (try clear hi); (try clear ho0); obtain ⟨Ao31, co31, eo31⟩ := Kd.R_slice HO423.out; subst eo31) | ((with_reducible refine gate_callee (f := 17) rfl ?_); refine goesL_ (some 25) rfl rfl Try.func17 (by kernel_rfl) rfl #[.slice Ao28 t417.length co28, .slice Ao31 t421.length co31] rfl (a1_) ?_; (with_reducible refine (laws_eqPathStepS.calls k _ _ t417 _ _ t421 false _ ?side1 ?side2 ?side3 ?side4 A11.out).mono ?_); (case side1 => exact a8_); (case side2 => exact (Kd.R_reads' HO419.out).2.1); (case side3 => exact by repeat (first | exact (Kd.R_reads' HO423.out).2.2 | (with_reducible refine Kd.C_alloc ?_ _) | (with_reducible refine Kd.C_drewN ?_ _) | (with_reducible refine Kd.C_drew ?_))); (case side4 => exact (Kd.R_reads' HO423.out).2.1); rintro e w32 ⟨rfl, hb⟩; refine ⟨_, rfl, ?_⟩; have n_ := c4_ (Kd.R_below (a7_) hb) (Kd.R_below (a9_) hb) (Kd.R_below (by (with_reducible repeat (first | apply Kd.R_alloc | apply Kd.R_drewN | apply Kd.R_drew)); exact HO423.out) hb) (below_step (a3_) hb); clear HO415 HO419 HO423 HB; obtain ⟨HO415, HO419, HO423, HB⟩ := n_; (try clear hb); (try clear hb2); (try clear hk); (try clear hi)))
    go_ret
    exact ⟨a4_, a3_⟩
  ·rw [if_neg c9] at H
   have c9b0 : (t420 == t416) = false := beq_eq_false_iff_ne.mpr c9
   have c9b1 : (t420 != t416) = true := bne_iff_ne.mpr c9
   obtain rfl := Option.some.inj H
   go_enter Try.func4, Try.ntmps4
   go_wp2_with (first | ((with_reducible refine gate_callee (f := 13) rfl ?_); refine goesL_ (some 9) rfl rfl Try.func13 (by kernel_rfl) rfl #[.slice A0 l0.length c0, .int .i64 1048576] rfl (a1_) ?_; (with_reducible refine (laws_szPathStepS.calls k _ _ l0 1048576 t412 _ ?side1 ?side2 A2.out).mono ?_); (case side1 => exact a2_); (case side2 => exact HC0.out); rintro e w33 ⟨rfl, hb⟩; refine ⟨_, rfl, ?_⟩; have n0_ := Aside0.mk (below_step (a3_) hb); clear HB; have HB := n0_; clear n0_; (try clear hb); (try clear hb2); (try clear hk); (try clear hi)) | ((with_reducible refine gate_callee (f := 15) rfl ?_); refine goesL_ (some 13) rfl rfl Try.func15 (by kernel_rfl) rfl #[.slice A0 l0.length c0] rfl (a1_) ?_; (with_reducible refine (laws_toPathStepS.calls k _ _ l0 t413 _ ?side1 ?side2 A5.out).mono ?_); (case side1 => exact a5_); (case side2 => exact HC0.out); rintro e w34 ⟨v414, rfl, ho0, hb⟩; refine ⟨_, rfl, ?_⟩; have n_ := c2_ (Kd.R_lower ho0 (below_size (a3_))) (below_step (a3_) hb); clear HB; obtain ⟨HO415, HB⟩ := n_; (try clear hb); (try clear hb2); (try clear hk); (try clear hi); (try clear ho0); obtain ⟨Ao35, co35, eo35⟩ := Kd.R_slice HO415.out; subst eo35) | ((with_reducible refine gate_callee (f := 14) rfl ?_); refine goesL_ (some 14) rfl rfl Try.func14 (by kernel_rfl) rfl #[.slice Ao35 t413.length co35] rfl (a1_) ?_; (with_reducible refine (spec_StepsFault.calls k _ _ t413 t416 _ ?side1 ?side2 A6.out).mono ?_); (case side1 => exact a6_); (case side2 => exact (Kd.R_reads' HO415.out).2.1); rintro e w36 ⟨rfl, hb⟩; refine ⟨_, rfl, ?_⟩; have n_ := c2_ (Kd.R_below (a7_) hb) (below_step (a3_) hb); clear HO415 HB; obtain ⟨HO415, HB⟩ := n_; (try clear hb); (try clear hb2); (try clear hk); (try clear hi)) | ((with_reducible refine gate_callee (f := 15) rfl ?_); refine goesL_ (some 16) rfl rfl Try.func15 (by kernel_rfl) rfl #[.slice A0 l0.length c0] rfl (a1_) ?_; (with_reducible refine (laws_toPathStepS.calls k _ _ l0 t417 _ ?side1 ?side2 A7.out).mono ?_); (case side1 => exact a5_); (case side2 => exact HC0.out); rintro e w37 ⟨v418, rfl, ho0, hb⟩; refine ⟨_, rfl, ?_⟩; have n_ := c3_ (Kd.R_elder' (a7_) (Kd.R_base ho0) hb) (Kd.R_lower (Kd.R_new' ho0 (Kd.R_lt (a7_))) (below_size (a3_))) (below_step (a3_) hb); clear HO415 HB; obtain ⟨HO415, HO419, HB⟩ := n_; (try clear hb); (try clear hb2); (try clear hk); (try clear hi); (try clear ho0); obtain ⟨Ao38, co38, eo38⟩ := Kd.R_slice HO419.out; subst eo38) | ((with_reducible refine gate_callee (f := 16) rfl ?_); refine goesL_ (some 18) rfl rfl Try.func16 (by kernel_rfl) rfl #[.slice Ao38 t417.length co38] rfl (a1_) ?_; (with_reducible refine (impl_StepsFault.calls k _ _ t417 t420 _ ?side1 ?side2 A8.out).mono ?_); (case side1 => exact a8_); (case side2 => exact (Kd.R_reads' HO419.out).2.1); rintro e w39 ⟨rfl, hb⟩; refine ⟨_, rfl, ?_⟩; have n_ := c3_ (Kd.R_below (a7_) hb) (Kd.R_below (a9_) hb) (below_step (a3_) hb); clear HO415 HO419 HB; obtain ⟨HO415, HO419, HB⟩ := n_; (try clear hb); (try clear hb2); (try clear hk); (try clear hi)))
   go_ret
   exact ⟨a4_, a3_⟩

end Go.Proofs.Ytmecapnpgedcnaa.PFnExactStepsFault
