/- Walks of Go functions, written by program out of the print of the translation, with contracts of our own where the print has none. -/
import Derived.Test.YtmecapnpgedcnaaPFnExactShowStepsx0
import Derived.Test.YtmecapnpgedcnaaPFnExactShowStepsx7
import Derived.Test.YtmecapnpgedcnaaPFnExactShowStepsx12
namespace Go.Proofs.Ytmecapnpgedcnaa.PFnExactShowSteps
open Go.RowKit Go.Proofs.YtmecapnpgedcnaaW.PrintWords Go.Proofs.YtmecapnpgedcnaaW.PrintLast Go.Proofs.YtmecapnpgedcnaaW.PrintMore
attribute [local go_sem] max2_int min2_int max_two min_two max_three min_three max_four min_four   -- for this text's walks alone
set_option linter.unusedVariables false
set_option linter.unusedSimpArgs false

/-! ### impl_stepsTree: function 39 -/
def impl_stepsTree.f (k : Nat) (l0 : List (S66)) : Option (Int × ByteArray × Int × (List (S70)) × Bool) := if (l0.length : Int) > 100 then (some (0, (⟨#[]⟩ : ByteArray), 0, ([] : List (S70)), false)) else ((impl_growSteps.f k l0 0 1).bind fun bt414 => (if bt414.2.2.2.2.2 = true then (if bt414.2.2.2.2.1 = (l0.length : Int) then ((impl_walkTree_ok.f k bt414.1 bt414.2.1 bt414.2.2.1 bt414.2.2.2.1).bind fun t423 => (some (bt414.1, bt414.2.1, bt414.2.2.1, bt414.2.2.2.1, t423))) else (some (bt414.1, bt414.2.1, bt414.2.2.1, bt414.2.2.2.1, false))) else (some (bt414.1, bt414.2.1, bt414.2.2.1, bt414.2.2.2.1, false))))
def impl_stepsTree.T4 : Bool × List (List Nat × List Nat) := (true, [([], []), ([], []), ([1], [1]), ([2], [2]), ([2], [2]), ([4, 2], [2, 4]), ([3, 5, 2], [2, 3, 5]), ([2, 6], [2, 6]), ([7, 2], [7]), ([8], [8]), ([9, 8, 8], [8, 9]), ([8, 10], [8, 10]), ([0, 10, 0], [0]), ([11, 12, 0, 1, 2, 3, 4, 5, 6, 7, 8, 9, 10, 11, 12], [11])])
def impl_stepsTree.B4 : List Nat := [0, 0, 2, 6, 6, 22, 62, 126, 254, 510, 1022, 2046, 2047, 8191]
theorem impl_stepsTree.tab4 : rtab .any (opsOf Try.f39 4) = impl_stepsTree.T4 := by kernel_rfl
theorem impl_stepsTree.bits4 : waitsOk impl_stepsTree.T4.2 impl_stepsTree.B4 = true := by kernel_rfl
theorem impl_stepsTree.a1_ {p : Prop} (h : p := by repeat (first | (with_reducible first | exact HB.out | apply below_alloc | apply pw_below_drewN | apply below_drew1) | exact HB.out)) : p := h
theorem impl_stepsTree.a2_ {p : Prop} (h : p := by first | rfl | (simp [errW_none, errW_some] <;> rfl) | (simp [*, errW_none, errW_some] <;> rfl)) : p := h
theorem impl_stepsTree.a3_ {p : Prop} (h : p := by repeat (first | (with_reducible first | exact HB.out | apply below_alloc | apply pw_below_drewN | apply below_drew1 | refine below_set ?_ GE413.out) | exact HB.out)) : p := h
theorem impl_stepsTree.a4_ {p : Prop} (h : p := by (try simp only [List.map_toArray, List.map_cons, List.map_nil]); first | done | rfl | (simp only [List.length_drop, List.length_take]; rfl)) : p := h
theorem impl_stepsTree.a5_ {p : Prop} (h : p := by repeat (first | exact (Kd.C_below HR0.out HB.out) | (with_reducible refine Kd.C_alloc ?_ _) | (with_reducible refine Kd.C_drewN ?_ _) | (with_reducible refine Kd.C_drew ?_))) : p := h
theorem impl_stepsTree.a6_ {p : Prop} (h : p := by (with_reducible repeat (first | refine blk_drewN ?_ _ | refine blk_drew ?_ | refine blk_alloc ?_ _)); exact BK413.out) : p := h
theorem impl_stepsTree.a7_ {p : Prop} (h : p := by (with_reducible repeat (first | apply Kd.R_alloc | apply Kd.R_drewN | apply Kd.R_drew)); exact HO419.out) : p := h
theorem impl_stepsTree.a8_ {p : Prop} (h : p := by (with_reducible repeat (first | refine blk_drewN ?_ _ | refine blk_drew ?_ | refine blk_alloc ?_ _)); refine blk_far ?_ NB413_422.out _; (with_reducible repeat (first | refine blk_drewN ?_ _ | refine blk_drew ?_ | refine blk_alloc ?_ _)); refine blk_far ?_ NB413_422.out _; (with_reducible repeat (first | refine blk_drewN ?_ _ | refine blk_drew ?_ | refine blk_alloc ?_ _)); refine blk_far ?_ NB413_422.out _; (with_reducible repeat (first | refine blk_drewN ?_ _ | refine blk_drew ?_ | refine blk_alloc ?_ _)); refine blk_far ?_ NB413_422.out _; (with_reducible repeat (first | refine blk_drewN ?_ _ | refine blk_drew ?_ | refine blk_alloc ?_ _)); exact BK413.out) : p := h
theorem impl_stepsTree.a9_ {p : Prop} (h : p := by (with_reducible repeat (first | refine blk_drewN ?_ _ | refine blk_drew ?_ | refine blk_alloc ?_ _)); refine blk_put (cs := #[.int .i64 t414, .string t415, .int .i64 t416, .slice none 0 0]) ?_ 3 _ rfl; (with_reducible repeat (first | refine blk_drewN ?_ _ | refine blk_drew ?_ | refine blk_alloc ?_ _)); refine blk_put (cs := #[.int .i64 t414, .string t415, .int .i64 0, .slice none 0 0]) ?_ 2 _ rfl; (with_reducible repeat (first | refine blk_drewN ?_ _ | refine blk_drew ?_ | refine blk_alloc ?_ _)); refine blk_put (cs := #[.int .i64 t414, .string (⟨#[]⟩ : ByteArray), .int .i64 0, .slice none 0 0]) ?_ 1 _ rfl; (with_reducible repeat (first | refine blk_drewN ?_ _ | refine blk_drew ?_ | refine blk_alloc ?_ _)); refine blk_put (cs := #[.int .i64 0, .string (⟨#[]⟩ : ByteArray), .int .i64 0, .slice none 0 0]) ?_ 0 _ rfl; (with_reducible repeat (first | refine blk_drewN ?_ _ | refine blk_drew ?_ | refine blk_alloc ?_ _)); exact BK422.out) : p := h
theorem impl_stepsTree.a10_ {p : Prop} (h : p := by repeat (first | (with_reducible first | exact HB.out | apply below_alloc | apply pw_below_drewN | apply below_drew1 | refine below_set ?_ GE413.out | refine below_set ?_ GE422.out) | exact HB.out)) : p := h
theorem impl_stepsTree.a11_ {p : Prop} (h : p := by (with_reducible repeat (first | refine blk_drewN ?_ _ | refine blk_drew ?_ | refine blk_alloc ?_ _)); refine blk_put (cs := #[.int .i64 t414, .string t415, .int .i64 t416, .slice none 0 0]) ?_ 3 _ rfl; (with_reducible repeat (first | refine blk_drewN ?_ _ | refine blk_drew ?_ | refine blk_alloc ?_ _)); refine blk_put (cs := #[.int .i64 t414, .string t415, .int .i64 0, .slice none 0 0]) ?_ 2 _ rfl; (with_reducible repeat (first | refine blk_drewN ?_ _ | refine blk_drew ?_ | refine blk_alloc ?_ _)); refine blk_put (cs := #[.int .i64 t414, .string (⟨#[]⟩ : ByteArray), .int .i64 0, .slice none 0 0]) ?_ 1 _ rfl; (with_reducible repeat (first | refine blk_drewN ?_ _ | refine blk_drew ?_ | refine blk_alloc ?_ _)); refine blk_put (cs := #[.int .i64 0, .string (⟨#[]⟩ : ByteArray), .int .i64 0, .slice none 0 0]) ?_ 0 _ rfl; (with_reducible repeat (first | refine blk_drewN ?_ _ | refine blk_drew ?_ | refine blk_alloc ?_ _)); exact BK413.out) : p := h
set_option maxHeartbeats 8000000 in
set_option maxRecDepth 100000 in
theorem impl_stepsTree.calls (k : Nat) (A0 : Option Addr) (c0 : Nat) (l0 : List (S66)) (r1 : Int) (r2 : ByteArray) (r3 : Int) (r4 : List (S70)) (r5 : Bool) (w : World) (hr0 : Kd.C k66 w A0 l0.length l0) (hc0 : l0.length ≤ c0) (h : impl_stepsTree.f k l0 = some (r1, r2, r3, r4, r5)) :
  Calls Try.prog 39 #[.slice A0 l0.length c0] w fun e w' => ∃ v3_ : Value, e = .returned (.tuple #[.agg #[.int .i64 r1, .string r2, .int .i64 r3, v3_], .bool r5]) ∧ Kd.R k70 70 w' w.heap.size (fun _ => True) v3_ r4 ∧ Below w.heap.size w w' := by
 have hu70 := Try.underlying70
 have HR0 := Aside0.mk hr0
 have HC0 := Aside0.mk hc0
 clear hr0 hc0
 have HB := Aside0.mk (Below.refl w.heap.size w)
 have H : (if (l0.length : Int) > 100 then (some (0, (⟨#[]⟩ : ByteArray), 0, ([] : List (S70)), false)) else ((impl_growSteps.f k l0 0 1).bind fun bt414 => (if bt414.2.2.2.2.2 = true then (if bt414.2.2.2.2.1 = (l0.length : Int) then ((impl_walkTree_ok.f k bt414.1 bt414.2.1 bt414.2.2.1 bt414.2.2.2.1).bind fun t423 => (some (bt414.1, bt414.2.1, bt414.2.2.1, bt414.2.2.2.1, t423))) else (some (bt414.1, bt414.2.1, bt414.2.2.1, bt414.2.2.2.1, false))) else (some (bt414.1, bt414.2.1, bt414.2.2.1, bt414.2.2.2.1, false))))) = some (r1, r2, r3, r4, r5) := h
 clear h
 by_cases c2 : (l0.length : Int) > 100
 ·rw [if_pos c2] at H
  have c2b0 : decide (100 < (l0.length : Int)) = true := decide_eq_true c2
  have c2b1 : decide (100 < l0.length) = true := decide_eq_true (by omega)
  clear c2
  simp only [Option.some.injEq, Prod.mk.injEq] at H
  obtain ⟨rfl, rfl, rfl, rfl, rfl⟩ := H
  go_enter Try.func39, Try.ntmps39
  go_wp2_with (first | ((with_reducible refine gate_dst (N := 2) rfl ?_); (try (refine gate_guard (by rfl) ?_; dsimp only)); refine box_event ?hg (N := 2) ?hd (cs := #[.int .i64 0, .string (⟨#[]⟩ : ByteArray), .int .i64 0, .slice none 0 0]) (t := 70) ?hr ?_; (case hd => rfl); (case hg => rfl); (case hr => first | (go_simp; done) | (go_simp; rfl)); intro gb413 hg w3 hbox hb; have n_ := c4_ (below_step (a1_) hb) (hbox) ((by rw [hg]; exact (below_size (a1_)) : w.heap.size ≤ gb413)) ((by rw [hg]; exact (below_size (a1_)) : w.heap.size ≤ gb413)); clear HB; obtain ⟨HB, BK413, GW413, GE413⟩ := n_; clear hb hbox hg; obtain ⟨hcz4_0, hcz4_1, hcz4_2, hcz4_3, hfz4_0, hfz4_1, hfz4_2, hfz4_3⟩ := cf4_ BK413.out))
  refine bodyPost_ret (results_ct rfl _ _ gb413 70 #[.int .i64 0, .string (⟨#[]⟩ : ByteArray), .int .i64 0, .slice none 0 0] (0, 0) _ rfl (by (with_reducible repeat (first | refine blk_drewN ?_ _ | refine blk_drew ?_ | refine blk_alloc ?_ _)); refine blk_put (cs := #[.int .i64 0, .string (⟨#[]⟩ : ByteArray), .int .i64 0, .slice none 0 0]) ?_ 3 _ rfl; (with_reducible repeat (first | refine blk_drewN ?_ _ | refine blk_drew ?_ | refine blk_alloc ?_ _)); refine blk_put (cs := #[.int .i64 0, .string (⟨#[]⟩ : ByteArray), .int .i64 0, .slice none 0 0]) ?_ 2 _ rfl; (with_reducible repeat (first | refine blk_drewN ?_ _ | refine blk_drew ?_ | refine blk_alloc ?_ _)); refine blk_put (cs := #[.int .i64 0, .string (⟨#[]⟩ : ByteArray), .int .i64 0, .slice none 0 0]) ?_ 1 _ rfl; (with_reducible repeat (first | refine blk_drewN ?_ _ | refine blk_drew ?_ | refine blk_alloc ?_ _)); refine blk_put (cs := #[.int .i64 0, .string (⟨#[]⟩ : ByteArray), .int .i64 0, .slice none 0 0]) ?_ 0 _ rfl; (with_reducible repeat (first | refine blk_drewN ?_ _ | refine blk_drew ?_ | refine blk_alloc ?_ _)); exact BK413.out) Try.underlying70 rfl (by kernel_rfl)) rfl ?_
  exact ⟨_, a2_, by first | exact Kd.R_nil _ _ _ _ _ | exact Kd.N_nil _ _ _ _ _ | exact Kd.V_nil _ _ _ _ _ | exact Kd.Q_nil _ _ _ _ _ | exact Kd.S_nil _ _ _ _ _, a3_⟩
 ·rw [if_neg c2] at H
  have c2b0 : decide (100 < (l0.length : Int)) = false := decide_eq_false c2
  have c2b1 : decide (100 < l0.length) = false := decide_eq_false (by omega)
  clear c2
  replace H := Option.bind_eq_some_iff.mp H
  obtain ⟨⟨t414, t415, t416, t417, t420, t421⟩, A50, H⟩ := H
  try dsimp only at H
  have A5 := Aside0.mk A50
  clear A50
  by_cases c6 : t421 = true
  ·subst c6
   rw [if_pos rfl] at H
   try dsimp only at H
   by_cases c7 : t420 = (l0.length : Int)
   ·rw [if_pos c7] at H
    have c7b0 : (t420 == (l0.length : Int)) = true := beq_iff_eq.mpr c7
    have c7b1 : (t420 != (l0.length : Int)) = false := bne_eq_false_iff_eq.mpr c7
    clear c7
    replace H := Option.bind_eq_some_iff.mp H
    obtain ⟨t423, A80, H⟩ := H
    try dsimp only at H
    have A8 := Aside0.mk A80
    clear A80
    simp only [Option.some.injEq, Prod.mk.injEq] at H
    obtain ⟨rfl, rfl, rfl, rfl, rfl⟩ := H
    go_enter Try.func39, Try.ntmps39
    try go_wp2_with (first | ((with_reducible refine gate_dst (N := 2) rfl ?_); (try (refine gate_guard (by rfl) ?_; dsimp only)); refine box_event ?hg (N := 2) ?hd (cs := #[.int .i64 0, .string (⟨#[]⟩ : ByteArray), .int .i64 0, .slice none 0 0]) (t := 70) ?hr ?_; (case hd => rfl); (case hg => rfl); (case hr => first | (go_simp; done) | (go_simp; rfl)); intro gb413 hg w9 hbox hb; have n_ := c4_ (below_step (a1_) hb) (hbox) ((by rw [hg]; exact (below_size (a1_)) : w.heap.size ≤ gb413)) ((by rw [hg]; exact (below_size (a1_)) : w.heap.size ≤ gb413)); clear HB; obtain ⟨HB, BK413, GW413, GE413⟩ := n_; clear hb hbox hg) | ((with_reducible refine gate_callee (f := 64) rfl ?_); refine goesL_ (some 13) rfl rfl Try.func64 (by kernel_rfl) rfl #[.slice A0 l0.length c0, .int .i64 0, .int .i64 1] rfl (a4_) ?_; (with_reducible refine (impl_growSteps.calls k _ _ l0 0 1 t414 t415 t416 t417 t420 true _ ?side1 ?side2 A5.out).mono ?_); (case side1 => exact a5_); (case side2 => exact HC0.out); rintro e w10 ⟨v418, rfl, ho0, hb⟩; refine ⟨_, rfl, ?_⟩; have n_ := c3_ (Kd.R_lower (Kd.R_newB ho0 (g := gb413) (o := .cells #[.int .i64 0, .string (⟨#[]⟩ : ByteArray), .int .i64 0, .slice none 0 0] 70 (0, 0)) (a6_)) (below_size (a3_))) (blk_below (g := gb413) (o := .cells #[.int .i64 0, .string (⟨#[]⟩ : ByteArray), .int .i64 0, .slice none 0 0] 70 (0, 0)) (a6_) hb) (below_step (a3_) hb); clear BK413 HB; obtain ⟨HO419, BK413, HB⟩ := n_; (try clear hb); (try clear hb2); (try clear hk); (try clear hi); (try clear ho0)) | ((with_reducible refine gate_dst (N := 4) rfl ?_); (try (refine gate_guard (by rfl) ?_; dsimp only)); refine box_event ?hg (N := 4) ?hd (cs := #[.int .i64 0, .string (⟨#[]⟩ : ByteArray), .int .i64 0, .slice none 0 0]) (t := 70) ?hr ?_; (case hd => rfl); (case hg => rfl); (case hr => first | (go_simp; done) | (go_simp; rfl)); intro gb422 hg w11 hbox hb; have n_ := c8_ (Kd.R_below (Kd.R_elderB (a7_) gb422 (Nat.le_of_eq hg.symm)) hb) (blk_below (g := gb413) (o := .cells #[.int .i64 0, .string (⟨#[]⟩ : ByteArray), .int .i64 0, .slice none 0 0] 70 (0, 0)) (a6_) hb) (below_step (a3_) hb) (hbox) ((by rw [hg]; exact (below_size (a3_)) : w.heap.size ≤ gb422)) ((by rw [hg]; exact (below_size (a3_)) : w.heap.size ≤ gb422)) ((by rw [hg]; exact Nat.ne_of_lt (blk_lt (g := gb413) (o := .cells #[.int .i64 0, .string (⟨#[]⟩ : ByteArray), .int .i64 0, .slice none 0 0] 70 (0, 0)) (a6_)) : gb413 ≠ gb422)) ((by rw [hg]; exact Nat.ne_of_gt (blk_lt (g := gb413) (o := .cells #[.int .i64 0, .string (⟨#[]⟩ : ByteArray), .int .i64 0, .slice none 0 0] 70 (0, 0)) (a6_)) : gb422 ≠ gb413)); clear HO419 BK413 HB; obtain ⟨HO419, BK413, HB, BK422, GW422, GE422, NB413_422, NB422_413⟩ := n_; clear hb hbox hg; have hnb12 := NB422_413.out; have hnc12 := NB413_422.out; obtain ⟨hcz13_0, hcz13_1, hcz13_2, hcz13_3, hfz13_0, hfz13_1, hfz13_2, hfz13_3⟩ := cf4_ BK422.out; obtain ⟨Ao14, co14, eo14⟩ := Kd.R_slice HO419.out; subst eo14))
    have n_ := c4_ (show Kd.R k70 70 ((((w11.setCell ⟨gb422, 0, none⟩ (.int .i64 t414)).setCell ⟨gb422, 1, none⟩ (.string t415)).setCell ⟨gb422, 2, none⟩ (.int .i64 t416)).setCell ⟨gb422, 3, none⟩ (.slice Ao14 t417.length co14)) w.heap.size (fun k_ => k_ ≠ gb413 ∧ k_ ≠ gb422) (.slice Ao14 t417.length co14) t417 from by (with_reducible repeat (first | apply Kd.R_alloc | apply Kd.R_drewN | apply Kd.R_drew)); exact Kd.R_mono (Kd.R_far (p := ⟨gb422, 3, none⟩) (Kd.R_far (p := ⟨gb422, 2, none⟩) (Kd.R_far (p := ⟨gb422, 1, none⟩) (Kd.R_far (p := ⟨gb422, 0, none⟩) (Kd.R_mono HO419.out (fun k_ hk => (⟨hk, hk.2⟩ : _ ∧ k_ ≠ gb422))) (fun _ hk => hk.2) (.int .i64 t414)) (fun _ hk => hk.2) (.string t415)) (fun _ hk => hk.2) (.int .i64 t416)) (fun _ hk => hk.2) (.slice Ao14 t417.length co14)) (fun _ hk => ⟨hk.1.1.2, hk.1.2⟩)) (show ((((w11.setCell ⟨gb422, 0, none⟩ (.int .i64 t414)).setCell ⟨gb422, 1, none⟩ (.string t415)).setCell ⟨gb422, 2, none⟩ (.int .i64 t416)).setCell ⟨gb422, 3, none⟩ (.slice Ao14 t417.length co14)).heap[gb413]? = some (.cells #[.int .i64 0, .string (⟨#[]⟩ : ByteArray), .int .i64 0, .slice none 0 0] 70 (0, 0)) from a8_) (show ((((w11.setCell ⟨gb422, 0, none⟩ (.int .i64 t414)).setCell ⟨gb422, 1, none⟩ (.string t415)).setCell ⟨gb422, 2, none⟩ (.int .i64 t416)).setCell ⟨gb422, 3, none⟩ (.slice Ao14 t417.length co14)).heap[gb422]? = some (.cells #[.int .i64 t414, .string t415, .int .i64 t416, .slice Ao14 t417.length co14] 70 (0, 0)) from a9_) (show Below w.heap.size w ((((w11.setCell ⟨gb422, 0, none⟩ (.int .i64 t414)).setCell ⟨gb422, 1, none⟩ (.string t415)).setCell ⟨gb422, 2, none⟩ (.int .i64 t416)).setCell ⟨gb422, 3, none⟩ (.slice Ao14 t417.length co14)) from a10_)
    (try clear HO419)
    (try clear BK413)
    (try clear BK422)
    (try clear HB)
    generalize ((((w11.setCell ⟨gb422, 0, none⟩ (.int .i64 t414)).setCell ⟨gb422, 1, none⟩ (.string t415)).setCell ⟨gb422, 2, none⟩ (.int .i64 t416)).setCell ⟨gb422, 3, none⟩ (.slice Ao14 t417.length co14)) = w15 at n_ ⊢
    obtain ⟨HO419, BK413, BK422, HB⟩ := n_
    have n_ := c4_ (Kd.R_drew HO419.out) (blk_drew BK413.out) (blk_drew BK422.out) (below_drew1 HB.out)
    clear HO419 BK413 BK422 HB
    obtain ⟨HO419, BK413, BK422, HB⟩ := n_
    refine start_ (n := 14) (S := fun w' => w'.cell? ⟨gb422, 0, none⟩ = some (.int .i64 t414) ∧ w'.cell? ⟨gb422, 1, none⟩ = some (.string t415) ∧ w'.cell? ⟨gb422, 2, none⟩ = some (.int .i64 t416) ∧ w'.cell? ⟨gb422, 3, none⟩ = some (.slice Ao14 t417.length co14)) (ds := []) (bs_ 14 0) (by kernel_rfl) (by kernel_rfl) (by kernel_rfl) ⟨(blk_cell BK422.out 0).trans rfl, (blk_cell BK422.out 1).trans rfl, (blk_cell BK422.out 2).trans rfl, (blk_cell BK422.out 3).trans rfl⟩ (fun hHeld => ?_); refine with_tabW impl_stepsTree.tab4 impl_stepsTree.bits4 (fun HT_ HW_ => ?_)
    generalize w15.drew = w16 at HO419 BK413 BK422 HB hHeld ⊢
    refine pu_ (i := 1) (N := some 18) 2 rfl rfl HT_ (Or.inl ⟨by rfl, by intro w'; go_simp; with_reducible rfl⟩) (by simp only [pt_]; rfl) ?_
    refine pu_ (i := 2) (N := some 19) 6 rfl rfl HT_ (Or.inl ⟨by rfl, by intro w'; go_simp; with_reducible rfl⟩) (by simp only [pt_]; rfl) ?_
    refine pu_ (i := 3) (N := some 20) 14 rfl rfl HT_ (Or.inl ⟨by rfl, by intro w'; go_simp; with_reducible rfl⟩) (by simp only [pt_]; rfl) ?_
    refine pu_ (i := 4) (N := some 21) 30 rfl rfl HT_ (Or.inl ⟨by rfl, by intro w'; go_simp; with_reducible rfl⟩) (by simp only [pt_]; rfl) ?_
    refine pu_ (i := 5) (N := some 22) 62 rfl rfl HT_ (Or.inl ⟨by rfl, by intro w'; go_simp; with_reducible rfl⟩) (by simp only [pt_]; rfl) ?_
    refine pu_ (i := 6) (N := some 23) 126 rfl rfl HT_ (Or.inl ⟨by rfl, by intro w'; go_simp; with_reducible rfl⟩) (by simp only [pt_]; rfl) ?_
    refine pu_ (i := 7) (N := some 24) 254 rfl rfl HT_ (Or.inl ⟨by rfl, by intro w'; go_simp; with_reducible rfl⟩) (by simp only [pt_]; rfl) ?_
    refine pu_ (i := 8) (N := some 25) 510 rfl rfl HT_ (Or.inl ⟨by rfl, by intro w'; go_simp; with_reducible rfl⟩) (by simp only [pt_]; rfl) ?_
    refine tk_ (i := 0) (N := some 17) 511 rfl rfl HT_ HW_ (Or.inl ⟨by rfl, by rintro w' ⟨s0, s1, s2, s3⟩; go_simp; with_reducible rfl⟩) hHeld (by simp only [pt_]; rfl) ?_
    refine tk_ (i := 9) (N := some 26) 1023 rfl rfl HT_ HW_ (Or.inl ⟨by rfl, by rintro w' ⟨s0, s1, s2, s3⟩; go_simp; with_reducible rfl⟩) hHeld (by simp only [pt_]; rfl) ?_
    refine one_ (i := 10) (N := some 27) (bs_ 14 2047) rfl rfl (one_of HT_.out (by kernel_rfl)) (by decide) (fun K hK => ?_)
    refine goes_ Try.func65 (by kernel_rfl) rfl #[.agg #[.int .i64 t414, .string t415, .int .i64 t416, .slice Ao14 t417.length co14]] (by rfl) rfl rfl (a4_) ?_
    with_reducible refine (impl_walkTree_ok.calls k t414 t415 t416 _ _ t417 t423 _ ?side1 ?side2 A8.out).mono ?_
    (case side1 => exact by repeat (first | exact (Kd.R_reads' HO419.out).2.2 | (with_reducible refine Kd.C_alloc ?_ _) | (with_reducible refine Kd.C_drewN ?_ _) | (with_reducible refine Kd.C_drew ?_)))
    (case side2 => exact (Kd.R_reads' HO419.out).2.1)
    rintro e w17 ⟨rfl, hb⟩
    refine ⟨_, rfl, ?_⟩
    have n_ := c4_ (Kd.R_below (a7_) hb) (blk_below (g := gb413) (o := .cells #[.int .i64 0, .string (⟨#[]⟩ : ByteArray), .int .i64 0, .slice none 0 0] 70 (0, 0)) (a6_) hb) (blk_below (g := gb422) (o := .cells #[.int .i64 t414, .string t415, .int .i64 t416, .slice Ao14 t417.length co14] 70 (0, 0)) (by (with_reducible repeat (first | refine blk_drewN ?_ _ | refine blk_drew ?_ | refine blk_alloc ?_ _)); exact BK422.out) hb) (below_step (a10_) hb)
    clear HO419 BK413 BK422 HB
    obtain ⟨HO419, BK413, BK422, HB⟩ := n_
    (try clear hb)
    (try clear hb2)
    (try clear hk)
    (try clear hi)
    refine hK.out _ _ ⟨(blk_cell BK422.out 0).trans rfl, (blk_cell BK422.out 1).trans rfl, (blk_cell BK422.out 2).trans rfl, (blk_cell BK422.out 3).trans rfl⟩ (fun hHeld => ?_)
    clear hK K
    refine norm_ (a' := ?_) ?_ ?_
    rotate_left
    ·show Act.put _ (some 27) _ = _
     simp only [pt_]
     rfl
    refine pu_ (i := 11) (N := some 28) 4095 rfl rfl HT_ (Or.inl ⟨by rfl, by intro w'; go_simp; with_reducible rfl⟩) (by simp only [pt_]; rfl) ?_
    refine one_ (i := 12) (N := none) (bs_ 14 8191) rfl rfl (one_of HT_.out (by kernel_rfl)) (by decide) (fun K hK => ?_)
    have hs18 : w17.cell? ⟨gb413, 0, none⟩ = some (.int .i64 0) := (blk_cell BK413.out 0).trans rfl
    have hfs18 := blk_frozen BK413.out 0
    have hns18_1 := NB422_413.out
    have hms18_1 := NB413_422.out
    have hs19 : w17.cell? ⟨gb413, 1, none⟩ = some (.string (⟨#[]⟩ : ByteArray)) := (blk_cell BK413.out 1).trans rfl
    have hfs19 := blk_frozen BK413.out 1
    have hns19_1 := NB422_413.out
    have hms19_1 := NB413_422.out
    have hs20 : w17.cell? ⟨gb413, 2, none⟩ = some (.int .i64 0) := (blk_cell BK413.out 2).trans rfl
    have hfs20 := blk_frozen BK413.out 2
    have hns20_1 := NB422_413.out
    have hms20_1 := NB413_422.out
    have hs21 : w17.cell? ⟨gb413, 3, none⟩ = some (.slice none 0 0) := (blk_cell BK413.out 3).trans rfl
    have hfs21 := blk_frozen BK413.out 3
    have hns21_1 := NB422_413.out
    have hms21_1 := NB413_422.out
    refine skip_ (w1 := ?_) (by rfl) rfl ?_ ?_
    rotate_left
    ·go_simp
     rfl
    refine hK.out _ _ ⟨((cell_far (p := ⟨gb413, _, none⟩) NB422_413.out _).trans (((cell_far (p := ⟨gb413, _, none⟩) NB422_413.out _).trans (((cell_far (p := ⟨gb413, _, none⟩) NB422_413.out _).trans (((cell_far (p := ⟨gb413, _, none⟩) NB422_413.out _).trans (hHeld.1)))))))), ((cell_far (p := ⟨gb413, _, none⟩) NB422_413.out _).trans (((cell_far (p := ⟨gb413, _, none⟩) NB422_413.out _).trans (((cell_far (p := ⟨gb413, _, none⟩) NB422_413.out _).trans (((cell_far (p := ⟨gb413, _, none⟩) NB422_413.out _).trans (hHeld.2.1)))))))), ((cell_far (p := ⟨gb413, _, none⟩) NB422_413.out _).trans (((cell_far (p := ⟨gb413, _, none⟩) NB422_413.out _).trans (((cell_far (p := ⟨gb413, _, none⟩) NB422_413.out _).trans (((cell_far (p := ⟨gb413, _, none⟩) NB422_413.out _).trans (hHeld.2.2.1)))))))), ((cell_far (p := ⟨gb413, _, none⟩) NB422_413.out _).trans (((cell_far (p := ⟨gb413, _, none⟩) NB422_413.out _).trans (((cell_far (p := ⟨gb413, _, none⟩) NB422_413.out _).trans (((cell_far (p := ⟨gb413, _, none⟩) NB422_413.out _).trans (hHeld.2.2.2))))))))⟩ (fun hHeld => ?_)
    clear hK K
    refine pu_ (i := 13) (N := some 3) 16383 rfl rfl HT_ (Or.inl ⟨by rfl, by intro w'; go_simp; with_reducible rfl⟩) (by simp only [pt_]; rfl) ?_
    refine done_ (done_of HT_.out (by kernel_rfl)) ?_
    try go_wp2
    refine bodyPost_ret (results_ct rfl _ _ gb413 70 #[.int .i64 t414, .string t415, .int .i64 t416, .slice Ao14 t417.length co14] (0, 0) _ rfl (a11_) Try.underlying70 rfl (by kernel_rfl)) rfl ?_
    exact ⟨_, a2_, by (with_reducible repeat (first | apply Kd.R_alloc | apply Kd.R_drewN | apply Kd.R_drew)); exact Kd.R_mono (Kd.R_far (p := ⟨gb413, 3, none⟩) (Kd.R_far (p := ⟨gb413, 2, none⟩) (Kd.R_far (p := ⟨gb413, 1, none⟩) (Kd.R_far (p := ⟨gb413, 0, none⟩) (Kd.R_mono HO419.out (fun k_ hk => (⟨hk, hk.1⟩ : _ ∧ k_ ≠ gb413))) (fun _ hk => hk.2) (.int .i64 t414)) (fun _ hk => hk.2) (.string t415)) (fun _ hk => hk.2) (.int .i64 t416)) (fun _ hk => hk.2) (.slice Ao14 t417.length co14)) (fun _ hk => trivial), a10_⟩
   ·rw [if_neg c7] at H
    have c7b0 : (t420 == (l0.length : Int)) = false := beq_eq_false_iff_ne.mpr c7
    have c7b1 : (t420 != (l0.length : Int)) = true := bne_iff_ne.mpr c7
    simp only [Option.some.injEq, Prod.mk.injEq] at H
    obtain ⟨rfl, rfl, rfl, rfl, rfl⟩ := H
    go_enter Try.func39, Try.ntmps39
    try go_wp2_with (first | ((with_reducible refine gate_dst (N := 2) rfl ?_); (try (refine gate_guard (by rfl) ?_; dsimp only)); refine box_event ?hg (N := 2) ?hd (cs := #[.int .i64 0, .string (⟨#[]⟩ : ByteArray), .int .i64 0, .slice none 0 0]) (t := 70) ?hr ?_; (case hd => rfl); (case hg => rfl); (case hr => first | (go_simp; done) | (go_simp; rfl)); intro gb413 hg w22 hbox hb; have n_ := c4_ (below_step (a1_) hb) (hbox) ((by rw [hg]; exact (below_size (a1_)) : w.heap.size ≤ gb413)) ((by rw [hg]; exact (below_size (a1_)) : w.heap.size ≤ gb413)); clear HB; obtain ⟨HB, BK413, GW413, GE413⟩ := n_; clear hb hbox hg) | ((with_reducible refine gate_callee (f := 64) rfl ?_); refine goesL_ (some 13) rfl rfl Try.func64 (by kernel_rfl) rfl #[.slice A0 l0.length c0, .int .i64 0, .int .i64 1] rfl (a4_) ?_; (with_reducible refine (impl_growSteps.calls k _ _ l0 0 1 t414 t415 t416 t417 t420 true _ ?side1 ?side2 A5.out).mono ?_); (case side1 => exact a5_); (case side2 => exact HC0.out); rintro e w23 ⟨v418, rfl, ho0, hb⟩; refine ⟨_, rfl, ?_⟩; have n_ := c3_ (Kd.R_lower (Kd.R_newB ho0 (g := gb413) (o := .cells #[.int .i64 0, .string (⟨#[]⟩ : ByteArray), .int .i64 0, .slice none 0 0] 70 (0, 0)) (a6_)) (below_size (a3_))) (blk_below (g := gb413) (o := .cells #[.int .i64 0, .string (⟨#[]⟩ : ByteArray), .int .i64 0, .slice none 0 0] 70 (0, 0)) (a6_) hb) (below_step (a3_) hb); clear BK413 HB; obtain ⟨HO419, BK413, HB⟩ := n_; (try clear hb); (try clear hb2); (try clear hk); (try clear hi); (try clear ho0)) | ((with_reducible refine gate_dst (N := 4) rfl ?_); (try (refine gate_guard (by rfl) ?_; dsimp only)); refine box_event ?hg (N := 4) ?hd (cs := #[.int .i64 0, .string (⟨#[]⟩ : ByteArray), .int .i64 0, .slice none 0 0]) (t := 70) ?hr ?_; (case hd => rfl); (case hg => rfl); (case hr => first | (go_simp; done) | (go_simp; rfl)); intro gb422 hg w24 hbox hb; have n_ := c8_ (Kd.R_below (Kd.R_elderB (a7_) gb422 (Nat.le_of_eq hg.symm)) hb) (blk_below (g := gb413) (o := .cells #[.int .i64 0, .string (⟨#[]⟩ : ByteArray), .int .i64 0, .slice none 0 0] 70 (0, 0)) (a6_) hb) (below_step (a3_) hb) (hbox) ((by rw [hg]; exact (below_size (a3_)) : w.heap.size ≤ gb422)) ((by rw [hg]; exact (below_size (a3_)) : w.heap.size ≤ gb422)) ((by rw [hg]; exact Nat.ne_of_lt (blk_lt (g := gb413) (o := .cells #[.int .i64 0, .string (⟨#[]⟩ : ByteArray), .int .i64 0, .slice none 0 0] 70 (0, 0)) (a6_)) : gb413 ≠ gb422)) ((by rw [hg]; exact Nat.ne_of_gt (blk_lt (g := gb413) (o := .cells #[.int .i64 0, .string (⟨#[]⟩ : ByteArray), .int .i64 0, .slice none 0 0] 70 (0, 0)) (a6_)) : gb422 ≠ gb413)); clear HO419 BK413 HB; obtain ⟨HO419, BK413, HB, BK422, GW422, GE422, NB413_422, NB422_413⟩ := n_; clear hb hbox hg; have hnb25 := NB422_413.out; have hnc25 := NB413_422.out; obtain ⟨hcz26_0, hcz26_1, hcz26_2, hcz26_3, hfz26_0, hfz26_1, hfz26_2, hfz26_3⟩ := cf4_ BK422.out; obtain ⟨Ao27, co27, eo27⟩ := Kd.R_slice HO419.out; subst eo27))
    have n_ := c4_ (show Kd.R k70 70 ((((w24.setCell ⟨gb422, 0, none⟩ (.int .i64 t414)).setCell ⟨gb422, 1, none⟩ (.string t415)).setCell ⟨gb422, 2, none⟩ (.int .i64 t416)).setCell ⟨gb422, 3, none⟩ (.slice Ao27 t417.length co27)) w.heap.size (fun k_ => k_ ≠ gb413 ∧ k_ ≠ gb422) (.slice Ao27 t417.length co27) t417 from by (with_reducible repeat (first | apply Kd.R_alloc | apply Kd.R_drewN | apply Kd.R_drew)); exact Kd.R_mono (Kd.R_far (p := ⟨gb422, 3, none⟩) (Kd.R_far (p := ⟨gb422, 2, none⟩) (Kd.R_far (p := ⟨gb422, 1, none⟩) (Kd.R_far (p := ⟨gb422, 0, none⟩) (Kd.R_mono HO419.out (fun k_ hk => (⟨hk, hk.2⟩ : _ ∧ k_ ≠ gb422))) (fun _ hk => hk.2) (.int .i64 t414)) (fun _ hk => hk.2) (.string t415)) (fun _ hk => hk.2) (.int .i64 t416)) (fun _ hk => hk.2) (.slice Ao27 t417.length co27)) (fun _ hk => ⟨hk.1.1.2, hk.1.2⟩)) (show ((((w24.setCell ⟨gb422, 0, none⟩ (.int .i64 t414)).setCell ⟨gb422, 1, none⟩ (.string t415)).setCell ⟨gb422, 2, none⟩ (.int .i64 t416)).setCell ⟨gb422, 3, none⟩ (.slice Ao27 t417.length co27)).heap[gb413]? = some (.cells #[.int .i64 0, .string (⟨#[]⟩ : ByteArray), .int .i64 0, .slice none 0 0] 70 (0, 0)) from a8_) (show ((((w24.setCell ⟨gb422, 0, none⟩ (.int .i64 t414)).setCell ⟨gb422, 1, none⟩ (.string t415)).setCell ⟨gb422, 2, none⟩ (.int .i64 t416)).setCell ⟨gb422, 3, none⟩ (.slice Ao27 t417.length co27)).heap[gb422]? = some (.cells #[.int .i64 t414, .string t415, .int .i64 t416, .slice Ao27 t417.length co27] 70 (0, 0)) from a9_) (show Below w.heap.size w ((((w24.setCell ⟨gb422, 0, none⟩ (.int .i64 t414)).setCell ⟨gb422, 1, none⟩ (.string t415)).setCell ⟨gb422, 2, none⟩ (.int .i64 t416)).setCell ⟨gb422, 3, none⟩ (.slice Ao27 t417.length co27)) from a10_)
    (try clear HO419)
    (try clear BK413)
    (try clear BK422)
    (try clear HB)
    generalize ((((w24.setCell ⟨gb422, 0, none⟩ (.int .i64 t414)).setCell ⟨gb422, 1, none⟩ (.string t415)).setCell ⟨gb422, 2, none⟩ (.int .i64 t416)).setCell ⟨gb422, 3, none⟩ (.slice Ao27 t417.length co27)) = w28 at n_ ⊢
    obtain ⟨HO419, BK413, BK422, HB⟩ := n_
    have n_ := c4_ (Kd.R_drew HO419.out) (blk_drew BK413.out) (blk_drew BK422.out) (below_drew1 HB.out)
    clear HO419 BK413 BK422 HB
    obtain ⟨HO419, BK413, BK422, HB⟩ := n_
    refine start_ (n := 14) (S := fun w' => w'.cell? ⟨gb422, 0, none⟩ = some (.int .i64 t414) ∧ w'.cell? ⟨gb422, 1, none⟩ = some (.string t415) ∧ w'.cell? ⟨gb422, 2, none⟩ = some (.int .i64 t416) ∧ w'.cell? ⟨gb422, 3, none⟩ = some (.slice Ao27 t417.length co27)) (ds := []) (bs_ 14 0) (by kernel_rfl) (by kernel_rfl) (by kernel_rfl) ⟨(blk_cell BK422.out 0).trans rfl, (blk_cell BK422.out 1).trans rfl, (blk_cell BK422.out 2).trans rfl, (blk_cell BK422.out 3).trans rfl⟩ (fun hHeld => ?_); refine with_tabW impl_stepsTree.tab4 impl_stepsTree.bits4 (fun HT_ HW_ => ?_)
    generalize w28.drew = w29 at HO419 BK413 BK422 HB hHeld ⊢
    refine pu_ (i := 1) (N := some 18) 2 rfl rfl HT_ (Or.inl ⟨by rfl, by intro w'; go_simp; with_reducible rfl⟩) (by simp only [pt_]; rfl) ?_
    refine pu_ (i := 2) (N := some 19) 6 rfl rfl HT_ (Or.inl ⟨by rfl, by intro w'; go_simp; with_reducible rfl⟩) (by simp only [pt_]; rfl) ?_
    refine pu_ (i := 3) (N := some 20) 14 rfl rfl HT_ (Or.inl ⟨by rfl, by intro w'; go_simp; with_reducible rfl⟩) (by simp only [pt_]; rfl) ?_
    refine pu_ (i := 4) (N := some 21) 30 rfl rfl HT_ (Or.inl ⟨by rfl, by intro w'; go_simp; with_reducible rfl⟩) (by simp only [pt_]; rfl) ?_
    refine pu_ (i := 5) (N := some 22) 62 rfl rfl HT_ (Or.inl ⟨by rfl, by intro w'; go_simp; with_reducible rfl⟩) (by simp only [pt_]; rfl) ?_
    refine pu_ (i := 6) (N := some 23) 126 rfl rfl HT_ (Or.inl ⟨by rfl, by intro w'; go_simp; with_reducible rfl⟩) (by simp only [pt_]; rfl) ?_
    refine pu_ (i := 7) (N := some 24) 254 rfl rfl HT_ (Or.inl ⟨by rfl, by intro w'; go_simp; with_reducible rfl⟩) (by simp only [pt_]; rfl) ?_
    refine pu_ (i := 8) (N := some 25) 510 rfl rfl HT_ (Or.inl ⟨by rfl, by intro w'; go_simp; with_reducible rfl⟩) (by simp only [pt_]; rfl) ?_
    refine pu_ (i := 9) (N := some 26) (v := undef) (a' := ?_) 1022 rfl rfl HT_ (Or.inr ⟨by rfl, rfl⟩) ?_ ?_
    rotate_left
    ·simp only [pt_]
     rfl
    refine pu_ (i := 10) (N := some 27) (v := undef) (a' := ?_) 2046 rfl rfl HT_ (Or.inr ⟨by rfl, rfl⟩) ?_ ?_
    rotate_left
    ·simp only [pt_]
     rfl
    refine pu_ (i := 11) (N := some 28) 4094 rfl rfl HT_ (Or.inl ⟨by rfl, by intro w'; go_simp; with_reducible rfl⟩) (by simp only [pt_]; rfl) ?_
    refine tk_ (i := 0) (N := some 17) 4095 rfl rfl HT_ HW_ (Or.inl ⟨by rfl, by rintro w' ⟨s0, s1, s2, s3⟩; go_simp; with_reducible rfl⟩) hHeld (by simp only [pt_]; rfl) ?_
    refine one_ (i := 12) (N := none) (bs_ 14 8191) rfl rfl (one_of HT_.out (by kernel_rfl)) (by decide) (fun K hK => ?_)
    have hs30 : w29.cell? ⟨gb413, 0, none⟩ = some (.int .i64 0) := (blk_cell BK413.out 0).trans rfl
    have hfs30 := blk_frozen BK413.out 0
    have hns30_1 := NB422_413.out
    have hms30_1 := NB413_422.out
    have hs31 : w29.cell? ⟨gb413, 1, none⟩ = some (.string (⟨#[]⟩ : ByteArray)) := (blk_cell BK413.out 1).trans rfl
    have hfs31 := blk_frozen BK413.out 1
    have hns31_1 := NB422_413.out
    have hms31_1 := NB413_422.out
    have hs32 : w29.cell? ⟨gb413, 2, none⟩ = some (.int .i64 0) := (blk_cell BK413.out 2).trans rfl
    have hfs32 := blk_frozen BK413.out 2
    have hns32_1 := NB422_413.out
    have hms32_1 := NB413_422.out
    have hs33 : w29.cell? ⟨gb413, 3, none⟩ = some (.slice none 0 0) := (blk_cell BK413.out 3).trans rfl
    have hfs33 := blk_frozen BK413.out 3
    have hns33_1 := NB422_413.out
    have hms33_1 := NB413_422.out
    refine skip_ (w1 := ?_) (by rfl) rfl ?_ ?_
    rotate_left
    ·go_simp
     rfl
    refine hK.out _ _ ⟨((cell_far (p := ⟨gb413, _, none⟩) NB422_413.out _).trans (((cell_far (p := ⟨gb413, _, none⟩) NB422_413.out _).trans (((cell_far (p := ⟨gb413, _, none⟩) NB422_413.out _).trans (((cell_far (p := ⟨gb413, _, none⟩) NB422_413.out _).trans (hHeld.1)))))))), ((cell_far (p := ⟨gb413, _, none⟩) NB422_413.out _).trans (((cell_far (p := ⟨gb413, _, none⟩) NB422_413.out _).trans (((cell_far (p := ⟨gb413, _, none⟩) NB422_413.out _).trans (((cell_far (p := ⟨gb413, _, none⟩) NB422_413.out _).trans (hHeld.2.1)))))))), ((cell_far (p := ⟨gb413, _, none⟩) NB422_413.out _).trans (((cell_far (p := ⟨gb413, _, none⟩) NB422_413.out _).trans (((cell_far (p := ⟨gb413, _, none⟩) NB422_413.out _).trans (((cell_far (p := ⟨gb413, _, none⟩) NB422_413.out _).trans (hHeld.2.2.1)))))))), ((cell_far (p := ⟨gb413, _, none⟩) NB422_413.out _).trans (((cell_far (p := ⟨gb413, _, none⟩) NB422_413.out _).trans (((cell_far (p := ⟨gb413, _, none⟩) NB422_413.out _).trans (((cell_far (p := ⟨gb413, _, none⟩) NB422_413.out _).trans (hHeld.2.2.2))))))))⟩ (fun hHeld => ?_)
    clear hK K
    refine pu_ (i := 13) (N := some 3) 16383 rfl rfl HT_ (Or.inl ⟨by rfl, by intro w'; go_simp; with_reducible rfl⟩) (by simp only [pt_]; rfl) ?_
    refine done_ (done_of HT_.out (by kernel_rfl)) ?_
    try go_wp2
    refine bodyPost_ret (results_ct rfl _ _ gb413 70 #[.int .i64 t414, .string t415, .int .i64 t416, .slice Ao27 t417.length co27] (0, 0) _ rfl (a11_) Try.underlying70 rfl (by kernel_rfl)) rfl ?_
    exact ⟨_, a2_, by (with_reducible repeat (first | apply Kd.R_alloc | apply Kd.R_drewN | apply Kd.R_drew)); exact Kd.R_mono (Kd.R_far (p := ⟨gb413, 3, none⟩) (Kd.R_far (p := ⟨gb413, 2, none⟩) (Kd.R_far (p := ⟨gb413, 1, none⟩) (Kd.R_far (p := ⟨gb413, 0, none⟩) (Kd.R_mono HO419.out (fun k_ hk => (⟨hk, hk.1⟩ : _ ∧ k_ ≠ gb413))) (fun _ hk => hk.2) (.int .i64 t414)) (fun _ hk => hk.2) (.string t415)) (fun _ hk => hk.2) (.int .i64 t416)) (fun _ hk => hk.2) (.slice Ao27 t417.length co27)) (fun _ hk => trivial), a10_⟩
  ·replace c6 := Bool.eq_false_iff.mpr c6
   subst c6
   rw [if_neg (show ¬ (false = true) by decide)] at H
   try dsimp only at H
   simp only [Option.some.injEq, Prod.mk.injEq] at H
   obtain ⟨rfl, rfl, rfl, rfl, rfl⟩ := H
   go_enter Try.func39, Try.ntmps39
   try go_wp2_with (first | ((with_reducible refine gate_dst (N := 2) rfl ?_); (try (refine gate_guard (by rfl) ?_; dsimp only)); refine box_event ?hg (N := 2) ?hd (cs := #[.int .i64 0, .string (⟨#[]⟩ : ByteArray), .int .i64 0, .slice none 0 0]) (t := 70) ?hr ?_; (case hd => rfl); (case hg => rfl); (case hr => first | (go_simp; done) | (go_simp; rfl)); intro gb413 hg w34 hbox hb; have n_ := c4_ (below_step (a1_) hb) (hbox) ((by rw [hg]; exact (below_size (a1_)) : w.heap.size ≤ gb413)) ((by rw [hg]; exact (below_size (a1_)) : w.heap.size ≤ gb413)); clear HB; obtain ⟨HB, BK413, GW413, GE413⟩ := n_; clear hb hbox hg) | ((with_reducible refine gate_callee (f := 64) rfl ?_); refine goesL_ (some 13) rfl rfl Try.func64 (by kernel_rfl) rfl #[.slice A0 l0.length c0, .int .i64 0, .int .i64 1] rfl (a4_) ?_; (with_reducible refine (impl_growSteps.calls k _ _ l0 0 1 t414 t415 t416 t417 t420 false _ ?side1 ?side2 A5.out).mono ?_); (case side1 => exact a5_); (case side2 => exact HC0.out); rintro e w35 ⟨v418, rfl, ho0, hb⟩; refine ⟨_, rfl, ?_⟩; have n_ := c3_ (Kd.R_lower (Kd.R_newB ho0 (g := gb413) (o := .cells #[.int .i64 0, .string (⟨#[]⟩ : ByteArray), .int .i64 0, .slice none 0 0] 70 (0, 0)) (a6_)) (below_size (a3_))) (blk_below (g := gb413) (o := .cells #[.int .i64 0, .string (⟨#[]⟩ : ByteArray), .int .i64 0, .slice none 0 0] 70 (0, 0)) (a6_) hb) (below_step (a3_) hb); clear BK413 HB; obtain ⟨HO419, BK413, HB⟩ := n_; (try clear hb); (try clear hb2); (try clear hk); (try clear hi); (try clear ho0)) | ((with_reducible refine gate_dst (N := 4) rfl ?_); (try (refine gate_guard (by rfl) ?_; dsimp only)); refine box_event ?hg (N := 4) ?hd (cs := #[.int .i64 0, .string (⟨#[]⟩ : ByteArray), .int .i64 0, .slice none 0 0]) (t := 70) ?hr ?_; (case hd => rfl); (case hg => rfl); (case hr => first | (go_simp; done) | (go_simp; rfl)); intro gb422 hg w36 hbox hb; have n_ := c8_ (Kd.R_below (Kd.R_elderB (a7_) gb422 (Nat.le_of_eq hg.symm)) hb) (blk_below (g := gb413) (o := .cells #[.int .i64 0, .string (⟨#[]⟩ : ByteArray), .int .i64 0, .slice none 0 0] 70 (0, 0)) (a6_) hb) (below_step (a3_) hb) (hbox) ((by rw [hg]; exact (below_size (a3_)) : w.heap.size ≤ gb422)) ((by rw [hg]; exact (below_size (a3_)) : w.heap.size ≤ gb422)) ((by rw [hg]; exact Nat.ne_of_lt (blk_lt (g := gb413) (o := .cells #[.int .i64 0, .string (⟨#[]⟩ : ByteArray), .int .i64 0, .slice none 0 0] 70 (0, 0)) (a6_)) : gb413 ≠ gb422)) ((by rw [hg]; exact Nat.ne_of_gt (blk_lt (g := gb413) (o := .cells #[.int .i64 0, .string (⟨#[]⟩ : ByteArray), .int .i64 0, .slice none 0 0] 70 (0, 0)) (a6_)) : gb422 ≠ gb413)); clear HO419 BK413 HB; obtain ⟨HO419, BK413, HB, BK422, GW422, GE422, NB413_422, NB422_413⟩ := n_; clear hb hbox hg; have hnb37 := NB422_413.out; have hnc37 := NB413_422.out; obtain ⟨hcz38_0, hcz38_1, hcz38_2, hcz38_3, hfz38_0, hfz38_1, hfz38_2, hfz38_3⟩ := cf4_ BK422.out; obtain ⟨Ao39, co39, eo39⟩ := Kd.R_slice HO419.out; subst eo39))
   have n_ := c4_ (show Kd.R k70 70 ((((w36.setCell ⟨gb422, 0, none⟩ (.int .i64 t414)).setCell ⟨gb422, 1, none⟩ (.string t415)).setCell ⟨gb422, 2, none⟩ (.int .i64 t416)).setCell ⟨gb422, 3, none⟩ (.slice Ao39 t417.length co39)) w.heap.size (fun k_ => k_ ≠ gb413 ∧ k_ ≠ gb422) (.slice Ao39 t417.length co39) t417 from by (with_reducible repeat (first | apply Kd.R_alloc | apply Kd.R_drewN | apply Kd.R_drew)); exact Kd.R_mono (Kd.R_far (p := ⟨gb422, 3, none⟩) (Kd.R_far (p := ⟨gb422, 2, none⟩) (Kd.R_far (p := ⟨gb422, 1, none⟩) (Kd.R_far (p := ⟨gb422, 0, none⟩) (Kd.R_mono HO419.out (fun k_ hk => (⟨hk, hk.2⟩ : _ ∧ k_ ≠ gb422))) (fun _ hk => hk.2) (.int .i64 t414)) (fun _ hk => hk.2) (.string t415)) (fun _ hk => hk.2) (.int .i64 t416)) (fun _ hk => hk.2) (.slice Ao39 t417.length co39)) (fun _ hk => ⟨hk.1.1.2, hk.1.2⟩)) (show ((((w36.setCell ⟨gb422, 0, none⟩ (.int .i64 t414)).setCell ⟨gb422, 1, none⟩ (.string t415)).setCell ⟨gb422, 2, none⟩ (.int .i64 t416)).setCell ⟨gb422, 3, none⟩ (.slice Ao39 t417.length co39)).heap[gb413]? = some (.cells #[.int .i64 0, .string (⟨#[]⟩ : ByteArray), .int .i64 0, .slice none 0 0] 70 (0, 0)) from a8_) (show ((((w36.setCell ⟨gb422, 0, none⟩ (.int .i64 t414)).setCell ⟨gb422, 1, none⟩ (.string t415)).setCell ⟨gb422, 2, none⟩ (.int .i64 t416)).setCell ⟨gb422, 3, none⟩ (.slice Ao39 t417.length co39)).heap[gb422]? = some (.cells #[.int .i64 t414, .string t415, .int .i64 t416, .slice Ao39 t417.length co39] 70 (0, 0)) from a9_) (show Below w.heap.size w ((((w36.setCell ⟨gb422, 0, none⟩ (.int .i64 t414)).setCell ⟨gb422, 1, none⟩ (.string t415)).setCell ⟨gb422, 2, none⟩ (.int .i64 t416)).setCell ⟨gb422, 3, none⟩ (.slice Ao39 t417.length co39)) from a10_)
   (try clear HO419)
   (try clear BK413)
   (try clear BK422)
   (try clear HB)
   generalize ((((w36.setCell ⟨gb422, 0, none⟩ (.int .i64 t414)).setCell ⟨gb422, 1, none⟩ (.string t415)).setCell ⟨gb422, 2, none⟩ (.int .i64 t416)).setCell ⟨gb422, 3, none⟩ (.slice Ao39 t417.length co39)) = w40 at n_ ⊢
   obtain ⟨HO419, BK413, BK422, HB⟩ := n_
   have n_ := c4_ (Kd.R_drew HO419.out) (blk_drew BK413.out) (blk_drew BK422.out) (below_drew1 HB.out)
   clear HO419 BK413 BK422 HB
   obtain ⟨HO419, BK413, BK422, HB⟩ := n_
   refine start_ (n := 14) (S := fun w' => w'.cell? ⟨gb422, 0, none⟩ = some (.int .i64 t414) ∧ w'.cell? ⟨gb422, 1, none⟩ = some (.string t415) ∧ w'.cell? ⟨gb422, 2, none⟩ = some (.int .i64 t416) ∧ w'.cell? ⟨gb422, 3, none⟩ = some (.slice Ao39 t417.length co39)) (ds := []) (bs_ 14 0) (by kernel_rfl) (by kernel_rfl) (by kernel_rfl) ⟨(blk_cell BK422.out 0).trans rfl, (blk_cell BK422.out 1).trans rfl, (blk_cell BK422.out 2).trans rfl, (blk_cell BK422.out 3).trans rfl⟩ (fun hHeld => ?_); refine with_tabW impl_stepsTree.tab4 impl_stepsTree.bits4 (fun HT_ HW_ => ?_)
   generalize w40.drew = w41 at HO419 BK413 BK422 HB hHeld ⊢
   refine pu_ (i := 1) (N := some 18) 2 rfl rfl HT_ (Or.inl ⟨by rfl, by intro w'; go_simp; with_reducible rfl⟩) (by simp only [pt_]; rfl) ?_
   refine pu_ (i := 2) (N := some 19) 6 rfl rfl HT_ (Or.inl ⟨by rfl, by intro w'; go_simp; with_reducible rfl⟩) (by simp only [pt_]; rfl) ?_
   refine pu_ (i := 3) (N := some 20) (v := undef) (a' := ?_) 14 rfl rfl HT_ (Or.inr ⟨by rfl, rfl⟩) ?_ ?_
   rotate_left
   ·simp only [pt_]
    rfl
   refine pu_ (i := 4) (N := some 21) (v := undef) (a' := ?_) 30 rfl rfl HT_ (Or.inr ⟨by rfl, rfl⟩) ?_ ?_
   rotate_left
   ·simp only [pt_]
    rfl
   refine pu_ (i := 5) (N := some 22) (v := undef) (a' := ?_) 62 rfl rfl HT_ (Or.inr ⟨by rfl, rfl⟩) ?_ ?_
   rotate_left
   ·simp only [pt_]
    rfl
   refine pu_ (i := 6) (N := some 23) (v := undef) (a' := ?_) 126 rfl rfl HT_ (Or.inr ⟨by rfl, rfl⟩) ?_ ?_
   rotate_left
   ·simp only [pt_]
    rfl
   refine pu_ (i := 7) (N := some 24) 254 rfl rfl HT_ (Or.inl ⟨by rfl, by intro w'; go_simp; with_reducible rfl⟩) (by simp only [pt_]; rfl) ?_
   refine pu_ (i := 8) (N := some 25) 510 rfl rfl HT_ (Or.inl ⟨by rfl, by intro w'; go_simp; with_reducible rfl⟩) (by simp only [pt_]; rfl) ?_
   refine pu_ (i := 9) (N := some 26) (v := undef) (a' := ?_) 1022 rfl rfl HT_ (Or.inr ⟨by rfl, rfl⟩) ?_ ?_
   rotate_left
   ·simp only [pt_]
    rfl
   refine pu_ (i := 10) (N := some 27) (v := undef) (a' := ?_) 2046 rfl rfl HT_ (Or.inr ⟨by rfl, rfl⟩) ?_ ?_
   rotate_left
   ·simp only [pt_]
    rfl
   refine pu_ (i := 11) (N := some 28) 4094 rfl rfl HT_ (Or.inl ⟨by rfl, by intro w'; go_simp; with_reducible rfl⟩) (by simp only [pt_]; rfl) ?_
   refine tk_ (i := 0) (N := some 17) 4095 rfl rfl HT_ HW_ (Or.inl ⟨by rfl, by rintro w' ⟨s0, s1, s2, s3⟩; go_simp; with_reducible rfl⟩) hHeld (by simp only [pt_]; rfl) ?_
   refine one_ (i := 12) (N := none) (bs_ 14 8191) rfl rfl (one_of HT_.out (by kernel_rfl)) (by decide) (fun K hK => ?_)
   have hs42 : w41.cell? ⟨gb413, 0, none⟩ = some (.int .i64 0) := (blk_cell BK413.out 0).trans rfl
   have hfs42 := blk_frozen BK413.out 0
   have hns42_1 := NB422_413.out
   have hms42_1 := NB413_422.out
   have hs43 : w41.cell? ⟨gb413, 1, none⟩ = some (.string (⟨#[]⟩ : ByteArray)) := (blk_cell BK413.out 1).trans rfl
   have hfs43 := blk_frozen BK413.out 1
   have hns43_1 := NB422_413.out
   have hms43_1 := NB413_422.out
   have hs44 : w41.cell? ⟨gb413, 2, none⟩ = some (.int .i64 0) := (blk_cell BK413.out 2).trans rfl
   have hfs44 := blk_frozen BK413.out 2
   have hns44_1 := NB422_413.out
   have hms44_1 := NB413_422.out
   have hs45 : w41.cell? ⟨gb413, 3, none⟩ = some (.slice none 0 0) := (blk_cell BK413.out 3).trans rfl
   have hfs45 := blk_frozen BK413.out 3
   have hns45_1 := NB422_413.out
   have hms45_1 := NB413_422.out
   refine skip_ (w1 := ?_) (by rfl) rfl ?_ ?_
   rotate_left
   ·go_simp
    rfl
   refine hK.out _ _ ⟨((cell_far (p := ⟨gb413, _, none⟩) NB422_413.out _).trans (((cell_far (p := ⟨gb413, _, none⟩) NB422_413.out _).trans (((cell_far (p := ⟨gb413, _, none⟩) NB422_413.out _).trans (((cell_far (p := ⟨gb413, _, none⟩) NB422_413.out _).trans (hHeld.1)))))))), ((cell_far (p := ⟨gb413, _, none⟩) NB422_413.out _).trans (((cell_far (p := ⟨gb413, _, none⟩) NB422_413.out _).trans (((cell_far (p := ⟨gb413, _, none⟩) NB422_413.out _).trans (((cell_far (p := ⟨gb413, _, none⟩) NB422_413.out _).trans (hHeld.2.1)))))))), ((cell_far (p := ⟨gb413, _, none⟩) NB422_413.out _).trans (((cell_far (p := ⟨gb413, _, none⟩) NB422_413.out _).trans (((cell_far (p := ⟨gb413, _, none⟩) NB422_413.out _).trans (((cell_far (p := ⟨gb413, _, none⟩) NB422_413.out _).trans (hHeld.2.2.1)))))))), ((cell_far (p := ⟨gb413, _, none⟩) NB422_413.out _).trans (((cell_far (p := ⟨gb413, _, none⟩) NB422_413.out _).trans (((cell_far (p := ⟨gb413, _, none⟩) NB422_413.out _).trans (((cell_far (p := ⟨gb413, _, none⟩) NB422_413.out _).trans (hHeld.2.2.2))))))))⟩ (fun hHeld => ?_)
   clear hK K
   refine pu_ (i := 13) (N := some 3) 16383 rfl rfl HT_ (Or.inl ⟨by rfl, by intro w'; go_simp; with_reducible rfl⟩) (by simp only [pt_]; rfl) ?_
   refine done_ (done_of HT_.out (by kernel_rfl)) ?_
   try go_wp2
   refine bodyPost_ret (results_ct rfl _ _ gb413 70 #[.int .i64 t414, .string t415, .int .i64 t416, .slice Ao39 t417.length co39] (0, 0) _ rfl (a11_) Try.underlying70 rfl (by kernel_rfl)) rfl ?_
   exact ⟨_, a2_, by (with_reducible repeat (first | apply Kd.R_alloc | apply Kd.R_drewN | apply Kd.R_drew)); exact Kd.R_mono (Kd.R_far (p := ⟨gb413, 3, none⟩) (Kd.R_far (p := ⟨gb413, 2, none⟩) (Kd.R_far (p := ⟨gb413, 1, none⟩) (Kd.R_far (p := ⟨gb413, 0, none⟩) (Kd.R_mono HO419.out (fun k_ hk => (⟨hk, hk.1⟩ : _ ∧ k_ ≠ gb413))) (fun _ hk => hk.2) (.int .i64 t414)) (fun _ hk => hk.2) (.string t415)) (fun _ hk => hk.2) (.int .i64 t416)) (fun _ hk => hk.2) (.slice Ao39 t417.length co39)) (fun _ hk => trivial), a10_⟩

/-! ### impl_walkTree_rank: function 86 -/
def impl_walkTree_rank.f (a0_0 : Int) (a0_1 : ByteArray) (a0_2 : Int) (l0_3 : List (S70)) : Option (Int) := if a0_0 = 5 then (some 1) else (if a0_0 = 4 then (some 2) else (if a0_0 = 6 then (some 3) else (if a0_0 = 7 then (some 3) else (if a0_0 = 8 then (some 3) else (some 4)))))
theorem impl_walkTree_rank.a1_ {p : Prop} (h : p := by repeat (first | (with_reducible first | exact HB.out | apply below_alloc | apply pw_below_drewN | apply below_drew1) | exact HB.out)) : p := h
theorem impl_walkTree_rank.a2_ {p : Prop} (h : p := by first | rfl | (simp [errW_none, errW_some] <;> rfl) | (simp [*, errW_none, errW_some] <;> rfl)) : p := h
theorem impl_walkTree_rank.a3_ {p : Prop} (h : p := by repeat (first | (with_reducible first | exact HB.out | apply below_alloc | apply pw_below_drewN | apply below_drew1 | refine below_set ?_ GE424.out) | exact HB.out)) : p := h
set_option maxHeartbeats 8000000 in
set_option maxRecDepth 100000 in
theorem impl_walkTree_rank.calls (a0_0 : Int) (a0_1 : ByteArray) (a0_2 : Int) (A0_3 : Option Addr) (c0_3 : Nat) (l0_3 : List (S70)) (r : Int) (w : World) (hr0_3 : Kd.C k70 w A0_3 l0_3.length l0_3) (hc0_3 : l0_3.length ≤ c0_3) (h : impl_walkTree_rank.f a0_0 a0_1 a0_2 l0_3 = some r) :
  Calls Try.prog 86 #[.agg #[.int .i64 a0_0, .string a0_1, .int .i64 a0_2, .slice A0_3 l0_3.length c0_3]] w fun e w' => e = .returned (.int .i64 r) ∧ Below w.heap.size w w' := by
 have hu70 := Try.underlying70
 have HR0_3 := Aside0.mk hr0_3
 have HC0_3 := Aside0.mk hc0_3
 clear hr0_3 hc0_3
 have HB := Aside0.mk (Below.refl w.heap.size w)
 have H : (if a0_0 = 5 then (some 1) else (if a0_0 = 4 then (some 2) else (if a0_0 = 6 then (some 3) else (if a0_0 = 7 then (some 3) else (if a0_0 = 8 then (some 3) else (some 4)))))) = some r := h
 clear h
 by_cases c2 : a0_0 = 5
 ·rw [if_pos c2] at H
  have c2b0 : (a0_0 == 5) = true := beq_iff_eq.mpr c2
  have c2b1 : (a0_0 != 5) = false := bne_eq_false_iff_eq.mpr c2
  clear c2
  obtain rfl := Option.some.inj H
  go_enter Try.func86, Try.ntmps86
  go_wp2_with (first | ((with_reducible refine gate_dst (N := 1) rfl ?_); refine box_event ?hg (N := 1) ?hd (cs := #[.int .i64 a0_0, .string a0_1, .int .i64 a0_2, .slice A0_3 l0_3.length c0_3]) (t := 70) ?hr ?_; (case hd => rfl); (case hg => rfl); (case hr => first | (go_simp; done) | (go_simp; rfl)); intro gb424 hg w3 hbox hb; have n_ := c4_ (below_step (a1_) hb) (hbox) ((by rw [hg]; exact (below_size (a1_)) : w.heap.size ≤ gb424)) ((by rw [hg]; exact (below_size (a1_)) : w.heap.size ≤ gb424)); clear HB; obtain ⟨HB, BK424, GW424, GE424⟩ := n_; clear hb hbox hg; obtain ⟨hcz4_0, hcz4_1, hcz4_2, hcz4_3, hfz4_0, hfz4_1, hfz4_2, hfz4_3⟩ := cf4_ BK424.out))
  go_ret
  exact ⟨a2_, a3_⟩
 ·rw [if_neg c2] at H
  have c2b0 : (a0_0 == 5) = false := beq_eq_false_iff_ne.mpr c2
  have c2b1 : (a0_0 != 5) = true := bne_iff_ne.mpr c2
  by_cases c5 : a0_0 = 4
  ·rw [if_pos c5] at H
   have c5b0 : (a0_0 == 4) = true := beq_iff_eq.mpr c5
   have c5b1 : (a0_0 != 4) = false := bne_eq_false_iff_eq.mpr c5
   clear c5
   obtain rfl := Option.some.inj H
   go_enter Try.func86, Try.ntmps86
   go_wp2_with (first | ((with_reducible refine gate_dst (N := 1) rfl ?_); refine box_event ?hg (N := 1) ?hd (cs := #[.int .i64 a0_0, .string a0_1, .int .i64 a0_2, .slice A0_3 l0_3.length c0_3]) (t := 70) ?hr ?_; (case hd => rfl); (case hg => rfl); (case hr => first | (go_simp; done) | (go_simp; rfl)); intro gb424 hg w6 hbox hb; have n_ := c4_ (below_step (a1_) hb) (hbox) ((by rw [hg]; exact (below_size (a1_)) : w.heap.size ≤ gb424)) ((by rw [hg]; exact (below_size (a1_)) : w.heap.size ≤ gb424)); clear HB; obtain ⟨HB, BK424, GW424, GE424⟩ := n_; clear hb hbox hg; obtain ⟨hcz7_0, hcz7_1, hcz7_2, hcz7_3, hfz7_0, hfz7_1, hfz7_2, hfz7_3⟩ := cf4_ BK424.out))
   go_ret
   exact ⟨a2_, a3_⟩
  ·rw [if_neg c5] at H
   have c5b0 : (a0_0 == 4) = false := beq_eq_false_iff_ne.mpr c5
   have c5b1 : (a0_0 != 4) = true := bne_iff_ne.mpr c5
   by_cases c8 : a0_0 = 6
   ·rw [if_pos c8] at H
    have c8b0 : (a0_0 == 6) = true := beq_iff_eq.mpr c8
    have c8b1 : (a0_0 != 6) = false := bne_eq_false_iff_eq.mpr c8
    clear c8
    obtain rfl := Option.some.inj H
    go_enter Try.func86, Try.ntmps86
    go_wp2_with (first | ((with_reducible refine gate_dst (N := 1) rfl ?_); refine box_event ?hg (N := 1) ?hd (cs := #[.int .i64 a0_0, .string a0_1, .int .i64 a0_2, .slice A0_3 l0_3.length c0_3]) (t := 70) ?hr ?_; (case hd => rfl); (case hg => rfl); (case hr => first | (go_simp; done) | (go_simp; rfl)); intro gb424 hg w9 hbox hb; have n_ := c4_ (below_step (a1_) hb) (hbox) ((by rw [hg]; exact (below_size (a1_)) : w.heap.size ≤ gb424)) ((by rw [hg]; exact (below_size (a1_)) : w.heap.size ≤ gb424)); clear HB; obtain ⟨HB, BK424, GW424, GE424⟩ := n_; clear hb hbox hg; obtain ⟨hcz10_0, hcz10_1, hcz10_2, hcz10_3, hfz10_0, hfz10_1, hfz10_2, hfz10_3⟩ := cf4_ BK424.out))
    go_ret
    exact ⟨a2_, a3_⟩
   ·rw [if_neg c8] at H
    have c8b0 : (a0_0 == 6) = false := beq_eq_false_iff_ne.mpr c8
    have c8b1 : (a0_0 != 6) = true := bne_iff_ne.mpr c8
    by_cases c11 : a0_0 = 7
    ·rw [if_pos c11] at H
     have c11b0 : (a0_0 == 7) = true := beq_iff_eq.mpr c11
     have c11b1 : (a0_0 != 7) = false := bne_eq_false_iff_eq.mpr c11
     clear c11
     obtain rfl := Option.some.inj H
     go_enter Try.func86, Try.ntmps86
     go_wp2_with (first | ((with_reducible refine gate_dst (N := 1) rfl ?_); refine box_event ?hg (N := 1) ?hd (cs := #[.int .i64 a0_0, .string a0_1, .int .i64 a0_2, .slice A0_3 l0_3.length c0_3]) (t := 70) ?hr ?_; (case hd => rfl); (case hg => rfl); (case hr => first | (go_simp; done) | (go_simp; rfl)); intro gb424 hg w12 hbox hb; have n_ := c4_ (below_step (a1_) hb) (hbox) ((by rw [hg]; exact (below_size (a1_)) : w.heap.size ≤ gb424)) ((by rw [hg]; exact (below_size (a1_)) : w.heap.size ≤ gb424)); clear HB; obtain ⟨HB, BK424, GW424, GE424⟩ := n_; clear hb hbox hg; obtain ⟨hcz13_0, hcz13_1, hcz13_2, hcz13_3, hfz13_0, hfz13_1, hfz13_2, hfz13_3⟩ := cf4_ BK424.out))
     go_ret
     exact ⟨a2_, a3_⟩
    ·rw [if_neg c11] at H
     have c11b0 : (a0_0 == 7) = false := beq_eq_false_iff_ne.mpr c11
     have c11b1 : (a0_0 != 7) = true := bne_iff_ne.mpr c11
     by_cases c14 : a0_0 = 8
     ·rw [if_pos c14] at H
      have c14b0 : (a0_0 == 8) = true := beq_iff_eq.mpr c14
      have c14b1 : (a0_0 != 8) = false := bne_eq_false_iff_eq.mpr c14
      clear c14
      obtain rfl := Option.some.inj H
      go_enter Try.func86, Try.ntmps86
      go_wp2_with (first | ((with_reducible refine gate_dst (N := 1) rfl ?_); refine box_event ?hg (N := 1) ?hd (cs := #[.int .i64 a0_0, .string a0_1, .int .i64 a0_2, .slice A0_3 l0_3.length c0_3]) (t := 70) ?hr ?_; (case hd => rfl); (case hg => rfl); (case hr => first | (go_simp; done) | (go_simp; rfl)); intro gb424 hg w15 hbox hb; have n_ := c4_ (below_step (a1_) hb) (hbox) ((by rw [hg]; exact (below_size (a1_)) : w.heap.size ≤ gb424)) ((by rw [hg]; exact (below_size (a1_)) : w.heap.size ≤ gb424)); clear HB; obtain ⟨HB, BK424, GW424, GE424⟩ := n_; clear hb hbox hg; obtain ⟨hcz16_0, hcz16_1, hcz16_2, hcz16_3, hfz16_0, hfz16_1, hfz16_2, hfz16_3⟩ := cf4_ BK424.out))
      go_ret
      exact ⟨a2_, a3_⟩
     ·rw [if_neg c14] at H
      have c14b0 : (a0_0 == 8) = false := beq_eq_false_iff_ne.mpr c14
      have c14b1 : (a0_0 != 8) = true := bne_iff_ne.mpr c14
      obtain rfl := Option.some.inj H
      go_enter Try.func86, Try.ntmps86
      go_wp2_with (first | ((with_reducible refine gate_dst (N := 1) rfl ?_); refine box_event ?hg (N := 1) ?hd (cs := #[.int .i64 a0_0, .string a0_1, .int .i64 a0_2, .slice A0_3 l0_3.length c0_3]) (t := 70) ?hr ?_; (case hd => rfl); (case hg => rfl); (case hr => first | (go_simp; done) | (go_simp; rfl)); intro gb424 hg w17 hbox hb; have n_ := c4_ (below_step (a1_) hb) (hbox) ((by rw [hg]; exact (below_size (a1_)) : w.heap.size ≤ gb424)) ((by rw [hg]; exact (below_size (a1_)) : w.heap.size ≤ gb424)); clear HB; obtain ⟨HB, BK424, GW424, GE424⟩ := n_; clear hb hbox hg; obtain ⟨hcz18_0, hcz18_1, hcz18_2, hcz18_3, hfz18_0, hfz18_1, hfz18_2, hfz18_3⟩ := cf4_ BK424.out))
      go_ret
      exact ⟨a2_, a3_⟩

/-! ### impl_walkTree_show: function 45 -/
class impl_walkTree_show.C where
 f : Int → ByteArray → Int → List (S70) → Option (ByteArray)
 calls : ∀ (a0_0 : Int) (a0_1 : ByteArray) (a0_2 : Int) (A0_3 : Option Addr) (c0_3 : Nat) (l0_3 : List (S70)) (r : ByteArray) (w : World) (hr0_3 : Kd.C k70 w A0_3 l0_3.length l0_3) (hc0_3 : l0_3.length ≤ c0_3) (h : f a0_0 a0_1 a0_2 l0_3 = some r), Calls Try.prog 45 #[.agg #[.int .i64 a0_0, .string a0_1, .int .i64 a0_2, .slice A0_3 l0_3.length c0_3]] w fun e w' => e = .returned (.string r) ∧ Below w.heap.size w w'
def impl_walkTree_show.f [impl_walkTree_show.C] (a0_0 : Int) (a0_1 : ByteArray) (a0_2 : Int) (l0_3 : List (S70)) : Option (ByteArray) := impl_walkTree_show.C.f a0_0 a0_1 a0_2 l0_3
theorem impl_walkTree_show.calls [impl_walkTree_show.C] (a0_0 : Int) (a0_1 : ByteArray) (a0_2 : Int) (A0_3 : Option Addr) (c0_3 : Nat) (l0_3 : List (S70)) (r : ByteArray) (w : World) (hr0_3 : Kd.C k70 w A0_3 l0_3.length l0_3) (hc0_3 : l0_3.length ≤ c0_3) (h : impl_walkTree_show.f a0_0 a0_1 a0_2 l0_3 = some r) : Calls Try.prog 45 #[.agg #[.int .i64 a0_0, .string a0_1, .int .i64 a0_2, .slice A0_3 l0_3.length c0_3]] w fun e w' => e = .returned (.string r) ∧ Below w.heap.size w w' := impl_walkTree_show.C.calls a0_0 a0_1 a0_2 A0_3 c0_3 l0_3 r w hr0_3 hc0_3 h

/-! ### impl_walkTree_within: function 69 -/
theorem impl_walkTree_within.a1_ {p : Prop} (h : p := by repeat (first | (with_reducible first | exact HB.out | apply below_alloc | apply pw_below_drewN | apply below_drew1) | exact HB.out)) : p := h
theorem impl_walkTree_within.a2_ {p : Prop} (h : p := by (try simp only [List.map_toArray, List.map_cons, List.map_nil]); first | done | rfl | (simp only [List.length_drop, List.length_take]; rfl)) : p := h
theorem impl_walkTree_within.a3_ {p : Prop} (h : p := by repeat (first | exact (Kd.C_below HR0_3.out HB.out) | (with_reducible refine Kd.C_alloc ?_ _) | (with_reducible refine Kd.C_drewN ?_ _) | (with_reducible refine Kd.C_drew ?_))) : p := h
theorem impl_walkTree_within.a4_ {p : Prop} (h : p := by (with_reducible repeat (first | refine blk_drewN ?_ _ | refine blk_drew ?_ | refine blk_alloc ?_ _)); exact BK425.out) : p := h
theorem impl_walkTree_within.a5_ {p : Prop} (h : p := by repeat (first | (with_reducible first | exact HB.out | apply below_alloc | apply pw_below_drewN | apply below_drew1 | refine below_set ?_ GE425.out) | exact HB.out)) : p := h
section
variable [impl_walkTree_show.C]
def impl_walkTree_within.f (a0_0 : Int) (a0_1 : ByteArray) (a0_2 : Int) (l0_3 : List (S70)) (a1 : Int) : Option (ByteArray) := (impl_walkTree_rank.f a0_0 a0_1 a0_2 l0_3).bind fun t426 => (if t426 ≥ a1 then ((impl_walkTree_show.f a0_0 a0_1 a0_2 l0_3).bind fun t427 => (some t427)) else ((impl_walkTree_show.f a0_0 a0_1 a0_2 l0_3).bind fun t428 => (if 1 + t428.size ≤ 9223372036854775807 then (if ((⟨#[40]⟩ : ByteArray) ++ t428).size + 1 ≤ 9223372036854775807 then (some (((⟨#[40]⟩ : ByteArray) ++ t428) ++ (⟨#[41]⟩ : ByteArray))) else (none)) else (none))))
set_option maxHeartbeats 8000000 in
set_option maxRecDepth 100000 in
theorem impl_walkTree_within.calls (a0_0 : Int) (a0_1 : ByteArray) (a0_2 : Int) (A0_3 : Option Addr) (c0_3 : Nat) (l0_3 : List (S70)) (a1 : Int) (r : ByteArray) (w : World) (hr0_3 : Kd.C k70 w A0_3 l0_3.length l0_3) (hc0_3 : l0_3.length ≤ c0_3) (h : impl_walkTree_within.f a0_0 a0_1 a0_2 l0_3 a1 = some r) :
  Calls Try.prog 69 #[.agg #[.int .i64 a0_0, .string a0_1, .int .i64 a0_2, .slice A0_3 l0_3.length c0_3], .int .i64 a1] w fun e w' => e = .returned (.string r) ∧ Below w.heap.size w w' := by
 have hu70 := Try.underlying70
 have HR0_3 := Aside0.mk hr0_3
 have HC0_3 := Aside0.mk hc0_3
 clear hr0_3 hc0_3
 have HB := Aside0.mk (Below.refl w.heap.size w)
 have H : ((impl_walkTree_rank.f a0_0 a0_1 a0_2 l0_3).bind fun t426 => (if t426 ≥ a1 then ((impl_walkTree_show.f a0_0 a0_1 a0_2 l0_3).bind fun t427 => (some t427)) else ((impl_walkTree_show.f a0_0 a0_1 a0_2 l0_3).bind fun t428 => (if 1 + t428.size ≤ 9223372036854775807 then (if ((⟨#[40]⟩ : ByteArray) ++ t428).size + 1 ≤ 9223372036854775807 then (some (((⟨#[40]⟩ : ByteArray) ++ t428) ++ (⟨#[41]⟩ : ByteArray))) else (none)) else (none))))) = some r := h
 clear h
 replace H := Option.bind_eq_some_iff.mp H
 obtain ⟨t426, A30, H⟩ := H
 try dsimp only at H
 have A3 := Aside0.mk A30
 clear A30
 by_cases c4 : t426 ≥ a1
 ·rw [if_pos c4] at H
  have c4b0 : decide (a1 ≤ t426) = true := decide_eq_true c4
  clear c4
  replace H := Option.bind_eq_some_iff.mp H
  obtain ⟨t427, A50, H⟩ := H
  try dsimp only at H
  have A5 := Aside0.mk A50
  clear A50
  obtain rfl := Option.some.inj H
  go_enter Try.func69, Try.ntmps69
  go_wp2_with (first | ((with_reducible refine gate_dst (N := 2) rfl ?_); refine box_event ?hg (N := 2) ?hd (cs := #[.int .i64 a0_0, .string a0_1, .int .i64 a0_2, .slice A0_3 l0_3.length c0_3]) (t := 70) ?hr ?_; (case hd => rfl); (case hg => rfl); (case hr => first | (go_simp; done) | (go_simp; rfl)); intro gb425 hg w6 hbox hb; have n_ := c4_ (below_step (a1_) hb) (hbox) ((by rw [hg]; exact (below_size (a1_)) : w.heap.size ≤ gb425)) ((by rw [hg]; exact (below_size (a1_)) : w.heap.size ≤ gb425)); clear HB; obtain ⟨HB, BK425, GW425, GE425⟩ := n_; clear hb hbox hg; obtain ⟨hcz7_0, hcz7_1, hcz7_2, hcz7_3, hfz7_0, hfz7_1, hfz7_2, hfz7_3⟩ := cf4_ BK425.out) | ((with_reducible refine gate_callee (f := 86) rfl ?_); refine goesL_ (some 6) rfl rfl Try.func86 (by kernel_rfl) rfl #[.agg #[.int .i64 a0_0, .string a0_1, .int .i64 a0_2, .slice A0_3 l0_3.length c0_3]] rfl (a2_) ?_; (with_reducible refine (impl_walkTree_rank.calls a0_0 a0_1 a0_2 _ _ l0_3 t426 _ ?side1 ?side2 A3.out).mono ?_); (case side1 => exact a3_); (case side2 => exact HC0_3.out); rintro e w8 ⟨rfl, hb⟩; refine ⟨_, rfl, ?_⟩; have n_ := c2_ (blk_below (g := gb425) (o := .cells #[.int .i64 a0_0, .string a0_1, .int .i64 a0_2, .slice A0_3 l0_3.length c0_3] 70 (0, 0)) (a4_) hb) (below_step (a5_) hb); clear BK425 HB; obtain ⟨BK425, HB⟩ := n_; (try clear hb); (try clear hb2); (try clear hk); (try clear hi); obtain ⟨hcz9_0, hcz9_1, hcz9_2, hcz9_3, hfz9_0, hfz9_1, hfz9_2, hfz9_3⟩ := cf4_ BK425.out) | ((with_reducible refine gate_callee (f := 45) rfl ?_); refine goesL_ (some 10) rfl rfl Try.func45 (by kernel_rfl) rfl #[.agg #[.int .i64 a0_0, .string a0_1, .int .i64 a0_2, .slice A0_3 l0_3.length c0_3]] rfl (a2_) ?_; (with_reducible refine (impl_walkTree_show.calls a0_0 a0_1 a0_2 _ _ l0_3 t427 _ ?side1 ?side2 A5.out).mono ?_); (case side1 => exact a3_); (case side2 => exact HC0_3.out); rintro e w10 ⟨rfl, hb⟩; refine ⟨_, rfl, ?_⟩; have n_ := c2_ (blk_below (g := gb425) (o := .cells #[.int .i64 a0_0, .string a0_1, .int .i64 a0_2, .slice A0_3 l0_3.length c0_3] 70 (0, 0)) (a4_) hb) (below_step (a5_) hb); clear BK425 HB; obtain ⟨BK425, HB⟩ := n_; (try clear hb); (try clear hb2); (try clear hk); (try clear hi)))
  go_ret
  exact ⟨by first | rfl | (simp [errW_none, errW_some] <;> rfl) | (simp [*, errW_none, errW_some] <;> rfl), a5_⟩
 ·rw [if_neg c4] at H
  have c4b0 : decide (a1 ≤ t426) = false := decide_eq_false c4
  clear c4
  replace H := Option.bind_eq_some_iff.mp H
  obtain ⟨t428, A110, H⟩ := H
  try dsimp only at H
  have A11 := Aside0.mk A110
  clear A110
  by_cases c12 : 1 + t428.size ≤ 9223372036854775807
  ·rw [if_pos c12] at H
   have c12b0 := eq_true c12
   have c12b1 : decide (1 + t428.size ≤ 9223372036854775807) = true := decide_eq_true c12
   try have c12b2 : (9223372036854775807 < 1 + t428.size) = False := eq_false (Nat.not_lt.2 c12)
   by_cases c13 : ((⟨#[40]⟩ : ByteArray) ++ t428).size + 1 ≤ 9223372036854775807
   ·rw [if_pos c13] at H
    have c13b0 := eq_true c13
    have c13s : (1 + (t428).size) + 1 ≤ 9223372036854775807 := by (have h_ := c13; (try simp only [ByteArray.size_append] at h_); first | exact h_ | omega)
    try have c13t : (9223372036854775807 < (1 + (t428).size) + 1) = False := eq_false (Nat.not_lt.2 c13s)
    have c13b1 : decide (((⟨#[40]⟩ : ByteArray) ++ t428).size + 1 ≤ 9223372036854775807) = true := decide_eq_true c13
    try have c13b2 : (9223372036854775807 < ((⟨#[40]⟩ : ByteArray) ++ t428).size + 1) = False := eq_false (Nat.not_lt.2 c13)
    obtain rfl := Option.some.inj H
    go_enter Try.func69, Try.ntmps69
    go_wp2_with (first | ((with_reducible refine gate_dst (N := 2) rfl ?_); refine box_event ?hg (N := 2) ?hd (cs := #[.int .i64 a0_0, .string a0_1, .int .i64 a0_2, .slice A0_3 l0_3.length c0_3]) (t := 70) ?hr ?_; (case hd => rfl); (case hg => rfl); (case hr => first | (go_simp; done) | (go_simp; rfl)); intro gb425 hg w14 hbox hb; have n_ := c4_ (below_step (a1_) hb) (hbox) ((by rw [hg]; exact (below_size (a1_)) : w.heap.size ≤ gb425)) ((by rw [hg]; exact (below_size (a1_)) : w.heap.size ≤ gb425)); clear HB; obtain ⟨HB, BK425, GW425, GE425⟩ := n_; clear hb hbox hg; obtain ⟨hcz15_0, hcz15_1, hcz15_2, hcz15_3, hfz15_0, hfz15_1, hfz15_2, hfz15_3⟩ := cf4_ BK425.out) | ((with_reducible refine gate_callee (f := 86) rfl ?_); refine goesL_ (some 6) rfl rfl Try.func86 (by kernel_rfl) rfl #[.agg #[.int .i64 a0_0, .string a0_1, .int .i64 a0_2, .slice A0_3 l0_3.length c0_3]] rfl (a2_) ?_; (with_reducible refine (impl_walkTree_rank.calls a0_0 a0_1 a0_2 _ _ l0_3 t426 _ ?side1 ?side2 A3.out).mono ?_); (case side1 => exact a3_); (case side2 => exact HC0_3.out); rintro e w16 ⟨rfl, hb⟩; refine ⟨_, rfl, ?_⟩; have n_ := c2_ (blk_below (g := gb425) (o := .cells #[.int .i64 a0_0, .string a0_1, .int .i64 a0_2, .slice A0_3 l0_3.length c0_3] 70 (0, 0)) (a4_) hb) (below_step (a5_) hb); clear BK425 HB; obtain ⟨BK425, HB⟩ := n_; (try clear hb); (try clear hb2); (try clear hk); (try clear hi); obtain ⟨hcz17_0, hcz17_1, hcz17_2, hcz17_3, hfz17_0, hfz17_1, hfz17_2, hfz17_3⟩ := cf4_ BK425.out) | ((with_reducible refine gate_callee (f := 45) rfl ?_); refine goesL_ (some 12) rfl rfl Try.func45 (by kernel_rfl) rfl #[.agg #[.int .i64 a0_0, .string a0_1, .int .i64 a0_2, .slice A0_3 l0_3.length c0_3]] rfl (a2_) ?_; (with_reducible refine (impl_walkTree_show.calls a0_0 a0_1 a0_2 _ _ l0_3 t428 _ ?side1 ?side2 A11.out).mono ?_); (case side1 => exact a3_); (case side2 => exact HC0_3.out); rintro e w18 ⟨rfl, hb⟩; refine ⟨_, rfl, ?_⟩; have n_ := c2_ (blk_below (g := gb425) (o := .cells #[.int .i64 a0_0, .string a0_1, .int .i64 a0_2, .slice A0_3 l0_3.length c0_3] 70 (0, 0)) (a4_) hb) (below_step (a5_) hb); clear BK425 HB; obtain ⟨BK425, HB⟩ := n_; (try clear hb); (try clear hb2); (try clear hk); (try clear hi)))
    go_ret
    exact ⟨by first | rfl | (simp [errW_none, errW_some] <;> rfl) | (simp [*, errW_none, errW_some] <;> rfl), a5_⟩
   ·rw [if_neg c13] at H
    exact absurd H (by simp)
  ·rw [if_neg c12] at H
   exact absurd H (by simp)
end

end Go.Proofs.Ytmecapnpgedcnaa.PFnExactShowSteps
