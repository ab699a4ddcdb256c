/- Walks of Go functions, written by program out of the print of the translation, with contracts of our own where the print has none. -/
import Derived.Test.YtmecapnpgedcnaaPFnExactStepsFaultx0
import Derived.Test.YtmecapnpgedcnaaPFnExactStepsFaultx7
import Derived.Test.YtmecapnpgedcnaaPFnExactStepsFaultx12
namespace Go.Proofs.Ytmecapnpgedcnaa.PFnExactStepsFault
open Go.RowKit Go.Proofs.YtmecapnpgedcnaaW.PrintWords Go.Proofs.YtmecapnpgedcnaaW.PrintLast Go.Proofs.YtmecapnpgedcnaaW.PrintMore
attribute [local go_sem] max2_int min2_int max_two min_two max_three min_three max_four min_four   -- for this text's walks alone
set_option linter.unusedVariables false
set_option linter.unusedSimpArgs false

/-! ### impl_stepsTree: function 39 -/
def impl_stepsTree.f (k : Nat) (l0 : List (S66)) : Option (Int × ByteArray × Int × (List (S70)) × Bool) := if (l0.length : Int) > 100 then (some (0, (⟨#[]⟩ : ByteArray), 0, ([] : List (S70)), false)) else ((impl_growSteps.f k l0 0 1).bind fun bt389 => (if bt389.2.2.2.2.2 = true then (if bt389.2.2.2.2.1 = (l0.length : Int) then ((impl_walkTree_ok.f k bt389.1 bt389.2.1 bt389.2.2.1 bt389.2.2.2.1).bind fun t398 => (some (bt389.1, bt389.2.1, bt389.2.2.1, bt389.2.2.2.1, t398))) else (some (bt389.1, bt389.2.1, bt389.2.2.1, bt389.2.2.2.1, false))) else (some (bt389.1, bt389.2.1, bt389.2.2.1, bt389.2.2.2.1, false))))
def impl_stepsTree.T4 : Bool × List (List Nat × List Nat) := (true, [([], []), ([], []), ([1], [1]), ([2], [2]), ([2], [2]), ([4, 2], [2, 4]), ([3, 5, 2], [2, 3, 5]), ([2, 6], [2, 6]), ([7, 2], [7]), ([8], [8]), ([9, 8, 8], [8, 9]), ([8, 10], [8, 10]), ([0, 10, 0], [0]), ([11, 12, 0, 1, 2, 3, 4, 5, 6, 7, 8, 9, 10, 11, 12], [11])])
def impl_stepsTree.B4 : List Nat := [0, 0, 2, 6, 6, 22, 62, 126, 254, 510, 1022, 2046, 2047, 8191]
theorem impl_stepsTree.tab4 : rtab .any (opsOf Try.f39 4) = impl_stepsTree.T4 := by kernel_rfl
theorem impl_stepsTree.bits4 : waitsOk impl_stepsTree.T4.2 impl_stepsTree.B4 = true := by kernel_rfl
theorem impl_stepsTree.a1_ {p : Prop} (h : p := by repeat (first | (with_reducible first | exact HB.out | apply below_alloc | apply pw_below_drewN | apply below_drew1) | exact HB.out)) : p := h
theorem impl_stepsTree.a2_ {p : Prop} (h : p := by first | rfl | (simp [errW_none, errW_some] <;> rfl) | (simp [*, errW_none, errW_some] <;> rfl)) : p := h
theorem impl_stepsTree.a3_ {p : Prop} (h : p := by repeat (first | (with_reducible first | exact HB.out | apply below_alloc | apply pw_below_drewN | apply below_drew1 | refine below_set ?_ GE388.out) | exact HB.out)) : p := h
theorem impl_stepsTree.a4_ {p : Prop} (h : p := by (try simp only [List.map_toArray, List.map_cons, List.map_nil]); first | done | rfl | (simp only [List.length_drop, List.length_take]; rfl)) : p := h
theorem impl_stepsTree.a5_ {p : Prop} (h : p := by repeat (first | exact (Kd.C_below HR0.out HB.out) | (with_reducible refine Kd.C_alloc ?_ _) | (with_reducible refine Kd.C_drewN ?_ _) | (with_reducible refine Kd.C_drew ?_))) : p := h
theorem impl_stepsTree.a6_ {p : Prop} (h : p := by (with_reducible repeat (first | refine blk_drewN ?_ _ | refine blk_drew ?_ | refine blk_alloc ?_ _)); exact BK388.out) : p := h
theorem impl_stepsTree.a7_ {p : Prop} (h : p := by (with_reducible repeat (first | apply Kd.R_alloc | apply Kd.R_drewN | apply Kd.R_drew)); exact HO394.out) : p := h
theorem impl_stepsTree.a8_ {p : Prop} (h : p := by (with_reducible repeat (first | refine blk_drewN ?_ _ | refine blk_drew ?_ | refine blk_alloc ?_ _)); refine blk_far ?_ NB388_397.out _; (with_reducible repeat (first | refine blk_drewN ?_ _ | refine blk_drew ?_ | refine blk_alloc ?_ _)); refine blk_far ?_ NB388_397.out _; (with_reducible repeat (first | refine blk_drewN ?_ _ | refine blk_drew ?_ | refine blk_alloc ?_ _)); refine blk_far ?_ NB388_397.out _; (with_reducible repeat (first | refine blk_drewN ?_ _ | refine blk_drew ?_ | refine blk_alloc ?_ _)); refine blk_far ?_ NB388_397.out _; (with_reducible repeat (first | refine blk_drewN ?_ _ | refine blk_drew ?_ | refine blk_alloc ?_ _)); exact BK388.out) : p := h
theorem impl_stepsTree.a9_ {p : Prop} (h : p := by (with_reducible repeat (first | refine blk_drewN ?_ _ | refine blk_drew ?_ | refine blk_alloc ?_ _)); refine blk_put (cs := #[.int .i64 t389, .string t390, .int .i64 t391, .slice none 0 0]) ?_ 3 _ rfl; (with_reducible repeat (first | refine blk_drewN ?_ _ | refine blk_drew ?_ | refine blk_alloc ?_ _)); refine blk_put (cs := #[.int .i64 t389, .string t390, .int .i64 0, .slice none 0 0]) ?_ 2 _ rfl; (with_reducible repeat (first | refine blk_drewN ?_ _ | refine blk_drew ?_ | refine blk_alloc ?_ _)); refine blk_put (cs := #[.int .i64 t389, .string (⟨#[]⟩ : ByteArray), .int .i64 0, .slice none 0 0]) ?_ 1 _ rfl; (with_reducible repeat (first | refine blk_drewN ?_ _ | refine blk_drew ?_ | refine blk_alloc ?_ _)); refine blk_put (cs := #[.int .i64 0, .string (⟨#[]⟩ : ByteArray), .int .i64 0, .slice none 0 0]) ?_ 0 _ rfl; (with_reducible repeat (first | refine blk_drewN ?_ _ | refine blk_drew ?_ | refine blk_alloc ?_ _)); exact BK397.out) : p := h
theorem impl_stepsTree.a10_ {p : Prop} (h : p := by repeat (first | (with_reducible first | exact HB.out | apply below_alloc | apply pw_below_drewN | apply below_drew1 | refine below_set ?_ GE388.out | refine below_set ?_ GE397.out) | exact HB.out)) : p := h
theorem impl_stepsTree.a11_ {p : Prop} (h : p := by (with_reducible repeat (first | refine blk_drewN ?_ _ | refine blk_drew ?_ | refine blk_alloc ?_ _)); refine blk_put (cs := #[.int .i64 t389, .string t390, .int .i64 t391, .slice none 0 0]) ?_ 3 _ rfl; (with_reducible repeat (first | refine blk_drewN ?_ _ | refine blk_drew ?_ | refine blk_alloc ?_ _)); refine blk_put (cs := #[.int .i64 t389, .string t390, .int .i64 0, .slice none 0 0]) ?_ 2 _ rfl; (with_reducible repeat (first | refine blk_drewN ?_ _ | refine blk_drew ?_ | refine blk_alloc ?_ _)); refine blk_put (cs := #[.int .i64 t389, .string (⟨#[]⟩ : ByteArray), .int .i64 0, .slice none 0 0]) ?_ 1 _ rfl; (with_reducible repeat (first | refine blk_drewN ?_ _ | refine blk_drew ?_ | refine blk_alloc ?_ _)); refine blk_put (cs := #[.int .i64 0, .string (⟨#[]⟩ : ByteArray), .int .i64 0, .slice none 0 0]) ?_ 0 _ rfl; (with_reducible repeat (first | refine blk_drewN ?_ _ | refine blk_drew ?_ | refine blk_alloc ?_ _)); exact BK388.out) : p := h
set_option maxHeartbeats 8000000 in
set_option maxRecDepth 100000 in
theorem impl_stepsTree.calls (k : Nat) (A0 : Option Addr) (c0 : Nat) (l0 : List (S66)) (r1 : Int) (r2 : ByteArray) (r3 : Int) (r4 : List (S70)) (r5 : Bool) (w : World) (hr0 : Kd.C k66 w A0 l0.length l0) (hc0 : l0.length ≤ c0) (h : impl_stepsTree.f k l0 = some (r1, r2, r3, r4, r5)) :
  Calls Try.prog 39 #[.slice A0 l0.length c0] w fun e w' => ∃ v3_ : Value, e = .returned (.tuple #[.agg #[.int .i64 r1, .string r2, .int .i64 r3, v3_], .bool r5]) ∧ Kd.R k70 70 w' w.heap.size (fun _ => True) v3_ r4 ∧ Below w.heap.size w w' := by
 have hu70 := Try.underlying70
 have HR0 := Aside0.mk hr0
 have HC0 := Aside0.mk hc0
 clear hr0 hc0
 have HB := Aside0.mk (Below.refl w.heap.size w)
 have H : (if (l0.length : Int) > 100 then (some (0, (⟨#[]⟩ : ByteArray), 0, ([] : List (S70)), false)) else ((impl_growSteps.f k l0 0 1).bind fun bt389 => (if bt389.2.2.2.2.2 = true then (if bt389.2.2.2.2.1 = (l0.length : Int) then ((impl_walkTree_ok.f k bt389.1 bt389.2.1 bt389.2.2.1 bt389.2.2.2.1).bind fun t398 => (some (bt389.1, bt389.2.1, bt389.2.2.1, bt389.2.2.2.1, t398))) else (some (bt389.1, bt389.2.1, bt389.2.2.1, bt389.2.2.2.1, false))) else (some (bt389.1, bt389.2.1, bt389.2.2.1, bt389.2.2.2.1, false))))) = some (r1, r2, r3, r4, r5) := h
 clear h
 by_cases c2 : (l0.length : Int) > 100
 ·rw [if_pos c2] at H
  have c2b0 : decide (100 < (l0.length : Int)) = true := decide_eq_true c2
  have c2b1 : decide (100 < l0.length) = true := decide_eq_true (by omega)
  clear c2
  simp only [Option.some.injEq, Prod.mk.injEq] at H
  obtain ⟨rfl, rfl, rfl, rfl, rfl⟩ := H
  go_enter Try.func39, Try.ntmps39
  go_wp2_with (first | ((with_reducible refine gate_dst (N := 2) rfl ?_); (try (refine gate_guard (by rfl) ?_; dsimp only)); refine box_event ?hg (N := 2) ?hd (cs := #[.int .i64 0, .string (⟨#[]⟩ : ByteArray), .int .i64 0, .slice none 0 0]) (t := 70) ?hr ?_; (case hd => rfl); (case hg => rfl); (case hr => first | (go_simp; done) | (go_simp; rfl)); intro gb388 hg w3 hbox hb; have n_ := c4_ (below_step (a1_) hb) (hbox) ((by rw [hg]; exact (below_size (a1_)) : w.heap.size ≤ gb388)) ((by rw [hg]; exact (below_size (a1_)) : w.heap.size ≤ gb388)); clear HB; obtain ⟨HB, BK388, GW388, GE388⟩ := n_; clear hb hbox hg; have hcz4_0 : w3.cell? ⟨gb388, 0, none⟩ = some (.int .i64 0) := (blk_cell BK388.out 0).trans rfl; have hcz4_1 : w3.cell? ⟨gb388, 1, none⟩ = some (.string (⟨#[]⟩ : ByteArray)) := (blk_cell BK388.out 1).trans rfl; have hcz4_2 : w3.cell? ⟨gb388, 2, none⟩ = some (.int .i64 0) := (blk_cell BK388.out 2).trans rfl; have hcz4_3 : w3.cell? ⟨gb388, 3, none⟩ = some (.slice none 0 0) := (blk_cell BK388.out 3).trans rfl; have hfz4_0 := blk_frozen BK388.out 0; have hfz4_1 := blk_frozen BK388.out 1; have hfz4_2 := blk_frozen BK388.out 2; have hfz4_3 := blk_frozen BK388.out 3))
  refine bodyPost_ret (results_ct rfl _ _ gb388 70 #[.int .i64 0, .string (⟨#[]⟩ : ByteArray), .int .i64 0, .slice none 0 0] (0, 0) _ rfl (by (with_reducible repeat (first | refine blk_drewN ?_ _ | refine blk_drew ?_ | refine blk_alloc ?_ _)); refine blk_put (cs := #[.int .i64 0, .string (⟨#[]⟩ : ByteArray), .int .i64 0, .slice none 0 0]) ?_ 3 _ rfl; (with_reducible repeat (first | refine blk_drewN ?_ _ | refine blk_drew ?_ | refine blk_alloc ?_ _)); refine blk_put (cs := #[.int .i64 0, .string (⟨#[]⟩ : ByteArray), .int .i64 0, .slice none 0 0]) ?_ 2 _ rfl; (with_reducible repeat (first | refine blk_drewN ?_ _ | refine blk_drew ?_ | refine blk_alloc ?_ _)); refine blk_put (cs := #[.int .i64 0, .string (⟨#[]⟩ : ByteArray), .int .i64 0, .slice none 0 0]) ?_ 1 _ rfl; (with_reducible repeat (first | refine blk_drewN ?_ _ | refine blk_drew ?_ | refine blk_alloc ?_ _)); refine blk_put (cs := #[.int .i64 0, .string (⟨#[]⟩ : ByteArray), .int .i64 0, .slice none 0 0]) ?_ 0 _ rfl; (with_reducible repeat (first | refine blk_drewN ?_ _ | refine blk_drew ?_ | refine blk_alloc ?_ _)); exact BK388.out) Try.underlying70 rfl (by kernel_rfl)) rfl ?_
  exact ⟨_, a2_, by first | exact Kd.R_nil _ _ _ _ _ | exact Kd.N_nil _ _ _ _ _ | exact Kd.V_nil _ _ _ _ _ | exact Kd.Q_nil _ _ _ _ _ | exact Kd.S_nil _ _ _ _ _, a3_⟩
 ·rw [if_neg c2] at H
  have c2b0 : decide (100 < (l0.length : Int)) = false := decide_eq_false c2
  have c2b1 : decide (100 < l0.length) = false := decide_eq_false (by omega)
  clear c2
  replace H := Option.bind_eq_some_iff.mp H
  obtain ⟨⟨t389, t390, t391, t392, t395, t396⟩, A50, H⟩ := H
  replace H : (if t396 = true then (if t395 = (l0.length : Int) then ((impl_walkTree_ok.f k t389 t390 t391 t392).bind fun t398 => (some (t389, t390, t391, t392, t398))) else (some (t389, t390, t391, t392, false))) else (some (t389, t390, t391, t392, false))) = some (r1, r2, r3, r4, r5) := H
  have A5 := Aside0.mk A50
  clear A50
  by_cases c6 : t396 = true
  ·subst c6
   have H1 : (if t395 = (l0.length : Int) then ((impl_walkTree_ok.f k t389 t390 t391 t392).bind fun t398 => (some (t389, t390, t391, t392, t398))) else (some (t389, t390, t391, t392, false))) = some (r1, r2, r3, r4, r5) := by rw [if_pos rfl] at H; exact H
   clear H
   have H := H1
   clear H1
   by_cases c7 : t395 = (l0.length : Int)
   ·rw [if_pos c7] at H
    have c7b0 : (t395 == (l0.length : Int)) = true := beq_iff_eq.mpr c7
    have c7b1 : (t395 != (l0.length : Int)) = false := bne_eq_false_iff_eq.mpr c7
    clear c7
    replace H := Option.bind_eq_some_iff.mp H
    obtain ⟨t398, A80, H⟩ := H
    replace H : (some (t389, t390, t391, t392, t398)) = some (r1, r2, r3, r4, r5) := H
    have A8 := Aside0.mk A80
    clear A80
    simp only [Option.some.injEq, Prod.mk.injEq] at H
    obtain ⟨rfl, rfl, rfl, rfl, rfl⟩ := H
    go_enter Try.func39, Try.ntmps39
    try go_wp2_with (first | ((with_reducible refine gate_dst (N := 2) rfl ?_); (try (refine gate_guard (by rfl) ?_; dsimp only)); refine box_event ?hg (N := 2) ?hd (cs := #[.int .i64 0, .string (⟨#[]⟩ : ByteArray), .int .i64 0, .slice none 0 0]) (t := 70) ?hr ?_; (case hd => rfl); (case hg => rfl); (case hr => first | (go_simp; done) | (go_simp; rfl)); intro gb388 hg w9 hbox hb; have n_ := c4_ (below_step (a1_) hb) (hbox) ((by rw [hg]; exact (below_size (a1_)) : w.heap.size ≤ gb388)) ((by rw [hg]; exact (below_size (a1_)) : w.heap.size ≤ gb388)); clear HB; obtain ⟨HB, BK388, GW388, GE388⟩ := n_; clear hb hbox hg) | ((with_reducible refine gate_callee (f := 64) rfl ?_); refine goesL_ (some 13) rfl rfl Try.func64 (by kernel_rfl) rfl #[.slice A0 l0.length c0, .int .i64 0, .int .i64 1] rfl (a4_) ?_; (with_reducible refine (impl_growSteps.calls k _ _ l0 0 1 t389 t390 t391 t392 t395 true _ ?side1 ?side2 A5.out).mono ?_); (case side1 => exact a5_); (case side2 => exact HC0.out); rintro e w10 ⟨v393, rfl, ho0, hb⟩; refine ⟨_, rfl, ?_⟩; have n_ := c3_ (Kd.R_lower (Kd.R_newB ho0 (g := gb388) (o := .cells #[.int .i64 0, .string (⟨#[]⟩ : ByteArray), .int .i64 0, .slice none 0 0] 70 (0, 0)) (a6_)) (below_size (a3_))) (blk_below (g := gb388) (o := .cells #[.int .i64 0, .string (⟨#[]⟩ : ByteArray), .int .i64 0, .slice none 0 0] 70 (0, 0)) (a6_) hb) (below_step (a3_) hb); clear BK388 HB; obtain ⟨HO394, BK388, HB⟩ := n_; (try clear hb); (try clear hb2); (try clear hk); (try clear hi); (try clear ho0)) | ((with_reducible refine gate_dst (N := 4) rfl ?_); (try (refine gate_guard (by rfl) ?_; dsimp only)); refine box_event ?hg (N := 4) ?hd (cs := #[.int .i64 0, .string (⟨#[]⟩ : ByteArray), .int .i64 0, .slice none 0 0]) (t := 70) ?hr ?_; (case hd => rfl); (case hg => rfl); (case hr => first | (go_simp; done) | (go_simp; rfl)); intro gb397 hg w11 hbox hb; have n_ := c8_ (Kd.R_below (Kd.R_elderB (a7_) gb397 (Nat.le_of_eq hg.symm)) hb) (blk_below (g := gb388) (o := .cells #[.int .i64 0, .string (⟨#[]⟩ : ByteArray), .int .i64 0, .slice none 0 0] 70 (0, 0)) (a6_) hb) (below_step (a3_) hb) (hbox) ((by rw [hg]; exact (below_size (a3_)) : w.heap.size ≤ gb397)) ((by rw [hg]; exact (below_size (a3_)) : w.heap.size ≤ gb397)) ((by rw [hg]; exact Nat.ne_of_lt (blk_lt (g := gb388) (o := .cells #[.int .i64 0, .string (⟨#[]⟩ : ByteArray), .int .i64 0, .slice none 0 0] 70 (0, 0)) (a6_)) : gb388 ≠ gb397)) ((by rw [hg]; exact Nat.ne_of_gt (blk_lt (g := gb388) (o := .cells #[.int .i64 0, .string (⟨#[]⟩ : ByteArray), .int .i64 0, .slice none 0 0] 70 (0, 0)) (a6_)) : gb397 ≠ gb388)); clear HO394 BK388 HB; obtain ⟨HO394, BK388, HB, BK397, GW397, GE397, NB388_397, NB397_388⟩ := n_; clear hb hbox hg; have hnb12 := NB397_388.out; have hnc12 := NB388_397.out; have hcz13_0 : w11.cell? ⟨gb397, 0, none⟩ = some (.int .i64 0) := (blk_cell BK397.out 0).trans rfl; have hcz13_1 : w11.cell? ⟨gb397, 1, none⟩ = some (.string (⟨#[]⟩ : ByteArray)) := (blk_cell BK397.out 1).trans rfl; have hcz13_2 : w11.cell? ⟨gb397, 2, none⟩ = some (.int .i64 0) := (blk_cell BK397.out 2).trans rfl; have hcz13_3 : w11.cell? ⟨gb397, 3, none⟩ = some (.slice none 0 0) := (blk_cell BK397.out 3).trans rfl; have hfz13_0 := blk_frozen BK397.out 0; have hfz13_1 := blk_frozen BK397.out 1; have hfz13_2 := blk_frozen BK397.out 2; have hfz13_3 := blk_frozen BK397.out 3; obtain ⟨Ao14, co14, eo14⟩ := Kd.R_slice HO394.out; subst eo14))
    have n_ := c4_ (show Kd.R k70 70 ((((w11.setCell ⟨gb397, 0, none⟩ (.int .i64 t389)).setCell ⟨gb397, 1, none⟩ (.string t390)).setCell ⟨gb397, 2, none⟩ (.int .i64 t391)).setCell ⟨gb397, 3, none⟩ (.slice Ao14 t392.length co14)) w.heap.size (fun k_ => k_ ≠ gb388 ∧ k_ ≠ gb397) (.slice Ao14 t392.length co14) t392 from by (with_reducible repeat (first | apply Kd.R_alloc | apply Kd.R_drewN | apply Kd.R_drew)); exact Kd.R_mono (Kd.R_far (p := ⟨gb397, 3, none⟩) (Kd.R_far (p := ⟨gb397, 2, none⟩) (Kd.R_far (p := ⟨gb397, 1, none⟩) (Kd.R_far (p := ⟨gb397, 0, none⟩) (Kd.R_mono HO394.out (fun k_ hk => (⟨hk, hk.2⟩ : _ ∧ k_ ≠ gb397))) (fun _ hk => hk.2) (.int .i64 t389)) (fun _ hk => hk.2) (.string t390)) (fun _ hk => hk.2) (.int .i64 t391)) (fun _ hk => hk.2) (.slice Ao14 t392.length co14)) (fun _ hk => ⟨hk.1.1.2, hk.1.2⟩)) (show ((((w11.setCell ⟨gb397, 0, none⟩ (.int .i64 t389)).setCell ⟨gb397, 1, none⟩ (.string t390)).setCell ⟨gb397, 2, none⟩ (.int .i64 t391)).setCell ⟨gb397, 3, none⟩ (.slice Ao14 t392.length co14)).heap[gb388]? = some (.cells #[.int .i64 0, .string (⟨#[]⟩ : ByteArray), .int .i64 0, .slice none 0 0] 70 (0, 0)) from a8_) (show ((((w11.setCell ⟨gb397, 0, none⟩ (.int .i64 t389)).setCell ⟨gb397, 1, none⟩ (.string t390)).setCell ⟨gb397, 2, none⟩ (.int .i64 t391)).setCell ⟨gb397, 3, none⟩ (.slice Ao14 t392.length co14)).heap[gb397]? = some (.cells #[.int .i64 t389, .string t390, .int .i64 t391, .slice Ao14 t392.length co14] 70 (0, 0)) from a9_) (show Below w.heap.size w ((((w11.setCell ⟨gb397, 0, none⟩ (.int .i64 t389)).setCell ⟨gb397, 1, none⟩ (.string t390)).setCell ⟨gb397, 2, none⟩ (.int .i64 t391)).setCell ⟨gb397, 3, none⟩ (.slice Ao14 t392.length co14)) from a10_)
    (try clear HO394)
    (try clear BK388)
    (try clear BK397)
    (try clear HB)
    generalize ((((w11.setCell ⟨gb397, 0, none⟩ (.int .i64 t389)).setCell ⟨gb397, 1, none⟩ (.string t390)).setCell ⟨gb397, 2, none⟩ (.int .i64 t391)).setCell ⟨gb397, 3, none⟩ (.slice Ao14 t392.length co14)) = w15 at n_ ⊢
    obtain ⟨HO394, BK388, BK397, HB⟩ := n_
    have n_ := c4_ (Kd.R_drew HO394.out) (blk_drew BK388.out) (blk_drew BK397.out) (below_drew1 HB.out)
    clear HO394 BK388 BK397 HB
    obtain ⟨HO394, BK388, BK397, HB⟩ := n_
    refine start_ (n := 14) (S := fun w' => w'.cell? ⟨gb397, 0, none⟩ = some (.int .i64 t389) ∧ w'.cell? ⟨gb397, 1, none⟩ = some (.string t390) ∧ w'.cell? ⟨gb397, 2, none⟩ = some (.int .i64 t391) ∧ w'.cell? ⟨gb397, 3, none⟩ = some (.slice Ao14 t392.length co14)) (ds := []) (bs_ 14 0) (by kernel_rfl) (by kernel_rfl) (by kernel_rfl) ⟨(blk_cell BK397.out 0).trans rfl, (blk_cell BK397.out 1).trans rfl, (blk_cell BK397.out 2).trans rfl, (blk_cell BK397.out 3).trans rfl⟩ (fun hHeld => ?_); refine with_tabW impl_stepsTree.tab4 impl_stepsTree.bits4 (fun HT_ HW_ => ?_)
    generalize w15.drew = w16 at HO394 BK388 BK397 HB hHeld ⊢
    refine pu_ (i := 1) (N := some 18) (v := ?_) (a' := ?_) 2 rfl rfl HT_ (Or.inl ⟨by rfl, ?_⟩) ?_ ?_
    rotate_left
    ·intro w'
     go_simp
     with_reducible rfl
    rotate_left
    ·simp only [pt_]
     rfl
    refine pu_ (i := 2) (N := some 19) (v := ?_) (a' := ?_) 6 rfl rfl HT_ (Or.inl ⟨by rfl, ?_⟩) ?_ ?_
    rotate_left
    ·intro w'
     go_simp
     with_reducible rfl
    rotate_left
    ·simp only [pt_]
     rfl
    refine pu_ (i := 3) (N := some 20) (v := ?_) (a' := ?_) 14 rfl rfl HT_ (Or.inl ⟨by rfl, ?_⟩) ?_ ?_
    rotate_left
    ·intro w'
     go_simp
     with_reducible rfl
    rotate_left
    ·simp only [pt_]
     rfl
    refine pu_ (i := 4) (N := some 21) (v := ?_) (a' := ?_) 30 rfl rfl HT_ (Or.inl ⟨by rfl, ?_⟩) ?_ ?_
    rotate_left
    ·intro w'
     go_simp
     with_reducible rfl
    rotate_left
    ·simp only [pt_]
     rfl
    refine pu_ (i := 5) (N := some 22) (v := ?_) (a' := ?_) 62 rfl rfl HT_ (Or.inl ⟨by rfl, ?_⟩) ?_ ?_
    rotate_left
    ·intro w'
     go_simp
     with_reducible rfl
    rotate_left
    ·simp only [pt_]
     rfl
    refine pu_ (i := 6) (N := some 23) (v := ?_) (a' := ?_) 126 rfl rfl HT_ (Or.inl ⟨by rfl, ?_⟩) ?_ ?_
    rotate_left
    ·intro w'
     go_simp
     with_reducible rfl
    rotate_left
    ·simp only [pt_]
     rfl
    refine pu_ (i := 7) (N := some 24) (v := ?_) (a' := ?_) 254 rfl rfl HT_ (Or.inl ⟨by rfl, ?_⟩) ?_ ?_
    rotate_left
    ·intro w'
     go_simp
     with_reducible rfl
    rotate_left
    ·simp only [pt_]
     rfl
    refine pu_ (i := 8) (N := some 25) (v := ?_) (a' := ?_) 510 rfl rfl HT_ (Or.inl ⟨by rfl, ?_⟩) ?_ ?_
    rotate_left
    ·intro w'
     go_simp
     with_reducible rfl
    rotate_left
    ·simp only [pt_]
     rfl
    refine tk_ (i := 0) (N := some 17) (v := ?_) (a' := ?_) 511 rfl rfl HT_ HW_ (Or.inl ⟨by rfl, ?_⟩) hHeld ?_ ?_
    rotate_left
    ·rintro w' ⟨s0, s1, s2, s3⟩
     go_simp
     with_reducible rfl
    rotate_left
    ·simp only [pt_]
     rfl
    refine tk_ (i := 9) (N := some 26) (v := ?_) (a' := ?_) 1023 rfl rfl HT_ HW_ (Or.inl ⟨by rfl, ?_⟩) hHeld ?_ ?_
    rotate_left
    ·rintro w' ⟨s0, s1, s2, s3⟩
     go_simp
     with_reducible rfl
    rotate_left
    ·simp only [pt_]
     rfl
    refine one_ (i := 10) (N := some 27) (bs_ 14 2047) rfl rfl (one_of HT_.out (by kernel_rfl)) (by decide) (fun K hK => ?_)
    refine goes_ Try.func65 (by kernel_rfl) rfl #[.agg #[.int .i64 t389, .string t390, .int .i64 t391, .slice Ao14 t392.length co14]] (by rfl) rfl rfl (a4_) ?_
    with_reducible refine (impl_walkTree_ok.calls k t389 t390 t391 _ _ t392 t398 _ ?side1 ?side2 A8.out).mono ?_
    (case side1 => exact by repeat (first | exact (Kd.R_reads' HO394.out).2.2 | (with_reducible refine Kd.C_alloc ?_ _) | (with_reducible refine Kd.C_drewN ?_ _) | (with_reducible refine Kd.C_drew ?_)))
    (case side2 => exact (Kd.R_reads' HO394.out).2.1)
    rintro e w17 ⟨rfl, hb⟩
    refine ⟨_, rfl, ?_⟩
    have n_ := c4_ (Kd.R_below (a7_) hb) (blk_below (g := gb388) (o := .cells #[.int .i64 0, .string (⟨#[]⟩ : ByteArray), .int .i64 0, .slice none 0 0] 70 (0, 0)) (a6_) hb) (blk_below (g := gb397) (o := .cells #[.int .i64 t389, .string t390, .int .i64 t391, .slice Ao14 t392.length co14] 70 (0, 0)) (by (with_reducible repeat (first | refine blk_drewN ?_ _ | refine blk_drew ?_ | refine blk_alloc ?_ _)); exact BK397.out) hb) (below_step (a10_) hb)
    clear HO394 BK388 BK397 HB
    obtain ⟨HO394, BK388, BK397, HB⟩ := n_
    (try clear hb)
    (try clear hb2)
    (try clear hk)
    (try clear hi)
    refine hK.out _ _ ⟨(blk_cell BK397.out 0).trans rfl, (blk_cell BK397.out 1).trans rfl, (blk_cell BK397.out 2).trans rfl, (blk_cell BK397.out 3).trans rfl⟩ (fun hHeld => ?_)
    clear hK K
    refine norm_ (a' := ?_) ?_ ?_
    rotate_left
    ·show Act.put _ (some 27) _ = _
     simp only [pt_]
     rfl
    refine pu_ (i := 11) (N := some 28) (v := ?_) (a' := ?_) 4095 rfl rfl HT_ (Or.inl ⟨by rfl, ?_⟩) ?_ ?_
    rotate_left
    ·intro w'
     go_simp
     with_reducible rfl
    rotate_left
    ·simp only [pt_]
     rfl
    refine one_ (i := 12) (N := none) (bs_ 14 8191) rfl rfl (one_of HT_.out (by kernel_rfl)) (by decide) (fun K hK => ?_)
    have hs18 : w17.cell? ⟨gb388, 0, none⟩ = some (.int .i64 0) := (blk_cell BK388.out 0).trans rfl
    have hfs18 := blk_frozen BK388.out 0
    have hns18_1 := NB397_388.out
    have hms18_1 := NB388_397.out
    have hs19 : w17.cell? ⟨gb388, 1, none⟩ = some (.string (⟨#[]⟩ : ByteArray)) := (blk_cell BK388.out 1).trans rfl
    have hfs19 := blk_frozen BK388.out 1
    have hns19_1 := NB397_388.out
    have hms19_1 := NB388_397.out
    have hs20 : w17.cell? ⟨gb388, 2, none⟩ = some (.int .i64 0) := (blk_cell BK388.out 2).trans rfl
    have hfs20 := blk_frozen BK388.out 2
    have hns20_1 := NB397_388.out
    have hms20_1 := NB388_397.out
    have hs21 : w17.cell? ⟨gb388, 3, none⟩ = some (.slice none 0 0) := (blk_cell BK388.out 3).trans rfl
    have hfs21 := blk_frozen BK388.out 3
    have hns21_1 := NB397_388.out
    have hms21_1 := NB388_397.out
    refine skip_ (w1 := ?_) (by rfl) rfl ?_ ?_
    rotate_left
    ·go_simp
     rfl
    refine hK.out _ _ ⟨((cell_far (p := ⟨gb388, _, none⟩) NB397_388.out _).trans (((cell_far (p := ⟨gb388, _, none⟩) NB397_388.out _).trans (((cell_far (p := ⟨gb388, _, none⟩) NB397_388.out _).trans (((cell_far (p := ⟨gb388, _, none⟩) NB397_388.out _).trans (hHeld.1)))))))), ((cell_far (p := ⟨gb388, _, none⟩) NB397_388.out _).trans (((cell_far (p := ⟨gb388, _, none⟩) NB397_388.out _).trans (((cell_far (p := ⟨gb388, _, none⟩) NB397_388.out _).trans (((cell_far (p := ⟨gb388, _, none⟩) NB397_388.out _).trans (hHeld.2.1)))))))), ((cell_far (p := ⟨gb388, _, none⟩) NB397_388.out _).trans (((cell_far (p := ⟨gb388, _, none⟩) NB397_388.out _).trans (((cell_far (p := ⟨gb388, _, none⟩) NB397_388.out _).trans (((cell_far (p := ⟨gb388, _, none⟩) NB397_388.out _).trans (hHeld.2.2.1)))))))), ((cell_far (p := ⟨gb388, _, none⟩) NB397_388.out _).trans (((cell_far (p := ⟨gb388, _, none⟩) NB397_388.out _).trans (((cell_far (p := ⟨gb388, _, none⟩) NB397_388.out _).trans (((cell_far (p := ⟨gb388, _, none⟩) NB397_388.out _).trans (hHeld.2.2.2))))))))⟩ (fun hHeld => ?_)
    clear hK K
    refine pu_ (i := 13) (N := some 3) (v := ?_) (a' := ?_) 16383 rfl rfl HT_ (Or.inl ⟨by rfl, ?_⟩) ?_ ?_
    rotate_left
    ·intro w'
     go_simp
     with_reducible rfl
    rotate_left
    ·simp only [pt_]
     rfl
    refine done_ (done_of HT_.out (by kernel_rfl)) ?_
    try go_wp2
    refine bodyPost_ret (results_ct rfl _ _ gb388 70 #[.int .i64 t389, .string t390, .int .i64 t391, .slice Ao14 t392.length co14] (0, 0) _ rfl (a11_) Try.underlying70 rfl (by kernel_rfl)) rfl ?_
    exact ⟨_, a2_, by (with_reducible repeat (first | apply Kd.R_alloc | apply Kd.R_drewN | apply Kd.R_drew)); exact Kd.R_mono (Kd.R_far (p := ⟨gb388, 3, none⟩) (Kd.R_far (p := ⟨gb388, 2, none⟩) (Kd.R_far (p := ⟨gb388, 1, none⟩) (Kd.R_far (p := ⟨gb388, 0, none⟩) (Kd.R_mono HO394.out (fun k_ hk => (⟨hk, hk.1⟩ : _ ∧ k_ ≠ gb388))) (fun _ hk => hk.2) (.int .i64 t389)) (fun _ hk => hk.2) (.string t390)) (fun _ hk => hk.2) (.int .i64 t391)) (fun _ hk => hk.2) (.slice Ao14 t392.length co14)) (fun _ hk => trivial), a10_⟩
   ·rw [if_neg c7] at H
    have c7b0 : (t395 == (l0.length : Int)) = false := beq_eq_false_iff_ne.mpr c7
    have c7b1 : (t395 != (l0.length : Int)) = true := bne_iff_ne.mpr c7
    simp only [Option.some.injEq, Prod.mk.injEq] at H
    obtain ⟨rfl, rfl, rfl, rfl, rfl⟩ := H
    go_enter Try.func39, Try.ntmps39
    try go_wp2_with (first | ((with_reducible refine gate_dst (N := 2) rfl ?_); (try (refine gate_guard (by rfl) ?_; dsimp only)); refine box_event ?hg (N := 2) ?hd (cs := #[.int .i64 0, .string (⟨#[]⟩ : ByteArray), .int .i64 0, .slice none 0 0]) (t := 70) ?hr ?_; (case hd => rfl); (case hg => rfl); (case hr => first | (go_simp; done) | (go_simp; rfl)); intro gb388 hg w22 hbox hb; have n_ := c4_ (below_step (a1_) hb) (hbox) ((by rw [hg]; exact (below_size (a1_)) : w.heap.size ≤ gb388)) ((by rw [hg]; exact (below_size (a1_)) : w.heap.size ≤ gb388)); clear HB; obtain ⟨HB, BK388, GW388, GE388⟩ := n_; clear hb hbox hg) | ((with_reducible refine gate_callee (f := 64) rfl ?_); refine goesL_ (some 13) rfl rfl Try.func64 (by kernel_rfl) rfl #[.slice A0 l0.length c0, .int .i64 0, .int .i64 1] rfl (a4_) ?_; (with_reducible refine (impl_growSteps.calls k _ _ l0 0 1 t389 t390 t391 t392 t395 true _ ?side1 ?side2 A5.out).mono ?_); (case side1 => exact a5_); (case side2 => exact HC0.out); rintro e w23 ⟨v393, rfl, ho0, hb⟩; refine ⟨_, rfl, ?_⟩; have n_ := c3_ (Kd.R_lower (Kd.R_newB ho0 (g := gb388) (o := .cells #[.int .i64 0, .string (⟨#[]⟩ : ByteArray), .int .i64 0, .slice none 0 0] 70 (0, 0)) (a6_)) (below_size (a3_))) (blk_below (g := gb388) (o := .cells #[.int .i64 0, .string (⟨#[]⟩ : ByteArray), .int .i64 0, .slice none 0 0] 70 (0, 0)) (a6_) hb) (below_step (a3_) hb); clear BK388 HB; obtain ⟨HO394, BK388, HB⟩ := n_; (try clear hb); (try clear hb2); (try clear hk); (try clear hi); (try clear ho0)) | ((with_reducible refine gate_dst (N := 4) rfl ?_); (try (refine gate_guard (by rfl) ?_; dsimp only)); refine box_event ?hg (N := 4) ?hd (cs := #[.int .i64 0, .string (⟨#[]⟩ : ByteArray), .int .i64 0, .slice none 0 0]) (t := 70) ?hr ?_; (case hd => rfl); (case hg => rfl); (case hr => first | (go_simp; done) | (go_simp; rfl)); intro gb397 hg w24 hbox hb; have n_ := c8_ (Kd.R_below (Kd.R_elderB (a7_) gb397 (Nat.le_of_eq hg.symm)) hb) (blk_below (g := gb388) (o := .cells #[.int .i64 0, .string (⟨#[]⟩ : ByteArray), .int .i64 0, .slice none 0 0] 70 (0, 0)) (a6_) hb) (below_step (a3_) hb) (hbox) ((by rw [hg]; exact (below_size (a3_)) : w.heap.size ≤ gb397)) ((by rw [hg]; exact (below_size (a3_)) : w.heap.size ≤ gb397)) ((by rw [hg]; exact Nat.ne_of_lt (blk_lt (g := gb388) (o := .cells #[.int .i64 0, .string (⟨#[]⟩ : ByteArray), .int .i64 0, .slice none 0 0] 70 (0, 0)) (a6_)) : gb388 ≠ gb397)) ((by rw [hg]; exact Nat.ne_of_gt (blk_lt (g := gb388) (o := .cells #[.int .i64 0, .string (⟨#[]⟩ : ByteArray), .int .i64 0, .slice none 0 0] 70 (0, 0)) (a6_)) : gb397 ≠ gb388)); clear HO394 BK388 HB; obtain ⟨HO394, BK388, HB, BK397, GW397, GE397, NB388_397, NB397_388⟩ := n_; clear hb hbox hg; have hnb25 := NB397_388.out; have hnc25 := NB388_397.out; have hcz26_0 : w24.cell? ⟨gb397, 0, none⟩ = some (.int .i64 0) := (blk_cell BK397.out 0).trans rfl; have hcz26_1 : w24.cell? ⟨gb397, 1, none⟩ = some (.string (⟨#[]⟩ : ByteArray)) := (blk_cell BK397.out 1).trans rfl; have hcz26_2 : w24.cell? ⟨gb397, 2, none⟩ = some (.int .i64 0) := (blk_cell BK397.out 2).trans rfl; have hcz26_3 : w24.cell? ⟨gb397, 3, none⟩ = some (.slice none 0 0) := (blk_cell BK397.out 3).trans rfl; have hfz26_0 := blk_frozen BK397.out 0; have hfz26_1 := blk_frozen BK397.out 1; have hfz26_2 := blk_frozen BK397.out 2; have hfz26_3 := blk_frozen BK397.out 3; obtain ⟨Ao27, co27, eo27⟩ := Kd.R_slice HO394.out; subst eo27))
    have n_ := c4_ (show Kd.R k70 70 ((((w24.setCell ⟨gb397, 0, none⟩ (.int .i64 t389)).setCell ⟨gb397, 1, none⟩ (.string t390)).setCell ⟨gb397, 2, none⟩ (.int .i64 t391)).setCell ⟨gb397, 3, none⟩ (.slice Ao27 t392.length co27)) w.heap.size (fun k_ => k_ ≠ gb388 ∧ k_ ≠ gb397) (.slice Ao27 t392.length co27) t392 from by (with_reducible repeat (first | apply Kd.R_alloc | apply Kd.R_drewN | apply Kd.R_drew)); exact Kd.R_mono (Kd.R_far (p := ⟨gb397, 3, none⟩) (Kd.R_far (p := ⟨gb397, 2, none⟩) (Kd.R_far (p := ⟨gb397, 1, none⟩) (Kd.R_far (p := ⟨gb397, 0, none⟩) (Kd.R_mono HO394.out (fun k_ hk => (⟨hk, hk.2⟩ : _ ∧ k_ ≠ gb397))) (fun _ hk => hk.2) (.int .i64 t389)) (fun _ hk => hk.2) (.string t390)) (fun _ hk => hk.2) (.int .i64 t391)) (fun _ hk => hk.2) (.slice Ao27 t392.length co27)) (fun _ hk => ⟨hk.1.1.2, hk.1.2⟩)) (show ((((w24.setCell ⟨gb397, 0, none⟩ (.int .i64 t389)).setCell ⟨gb397, 1, none⟩ (.string t390)).setCell ⟨gb397, 2, none⟩ (.int .i64 t391)).setCell ⟨gb397, 3, none⟩ (.slice Ao27 t392.length co27)).heap[gb388]? = some (.cells #[.int .i64 0, .string (⟨#[]⟩ : ByteArray), .int .i64 0, .slice none 0 0] 70 (0, 0)) from a8_) (show ((((w24.setCell ⟨gb397, 0, none⟩ (.int .i64 t389)).setCell ⟨gb397, 1, none⟩ (.string t390)).setCell ⟨gb397, 2, none⟩ (.int .i64 t391)).setCell ⟨gb397, 3, none⟩ (.slice Ao27 t392.length co27)).heap[gb397]? = some (.cells #[.int .i64 t389, .string t390, .int .i64 t391, .slice Ao27 t392.length co27] 70 (0, 0)) from a9_) (show Below w.heap.size w ((((w24.setCell ⟨gb397, 0, none⟩ (.int .i64 t389)).setCell ⟨gb397, 1, none⟩ (.string t390)).setCell ⟨gb397, 2, none⟩ (.int .i64 t391)).setCell ⟨gb397, 3, none⟩ (.slice Ao27 t392.length co27)) from a10_)
    (try clear HO394)
    (try clear BK388)
    (try clear BK397)
    (try clear HB)
    generalize ((((w24.setCell ⟨gb397, 0, none⟩ (.int .i64 t389)).setCell ⟨gb397, 1, none⟩ (.string t390)).setCell ⟨gb397, 2, none⟩ (.int .i64 t391)).setCell ⟨gb397, 3, none⟩ (.slice Ao27 t392.length co27)) = w28 at n_ ⊢
    obtain ⟨HO394, BK388, BK397, HB⟩ := n_
    have n_ := c4_ (Kd.R_drew HO394.out) (blk_drew BK388.out) (blk_drew BK397.out) (below_drew1 HB.out)
    clear HO394 BK388 BK397 HB
    obtain ⟨HO394, BK388, BK397, HB⟩ := n_
    refine start_ (n := 14) (S := fun w' => w'.cell? ⟨gb397, 0, none⟩ = some (.int .i64 t389) ∧ w'.cell? ⟨gb397, 1, none⟩ = some (.string t390) ∧ w'.cell? ⟨gb397, 2, none⟩ = some (.int .i64 t391) ∧ w'.cell? ⟨gb397, 3, none⟩ = some (.slice Ao27 t392.length co27)) (ds := []) (bs_ 14 0) (by kernel_rfl) (by kernel_rfl) (by kernel_rfl) ⟨(blk_cell BK397.out 0).trans rfl, (blk_cell BK397.out 1).trans rfl, (blk_cell BK397.out 2).trans rfl, (blk_cell BK397.out 3).trans rfl⟩ (fun hHeld => ?_); refine with_tabW impl_stepsTree.tab4 impl_stepsTree.bits4 (fun HT_ HW_ => ?_)
    generalize w28.drew = w29 at HO394 BK388 BK397 HB hHeld ⊢
    refine pu_ (i := 1) (N := some 18) (v := ?_) (a' := ?_) 2 rfl rfl HT_ (Or.inl ⟨by rfl, ?_⟩) ?_ ?_
    rotate_left
    ·intro w'
     go_simp
     with_reducible rfl
    rotate_left
    ·simp only [pt_]
     rfl
    refine pu_ (i := 2) (N := some 19) (v := ?_) (a' := ?_) 6 rfl rfl HT_ (Or.inl ⟨by rfl, ?_⟩) ?_ ?_
    rotate_left
    ·intro w'
     go_simp
     with_reducible rfl
    rotate_left
    ·simp only [pt_]
     rfl
    refine pu_ (i := 3) (N := some 20) (v := ?_) (a' := ?_) 14 rfl rfl HT_ (Or.inl ⟨by rfl, ?_⟩) ?_ ?_
    rotate_left
    ·intro w'
     go_simp
     with_reducible rfl
    rotate_left
    ·simp only [pt_]
     rfl
    refine pu_ (i := 4) (N := some 21) (v := ?_) (a' := ?_) 30 rfl rfl HT_ (Or.inl ⟨by rfl, ?_⟩) ?_ ?_
    rotate_left
    ·intro w'
     go_simp
     with_reducible rfl
    rotate_left
    ·simp only [pt_]
     rfl
    refine pu_ (i := 5) (N := some 22) (v := ?_) (a' := ?_) 62 rfl rfl HT_ (Or.inl ⟨by rfl, ?_⟩) ?_ ?_
    rotate_left
    ·intro w'
     go_simp
     with_reducible rfl
    rotate_left
    ·simp only [pt_]
     rfl
    refine pu_ (i := 6) (N := some 23) (v := ?_) (a' := ?_) 126 rfl rfl HT_ (Or.inl ⟨by rfl, ?_⟩) ?_ ?_
    rotate_left
    ·intro w'
     go_simp
     with_reducible rfl
    rotate_left
    ·simp only [pt_]
     rfl
    refine pu_ (i := 7) (N := some 24) (v := ?_) (a' := ?_) 254 rfl rfl HT_ (Or.inl ⟨by rfl, ?_⟩) ?_ ?_
    rotate_left
    ·intro w'
     go_simp
     with_reducible rfl
    rotate_left
    ·simp only [pt_]
     rfl
    refine pu_ (i := 8) (N := some 25) (v := ?_) (a' := ?_) 510 rfl rfl HT_ (Or.inl ⟨by rfl, ?_⟩) ?_ ?_
    rotate_left
    ·intro w'
     go_simp
     with_reducible rfl
    rotate_left
    ·simp only [pt_]
     rfl
    refine pu_ (i := 9) (N := some 26) (v := undef) (a' := ?_) 1022 rfl rfl HT_ (Or.inr ⟨by rfl, rfl⟩) ?_ ?_
    rotate_left
    ·simp only [pt_]
     rfl
    refine pu_ (i := 10) (N := some 27) (v := undef) (a' := ?_) 2046 rfl rfl HT_ (Or.inr ⟨by rfl, rfl⟩) ?_ ?_
    rotate_left
    ·simp only [pt_]
     rfl
    refine pu_ (i := 11) (N := some 28) (v := ?_) (a' := ?_) 4094 rfl rfl HT_ (Or.inl ⟨by rfl, ?_⟩) ?_ ?_
    rotate_left
    ·intro w'
     go_simp
     with_reducible rfl
    rotate_left
    ·simp only [pt_]
     rfl
    refine tk_ (i := 0) (N := some 17) (v := ?_) (a' := ?_) 4095 rfl rfl HT_ HW_ (Or.inl ⟨by rfl, ?_⟩) hHeld ?_ ?_
    rotate_left
    ·rintro w' ⟨s0, s1, s2, s3⟩
     go_simp
     with_reducible rfl
    rotate_left
    ·simp only [pt_]
     rfl
    refine one_ (i := 12) (N := none) (bs_ 14 8191) rfl rfl (one_of HT_.out (by kernel_rfl)) (by decide) (fun K hK => ?_)
    have hs30 : w29.cell? ⟨gb388, 0, none⟩ = some (.int .i64 0) := (blk_cell BK388.out 0).trans rfl
    have hfs30 := blk_frozen BK388.out 0
    have hns30_1 := NB397_388.out
    have hms30_1 := NB388_397.out
    have hs31 : w29.cell? ⟨gb388, 1, none⟩ = some (.string (⟨#[]⟩ : ByteArray)) := (blk_cell BK388.out 1).trans rfl
    have hfs31 := blk_frozen BK388.out 1
    have hns31_1 := NB397_388.out
    have hms31_1 := NB388_397.out
    have hs32 : w29.cell? ⟨gb388, 2, none⟩ = some (.int .i64 0) := (blk_cell BK388.out 2).trans rfl
    have hfs32 := blk_frozen BK388.out 2
    have hns32_1 := NB397_388.out
    have hms32_1 := NB388_397.out
    have hs33 : w29.cell? ⟨gb388, 3, none⟩ = some (.slice none 0 0) := (blk_cell BK388.out 3).trans rfl
    have hfs33 := blk_frozen BK388.out 3
    have hns33_1 := NB397_388.out
    have hms33_1 := NB388_397.out
    refine skip_ (w1 := ?_) (by rfl) rfl ?_ ?_
    rotate_left
    ·go_simp
     rfl
    refine hK.out _ _ ⟨((cell_far (p := ⟨gb388, _, none⟩) NB397_388.out _).trans (((cell_far (p := ⟨gb388, _, none⟩) NB397_388.out _).trans (((cell_far (p := ⟨gb388, _, none⟩) NB397_388.out _).trans (((cell_far (p := ⟨gb388, _, none⟩) NB397_388.out _).trans (hHeld.1)))))))), ((cell_far (p := ⟨gb388, _, none⟩) NB397_388.out _).trans (((cell_far (p := ⟨gb388, _, none⟩) NB397_388.out _).trans (((cell_far (p := ⟨gb388, _, none⟩) NB397_388.out _).trans (((cell_far (p := ⟨gb388, _, none⟩) NB397_388.out _).trans (hHeld.2.1)))))))), ((cell_far (p := ⟨gb388, _, none⟩) NB397_388.out _).trans (((cell_far (p := ⟨gb388, _, none⟩) NB397_388.out _).trans (((cell_far (p := ⟨gb388, _, none⟩) NB397_388.out _).trans (((cell_far (p := ⟨gb388, _, none⟩) NB397_388.out _).trans (hHeld.2.2.1)))))))), ((cell_far (p := ⟨gb388, _, none⟩) NB397_388.out _).trans (((cell_far (p := ⟨gb388, _, none⟩) NB397_388.out _).trans (((cell_far (p := ⟨gb388, _, none⟩) NB397_388.out _).trans (((cell_far (p := ⟨gb388, _, none⟩) NB397_388.out _).trans (hHeld.2.2.2))))))))⟩ (fun hHeld => ?_)
    clear hK K
    refine pu_ (i := 13) (N := some 3) (v := ?_) (a' := ?_) 16383 rfl rfl HT_ (Or.inl ⟨by rfl, ?_⟩) ?_ ?_
    rotate_left
    ·intro w'
     go_simp
     with_reducible rfl
    rotate_left
    ·simp only [pt_]
     rfl
    refine done_ (done_of HT_.out (by kernel_rfl)) ?_
    try go_wp2
    refine bodyPost_ret (results_ct rfl _ _ gb388 70 #[.int .i64 t389, .string t390, .int .i64 t391, .slice Ao27 t392.length co27] (0, 0) _ rfl (a11_) Try.underlying70 rfl (by kernel_rfl)) rfl ?_
    exact ⟨_, a2_, by (with_reducible repeat (first | apply Kd.R_alloc | apply Kd.R_drewN | apply Kd.R_drew)); exact Kd.R_mono (Kd.R_far (p := ⟨gb388, 3, none⟩) (Kd.R_far (p := ⟨gb388, 2, none⟩) (Kd.R_far (p := ⟨gb388, 1, none⟩) (Kd.R_far (p := ⟨gb388, 0, none⟩) (Kd.R_mono HO394.out (fun k_ hk => (⟨hk, hk.1⟩ : _ ∧ k_ ≠ gb388))) (fun _ hk => hk.2) (.int .i64 t389)) (fun _ hk => hk.2) (.string t390)) (fun _ hk => hk.2) (.int .i64 t391)) (fun _ hk => hk.2) (.slice Ao27 t392.length co27)) (fun _ hk => trivial), a10_⟩
  ·replace c6 := Bool.eq_false_iff.mpr c6
   subst c6
   have H1 : (some (t389, t390, t391, t392, false)) = some (r1, r2, r3, r4, r5) := by rw [if_neg (show ¬ (false = true) by decide)] at H; exact H
   clear H
   have H := H1
   clear H1
   simp only [Option.some.injEq, Prod.mk.injEq] at H
   obtain ⟨rfl, rfl, rfl, rfl, rfl⟩ := H
   go_enter Try.func39, Try.ntmps39
   try go_wp2_with (first | ((with_reducible refine gate_dst (N := 2) rfl ?_); (try (refine gate_guard (by rfl) ?_; dsimp only)); refine box_event ?hg (N := 2) ?hd (cs := #[.int .i64 0, .string (⟨#[]⟩ : ByteArray), .int .i64 0, .slice none 0 0]) (t := 70) ?hr ?_; (case hd => rfl); (case hg => rfl); (case hr => first | (go_simp; done) | (go_simp; rfl)); intro gb388 hg w34 hbox hb; have n_ := c4_ (below_step (a1_) hb) (hbox) ((by rw [hg]; exact (below_size (a1_)) : w.heap.size ≤ gb388)) ((by rw [hg]; exact (below_size (a1_)) : w.heap.size ≤ gb388)); clear HB; obtain ⟨HB, BK388, GW388, GE388⟩ := n_; clear hb hbox hg) | ((with_reducible refine gate_callee (f := 64) rfl ?_); refine goesL_ (some 13) rfl rfl Try.func64 (by kernel_rfl) rfl #[.slice A0 l0.length c0, .int .i64 0, .int .i64 1] rfl (a4_) ?_; (with_reducible refine (impl_growSteps.calls k _ _ l0 0 1 t389 t390 t391 t392 t395 false _ ?side1 ?side2 A5.out).mono ?_); (case side1 => exact a5_); (case side2 => exact HC0.out); rintro e w35 ⟨v393, rfl, ho0, hb⟩; refine ⟨_, rfl, ?_⟩; have n_ := c3_ (Kd.R_lower (Kd.R_newB ho0 (g := gb388) (o := .cells #[.int .i64 0, .string (⟨#[]⟩ : ByteArray), .int .i64 0, .slice none 0 0] 70 (0, 0)) (a6_)) (below_size (a3_))) (blk_below (g := gb388) (o := .cells #[.int .i64 0, .string (⟨#[]⟩ : ByteArray), .int .i64 0, .slice none 0 0] 70 (0, 0)) (a6_) hb) (below_step (a3_) hb); clear BK388 HB; obtain ⟨HO394, BK388, HB⟩ := n_; (try clear hb); (try clear hb2); (try clear hk); (try clear hi); (try clear ho0)) | ((with_reducible refine gate_dst (N := 4) rfl ?_); (try (refine gate_guard (by rfl) ?_; dsimp only)); refine box_event ?hg (N := 4) ?hd (cs := #[.int .i64 0, .string (⟨#[]⟩ : ByteArray), .int .i64 0, .slice none 0 0]) (t := 70) ?hr ?_; (case hd => rfl); (case hg => rfl); (case hr => first | (go_simp; done) | (go_simp; rfl)); intro gb397 hg w36 hbox hb; have n_ := c8_ (Kd.R_below (Kd.R_elderB (a7_) gb397 (Nat.le_of_eq hg.symm)) hb) (blk_below (g := gb388) (o := .cells #[.int .i64 0, .string (⟨#[]⟩ : ByteArray), .int .i64 0, .slice none 0 0] 70 (0, 0)) (a6_) hb) (below_step (a3_) hb) (hbox) ((by rw [hg]; exact (below_size (a3_)) : w.heap.size ≤ gb397)) ((by rw [hg]; exact (below_size (a3_)) : w.heap.size ≤ gb397)) ((by rw [hg]; exact Nat.ne_of_lt (blk_lt (g := gb388) (o := .cells #[.int .i64 0, .string (⟨#[]⟩ : ByteArray), .int .i64 0, .slice none 0 0] 70 (0, 0)) (a6_)) : gb388 ≠ gb397)) ((by rw [hg]; exact Nat.ne_of_gt (blk_lt (g := gb388) (o := .cells #[.int .i64 0, .string (⟨#[]⟩ : ByteArray), .int .i64 0, .slice none 0 0] 70 (0, 0)) (a6_)) : gb397 ≠ gb388)); clear HO394 BK388 HB; obtain ⟨HO394, BK388, HB, BK397, GW397, GE397, NB388_397, NB397_388⟩ := n_; clear hb hbox hg; have hnb37 := NB397_388.out; have hnc37 := NB388_397.out; have hcz38_0 : w36.cell? ⟨gb397, 0, none⟩ = some (.int .i64 0) := (blk_cell BK397.out 0).trans rfl; have hcz38_1 : w36.cell? ⟨gb397, 1, none⟩ = some (.string (⟨#[]⟩ : ByteArray)) := (blk_cell BK397.out 1).trans rfl; have hcz38_2 : w36.cell? ⟨gb397, 2, none⟩ = some (.int .i64 0) := (blk_cell BK397.out 2).trans rfl; have hcz38_3 : w36.cell? ⟨gb397, 3, none⟩ = some (.slice none 0 0) := (blk_cell BK397.out 3).trans rfl; have hfz38_0 := blk_frozen BK397.out 0; have hfz38_1 := blk_frozen BK397.out 1; have hfz38_2 := blk_frozen BK397.out 2; have hfz38_3 := blk_frozen BK397.out 3; obtain ⟨Ao39, co39, eo39⟩ := Kd.R_slice HO394.out; subst eo39))
   have n_ := c4_ (show Kd.R k70 70 ((((w36.setCell ⟨gb397, 0, none⟩ (.int .i64 t389)).setCell ⟨gb397, 1, none⟩ (.string t390)).setCell ⟨gb397, 2, none⟩ (.int .i64 t391)).setCell ⟨gb397, 3, none⟩ (.slice Ao39 t392.length co39)) w.heap.size (fun k_ => k_ ≠ gb388 ∧ k_ ≠ gb397) (.slice Ao39 t392.length co39) t392 from by (with_reducible repeat (first | apply Kd.R_alloc | apply Kd.R_drewN | apply Kd.R_drew)); exact Kd.R_mono (Kd.R_far (p := ⟨gb397, 3, none⟩) (Kd.R_far (p := ⟨gb397, 2, none⟩) (Kd.R_far (p := ⟨gb397, 1, none⟩) (Kd.R_far (p := ⟨gb397, 0, none⟩) (Kd.R_mono HO394.out (fun k_ hk => (⟨hk, hk.2⟩ : _ ∧ k_ ≠ gb397))) (fun _ hk => hk.2) (.int .i64 t389)) (fun _ hk => hk.2) (.string t390)) (fun _ hk => hk.2) (.int .i64 t391)) (fun _ hk => hk.2) (.slice Ao39 t392.length co39)) (fun _ hk => ⟨hk.1.1.2, hk.1.2⟩)) (show ((((w36.setCell ⟨gb397, 0, none⟩ (.int .i64 t389)).setCell ⟨gb397, 1, none⟩ (.string t390)).setCell ⟨gb397, 2, none⟩ (.int .i64 t391)).setCell ⟨gb397, 3, none⟩ (.slice Ao39 t392.length co39)).heap[gb388]? = some (.cells #[.int .i64 0, .string (⟨#[]⟩ : ByteArray), .int .i64 0, .slice none 0 0] 70 (0, 0)) from a8_) (show ((((w36.setCell ⟨gb397, 0, none⟩ (.int .i64 t389)).setCell ⟨gb397, 1, none⟩ (.string t390)).setCell ⟨gb397, 2, none⟩ (.int .i64 t391)).setCell ⟨gb397, 3, none⟩ (.slice Ao39 t392.length co39)).heap[gb397]? = some (.cells #[.int .i64 t389, .string t390, .int .i64 t391, .slice Ao39 t392.length co39] 70 (0, 0)) from a9_) (show Below w.heap.size w ((((w36.setCell ⟨gb397, 0, none⟩ (.int .i64 t389)).setCell ⟨gb397, 1, none⟩ (.string t390)).setCell ⟨gb397, 2, none⟩ (.int .i64 t391)).setCell ⟨gb397, 3, none⟩ (.slice Ao39 t392.length co39)) from a10_)
   (try clear HO394)
   (try clear BK388)
   (try clear BK397)
   (try clear HB)
   generalize ((((w36.setCell ⟨gb397, 0, none⟩ (.int .i64 t389)).setCell ⟨gb397, 1, none⟩ (.string t390)).setCell ⟨gb397, 2, none⟩ (.int .i64 t391)).setCell ⟨gb397, 3, none⟩ (.slice Ao39 t392.length co39)) = w40 at n_ ⊢
   obtain ⟨HO394, BK388, BK397, HB⟩ := n_
   have n_ := c4_ (Kd.R_drew HO394.out) (blk_drew BK388.out) (blk_drew BK397.out) (below_drew1 HB.out)
   clear HO394 BK388 BK397 HB
   obtain ⟨HO394, BK388, BK397, HB⟩ := n_
   refine start_ (n := 14) (S := fun w' => w'.cell? ⟨gb397, 0, none⟩ = some (.int .i64 t389) ∧ w'.cell? ⟨gb397, 1, none⟩ = some (.string t390) ∧ w'.cell? ⟨gb397, 2, none⟩ = some (.int .i64 t391) ∧ w'.cell? ⟨gb397, 3, none⟩ = some (.slice Ao39 t392.length co39)) (ds := []) (bs_ 14 0) (by kernel_rfl) (by kernel_rfl) (by kernel_rfl) ⟨(blk_cell BK397.out 0).trans rfl, (blk_cell BK397.out 1).trans rfl, (blk_cell BK397.out 2).trans rfl, (blk_cell BK397.out 3).trans rfl⟩ (fun hHeld => ?_); refine with_tabW impl_stepsTree.tab4 impl_stepsTree.bits4 (fun HT_ HW_ => ?_)
   generalize w40.drew = w41 at HO394 BK388 BK397 HB hHeld ⊢
   refine pu_ (i := 1) (N := some 18) (v := ?_) (a' := ?_) 2 rfl rfl HT_ (Or.inl ⟨by rfl, ?_⟩) ?_ ?_
   rotate_left
   ·intro w'
    go_simp
    with_reducible rfl
   rotate_left
   ·simp only [pt_]
    rfl
   refine pu_ (i := 2) (N := some 19) (v := ?_) (a' := ?_) 6 rfl rfl HT_ (Or.inl ⟨by rfl, ?_⟩) ?_ ?_
   rotate_left
   ·intro w'
    go_simp
    with_reducible rfl
   rotate_left
   ·simp only [pt_]
    rfl
   refine pu_ (i := 3) (N := some 20) (v := undef) (a' := ?_) 14 rfl rfl HT_ (Or.inr ⟨by rfl, rfl⟩) ?_ ?_
   rotate_left
   ·simp only [pt_]
    rfl
   refine pu_ (i := 4) (N := some 21) (v := undef) (a' := ?_) 30 rfl rfl HT_ (Or.inr ⟨by rfl, rfl⟩) ?_ ?_
   rotate_left
   ·simp only [pt_]
    rfl
   refine pu_ (i := 5) (N := some 22) (v := undef) (a' := ?_) 62 rfl rfl HT_ (Or.inr ⟨by rfl, rfl⟩) ?_ ?_
   rotate_left
   ·simp only [pt_]
    rfl
   refine pu_ (i := 6) (N := some 23) (v := undef) (a' := ?_) 126 rfl rfl HT_ (Or.inr ⟨by rfl, rfl⟩) ?_ ?_
   rotate_left
   ·simp only [pt_]
    rfl
   refine pu_ (i := 7) (N := some 24) (v := ?_) (a' := ?_) 254 rfl rfl HT_ (Or.inl ⟨by rfl, ?_⟩) ?_ ?_
   rotate_left
   ·intro w'
    go_simp
    with_reducible rfl
   rotate_left
   ·simp only [pt_]
    rfl
   refine pu_ (i := 8) (N := some 25) (v := ?_) (a' := ?_) 510 rfl rfl HT_ (Or.inl ⟨by rfl, ?_⟩) ?_ ?_
   rotate_left
   ·intro w'
    go_simp
    with_reducible rfl
   rotate_left
   ·simp only [pt_]
    rfl
   refine pu_ (i := 9) (N := some 26) (v := undef) (a' := ?_) 1022 rfl rfl HT_ (Or.inr ⟨by rfl, rfl⟩) ?_ ?_
   rotate_left
   ·simp only [pt_]
    rfl
   refine pu_ (i := 10) (N := some 27) (v := undef) (a' := ?_) 2046 rfl rfl HT_ (Or.inr ⟨by rfl, rfl⟩) ?_ ?_
   rotate_left
   ·simp only [pt_]
    rfl
   refine pu_ (i := 11) (N := some 28) (v := ?_) (a' := ?_) 4094 rfl rfl HT_ (Or.inl ⟨by rfl, ?_⟩) ?_ ?_
   rotate_left
   ·intro w'
    go_simp
    with_reducible rfl
   rotate_left
   ·simp only [pt_]
    rfl
   refine tk_ (i := 0) (N := some 17) (v := ?_) (a' := ?_) 4095 rfl rfl HT_ HW_ (Or.inl ⟨by rfl, ?_⟩) hHeld ?_ ?_
   rotate_left
   ·rintro w' ⟨s0, s1, s2, s3⟩
    go_simp
    with_reducible rfl
   rotate_left
   ·simp only [pt_]
    rfl
   refine one_ (i := 12) (N := none) (bs_ 14 8191) rfl rfl (one_of HT_.out (by kernel_rfl)) (by decide) (fun K hK => ?_)
   have hs42 : w41.cell? ⟨gb388, 0, none⟩ = some (.int .i64 0) := (blk_cell BK388.out 0).trans rfl
   have hfs42 := blk_frozen BK388.out 0
   have hns42_1 := NB397_388.out
   have hms42_1 := NB388_397.out
   have hs43 : w41.cell? ⟨gb388, 1, none⟩ = some (.string (⟨#[]⟩ : ByteArray)) := (blk_cell BK388.out 1).trans rfl
   have hfs43 := blk_frozen BK388.out 1
   have hns43_1 := NB397_388.out
   have hms43_1 := NB388_397.out
   have hs44 : w41.cell? ⟨gb388, 2, none⟩ = some (.int .i64 0) := (blk_cell BK388.out 2).trans rfl
   have hfs44 := blk_frozen BK388.out 2
   have hns44_1 := NB397_388.out
   have hms44_1 := NB388_397.out
   have hs45 : w41.cell? ⟨gb388, 3, none⟩ = some (.slice none 0 0) := (blk_cell BK388.out 3).trans rfl
   have hfs45 := blk_frozen BK388.out 3
   have hns45_1 := NB397_388.out
   have hms45_1 := NB388_397.out
   refine skip_ (w1 := ?_) (by rfl) rfl ?_ ?_
   rotate_left
   ·go_simp
    rfl
   refine hK.out _ _ ⟨((cell_far (p := ⟨gb388, _, none⟩) NB397_388.out _).trans (((cell_far (p := ⟨gb388, _, none⟩) NB397_388.out _).trans (((cell_far (p := ⟨gb388, _, none⟩) NB397_388.out _).trans (((cell_far (p := ⟨gb388, _, none⟩) NB397_388.out _).trans (hHeld.1)))))))), ((cell_far (p := ⟨gb388, _, none⟩) NB397_388.out _).trans (((cell_far (p := ⟨gb388, _, none⟩) NB397_388.out _).trans (((cell_far (p := ⟨gb388, _, none⟩) NB397_388.out _).trans (((cell_far (p := ⟨gb388, _, none⟩) NB397_388.out _).trans (hHeld.2.1)))))))), ((cell_far (p := ⟨gb388, _, none⟩) NB397_388.out _).trans (((cell_far (p := ⟨gb388, _, none⟩) NB397_388.out _).trans (((cell_far (p := ⟨gb388, _, none⟩) NB397_388.out _).trans (((cell_far (p := ⟨gb388, _, none⟩) NB397_388.out _).trans (hHeld.2.2.1)))))))), ((cell_far (p := ⟨gb388, _, none⟩) NB397_388.out _).trans (((cell_far (p := ⟨gb388, _, none⟩) NB397_388.out _).trans (((cell_far (p := ⟨gb388, _, none⟩) NB397_388.out _).trans (((cell_far (p := ⟨gb388, _, none⟩) NB397_388.out _).trans (hHeld.2.2.2))))))))⟩ (fun hHeld => ?_)
   clear hK K
   refine pu_ (i := 13) (N := some 3) (v := ?_) (a' := ?_) 16383 rfl rfl HT_ (Or.inl ⟨by rfl, ?_⟩) ?_ ?_
   rotate_left
   ·intro w'
    go_simp
    with_reducible rfl
   rotate_left
   ·simp only [pt_]
    rfl
   refine done_ (done_of HT_.out (by kernel_rfl)) ?_
   try go_wp2
   refine bodyPost_ret (results_ct rfl _ _ gb388 70 #[.int .i64 t389, .string t390, .int .i64 t391, .slice Ao39 t392.length co39] (0, 0) _ rfl (a11_) Try.underlying70 rfl (by kernel_rfl)) rfl ?_
   exact ⟨_, a2_, by (with_reducible repeat (first | apply Kd.R_alloc | apply Kd.R_drewN | apply Kd.R_drew)); exact Kd.R_mono (Kd.R_far (p := ⟨gb388, 3, none⟩) (Kd.R_far (p := ⟨gb388, 2, none⟩) (Kd.R_far (p := ⟨gb388, 1, none⟩) (Kd.R_far (p := ⟨gb388, 0, none⟩) (Kd.R_mono HO394.out (fun k_ hk => (⟨hk, hk.1⟩ : _ ∧ k_ ≠ gb388))) (fun _ hk => hk.2) (.int .i64 t389)) (fun _ hk => hk.2) (.string t390)) (fun _ hk => hk.2) (.int .i64 t391)) (fun _ hk => hk.2) (.slice Ao39 t392.length co39)) (fun _ hk => trivial), a10_⟩

/-! ### impl_StepsFault: function 16 -/
def impl_StepsFault.f (k : Nat) (l0 : List (S66)) : Option (Int) := (impl_stepsTree.f k l0).bind fun bt399 => (if bt399.2.2.2.2 = true then (some 0) else (some 1))
theorem impl_StepsFault.a1_ {p : Prop} (h : p := by repeat (first | (with_reducible first | exact HB.out | apply below_alloc | apply pw_below_drewN | apply below_drew1) | exact HB.out)) : p := h
set_option maxHeartbeats 8000000 in
set_option maxRecDepth 100000 in
theorem impl_StepsFault.calls (k : Nat) (A0 : Option Addr) (c0 : Nat) (l0 : List (S66)) (r : Int) (w : World) (hr0 : Kd.C k66 w A0 l0.length l0) (hc0 : l0.length ≤ c0) (h : impl_StepsFault.f k l0 = some r) :
  Calls Try.prog 16 #[.slice A0 l0.length c0] w fun e w' => e = .returned (.int .i64 r) ∧ Below w.heap.size w w' := by
 have hu70 := Try.underlying70
 have HR0 := Aside0.mk hr0
 have HC0 := Aside0.mk hc0
 clear hr0 hc0
 have HB := Aside0.mk (Below.refl w.heap.size w)
 have H : ((impl_stepsTree.f k l0).bind fun bt399 => (if bt399.2.2.2.2 = true then (some 0) else (some 1))) = some r := h
 clear h
 replace H := Option.bind_eq_some_iff.mp H
 obtain ⟨⟨t399, t400, t401, t402, t405⟩, A20, H⟩ := H
 replace H : (if t405 = true then (some 0) else (some 1)) = some r := H
 have A2 := Aside0.mk A20
 clear A20
 by_cases c3 : t405 = true
 ·subst c3
  have H1 : (some 0) = some r := by rw [if_pos rfl] at H; exact H
  clear H
  have H := H1
  clear H1
  obtain rfl := Option.some.inj H
  go_enter Try.func16, Try.ntmps16
  go_wp2_with (first | ((with_reducible refine gate_callee (f := 39) rfl ?_); refine goesL_ (some 7) rfl rfl Try.func39 (by kernel_rfl) rfl #[.slice A0 l0.length c0] rfl (by (try simp only [List.map_toArray, List.map_cons, List.map_nil]); first | done | rfl | (simp only [List.length_drop, List.length_take]; rfl)) ?_; (with_reducible refine (impl_stepsTree.calls k _ _ l0 t399 t400 t401 t402 true _ ?side1 ?side2 A2.out).mono ?_); (case side1 => exact by repeat (first | exact HR0.out | (with_reducible refine Kd.C_alloc ?_ _) | (with_reducible refine Kd.C_drewN ?_ _) | (with_reducible refine Kd.C_drew ?_))); (case side2 => exact HC0.out); rintro e w4 ⟨v403, rfl, ho0, hb⟩; refine ⟨_, rfl, ?_⟩; have n_ := c2_ (Kd.R_lower ho0 (below_size (a1_))) (below_step (a1_) hb); clear HB; obtain ⟨HO404, HB⟩ := n_; (try clear hb); (try clear hb2); (try clear hk); (try clear hi); (try clear ho0)) | ((with_reducible refine gate_dst (N := 3) rfl ?_); refine box_event ?hg (N := 3) ?hd (cs := #[.int .i64 0, .string (⟨#[]⟩ : ByteArray), .int .i64 0, .slice none 0 0]) (t := 70) ?hr ?_; (case hd => rfl); (case hg => rfl); (case hr => first | (go_simp; done) | (go_simp; rfl)); intro gb406 hg w5 hbox hb; have n_ := c5_ (Kd.R_below (Kd.R_elderB (by (with_reducible repeat (first | apply Kd.R_alloc | apply Kd.R_drewN | apply Kd.R_drew)); exact HO404.out) gb406 (Nat.le_of_eq hg.symm)) hb) (below_step (a1_) hb) (hbox) ((by rw [hg]; exact (below_size (a1_)) : w.heap.size ≤ gb406)) ((by rw [hg]; exact (below_size (a1_)) : w.heap.size ≤ gb406)); clear HO404 HB; obtain ⟨HO404, HB, BK406, GW406, GE406⟩ := n_; clear hb hbox hg; have hcz6_0 : w5.cell? ⟨gb406, 0, none⟩ = some (.int .i64 0) := (blk_cell BK406.out 0).trans rfl; have hcz6_1 : w5.cell? ⟨gb406, 1, none⟩ = some (.string (⟨#[]⟩ : ByteArray)) := (blk_cell BK406.out 1).trans rfl; have hcz6_2 : w5.cell? ⟨gb406, 2, none⟩ = some (.int .i64 0) := (blk_cell BK406.out 2).trans rfl; have hcz6_3 : w5.cell? ⟨gb406, 3, none⟩ = some (.slice none 0 0) := (blk_cell BK406.out 3).trans rfl; have hfz6_0 := blk_frozen BK406.out 0; have hfz6_1 := blk_frozen BK406.out 1; have hfz6_2 := blk_frozen BK406.out 2; have hfz6_3 := blk_frozen BK406.out 3; obtain ⟨Ao7, co7, eo7⟩ := Kd.R_slice HO404.out; subst eo7))
  go_ret
  exact ⟨by first | rfl | (simp [errW_none, errW_some] <;> rfl) | (simp [*, errW_none, errW_some] <;> rfl), by repeat (first | (with_reducible first | exact HB.out | apply below_alloc | apply pw_below_drewN | apply below_drew1 | refine below_set ?_ GE406.out) | exact HB.out)⟩
 ·replace c3 := Bool.eq_false_iff.mpr c3
  subst c3
  have H1 : (some 1) = some r := by rw [if_neg (show ¬ (false = true) by decide)] at H; exact H
  clear H
  have H := H1
  clear H1
  obtain rfl := Option.some.inj H
  go_enter Try.func16, Try.ntmps16
  go_wp2_with (first | ((with_reducible refine gate_callee (f := 39) rfl ?_); refine goesL_ (some 7) rfl rfl Try.func39 (by kernel_rfl) rfl #[.slice A0 l0.length c0] rfl (by (try simp only [List.map_toArray, List.map_cons, List.map_nil]); first | done | rfl | (simp only [List.length_drop, List.length_take]; rfl)) ?_; (with_reducible refine (impl_stepsTree.calls k _ _ l0 t399 t400 t401 t402 false _ ?side1 ?side2 A2.out).mono ?_); (case side1 => exact by repeat (first | exact HR0.out | (with_reducible refine Kd.C_alloc ?_ _) | (with_reducible refine Kd.C_drewN ?_ _) | (with_reducible refine Kd.C_drew ?_))); (case side2 => exact HC0.out); rintro e w8 ⟨v403, rfl, ho0, hb⟩; refine ⟨_, rfl, ?_⟩; have n_ := c2_ (Kd.R_lower ho0 (below_size (a1_))) (below_step (a1_) hb); clear HB; obtain ⟨HO404, HB⟩ := n_; (try clear hb); (try clear hb2); (try clear hk); (try clear hi); (try clear ho0)) | ((with_reducible refine gate_dst (N := 3) rfl ?_); refine box_event ?hg (N := 3) ?hd (cs := #[.int .i64 0, .string (⟨#[]⟩ : ByteArray), .int .i64 0, .slice none 0 0]) (t := 70) ?hr ?_; (case hd => rfl); (case hg => rfl); (case hr => first | (go_simp; done) | (go_simp; rfl)); intro gb406 hg w9 hbox hb; have n_ := c5_ (Kd.R_below (Kd.R_elderB (by (with_reducible repeat (first | apply Kd.R_alloc | apply Kd.R_drewN | apply Kd.R_drew)); exact HO404.out) gb406 (Nat.le_of_eq hg.symm)) hb) (below_step (a1_) hb) (hbox) ((by rw [hg]; exact (below_size (a1_)) : w.heap.size ≤ gb406)) ((by rw [hg]; exact (below_size (a1_)) : w.heap.size ≤ gb406)); clear HO404 HB; obtain ⟨HO404, HB, BK406, GW406, GE406⟩ := n_; clear hb hbox hg; have hcz10_0 : w9.cell? ⟨gb406, 0, none⟩ = some (.int .i64 0) := (blk_cell BK406.out 0).trans rfl; have hcz10_1 : w9.cell? ⟨gb406, 1, none⟩ = some (.string (⟨#[]⟩ : ByteArray)) := (blk_cell BK406.out 1).trans rfl; have hcz10_2 : w9.cell? ⟨gb406, 2, none⟩ = some (.int .i64 0) := (blk_cell BK406.out 2).trans rfl; have hcz10_3 : w9.cell? ⟨gb406, 3, none⟩ = some (.slice none 0 0) := (blk_cell BK406.out 3).trans rfl; have hfz10_0 := blk_frozen BK406.out 0; have hfz10_1 := blk_frozen BK406.out 1; have hfz10_2 := blk_frozen BK406.out 2; have hfz10_3 := blk_frozen BK406.out 3; obtain ⟨Ao11, co11, eo11⟩ := Kd.R_slice HO404.out; subst eo11))
  go_ret
  exact ⟨by first | rfl | (simp [errW_none, errW_some] <;> rfl) | (simp [*, errW_none, errW_some] <;> rfl), by repeat (first | (with_reducible first | exact HB.out | apply below_alloc | apply pw_below_drewN | apply below_drew1 | refine below_set ?_ GE406.out) | exact HB.out)⟩

/-! ### laws_eqPathStep: function 40 -/
def laws_eqPathStep.f (a0_0 : Int) (a0_1 : ByteArray) (a0_2 : Int) (a1_0 : Int) (a1_1 : ByteArray) (a1_2 : Int) : Option (Bool) := if a0_0 = a1_0 then (if a0_1.toList = a1_1.toList then (if a0_2 = a1_2 then (some true) else (some false)) else (some false)) else (some false)
theorem laws_eqPathStep.a1_ {p : Prop} (h : p := by repeat (first | (with_reducible first | exact HB.out | apply below_alloc | apply pw_below_drewN | apply below_drew1) | exact HB.out)) : p := h
theorem laws_eqPathStep.a2_ {p : Prop} (h : p := by (with_reducible repeat (first | refine blk_drewN ?_ _ | refine blk_drew ?_ | refine blk_alloc ?_ _)); exact BK407.out) : p := h
theorem laws_eqPathStep.a3_ {p : Prop} (h : p := by repeat (first | (with_reducible first | exact HB.out | apply below_alloc | apply pw_below_drewN | apply below_drew1 | refine below_set ?_ GE407.out) | exact HB.out)) : p := h
theorem laws_eqPathStep.a4_ {p : Prop} (h : p := by first | rfl | (simp [errW_none, errW_some] <;> rfl) | (simp [*, errW_none, errW_some] <;> rfl)) : p := h
theorem laws_eqPathStep.a5_ {p : Prop} (h : p := by repeat (first | (with_reducible first | exact HB.out | apply below_alloc | apply pw_below_drewN | apply below_drew1 | refine below_set ?_ GE407.out | refine below_set ?_ GE408.out) | exact HB.out)) : p := h
set_option maxHeartbeats 8000000 in
set_option maxRecDepth 100000 in
theorem laws_eqPathStep.calls (a0_0 : Int) (a0_1 : ByteArray) (a0_2 : Int) (a1_0 : Int) (a1_1 : ByteArray) (a1_2 : Int) (r : Bool) (w : World) (h : laws_eqPathStep.f a0_0 a0_1 a0_2 a1_0 a1_1 a1_2 = some r) :
  Calls Try.prog 40 #[.agg #[.int .i64 a0_0, .string a0_1, .int .i64 a0_2], .agg #[.int .i64 a1_0, .string a1_1, .int .i64 a1_2]] w fun e w' => e = .returned (.bool r) ∧ Below w.heap.size w w' := by
 have hu66 := Try.underlying66
 have HB := Aside0.mk (Below.refl w.heap.size w)
 have H : (if a0_0 = a1_0 then (if a0_1.toList = a1_1.toList then (if a0_2 = a1_2 then (some true) else (some false)) else (some false)) else (some false)) = some r := h
 clear h
 by_cases c3 : a0_0 = a1_0
 ·rw [if_pos c3] at H
  have c3b0 : (a0_0 == a1_0) = true := beq_iff_eq.mpr c3
  have c3b1 : (a0_0 != a1_0) = false := bne_eq_false_iff_eq.mpr c3
  clear c3
  by_cases c4 : a0_1.toList = a1_1.toList
  ·rw [if_pos c4] at H
   have c4b0 : (a0_1.toList == a1_1.toList) = true := beq_iff_eq.mpr c4
   have c4b1 : (a0_1.toList != a1_1.toList) = false := bne_eq_false_iff_eq.mpr c4
   clear c4
   by_cases c5 : a0_2 = a1_2
   ·rw [if_pos c5] at H
    have c5b0 : (a0_2 == a1_2) = true := beq_iff_eq.mpr c5
    have c5b1 : (a0_2 != a1_2) = false := bne_eq_false_iff_eq.mpr c5
    clear c5
    obtain rfl := Option.some.inj H
    go_enter Try.func40, Try.ntmps40
    go_wp2_with (first | ((with_reducible refine gate_dst (N := 2) rfl ?_); refine box_event ?hg (N := 2) ?hd (cs := #[.int .i64 a0_0, .string a0_1, .int .i64 a0_2]) (t := 66) ?hr ?_; (case hd => rfl); (case hg => rfl); (case hr => first | (go_simp; done) | (go_simp; rfl)); intro gb407 hg w6 hbox hb; have n_ := c4_ (below_step (a1_) hb) (hbox) ((by rw [hg]; exact (below_size (a1_)) : w.heap.size ≤ gb407)) ((by rw [hg]; exact (below_size (a1_)) : w.heap.size ≤ gb407)); clear HB; obtain ⟨HB, BK407, GW407, GE407⟩ := n_; clear hb hbox hg) | ((with_reducible refine gate_dst (N := 3) rfl ?_); refine box_event ?hg (N := 3) ?hd (cs := #[.int .i64 a1_0, .string a1_1, .int .i64 a1_2]) (t := 66) ?hr ?_; (case hd => rfl); (case hg => rfl); (case hr => first | (go_simp; done) | (go_simp; rfl)); intro gb408 hg w7 hbox hb; have n_ := c7_ (blk_below (g := gb407) (o := .cells #[.int .i64 a0_0, .string a0_1, .int .i64 a0_2] 66 (0, 0)) (a2_) hb) (below_step (a3_) hb) (hbox) ((by rw [hg]; exact (below_size (a3_)) : w.heap.size ≤ gb408)) ((by rw [hg]; exact (below_size (a3_)) : w.heap.size ≤ gb408)) ((by rw [hg]; exact Nat.ne_of_lt (blk_lt (g := gb407) (o := .cells #[.int .i64 a0_0, .string a0_1, .int .i64 a0_2] 66 (0, 0)) (a2_)) : gb407 ≠ gb408)) ((by rw [hg]; exact Nat.ne_of_gt (blk_lt (g := gb407) (o := .cells #[.int .i64 a0_0, .string a0_1, .int .i64 a0_2] 66 (0, 0)) (a2_)) : gb408 ≠ gb407)); clear BK407 HB; obtain ⟨BK407, HB, BK408, GW408, GE408, NB407_408, NB408_407⟩ := n_; clear hb hbox hg; have hnb8 := NB407_408.out; have hnc8 := NB408_407.out; have hcz9_0 : w7.cell? ⟨gb407, 0, none⟩ = some (.int .i64 a0_0) := (blk_cell BK407.out 0).trans rfl; have hcz9_1 : w7.cell? ⟨gb407, 1, none⟩ = some (.string a0_1) := (blk_cell BK407.out 1).trans rfl; have hcz9_2 : w7.cell? ⟨gb407, 2, none⟩ = some (.int .i64 a0_2) := (blk_cell BK407.out 2).trans rfl; have hfz9_0 := blk_frozen BK407.out 0; have hfz9_1 := blk_frozen BK407.out 1; have hfz9_2 := blk_frozen BK407.out 2; have hcz10_0 : w7.cell? ⟨gb408, 0, none⟩ = some (.int .i64 a1_0) := (blk_cell BK408.out 0).trans rfl; have hcz10_1 : w7.cell? ⟨gb408, 1, none⟩ = some (.string a1_1) := (blk_cell BK408.out 1).trans rfl; have hcz10_2 : w7.cell? ⟨gb408, 2, none⟩ = some (.int .i64 a1_2) := (blk_cell BK408.out 2).trans rfl; have hfz10_0 := blk_frozen BK408.out 0; have hfz10_1 := blk_frozen BK408.out 1; have hfz10_2 := blk_frozen BK408.out 2))
    go_ret
    exact ⟨a4_, a5_⟩
   ·rw [if_neg c5] at H
    have c5b0 : (a0_2 == a1_2) = false := beq_eq_false_iff_ne.mpr c5
    have c5b1 : (a0_2 != a1_2) = true := bne_iff_ne.mpr c5
    obtain rfl := Option.some.inj H
    go_enter Try.func40, Try.ntmps40
    go_wp2_with (first | ((with_reducible refine gate_dst (N := 2) rfl ?_); refine box_event ?hg (N := 2) ?hd (cs := #[.int .i64 a0_0, .string a0_1, .int .i64 a0_2]) (t := 66) ?hr ?_; (case hd => rfl); (case hg => rfl); (case hr => first | (go_simp; done) | (go_simp; rfl)); intro gb407 hg w11 hbox hb; have n_ := c4_ (below_step (a1_) hb) (hbox) ((by rw [hg]; exact (below_size (a1_)) : w.heap.size ≤ gb407)) ((by rw [hg]; exact (below_size (a1_)) : w.heap.size ≤ gb407)); clear HB; obtain ⟨HB, BK407, GW407, GE407⟩ := n_; clear hb hbox hg) | ((with_reducible refine gate_dst (N := 3) rfl ?_); refine box_event ?hg (N := 3) ?hd (cs := #[.int .i64 a1_0, .string a1_1, .int .i64 a1_2]) (t := 66) ?hr ?_; (case hd => rfl); (case hg => rfl); (case hr => first | (go_simp; done) | (go_simp; rfl)); intro gb408 hg w12 hbox hb; have n_ := c7_ (blk_below (g := gb407) (o := .cells #[.int .i64 a0_0, .string a0_1, .int .i64 a0_2] 66 (0, 0)) (a2_) hb) (below_step (a3_) hb) (hbox) ((by rw [hg]; exact (below_size (a3_)) : w.heap.size ≤ gb408)) ((by rw [hg]; exact (below_size (a3_)) : w.heap.size ≤ gb408)) ((by rw [hg]; exact Nat.ne_of_lt (blk_lt (g := gb407) (o := .cells #[.int .i64 a0_0, .string a0_1, .int .i64 a0_2] 66 (0, 0)) (a2_)) : gb407 ≠ gb408)) ((by rw [hg]; exact Nat.ne_of_gt (blk_lt (g := gb407) (o := .cells #[.int .i64 a0_0, .string a0_1, .int .i64 a0_2] 66 (0, 0)) (a2_)) : gb408 ≠ gb407)); clear BK407 HB; obtain ⟨BK407, HB, BK408, GW408, GE408, NB407_408, NB408_407⟩ := n_; clear hb hbox hg; have hnb13 := NB407_408.out; have hnc13 := NB408_407.out; have hcz14_0 : w12.cell? ⟨gb407, 0, none⟩ = some (.int .i64 a0_0) := (blk_cell BK407.out 0).trans rfl; have hcz14_1 : w12.cell? ⟨gb407, 1, none⟩ = some (.string a0_1) := (blk_cell BK407.out 1).trans rfl; have hcz14_2 : w12.cell? ⟨gb407, 2, none⟩ = some (.int .i64 a0_2) := (blk_cell BK407.out 2).trans rfl; have hfz14_0 := blk_frozen BK407.out 0; have hfz14_1 := blk_frozen BK407.out 1; have hfz14_2 := blk_frozen BK407.out 2; have hcz15_0 : w12.cell? ⟨gb408, 0, none⟩ = some (.int .i64 a1_0) := (blk_cell BK408.out 0).trans rfl; have hcz15_1 : w12.cell? ⟨gb408, 1, none⟩ = some (.string a1_1) := (blk_cell BK408.out 1).trans rfl; have hcz15_2 : w12.cell? ⟨gb408, 2, none⟩ = some (.int .i64 a1_2) := (blk_cell BK408.out 2).trans rfl; have hfz15_0 := blk_frozen BK408.out 0; have hfz15_1 := blk_frozen BK408.out 1; have hfz15_2 := blk_frozen BK408.out 2))
    go_ret
    exact ⟨a4_, a5_⟩
  ·rw [if_neg c4] at H
   have c4b0 : (a0_1.toList == a1_1.toList) = false := beq_eq_false_iff_ne.mpr c4
   have c4b1 : (a0_1.toList != a1_1.toList) = true := bne_iff_ne.mpr c4
   obtain rfl := Option.some.inj H
   go_enter Try.func40, Try.ntmps40
   go_wp2_with (first | ((with_reducible refine gate_dst (N := 2) rfl ?_); refine box_event ?hg (N := 2) ?hd (cs := #[.int .i64 a0_0, .string a0_1, .int .i64 a0_2]) (t := 66) ?hr ?_; (case hd => rfl); (case hg => rfl); (case hr => first | (go_simp; done) | (go_simp; rfl)); intro gb407 hg w16 hbox hb; have n_ := c4_ (below_step (a1_) hb) (hbox) ((by rw [hg]; exact (below_size (a1_)) : w.heap.size ≤ gb407)) ((by rw [hg]; exact (below_size (a1_)) : w.heap.size ≤ gb407)); clear HB; obtain ⟨HB, BK407, GW407, GE407⟩ := n_; clear hb hbox hg) | ((with_reducible refine gate_dst (N := 3) rfl ?_); refine box_event ?hg (N := 3) ?hd (cs := #[.int .i64 a1_0, .string a1_1, .int .i64 a1_2]) (t := 66) ?hr ?_; (case hd => rfl); (case hg => rfl); (case hr => first | (go_simp; done) | (go_simp; rfl)); intro gb408 hg w17 hbox hb; have n_ := c7_ (blk_below (g := gb407) (o := .cells #[.int .i64 a0_0, .string a0_1, .int .i64 a0_2] 66 (0, 0)) (a2_) hb) (below_step (a3_) hb) (hbox) ((by rw [hg]; exact (below_size (a3_)) : w.heap.size ≤ gb408)) ((by rw [hg]; exact (below_size (a3_)) : w.heap.size ≤ gb408)) ((by rw [hg]; exact Nat.ne_of_lt (blk_lt (g := gb407) (o := .cells #[.int .i64 a0_0, .string a0_1, .int .i64 a0_2] 66 (0, 0)) (a2_)) : gb407 ≠ gb408)) ((by rw [hg]; exact Nat.ne_of_gt (blk_lt (g := gb407) (o := .cells #[.int .i64 a0_0, .string a0_1, .int .i64 a0_2] 66 (0, 0)) (a2_)) : gb408 ≠ gb407)); clear BK407 HB; obtain ⟨BK407, HB, BK408, GW408, GE408, NB407_408, NB408_407⟩ := n_; clear hb hbox hg; have hnb18 := NB407_408.out; have hnc18 := NB408_407.out; have hcz19_0 : w17.cell? ⟨gb407, 0, none⟩ = some (.int .i64 a0_0) := (blk_cell BK407.out 0).trans rfl; have hcz19_1 : w17.cell? ⟨gb407, 1, none⟩ = some (.string a0_1) := (blk_cell BK407.out 1).trans rfl; have hcz19_2 : w17.cell? ⟨gb407, 2, none⟩ = some (.int .i64 a0_2) := (blk_cell BK407.out 2).trans rfl; have hfz19_0 := blk_frozen BK407.out 0; have hfz19_1 := blk_frozen BK407.out 1; have hfz19_2 := blk_frozen BK407.out 2; have hcz20_0 : w17.cell? ⟨gb408, 0, none⟩ = some (.int .i64 a1_0) := (blk_cell BK408.out 0).trans rfl; have hcz20_1 : w17.cell? ⟨gb408, 1, none⟩ = some (.string a1_1) := (blk_cell BK408.out 1).trans rfl; have hcz20_2 : w17.cell? ⟨gb408, 2, none⟩ = some (.int .i64 a1_2) := (blk_cell BK408.out 2).trans rfl; have hfz20_0 := blk_frozen BK408.out 0; have hfz20_1 := blk_frozen BK408.out 1; have hfz20_2 := blk_frozen BK408.out 2))
   go_ret
   exact ⟨a4_, a5_⟩
 ·rw [if_neg c3] at H
  have c3b0 : (a0_0 == a1_0) = false := beq_eq_false_iff_ne.mpr c3
  have c3b1 : (a0_0 != a1_0) = true := bne_iff_ne.mpr c3
  obtain rfl := Option.some.inj H
  go_enter Try.func40, Try.ntmps40
  go_wp2_with (first | ((with_reducible refine gate_dst (N := 2) rfl ?_); refine box_event ?hg (N := 2) ?hd (cs := #[.int .i64 a0_0, .string a0_1, .int .i64 a0_2]) (t := 66) ?hr ?_; (case hd => rfl); (case hg => rfl); (case hr => first | (go_simp; done) | (go_simp; rfl)); intro gb407 hg w21 hbox hb; have n_ := c4_ (below_step (a1_) hb) (hbox) ((by rw [hg]; exact (below_size (a1_)) : w.heap.size ≤ gb407)) ((by rw [hg]; exact (below_size (a1_)) : w.heap.size ≤ gb407)); clear HB; obtain ⟨HB, BK407, GW407, GE407⟩ := n_; clear hb hbox hg) | ((with_reducible refine gate_dst (N := 3) rfl ?_); refine box_event ?hg (N := 3) ?hd (cs := #[.int .i64 a1_0, .string a1_1, .int .i64 a1_2]) (t := 66) ?hr ?_; (case hd => rfl); (case hg => rfl); (case hr => first | (go_simp; done) | (go_simp; rfl)); intro gb408 hg w22 hbox hb; have n_ := c7_ (blk_below (g := gb407) (o := .cells #[.int .i64 a0_0, .string a0_1, .int .i64 a0_2] 66 (0, 0)) (a2_) hb) (below_step (a3_) hb) (hbox) ((by rw [hg]; exact (below_size (a3_)) : w.heap.size ≤ gb408)) ((by rw [hg]; exact (below_size (a3_)) : w.heap.size ≤ gb408)) ((by rw [hg]; exact Nat.ne_of_lt (blk_lt (g := gb407) (o := .cells #[.int .i64 a0_0, .string a0_1, .int .i64 a0_2] 66 (0, 0)) (a2_)) : gb407 ≠ gb408)) ((by rw [hg]; exact Nat.ne_of_gt (blk_lt (g := gb407) (o := .cells #[.int .i64 a0_0, .string a0_1, .int .i64 a0_2] 66 (0, 0)) (a2_)) : gb408 ≠ gb407)); clear BK407 HB; obtain ⟨BK407, HB, BK408, GW408, GE408, NB407_408, NB408_407⟩ := n_; clear hb hbox hg; have hnb23 := NB407_408.out; have hnc23 := NB408_407.out; have hcz24_0 : w22.cell? ⟨gb407, 0, none⟩ = some (.int .i64 a0_0) := (blk_cell BK407.out 0).trans rfl; have hcz24_1 : w22.cell? ⟨gb407, 1, none⟩ = some (.string a0_1) := (blk_cell BK407.out 1).trans rfl; have hcz24_2 : w22.cell? ⟨gb407, 2, none⟩ = some (.int .i64 a0_2) := (blk_cell BK407.out 2).trans rfl; have hfz24_0 := blk_frozen BK407.out 0; have hfz24_1 := blk_frozen BK407.out 1; have hfz24_2 := blk_frozen BK407.out 2; have hcz25_0 : w22.cell? ⟨gb408, 0, none⟩ = some (.int .i64 a1_0) := (blk_cell BK408.out 0).trans rfl; have hcz25_1 : w22.cell? ⟨gb408, 1, none⟩ = some (.string a1_1) := (blk_cell BK408.out 1).trans rfl; have hcz25_2 : w22.cell? ⟨gb408, 2, none⟩ = some (.int .i64 a1_2) := (blk_cell BK408.out 2).trans rfl; have hfz25_0 := blk_frozen BK408.out 0; have hfz25_1 := blk_frozen BK408.out 1; have hfz25_2 := blk_frozen BK408.out 2))
  go_ret
  exact ⟨a4_, a5_⟩

end Go.Proofs.Ytmecapnpgedcnaa.PFnExactStepsFault
