/- Walks of Go functions, written by program out of the print of the translation, with contracts of our own where the print has none. -/
import Derived.Test.YtelfhdblldapmaaPFnExactLabelsFitx0
import Derived.Test.YtelfhdblldapmaaPFnExactLabelsFitx1
import Derived.Test.YtelfhdblldapmaaPFnExactLabelsFitx5
import Derived.Test.YtelfhdblldapmaaPFnExactLabelsFitx8
namespace Go.Proofs.Ytelfhdblldapmaa.PFnExactLabelsFit
open Go.RowKit Go.Proofs.YtelfhdblldapmaaW.PrintWords Go.Proofs.YtelfhdblldapmaaW.PrintLast Go.Proofs.YtelfhdblldapmaaW.PrintMore
attribute [local go_sem] max2_int min2_int max_two min_two max_three min_three max_four min_four   -- for this text's walks alone
set_option linter.unusedVariables false
set_option linter.unusedSimpArgs false

/-! ### impl_test_fits: function 26 -/
mutual
def impl_test_fits.l0 : Nat → List ByteArray → List (S49) → Int → Int → Int → ByteArray → List (S49) → Option (Bool)
 | 0, _, _, _, _, _, _, _ => none
 | k + 1, x1, x25, x26, x27, x353000, x353001, x353002 => if x27 < x26 then (if 0 ≤ x27 then (if x27 < (x25.length : Int) then ((impl_test_fits.f k ((rd_T49 x25 x27).f0) ((rd_T49 x25 x27).f1) ((rd_T49 x25 x27).f2) x1).bind fun t358 => (if (t358 != (x353000 == 38)) = true then (some (x353000 == 124)) else (impl_test_fits.l0 k x1 x25 x26 (wrap64 (x27 + 1)) x353000 x353001 x353002))) else (none)) else (none)) else (some (x353000 == 38))
def impl_test_fits.f : Nat → Int → ByteArray → List (S49) → List ByteArray → Option (Bool)
 | 0, _, _, _, _ => none
 | k + 1, a0_0, a0_1, l0_2, l1 => if a0_0 = 0 then ((slices_Contains_string_string.f k l1 a0_1).bind fun t353 => (some t353)) else (if a0_0 = 33 then (if 0 < (l0_2.length : Int) then ((impl_test_fits.f k ((rd_T49 l0_2 0).f0) ((rd_T49 l0_2 0).f1) ((rd_T49 l0_2 0).f2) l1).bind fun t355 => (some (!t355))) else (none)) else (impl_test_fits.l0 k l1 l0_2 (l0_2.length : Int) 0 a0_0 a0_1 l0_2))
end
theorem impl_test_fits.mono_l : ∀ k, (∀ y0 y1 y2 y3, LeO (impl_test_fits.f k y0 y1 y2 y3) (impl_test_fits.f (k + 1) y0 y1 y2 y3)) ∧ (∀ y0 y1 y2 y3 y4 y5 y6, LeO (impl_test_fits.l0 k y0 y1 y2 y3 y4 y5 y6) (impl_test_fits.l0 (k + 1) y0 y1 y2 y3 y4 y5 y6))
 | 0 => ⟨fun _ _ _ _ r h => by simp [impl_test_fits.f] at h, fun _ _ _ _ _ _ _ r h => by simp [impl_test_fits.l0] at h⟩
 | k + 1 => by
  obtain ⟨ih0, ih1⟩ := impl_test_fits.mono_l k
  refine ⟨?_, ?_⟩
  ·intro y0 y1 y2 y3
   unfold impl_test_fits.f
   repeat' first
   | (with_reducible exact ih0 _ _ _ _)
   | (with_reducible exact ih1 _ _ _ _ _ _ _)
   | (with_reducible exact slices_Contains_string_string.mono _ _ _)
   | (with_reducible exact LeO.refl _)
   | (with_reducible exact LeO.none _)
   | (with_reducible refine LeO.ite ?_ ?_)
   | (with_reducible refine LeO.bind ?_ (fun _ => ?_))
   | exact ih0 _ _ _ _
   | exact ih1 _ _ _ _ _ _ _
   | exact slices_Contains_string_string.mono _ _ _
   | exact LeO.none _
   | refine LeO.ite ?_ ?_
   | refine LeO.bind ?_ (fun _ => ?_)
  ·intro y0 y1 y2 y3 y4 y5 y6
   unfold impl_test_fits.l0
   repeat' first
   | (with_reducible exact ih0 _ _ _ _)
   | (with_reducible exact ih1 _ _ _ _ _ _ _)
   | (with_reducible exact slices_Contains_string_string.mono _ _ _)
   | (with_reducible exact LeO.refl _)
   | (with_reducible exact LeO.none _)
   | (with_reducible refine LeO.ite ?_ ?_)
   | (with_reducible refine LeO.bind ?_ (fun _ => ?_))
   | exact ih0 _ _ _ _
   | exact ih1 _ _ _ _ _ _ _
   | exact slices_Contains_string_string.mono _ _ _
   | exact LeO.none _
   | refine LeO.ite ?_ ?_
   | refine LeO.bind ?_ (fun _ => ?_)
theorem impl_test_fits.mono : ∀ a0 a1 a2 a3 k, LeO (impl_test_fits.f k a0 a1 a2 a3) (impl_test_fits.f (k + 1) a0 a1 a2 a3) := by
 intro a0 a1 a2 a3 k
 obtain ⟨ih0, ih1⟩ := impl_test_fits.mono_l k
 exact ih0 a0 a1 a2 a3
theorem impl_test_fits.a1_ {p : Prop} (h : p := by repeat (first | (with_reducible first | exact HB.out | apply below_alloc | apply pw_below_drewN | apply below_drew1) | exact HB.out)) : p := h
theorem impl_test_fits.a2_ {p : Prop} (h : p := by (try simp only [List.map_toArray, List.map_cons, List.map_nil]); first | done | rfl | (simp only [List.length_drop, List.length_take]; rfl)) : p := h
theorem impl_test_fits.a3_ {p : Prop} (h : p := by repeat (first | exact (Kd.C_below HR1.out HB.out) | (with_reducible refine Kd.C_alloc ?_ _) | (with_reducible refine Kd.C_drewN ?_ _) | (with_reducible refine Kd.C_drew ?_))) : p := h
theorem impl_test_fits.a4_ {p : Prop} (h : p := by first | rfl | (simp [errW_none, errW_some] <;> rfl) | (simp [*, errW_none, errW_some] <;> rfl)) : p := h
theorem impl_test_fits.a5_ {p : Prop} (h : p := by repeat (first | (with_reducible first | exact HB.out | apply below_alloc | apply pw_below_drewN | apply below_drew1 | refine below_set ?_ GE352.out) | exact HB.out)) : p := h
theorem impl_test_fits.a6_ {p : Prop} (h : p := by (with_reducible repeat (first | refine blk_drewN ?_ _ | refine blk_drew ?_ | refine blk_alloc ?_ _)); exact BK352.out) : p := h
theorem impl_test_fits.a7_ {p : Prop} (h : p := by (with_reducible repeat (first | refine blk_drewN ?_ _ | refine blk_drew ?_ | refine blk_alloc ?_ _)); refine blk_far ?_ NB352_357.out _; (with_reducible repeat (first | refine blk_drewN ?_ _ | refine blk_drew ?_ | refine blk_alloc ?_ _)); refine blk_far ?_ NB352_357.out _; (with_reducible repeat (first | refine blk_drewN ?_ _ | refine blk_drew ?_ | refine blk_alloc ?_ _)); refine blk_far ?_ NB352_357.out _; (with_reducible repeat (first | refine blk_drewN ?_ _ | refine blk_drew ?_ | refine blk_alloc ?_ _)); exact BK352.out) : p := h
theorem impl_test_fits.a8_ {p : Prop} (h : p := by (with_reducible repeat (first | refine blk_drewN ?_ _ | refine blk_drew ?_ | refine blk_alloc ?_ _)); refine blk_put (cs := #[.int .u8 ((rd_T49 l0_2 x27_1).f0), .string ((rd_T49 l0_2 x27_1).f1), .slice none 0 0]) ?_ 2 _ rfl; (with_reducible repeat (first | refine blk_drewN ?_ _ | refine blk_drew ?_ | refine blk_alloc ?_ _)); refine blk_put (cs := #[.int .u8 ((rd_T49 l0_2 x27_1).f0), .string (⟨#[]⟩ : ByteArray), .slice none 0 0]) ?_ 1 _ rfl; (with_reducible repeat (first | refine blk_drewN ?_ _ | refine blk_drew ?_ | refine blk_alloc ?_ _)); refine blk_put (cs := #[.int .u8 0, .string (⟨#[]⟩ : ByteArray), .slice none 0 0]) ?_ 0 _ rfl; (with_reducible repeat (first | refine blk_drewN ?_ _ | refine blk_drew ?_ | refine blk_alloc ?_ _)); exact BK357.out) : p := h
theorem impl_test_fits.a9_ {p : Prop} (h : p := by repeat (first | (with_reducible first | exact HB.out | apply below_alloc | apply pw_below_drewN | apply below_drew1 | refine below_set ?_ GE352.out | refine below_set ?_ GE357.out) | exact HB.out)) : p := h
set_option maxHeartbeats 8000000 in
set_option maxRecDepth 100000 in
theorem impl_test_fits.calls (k : Nat) : ∀ (a0_0 : Int) (a0_1 : ByteArray) (A0_2 : Option Addr) (c0_2 : Nat) (l0_2 : List (S49)) (A1 : Option Addr) (c1 : Nat) (l1 : List ByteArray) (r : Bool) (w : World) (hr0_2 : Kd.C k49 w A0_2 l0_2.length l0_2) (hc0_2 : l0_2.length ≤ c0_2) (hr1 : Kd.C Kd.string w A1 l1.length l1) (hc1 : l1.length ≤ c1) (h : impl_test_fits.f k a0_0 a0_1 l0_2 l1 = some r),
  Calls Try.prog 26 #[.agg #[.int .u8 a0_0, .string a0_1, .slice A0_2 l0_2.length c0_2], .slice A1 l1.length c1] w fun e w' => e = .returned (.bool r) ∧ Below w.heap.size w w' := by
 induction k using Nat.strongRecOn with
 | _ k ih =>
 intro a0_0 a0_1 A0_2 c0_2 l0_2 A1 c1 l1 r w hr0_2 hc0_2 hr1 hc1 h
 cases k with
 | zero => exact absurd h (by simp [impl_test_fits.f])
 | succ k =>
 simp only [impl_test_fits.f] at h
 have hu49 := Try.underlying49
 have HR0_2 := Aside0.mk hr0_2
 have HC0_2 := Aside0.mk hc0_2
 clear hr0_2 hc0_2
 have HR1 := Aside0.mk hr1
 have HC1 := Aside0.mk hc1
 clear hr1 hc1
 have HB := Aside0.mk (Below.refl w.heap.size w)
 have H : (if a0_0 = 0 then ((slices_Contains_string_string.f k l1 a0_1).bind fun t353 => (some t353)) else (if a0_0 = 33 then (if 0 < (l0_2.length : Int) then ((impl_test_fits.f k ((rd_T49 l0_2 0).f0) ((rd_T49 l0_2 0).f1) ((rd_T49 l0_2 0).f2) l1).bind fun t355 => (some (!t355))) else (none)) else (impl_test_fits.l0 k l1 l0_2 (l0_2.length : Int) 0 a0_0 a0_1 l0_2))) = some r := h
 clear h
 by_cases c3 : a0_0 = 0
 ·rw [if_pos c3] at H
  have c3b0 : (a0_0 == 0) = true := beq_iff_eq.mpr c3
  have c3b1 : (a0_0 != 0) = false := bne_eq_false_iff_eq.mpr c3
  clear c3
  replace H := Option.bind_eq_some_iff.mp H
  obtain ⟨t353, A40, H⟩ := H
  replace H : (some t353) = some r := H
  have A4 := Aside0.mk A40
  clear A40
  obtain rfl := Option.some.inj H
  go_enter Try.func26, Try.ntmps26
  go_wp2_with (first | ((with_reducible refine gate_dst (N := 2) rfl ?_); refine box_event ?hg (N := 2) ?hd (cs := #[.int .u8 a0_0, .string a0_1, .slice A0_2 l0_2.length c0_2]) (t := 49) ?hr ?_; (case hd => rfl); (case hg => rfl); (case hr => first | (go_simp; done) | (go_simp; rfl)); intro gb352 hg w5 hbox hb; have n_ := c4_ (below_step (a1_) hb) (hbox) ((by rw [hg]; exact (below_size (a1_)) : w.heap.size ≤ gb352)) ((by rw [hg]; exact (below_size (a1_)) : w.heap.size ≤ gb352)); clear HB; obtain ⟨HB, BK352, GW352, GE352⟩ := n_; clear hb hbox hg; have hcz6_0 : w5.cell? ⟨gb352, 0, none⟩ = some (.int .u8 a0_0) := (blk_cell BK352.out 0).trans rfl; have hcz6_1 : w5.cell? ⟨gb352, 1, none⟩ = some (.string a0_1) := (blk_cell BK352.out 1).trans rfl; have hcz6_2 : w5.cell? ⟨gb352, 2, none⟩ = some (.slice A0_2 l0_2.length c0_2) := (blk_cell BK352.out 2).trans rfl; have hfz6_0 := blk_frozen BK352.out 0; have hfz6_1 := blk_frozen BK352.out 1; have hfz6_2 := blk_frozen BK352.out 2) | ((with_reducible refine gate_callee (f := 43) rfl ?_); refine goesL_ (some 14) rfl rfl Try.func43 (by kernel_rfl) rfl #[.slice A1 l1.length c1, .string a0_1] rfl (a2_) ?_; (with_reducible refine (slices_Contains_string_string.calls k _ _ l1 a0_1 t353 _ ?side1 ?side2 A4.out).mono ?_); (case side1 => exact a3_); (case side2 => exact HC1.out); rintro e w' ⟨rfl, ⟨nd, rfl⟩⟩; refine ⟨_, rfl, ?_⟩))
  go_ret
  exact ⟨a4_, a5_⟩
 ·rw [if_neg c3] at H
  have c3b0 : (a0_0 == 0) = false := beq_eq_false_iff_ne.mpr c3
  have c3b1 : (a0_0 != 0) = true := bne_iff_ne.mpr c3
  by_cases c7 : a0_0 = 33
  ·rw [if_pos c7] at H
   have c7b0 : (a0_0 == 33) = true := beq_iff_eq.mpr c7
   have c7b1 : (a0_0 != 33) = false := bne_eq_false_iff_eq.mpr c7
   clear c7
   by_cases c8 : 0 < (l0_2.length : Int)
   ·rw [if_pos c8] at H
    have c8b0 : decide (0 < (l0_2.length : Int)) = true := decide_eq_true c8
    have c8b1 : decide (0 < l0_2.length) = true := decide_eq_true (by omega)
    clear c8
    replace H := Option.bind_eq_some_iff.mp H
    obtain ⟨t355, A90, H⟩ := H
    replace H : (some (!t355)) = some r := H
    have A9 := Aside0.mk A90
    clear A90
    obtain rfl := Option.some.inj H
    go_enter Try.func26, Try.ntmps26
    go_wp2_with (first | ((with_reducible refine gate_dst (N := 2) rfl ?_); refine box_event ?hg (N := 2) ?hd (cs := #[.int .u8 a0_0, .string a0_1, .slice A0_2 l0_2.length c0_2]) (t := 49) ?hr ?_; (case hd => rfl); (case hg => rfl); (case hr => first | (go_simp; done) | (go_simp; rfl)); intro gb352 hg w10 hbox hb; have n_ := c4_ (below_step (a1_) hb) (hbox) ((by rw [hg]; exact (below_size (a1_)) : w.heap.size ≤ gb352)) ((by rw [hg]; exact (below_size (a1_)) : w.heap.size ≤ gb352)); clear HB; obtain ⟨HB, BK352, GW352, GE352⟩ := n_; clear hb hbox hg; have hcz11_0 : w10.cell? ⟨gb352, 0, none⟩ = some (.int .u8 a0_0) := (blk_cell BK352.out 0).trans rfl; have hcz11_1 : w10.cell? ⟨gb352, 1, none⟩ = some (.string a0_1) := (blk_cell BK352.out 1).trans rfl; have hcz11_2 : w10.cell? ⟨gb352, 2, none⟩ = some (.slice A0_2 l0_2.length c0_2) := (blk_cell BK352.out 2).trans rfl; have hfz11_0 := blk_frozen BK352.out 0; have hfz11_1 := blk_frozen BK352.out 1; have hfz11_2 := blk_frozen BK352.out 2; have p354 : 0 ≤ (0 : Int) := (by omega); have q354 : 0 < (l0_2.length : Int) := of_decide_eq_true (by first | (with_reducible assumption) | assumption); obtain ⟨ad354, A354_2, c354_2, e354, hx354_0, hx354_1, hx354_2, hl354_2, hi354_2⟩ := at_T49 HR0_2.out 0 p354 q354; cases e354; have qi354 : (0 < l0_2.length) = True := eq_true (by omega); (try rw [show ((0 : Int)).toNat = 0 from rfl] at hx354_0); (try rw [show 0 * 3 = 0 from rfl] at hx354_0); (try rw [Addr.add_zero'] at hx354_0); (try rw [show ((0 : Int)).toNat = 0 from rfl] at hx354_1); (try rw [show 0 * 3 = 0 from rfl] at hx354_1); (try rw [Addr.add_zero'] at hx354_1); (try rw [show ((0 : Int)).toNat = 0 from rfl] at hx354_2); (try rw [show 0 * 3 = 0 from rfl] at hx354_2); (try rw [Addr.add_zero'] at hx354_2); replace hx354_0 := (HB.out.cell (World.block_lt_of_cell? w _ hx354_0)).trans hx354_0; replace hx354_1 := (HB.out.cell (World.block_lt_of_cell? w _ hx354_1)).trans hx354_1; replace hx354_2 := (HB.out.cell (World.block_lt_of_cell? w _ hx354_2)).trans hx354_2; have HR354_2 := Aside0.mk hi354_2; have HC354_2 := Aside0.mk hl354_2; clear hi354_2 hl354_2; replace p354 := eq_true p354; replace q354 := eq_true q354) | ((with_reducible refine gate_callee (f := 26) rfl ?_); refine goesL_ (some 22) rfl rfl Try.func26 (by kernel_rfl) rfl #[.agg #[.int .u8 ((rd_T49 l0_2 0).f0), .string ((rd_T49 l0_2 0).f1), .slice A354_2 ((rd_T49 l0_2 0).f2).length c354_2], .slice A1 l1.length c1] rfl (a2_) ?_; (with_reducible refine (ih k (by omega) ((rd_T49 l0_2 0).f0) ((rd_T49 l0_2 0).f1) _ _ ((rd_T49 l0_2 0).f2) _ _ l1 t355 _ ?side1 ?side2 ?side3 ?side4 A9.out).mono ?_); (case side1 => exact by repeat (first | exact (Kd.C_below HR354_2.out HB.out) | (with_reducible refine Kd.C_alloc ?_ _) | (with_reducible refine Kd.C_drewN ?_ _) | (with_reducible refine Kd.C_drew ?_))); (case side2 => exact HC354_2.out); (case side3 => exact a3_); (case side4 => exact HC1.out); rintro e w12 ⟨rfl, hb⟩; refine ⟨_, rfl, ?_⟩; have n_ := c2_ (blk_below (g := gb352) (o := .cells #[.int .u8 a0_0, .string a0_1, .slice (some ad354) l0_2.length c0_2] 49 (0, 0)) (a6_) hb) (below_step (a5_) hb); clear BK352 HB; obtain ⟨BK352, HB⟩ := n_; (try clear hb); (try clear hb2); (try clear hk); (try clear hi)))
    go_ret
    exact ⟨a4_, a5_⟩
   ·rw [if_neg c8] at H
    exact absurd H (by simp)
  ·rw [if_neg c7] at H
   have c7b0 : (a0_0 == 33) = false := beq_eq_false_iff_ne.mpr c7
   have c7b1 : (a0_0 != 33) = true := bne_iff_ne.mpr c7
   have H' := Aside0.mk H
   clear H
   go_enter Try.func26, Try.ntmps26
   go_wp2_with (first | ((with_reducible refine gate_dst (N := 2) rfl ?_); refine box_event ?hg (N := 2) ?hd (cs := #[.int .u8 a0_0, .string a0_1, .slice A0_2 l0_2.length c0_2]) (t := 49) ?hr ?_; (case hd => rfl); (case hg => rfl); (case hr => first | (go_simp; done) | (go_simp; rfl)); intro gb352 hg w13 hbox hb; have n_ := c4_ (below_step (a1_) hb) (hbox) ((by rw [hg]; exact (below_size (a1_)) : w.heap.size ≤ gb352)) ((by rw [hg]; exact (below_size (a1_)) : w.heap.size ≤ gb352)); clear HB; obtain ⟨HB, BK352, GW352, GE352⟩ := n_; clear hb hbox hg; have hcz14_0 : w13.cell? ⟨gb352, 0, none⟩ = some (.int .u8 a0_0) := (blk_cell BK352.out 0).trans rfl; have hcz14_1 : w13.cell? ⟨gb352, 1, none⟩ = some (.string a0_1) := (blk_cell BK352.out 1).trans rfl; have hcz14_2 : w13.cell? ⟨gb352, 2, none⟩ = some (.slice A0_2 l0_2.length c0_2) := (blk_cell BK352.out 2).trans rfl; have hfz14_0 := blk_frozen BK352.out 0; have hfz14_1 := blk_frozen BK352.out 1; have hfz14_2 := blk_frozen BK352.out 2))
   go_loopg [27] k (fun kq v27 w' => ∃ (x27_1 : Int), v27 = .int .i64 x27_1 ∧ Aside0 (impl_test_fits.l0 kq l1 l0_2 (l0_2.length : Int) x27_1 a0_0 a0_1 l0_2 = some r) ∧ Aside0 (kq ≤ k) ∧ Aside0 (w'.heap[gb352]? = some (.cells #[.int .u8 a0_0, .string a0_1, (.slice A0_2 l0_2.length c0_2)] 49 (0, 0))) ∧ Aside0 (Below w.heap.size w w'))
   case atStart => exact ⟨(0), (by first | rfl | (simp; done) | (simp [*]; done)), H', ⟨Nat.le_refl _⟩, ⟨a6_⟩, ⟨a5_⟩⟩
   case round =>
    clear H'
    try clear c1
    try clear c2
    try clear p2
    try clear c3
    try clear c3b0
    try clear c3b1
    try clear p3
    try clear q3
    try clear hx3
    try clear qi3
    try clear c4
    try clear c7
    try clear c7b0
    try clear c7b1
    try clear c8
    try clear c8b0
    try clear c8b1
    try clear hcz11_0
    try clear hcz11_1
    try clear hcz11_2
    try clear hcz14_0
    try clear hcz14_1
    try clear hcz14_2
    try clear hcz6_0
    try clear hcz6_1
    try clear hcz6_2
    try clear hfz11_0
    try clear hfz11_1
    try clear hfz11_2
    try clear hfz14_0
    try clear hfz14_1
    try clear hfz14_2
    try clear hfz6_0
    try clear hfz6_1
    try clear hfz6_2
    try clear hx354_0
    try clear hx354_1
    try clear hx354_2
    try clear p354
    try clear q354
    obtain ⟨x27_1, rfl, HA, HK1, BK352, HB⟩ := hrel
    cases gk with
    | zero => exact absurd HA.out (by simp [impl_test_fits.l0])
    | succ k1 =>
     have H := HA.out
     clear HA
     simp only [impl_test_fits.l0] at H
     by_cases c15 : x27_1 < (l0_2.length : Int)
     ·rw [if_pos c15] at H
      have c15b0 : decide (x27_1 < (l0_2.length : Int)) = true := decide_eq_true c15
      clear c15
      by_cases c16 : 0 ≤ x27_1
      ·rw [if_pos c16] at H
       have c16b0 : decide (0 ≤ x27_1) = true := decide_eq_true c16
       clear c16
       by_cases c17 : x27_1 < (l0_2.length : Int)
       ·rw [if_pos c17] at H
        have c17b0 : decide (x27_1 < (l0_2.length : Int)) = true := decide_eq_true c17
        clear c17
        replace H := Option.bind_eq_some_iff.mp H
        obtain ⟨t358, A180, H⟩ := H
        replace H : (if (t358 != (a0_0 == 38)) = true then (some (a0_0 == 124)) else (impl_test_fits.l0 k1 l1 l0_2 (l0_2.length : Int) (wrap64 (x27_1 + 1)) a0_0 a0_1 l0_2)) = some r := H
        have A18 := Aside0.mk A180
        clear A180
        by_cases c19 : (t358 != (a0_0 == 38)) = true
        ·rw [if_pos c19] at H
         have c19b0 : (t358 != (a0_0 == 38)) = true := c19
         (try (have c19b1 : decide (t358 = (a0_0 == 38)) = false := by simpa using c19))
         (try (have c19b2 : (t358 == (a0_0 == 38)) = false := by simpa using c19))
         (try (have c19b3 : ¬ (t358 = (a0_0 == 38)) := by simpa using c19))
         clear c19
         obtain rfl := Option.some.inj H
         have p356 : 0 ≤ (x27_1 : Int) := of_decide_eq_true (by first | (with_reducible assumption) | assumption)
         have q356 : x27_1 < (l0_2.length : Int) := of_decide_eq_true (by first | (with_reducible assumption) | assumption)
         obtain ⟨ad356, A356_2, c356_2, e356, hx356_0, hx356_1, hx356_2, hl356_2, hi356_2⟩ := at_T49 HR0_2.out x27_1 p356 q356
         cases e356
         replace hx356_0 := (HB.out.cell (World.block_lt_of_cell? w _ hx356_0)).trans hx356_0
         replace hx356_1 := (HB.out.cell (World.block_lt_of_cell? w _ hx356_1)).trans hx356_1
         replace hx356_2 := (HB.out.cell (World.block_lt_of_cell? w _ hx356_2)).trans hx356_2
         have HR356_2 := Aside0.mk hi356_2
         have HC356_2 := Aside0.mk hl356_2
         clear hi356_2 hl356_2
         replace p356 := eq_true p356
         replace q356 := eq_true q356
         try go_wp2_with (first | ((with_reducible refine gate_dst (N := 6) rfl ?_); refine box_event ?hg (N := 6) ?hd (cs := #[.int .u8 0, .string (⟨#[]⟩ : ByteArray), .slice none 0 0]) (t := 49) ?hr ?_; (case hd => rfl); (case hg => rfl); (case hr => first | (go_simp; done) | (go_simp; rfl)); intro gb357 hg w20 hbox hb; have n_ := c7_ (blk_below (g := gb352) (o := .cells #[.int .u8 a0_0, .string a0_1, .slice (some ad356) l0_2.length c0_2] 49 (0, 0)) (a6_) hb) (below_step (a5_) hb) (hbox) ((by rw [hg]; exact (below_size (a5_)) : w.heap.size ≤ gb357)) ((by rw [hg]; exact (below_size (a5_)) : w.heap.size ≤ gb357)) ((by rw [hg]; exact Nat.ne_of_lt (blk_lt (g := gb352) (o := .cells #[.int .u8 a0_0, .string a0_1, .slice (some ad356) l0_2.length c0_2] 49 (0, 0)) (a6_)) : gb352 ≠ gb357)) ((by rw [hg]; exact Nat.ne_of_gt (blk_lt (g := gb352) (o := .cells #[.int .u8 a0_0, .string a0_1, .slice (some ad356) l0_2.length c0_2] 49 (0, 0)) (a6_)) : gb357 ≠ gb352)); clear BK352 HB; obtain ⟨BK352, HB, BK357, GW357, GE357, NB352_357, NB357_352⟩ := n_; clear hb hbox hg; have hnb21 := NB357_352.out; have hnc21 := NB352_357.out; have hcz22_0 : w20.cell? ⟨gb357, 0, none⟩ = some (.int .u8 0) := (blk_cell BK357.out 0).trans rfl; have hcz22_1 : w20.cell? ⟨gb357, 1, none⟩ = some (.string (⟨#[]⟩ : ByteArray)) := (blk_cell BK357.out 1).trans rfl; have hcz22_2 : w20.cell? ⟨gb357, 2, none⟩ = some (.slice none 0 0) := (blk_cell BK357.out 2).trans rfl; have hfz22_0 := blk_frozen BK357.out 0; have hfz22_1 := blk_frozen BK357.out 1; have hfz22_2 := blk_frozen BK357.out 2))
         have n_ := c3_ (show (((w20.setCell ⟨gb357, 0, none⟩ (.int .u8 ((rd_T49 l0_2 x27_1).f0))).setCell ⟨gb357, 1, none⟩ (.string ((rd_T49 l0_2 x27_1).f1))).setCell ⟨gb357, 2, none⟩ (.slice A356_2 ((rd_T49 l0_2 x27_1).f2).length c356_2)).heap[gb352]? = some (.cells #[.int .u8 a0_0, .string a0_1, .slice (some ad356) l0_2.length c0_2] 49 (0, 0)) from a7_) (show (((w20.setCell ⟨gb357, 0, none⟩ (.int .u8 ((rd_T49 l0_2 x27_1).f0))).setCell ⟨gb357, 1, none⟩ (.string ((rd_T49 l0_2 x27_1).f1))).setCell ⟨gb357, 2, none⟩ (.slice A356_2 ((rd_T49 l0_2 x27_1).f2).length c356_2)).heap[gb357]? = some (.cells #[.int .u8 ((rd_T49 l0_2 x27_1).f0), .string ((rd_T49 l0_2 x27_1).f1), .slice A356_2 ((rd_T49 l0_2 x27_1).f2).length c356_2] 49 (0, 0)) from a8_) (show Below w.heap.size w (((w20.setCell ⟨gb357, 0, none⟩ (.int .u8 ((rd_T49 l0_2 x27_1).f0))).setCell ⟨gb357, 1, none⟩ (.string ((rd_T49 l0_2 x27_1).f1))).setCell ⟨gb357, 2, none⟩ (.slice A356_2 ((rd_T49 l0_2 x27_1).f2).length c356_2)) from a9_)
         (try clear BK352)
         (try clear BK357)
         (try clear HB)
         generalize (((w20.setCell ⟨gb357, 0, none⟩ (.int .u8 ((rd_T49 l0_2 x27_1).f0))).setCell ⟨gb357, 1, none⟩ (.string ((rd_T49 l0_2 x27_1).f1))).setCell ⟨gb357, 2, none⟩ (.slice A356_2 ((rd_T49 l0_2 x27_1).f2).length c356_2)) = w23 at n_ ⊢
         obtain ⟨BK352, BK357, HB⟩ := n_
         have n_ := c3_ (blk_drew BK352.out) (blk_drew BK357.out) (below_drew1 HB.out)
         clear BK352 BK357 HB
         obtain ⟨BK352, BK357, HB⟩ := n_
         refine start_ (n := 7) (S := fun w' => w'.cell? ⟨gb357, 0, none⟩ = some (.int .u8 ((rd_T49 l0_2 x27_1).f0)) ∧ w'.cell? ⟨gb357, 1, none⟩ = some (.string ((rd_T49 l0_2 x27_1).f1)) ∧ w'.cell? ⟨gb357, 2, none⟩ = some (.slice A356_2 ((rd_T49 l0_2 x27_1).f2).length c356_2) ∧ w'.cell? ⟨gb352, 0, none⟩ = some (.int .u8 a0_0) ∧ w'.cell? ⟨gb352, 1, none⟩ = some (.string a0_1) ∧ w'.cell? ⟨gb352, 2, none⟩ = some (.slice (some ad356) l0_2.length c0_2)) (ds := []) #[false, false, false, false, false, false, false] (by kernel_rfl) rfl rfl ⟨(blk_cell BK357.out 0).trans rfl, (blk_cell BK357.out 1).trans rfl, (blk_cell BK357.out 2).trans rfl, (blk_cell BK352.out 0).trans rfl, (blk_cell BK352.out 1).trans rfl, (blk_cell BK352.out 2).trans rfl⟩ (fun hHeld => ?_)
         generalize w23.drew = w24 at BK352 BK357 HB hHeld ⊢
         refine pure_ (i := 1) (N := some 32) (v := ?_) (a' := ?_) #[false, true, false, false, false, false, false] rfl rfl (by kernel_rfl) (fun _ _ _ h => h) (Or.inl ⟨by rfl, ?_⟩) ?_ ?_
         rotate_left
         ·intro w'
          go_simp
          with_reducible rfl
         rotate_left
         ·simp only [pt_]
          rfl
         refine pure_ (i := 3) (N := some 34) (v := ?_) (a' := ?_) #[false, true, false, true, false, false, false] rfl rfl (by kernel_rfl) (fun _ _ _ h => h) (Or.inl ⟨by rfl, ?_⟩) ?_ ?_
         rotate_left
         ·intro w'
          go_simp
          with_reducible rfl
         rotate_left
         ·simp only [pt_]
          rfl
         refine take_ (i := 0) (N := some 31) (v := ?_) (a' := ?_) #[true, true, false, true, false, false, false] rfl rfl (by kernel_rfl) (fun _ _ _ h => h) (Or.inl ⟨by rfl, ?_⟩) hHeld ?_ ?_
         rotate_left
         ·rintro w' ⟨s0, s1, s2, s3, s4, s5⟩
          go_simp
          with_reducible rfl
         rotate_left
         ·simp only [pt_]
          rfl
         refine take_ (i := 4) (N := some 35) (v := ?_) (a' := ?_) #[true, true, false, true, true, false, false] rfl rfl (by kernel_rfl) (fun _ _ _ h => h) (Or.inl ⟨by rfl, ?_⟩) hHeld ?_ ?_
         rotate_left
         ·rintro w' ⟨s0, s1, s2, s3, s4, s5⟩
          go_simp
          with_reducible rfl
         rotate_left
         ·simp only [pt_]
          rfl
         refine pure_ (i := 5) (N := some 36) (v := ?_) (a' := ?_) #[true, true, false, true, true, true, false] rfl rfl (by kernel_rfl) (fun _ _ _ h => h) (Or.inl ⟨by rfl, ?_⟩) ?_ ?_
         rotate_left
         ·intro w'
          go_simp
          with_reducible rfl
         rotate_left
         ·simp only [pt_]
          rfl
         refine one_ (i := 2) (N := some 33) #[true, true, true, true, true, true, false] rfl rfl (by kernel_rfl) (by decide) (fun K hK => ?_)
         refine goes_ Try.func26 (by kernel_rfl) rfl #[.agg #[.int .u8 ((rd_T49 l0_2 x27_1).f0), .string ((rd_T49 l0_2 x27_1).f1), .slice A356_2 ((rd_T49 l0_2 x27_1).f2).length c356_2], .slice A1 l1.length c1] (by rfl) rfl rfl (a2_) ?_
         with_reducible refine (ih k1 (by have := HK1.out; omega) ((rd_T49 l0_2 x27_1).f0) ((rd_T49 l0_2 x27_1).f1) _ _ ((rd_T49 l0_2 x27_1).f2) _ _ l1 t358 _ ?side1 ?side2 ?side3 ?side4 A18.out).mono ?_
         (case side1 => exact by repeat (first | exact (Kd.C_below HR356_2.out HB.out) | (with_reducible refine Kd.C_alloc ?_ _) | (with_reducible refine Kd.C_drewN ?_ _) | (with_reducible refine Kd.C_drew ?_)))
         (case side2 => exact HC356_2.out)
         (case side3 => exact a3_)
         (case side4 => exact HC1.out)
         rintro e w25 ⟨rfl, hb⟩
         refine ⟨_, rfl, ?_⟩
         have n_ := c3_ (blk_below (g := gb352) (o := .cells #[.int .u8 a0_0, .string a0_1, .slice (some ad356) l0_2.length c0_2] 49 (0, 0)) (a6_) hb) (blk_below (g := gb357) (o := .cells #[.int .u8 ((rd_T49 l0_2 x27_1).f0), .string ((rd_T49 l0_2 x27_1).f1), .slice A356_2 ((rd_T49 l0_2 x27_1).f2).length c356_2] 49 (0, 0)) (by (with_reducible repeat (first | refine blk_drewN ?_ _ | refine blk_drew ?_ | refine blk_alloc ?_ _)); exact BK357.out) hb) (below_step (a9_) hb)
         clear BK352 BK357 HB
         obtain ⟨BK352, BK357, HB⟩ := n_
         (try clear hb)
         (try clear hb2)
         (try clear hk)
         (try clear hi)
         refine hK.out _ _ ⟨(blk_cell BK357.out 0).trans rfl, (blk_cell BK357.out 1).trans rfl, (blk_cell BK357.out 2).trans rfl, (blk_cell BK352.out 0).trans rfl, (blk_cell BK352.out 1).trans rfl, (blk_cell BK352.out 2).trans rfl⟩ (fun hHeld => ?_)
         clear hK K
         refine norm_ (a' := ?_) ?_ ?_
         rotate_left
         ·show Act.put _ (some 33) _ = _
          simp only [pt_]
          rfl
         refine pure_ (i := 6) (N := some 37) (v := ?_) (a' := ?_) #[true, true, true, true, true, true, true] rfl rfl (by kernel_rfl) (fun _ _ _ h => h) (Or.inl ⟨by rfl, ?_⟩) ?_ ?_
         rotate_left
         ·intro w'
          go_simp
          with_reducible rfl
         rotate_left
         ·simp only [pt_]
          rfl
         refine done_ (by kernel_rfl) ?_
         have hcz26_0 : w25.cell? ⟨gb352, 0, none⟩ = some (.int .u8 a0_0) := (blk_cell BK352.out 0).trans rfl
         have hcz26_1 : w25.cell? ⟨gb352, 1, none⟩ = some (.string a0_1) := (blk_cell BK352.out 1).trans rfl
         have hcz26_2 : w25.cell? ⟨gb352, 2, none⟩ = some (.slice (some ad356) l0_2.length c0_2) := (blk_cell BK352.out 2).trans rfl
         have hfz26_0 := blk_frozen BK352.out 0
         have hfz26_1 := blk_frozen BK352.out 1
         have hfz26_2 := blk_frozen BK352.out 2
         try go_wp2
         go_ret
         exact ⟨a4_, a9_⟩
        ·rw [if_neg c19] at H
         have c19b0 : (t358 != (a0_0 == 38)) = false := by simpa using c19
         (try (have c19b1 : decide (t358 = (a0_0 == 38)) = true := by simpa using c19))
         (try (have c19b2 : (t358 == (a0_0 == 38)) = true := by simpa using c19))
         clear c19
         have H' := Aside0.mk H
         clear H
         have p356 : 0 ≤ (x27_1 : Int) := of_decide_eq_true (by first | (with_reducible assumption) | assumption)
         have q356 : x27_1 < (l0_2.length : Int) := of_decide_eq_true (by first | (with_reducible assumption) | assumption)
         obtain ⟨ad356, A356_2, c356_2, e356, hx356_0, hx356_1, hx356_2, hl356_2, hi356_2⟩ := at_T49 HR0_2.out x27_1 p356 q356
         cases e356
         replace hx356_0 := (HB.out.cell (World.block_lt_of_cell? w _ hx356_0)).trans hx356_0
         replace hx356_1 := (HB.out.cell (World.block_lt_of_cell? w _ hx356_1)).trans hx356_1
         replace hx356_2 := (HB.out.cell (World.block_lt_of_cell? w _ hx356_2)).trans hx356_2
         have HR356_2 := Aside0.mk hi356_2
         have HC356_2 := Aside0.mk hl356_2
         clear hi356_2 hl356_2
         replace p356 := eq_true p356
         replace q356 := eq_true q356
         try go_wp2_with (first | ((with_reducible refine gate_dst (N := 6) rfl ?_); refine box_event ?hg (N := 6) ?hd (cs := #[.int .u8 0, .string (⟨#[]⟩ : ByteArray), .slice none 0 0]) (t := 49) ?hr ?_; (case hd => rfl); (case hg => rfl); (case hr => first | (go_simp; done) | (go_simp; rfl)); intro gb357 hg w27 hbox hb; have n_ := c7_ (blk_below (g := gb352) (o := .cells #[.int .u8 a0_0, .string a0_1, .slice (some ad356) l0_2.length c0_2] 49 (0, 0)) (a6_) hb) (below_step (a5_) hb) (hbox) ((by rw [hg]; exact (below_size (a5_)) : w.heap.size ≤ gb357)) ((by rw [hg]; exact (below_size (a5_)) : w.heap.size ≤ gb357)) ((by rw [hg]; exact Nat.ne_of_lt (blk_lt (g := gb352) (o := .cells #[.int .u8 a0_0, .string a0_1, .slice (some ad356) l0_2.length c0_2] 49 (0, 0)) (a6_)) : gb352 ≠ gb357)) ((by rw [hg]; exact Nat.ne_of_gt (blk_lt (g := gb352) (o := .cells #[.int .u8 a0_0, .string a0_1, .slice (some ad356) l0_2.length c0_2] 49 (0, 0)) (a6_)) : gb357 ≠ gb352)); clear BK352 HB; obtain ⟨BK352, HB, BK357, GW357, GE357, NB352_357, NB357_352⟩ := n_; clear hb hbox hg; have hnb28 := NB357_352.out; have hnc28 := NB352_357.out; have hcz29_0 : w27.cell? ⟨gb357, 0, none⟩ = some (.int .u8 0) := (blk_cell BK357.out 0).trans rfl; have hcz29_1 : w27.cell? ⟨gb357, 1, none⟩ = some (.string (⟨#[]⟩ : ByteArray)) := (blk_cell BK357.out 1).trans rfl; have hcz29_2 : w27.cell? ⟨gb357, 2, none⟩ = some (.slice none 0 0) := (blk_cell BK357.out 2).trans rfl; have hfz29_0 := blk_frozen BK357.out 0; have hfz29_1 := blk_frozen BK357.out 1; have hfz29_2 := blk_frozen BK357.out 2))
         have n_ := c3_ (show (((w27.setCell ⟨gb357, 0, none⟩ (.int .u8 ((rd_T49 l0_2 x27_1).f0))).setCell ⟨gb357, 1, none⟩ (.string ((rd_T49 l0_2 x27_1).f1))).setCell ⟨gb357, 2, none⟩ (.slice A356_2 ((rd_T49 l0_2 x27_1).f2).length c356_2)).heap[gb352]? = some (.cells #[.int .u8 a0_0, .string a0_1, .slice (some ad356) l0_2.length c0_2] 49 (0, 0)) from a7_) (show (((w27.setCell ⟨gb357, 0, none⟩ (.int .u8 ((rd_T49 l0_2 x27_1).f0))).setCell ⟨gb357, 1, none⟩ (.string ((rd_T49 l0_2 x27_1).f1))).setCell ⟨gb357, 2, none⟩ (.slice A356_2 ((rd_T49 l0_2 x27_1).f2).length c356_2)).heap[gb357]? = some (.cells #[.int .u8 ((rd_T49 l0_2 x27_1).f0), .string ((rd_T49 l0_2 x27_1).f1), .slice A356_2 ((rd_T49 l0_2 x27_1).f2).length c356_2] 49 (0, 0)) from a8_) (show Below w.heap.size w (((w27.setCell ⟨gb357, 0, none⟩ (.int .u8 ((rd_T49 l0_2 x27_1).f0))).setCell ⟨gb357, 1, none⟩ (.string ((rd_T49 l0_2 x27_1).f1))).setCell ⟨gb357, 2, none⟩ (.slice A356_2 ((rd_T49 l0_2 x27_1).f2).length c356_2)) from a9_)
         (try clear BK352)
         (try clear BK357)
         (try clear HB)
         generalize (((w27.setCell ⟨gb357, 0, none⟩ (.int .u8 ((rd_T49 l0_2 x27_1).f0))).setCell ⟨gb357, 1, none⟩ (.string ((rd_T49 l0_2 x27_1).f1))).setCell ⟨gb357, 2, none⟩ (.slice A356_2 ((rd_T49 l0_2 x27_1).f2).length c356_2)) = w30 at n_ ⊢
         obtain ⟨BK352, BK357, HB⟩ := n_
         have n_ := c3_ (blk_drew BK352.out) (blk_drew BK357.out) (below_drew1 HB.out)
         clear BK352 BK357 HB
         obtain ⟨BK352, BK357, HB⟩ := n_
         refine start_ (n := 7) (S := fun w' => w'.cell? ⟨gb357, 0, none⟩ = some (.int .u8 ((rd_T49 l0_2 x27_1).f0)) ∧ w'.cell? ⟨gb357, 1, none⟩ = some (.string ((rd_T49 l0_2 x27_1).f1)) ∧ w'.cell? ⟨gb357, 2, none⟩ = some (.slice A356_2 ((rd_T49 l0_2 x27_1).f2).length c356_2) ∧ w'.cell? ⟨gb352, 0, none⟩ = some (.int .u8 a0_0) ∧ w'.cell? ⟨gb352, 1, none⟩ = some (.string a0_1) ∧ w'.cell? ⟨gb352, 2, none⟩ = some (.slice (some ad356) l0_2.length c0_2)) (ds := []) #[false, false, false, false, false, false, false] (by kernel_rfl) rfl rfl ⟨(blk_cell BK357.out 0).trans rfl, (blk_cell BK357.out 1).trans rfl, (blk_cell BK357.out 2).trans rfl, (blk_cell BK352.out 0).trans rfl, (blk_cell BK352.out 1).trans rfl, (blk_cell BK352.out 2).trans rfl⟩ (fun hHeld => ?_)
         generalize w30.drew = w31 at BK352 BK357 HB hHeld ⊢
         refine pure_ (i := 1) (N := some 32) (v := ?_) (a' := ?_) #[false, true, false, false, false, false, false] rfl rfl (by kernel_rfl) (fun _ _ _ h => h) (Or.inl ⟨by rfl, ?_⟩) ?_ ?_
         rotate_left
         ·intro w'
          go_simp
          with_reducible rfl
         rotate_left
         ·simp only [pt_]
          rfl
         refine pure_ (i := 3) (N := some 34) (v := ?_) (a' := ?_) #[false, true, false, true, false, false, false] rfl rfl (by kernel_rfl) (fun _ _ _ h => h) (Or.inl ⟨by rfl, ?_⟩) ?_ ?_
         rotate_left
         ·intro w'
          go_simp
          with_reducible rfl
         rotate_left
         ·simp only [pt_]
          rfl
         refine take_ (i := 0) (N := some 31) (v := ?_) (a' := ?_) #[true, true, false, true, false, false, false] rfl rfl (by kernel_rfl) (fun _ _ _ h => h) (Or.inl ⟨by rfl, ?_⟩) hHeld ?_ ?_
         rotate_left
         ·rintro w' ⟨s0, s1, s2, s3, s4, s5⟩
          go_simp
          with_reducible rfl
         rotate_left
         ·simp only [pt_]
          rfl
         refine take_ (i := 4) (N := some 35) (v := ?_) (a' := ?_) #[true, true, false, true, true, false, false] rfl rfl (by kernel_rfl) (fun _ _ _ h => h) (Or.inl ⟨by rfl, ?_⟩) hHeld ?_ ?_
         rotate_left
         ·rintro w' ⟨s0, s1, s2, s3, s4, s5⟩
          go_simp
          with_reducible rfl
         rotate_left
         ·simp only [pt_]
          rfl
         refine pure_ (i := 5) (N := some 36) (v := ?_) (a' := ?_) #[true, true, false, true, true, true, false] rfl rfl (by kernel_rfl) (fun _ _ _ h => h) (Or.inl ⟨by rfl, ?_⟩) ?_ ?_
         rotate_left
         ·intro w'
          go_simp
          with_reducible rfl
         rotate_left
         ·simp only [pt_]
          rfl
         refine one_ (i := 2) (N := some 33) #[true, true, true, true, true, true, false] rfl rfl (by kernel_rfl) (by decide) (fun K hK => ?_)
         refine goes_ Try.func26 (by kernel_rfl) rfl #[.agg #[.int .u8 ((rd_T49 l0_2 x27_1).f0), .string ((rd_T49 l0_2 x27_1).f1), .slice A356_2 ((rd_T49 l0_2 x27_1).f2).length c356_2], .slice A1 l1.length c1] (by rfl) rfl rfl (a2_) ?_
         with_reducible refine (ih k1 (by have := HK1.out; omega) ((rd_T49 l0_2 x27_1).f0) ((rd_T49 l0_2 x27_1).f1) _ _ ((rd_T49 l0_2 x27_1).f2) _ _ l1 t358 _ ?side1 ?side2 ?side3 ?side4 A18.out).mono ?_
         (case side1 => exact by repeat (first | exact (Kd.C_below HR356_2.out HB.out) | (with_reducible refine Kd.C_alloc ?_ _) | (with_reducible refine Kd.C_drewN ?_ _) | (with_reducible refine Kd.C_drew ?_)))
         (case side2 => exact HC356_2.out)
         (case side3 => exact a3_)
         (case side4 => exact HC1.out)
         rintro e w32 ⟨rfl, hb⟩
         refine ⟨_, rfl, ?_⟩
         have n_ := c3_ (blk_below (g := gb352) (o := .cells #[.int .u8 a0_0, .string a0_1, .slice (some ad356) l0_2.length c0_2] 49 (0, 0)) (a6_) hb) (blk_below (g := gb357) (o := .cells #[.int .u8 ((rd_T49 l0_2 x27_1).f0), .string ((rd_T49 l0_2 x27_1).f1), .slice A356_2 ((rd_T49 l0_2 x27_1).f2).length c356_2] 49 (0, 0)) (by (with_reducible repeat (first | refine blk_drewN ?_ _ | refine blk_drew ?_ | refine blk_alloc ?_ _)); exact BK357.out) hb) (below_step (a9_) hb)
         clear BK352 BK357 HB
         obtain ⟨BK352, BK357, HB⟩ := n_
         (try clear hb)
         (try clear hb2)
         (try clear hk)
         (try clear hi)
         refine hK.out _ _ ⟨(blk_cell BK357.out 0).trans rfl, (blk_cell BK357.out 1).trans rfl, (blk_cell BK357.out 2).trans rfl, (blk_cell BK352.out 0).trans rfl, (blk_cell BK352.out 1).trans rfl, (blk_cell BK352.out 2).trans rfl⟩ (fun hHeld => ?_)
         clear hK K
         refine norm_ (a' := ?_) ?_ ?_
         rotate_left
         ·show Act.put _ (some 33) _ = _
          simp only [pt_]
          rfl
         refine pure_ (i := 6) (N := some 37) (v := ?_) (a' := ?_) #[true, true, true, true, true, true, true] rfl rfl (by kernel_rfl) (fun _ _ _ h => h) (Or.inl ⟨by rfl, ?_⟩) ?_ ?_
         rotate_left
         ·intro w'
          go_simp
          with_reducible rfl
         rotate_left
         ·simp only [pt_]
          rfl
         refine done_ (by kernel_rfl) ?_
         try go_wp2
         go_roundg k1
         case measure => have := HK1.out; omega
         case rel => exact ⟨(wrap64 (x27_1 + 1)), (by first | rfl | (simp; done) | (simp [*]; done)), H', ⟨by have := HK1.out; omega⟩, ⟨a6_⟩, ⟨a9_⟩⟩
       ·rw [if_neg c17] at H
        exact absurd H (by simp)
      ·rw [if_neg c16] at H
       exact absurd H (by simp)
     ·rw [if_neg c15] at H
      have c15b0 : decide (x27_1 < (l0_2.length : Int)) = false := decide_eq_false c15
      clear c15
      obtain rfl := Option.some.inj H
      have hcz33_0 : wr.cell? ⟨gb352, 0, none⟩ = some (.int .u8 a0_0) := (blk_cell BK352.out 0).trans rfl
      have hcz33_1 : wr.cell? ⟨gb352, 1, none⟩ = some (.string a0_1) := (blk_cell BK352.out 1).trans rfl
      have hcz33_2 : wr.cell? ⟨gb352, 2, none⟩ = some (.slice A0_2 l0_2.length c0_2) := (blk_cell BK352.out 2).trans rfl
      have hfz33_0 := blk_frozen BK352.out 0
      have hfz33_1 := blk_frozen BK352.out 1
      have hfz33_2 := blk_frozen BK352.out 2
      go_wp2
      go_ret
      exact ⟨a4_, a5_⟩

/-! ### impl_LabelsFit: function 12 -/
def impl_LabelsFit.f (k : Nat) (a0 : ByteArray) (l1 : List ByteArray) : Option (Bool) := (impl_readTest.f k a0).bind fun bt359 => (if bt359.2.2.2 = true then (if (l1.length : Int) ≤ 1000 then ((impl_test_fits.f k bt359.1 bt359.2.1 bt359.2.2.1 l1).bind fun t366 => (some t366)) else (some false)) else (some false))
theorem impl_LabelsFit.a1_ {p : Prop} (h : p := by (try simp only [List.map_toArray, List.map_cons, List.map_nil]); first | done | rfl | (simp only [List.length_drop, List.length_take]; rfl)) : p := h
theorem impl_LabelsFit.a2_ {p : Prop} (h : p := by repeat (first | (with_reducible first | exact HB.out | apply below_alloc | apply pw_below_drewN | apply below_drew1) | exact HB.out)) : p := h
theorem impl_LabelsFit.a3_ {p : Prop} (h : p := by (with_reducible repeat (first | apply Kd.V_alloc | apply Kd.V_drewN | apply Kd.V_drew)); exact (Kd.V_mono (Kd.V_far (p := ⟨gb365, 2, none⟩) (Kd.V_far (p := ⟨gb365, 1, none⟩) (Kd.V_far (p := ⟨gb365, 0, none⟩) (Kd.V_mono HO363.out (fun k_ hk => (⟨hk, hk.2⟩ : _ ∧ k_ ≠ gb365))) (fun _ hk => hk.2) (.int .u8 t359)) (fun _ hk => hk.2) (.string t360)) (fun _ hk => hk.2) (.slice Ao10 t361.length co10)) (fun _ h_ => h_.1))) : p := h
theorem impl_LabelsFit.a4_ {p : Prop} (h : p := by repeat (first | (with_reducible first | exact HB.out | apply below_alloc | apply pw_below_drewN | apply below_drew1 | refine below_set ?_ GE365.out) | exact HB.out)) : p := h
set_option maxHeartbeats 8000000 in
set_option maxRecDepth 100000 in
theorem impl_LabelsFit.calls (k : Nat) (a0 : ByteArray) (A1 : Option Addr) (c1 : Nat) (l1 : List ByteArray) (r : Bool) (w : World) (hr1 : Kd.C Kd.string w A1 l1.length l1) (hc1 : l1.length ≤ c1) (h : impl_LabelsFit.f k a0 l1 = some r) :
  Calls Try.prog 12 #[.string a0, .slice A1 l1.length c1] w fun e w' => e = .returned (.bool r) ∧ Below w.heap.size w w' := by
 have hu49 := Try.underlying49
 have HR1 := Aside0.mk hr1
 have HC1 := Aside0.mk hc1
 clear hr1 hc1
 have HB := Aside0.mk (Below.refl w.heap.size w)
 have H : ((impl_readTest.f k a0).bind fun bt359 => (if bt359.2.2.2 = true then (if (l1.length : Int) ≤ 1000 then ((impl_test_fits.f k bt359.1 bt359.2.1 bt359.2.2.1 l1).bind fun t366 => (some t366)) else (some false)) else (some false))) = some r := h
 clear h
 replace H := Option.bind_eq_some_iff.mp H
 obtain ⟨⟨t359, t360, t361, t364⟩, A30, H⟩ := H
 replace H : (if t364 = true then (if (l1.length : Int) ≤ 1000 then ((impl_test_fits.f k t359 t360 t361 l1).bind fun t366 => (some t366)) else (some false)) else (some false)) = some r := H
 have A3 := Aside0.mk A30
 clear A30
 by_cases c4 : t364 = true
 ·subst c4
  have H1 : (if (l1.length : Int) ≤ 1000 then ((impl_test_fits.f k t359 t360 t361 l1).bind fun t366 => (some t366)) else (some false)) = some r := by rw [if_pos rfl] at H; exact H
  clear H
  have H := H1
  clear H1
  by_cases c5 : (l1.length : Int) ≤ 1000
  ·rw [if_pos c5] at H
   have c5b0 : decide ((l1.length : Int) ≤ 1000) = true := decide_eq_true c5
   have c5b1 : decide (l1.length ≤ 1000) = true := decide_eq_true (by omega)
   clear c5
   replace H := Option.bind_eq_some_iff.mp H
   obtain ⟨t366, A60, H⟩ := H
   replace H : (some t366) = some r := H
   have A6 := Aside0.mk A60
   clear A60
   obtain rfl := Option.some.inj H
   go_enter Try.func12, Try.ntmps12
   go_wp2_with (first | ((with_reducible refine gate_callee (f := 25) rfl ?_); refine goesL_ (some 9) rfl rfl Try.func25 (by kernel_rfl) rfl #[.string a0] rfl (a1_) ?_; (with_reducible refine (impl_readTest.calls k a0 t359 t360 t361 true _ A3.out).mono ?_); rintro e w7 ⟨v362, rfl, ho0, hb⟩; refine ⟨_, rfl, ?_⟩; have n_ := c2_ (Kd.V_lower (Kd.V_mono (ok' := fun k_ => True) ho0 (fun k_ hk_ => trivial)) (below_size (a2_))) (below_step (a2_) hb); clear HB; obtain ⟨HO363, HB⟩ := n_; (try clear hb); (try clear hb2); (try clear hk); (try clear hi); (try clear ho0)) | ((with_reducible refine gate_dst (N := 5) rfl ?_); (try (refine gate_guard (by rfl) ?_; dsimp only)); refine box_event ?hg (N := 5) ?hd (cs := #[.int .u8 0, .string (⟨#[]⟩ : ByteArray), .slice none 0 0]) (t := 49) ?hr ?_; (case hd => rfl); (case hg => rfl); (case hr => first | (go_simp; done) | (go_simp; rfl)); intro gb365 hg w8 hbox hb; have n_ := c5_ (Kd.V_below (Kd.V_elderB (by (with_reducible repeat (first | apply Kd.V_alloc | apply Kd.V_drewN | apply Kd.V_drew)); exact HO363.out) gb365 (Nat.le_of_eq hg.symm)) hb) (below_step (a2_) hb) (hbox) ((by rw [hg]; exact (below_size (a2_)) : w.heap.size ≤ gb365)) ((by rw [hg]; exact (below_size (a2_)) : w.heap.size ≤ gb365)); clear HO363 HB; obtain ⟨HO363, HB, BK365, GW365, GE365⟩ := n_; clear hb hbox hg; have hcz9_0 : w8.cell? ⟨gb365, 0, none⟩ = some (.int .u8 0) := (blk_cell BK365.out 0).trans rfl; have hcz9_1 : w8.cell? ⟨gb365, 1, none⟩ = some (.string (⟨#[]⟩ : ByteArray)) := (blk_cell BK365.out 1).trans rfl; have hcz9_2 : w8.cell? ⟨gb365, 2, none⟩ = some (.slice none 0 0) := (blk_cell BK365.out 2).trans rfl; have hfz9_0 := blk_frozen BK365.out 0; have hfz9_1 := blk_frozen BK365.out 1; have hfz9_2 := blk_frozen BK365.out 2; obtain ⟨Ao10, co10, eo10⟩ := Kd.V_slice HO363.out; subst eo10) | (go_at_call 26; (with_reducible refine (impl_test_fits.calls k t359 t360 _ _ t361 _ _ l1 t366 _ ?side1 ?side2 ?side3 ?side4 A6.out).mono ?_); (case side1 => refine (Kd.V_reads' (e := 49) (base := w.heap.size) (ok := fun k_ => (True ∧ k_ ≠ gb365)) (n := t361.length) (c := co10) ?_).2.2; exact (a3_)); (case side2 => exact (Kd.V_reads' HO363.out).2.1); (case side3 => exact Kd.C_below HR1.out (a4_)); (case side4 => exact HC1.out); rintro e w11 ⟨rfl, hb⟩; have n_ := c3_ (Kd.V_below (a3_) hb) (blk_below (g := gb365) (o := .cells #[.int .u8 t359, .string t360, .slice Ao10 t361.length co10] 49 (0, 0)) (by (with_reducible repeat (first | refine blk_drewN ?_ _ | refine blk_drew ?_ | refine blk_alloc ?_ _)); refine blk_put (cs := #[.int .u8 t359, .string t360, .slice none 0 0]) ?_ 2 _ rfl; (with_reducible repeat (first | refine blk_drewN ?_ _ | refine blk_drew ?_ | refine blk_alloc ?_ _)); refine blk_put (cs := #[.int .u8 t359, .string (⟨#[]⟩ : ByteArray), .slice none 0 0]) ?_ 1 _ rfl; (with_reducible repeat (first | refine blk_drewN ?_ _ | refine blk_drew ?_ | refine blk_alloc ?_ _)); refine blk_put (cs := #[.int .u8 0, .string (⟨#[]⟩ : ByteArray), .slice none 0 0]) ?_ 0 _ rfl; (with_reducible repeat (first | refine blk_drewN ?_ _ | refine blk_drew ?_ | refine blk_alloc ?_ _)); exact BK365.out) hb) (below_step (a4_) hb); clear HO363 BK365 HB; obtain ⟨HO363, BK365, HB⟩ := n_; (try clear hb); (try clear hb2); (try clear hk); (try clear hi)))
   go_ret
   exact ⟨by first | rfl | (simp [errW_none, errW_some] <;> rfl) | (simp [*, errW_none, errW_some] <;> rfl), a4_⟩
  ·rw [if_neg c5] at H
   have c5b0 : decide ((l1.length : Int) ≤ 1000) = false := decide_eq_false c5
   have c5b1 : decide (l1.length ≤ 1000) = false := decide_eq_false (by omega)
   clear c5
   obtain rfl := Option.some.inj H
   go_enter Try.func12, Try.ntmps12
   go_wp2_with (first | ((with_reducible refine gate_callee (f := 25) rfl ?_); refine goesL_ (some 9) rfl rfl Try.func25 (by kernel_rfl) rfl #[.string a0] rfl (a1_) ?_; (with_reducible refine (impl_readTest.calls k a0 t359 t360 t361 true _ A3.out).mono ?_); rintro e w12 ⟨v362, rfl, ho0, hb⟩; refine ⟨_, rfl, ?_⟩; have n_ := c2_ (Kd.V_lower (Kd.V_mono (ok' := fun k_ => True) ho0 (fun k_ hk_ => trivial)) (below_size (a2_))) (below_step (a2_) hb); clear HB; obtain ⟨HO363, HB⟩ := n_; (try clear hb); (try clear hb2); (try clear hk); (try clear hi); (try clear ho0)) | ((with_reducible refine gate_dst (N := 5) rfl ?_); (try (refine gate_guard (by rfl) ?_; dsimp only)); refine box_event ?hg (N := 5) ?hd (cs := #[.int .u8 0, .string (⟨#[]⟩ : ByteArray), .slice none 0 0]) (t := 49) ?hr ?_; (case hd => rfl); (case hg => rfl); (case hr => first | (go_simp; done) | (go_simp; rfl)); intro gb365 hg w13 hbox hb; have n_ := c5_ (Kd.V_below (Kd.V_elderB (by (with_reducible repeat (first | apply Kd.V_alloc | apply Kd.V_drewN | apply Kd.V_drew)); exact HO363.out) gb365 (Nat.le_of_eq hg.symm)) hb) (below_step (a2_) hb) (hbox) ((by rw [hg]; exact (below_size (a2_)) : w.heap.size ≤ gb365)) ((by rw [hg]; exact (below_size (a2_)) : w.heap.size ≤ gb365)); clear HO363 HB; obtain ⟨HO363, HB, BK365, GW365, GE365⟩ := n_; clear hb hbox hg; have hcz14_0 : w13.cell? ⟨gb365, 0, none⟩ = some (.int .u8 0) := (blk_cell BK365.out 0).trans rfl; have hcz14_1 : w13.cell? ⟨gb365, 1, none⟩ = some (.string (⟨#[]⟩ : ByteArray)) := (blk_cell BK365.out 1).trans rfl; have hcz14_2 : w13.cell? ⟨gb365, 2, none⟩ = some (.slice none 0 0) := (blk_cell BK365.out 2).trans rfl; have hfz14_0 := blk_frozen BK365.out 0; have hfz14_1 := blk_frozen BK365.out 1; have hfz14_2 := blk_frozen BK365.out 2; obtain ⟨Ao15, co15, eo15⟩ := Kd.V_slice HO363.out; subst eo15))
   go_ret
   exact ⟨by first | rfl | (simp [errW_none, errW_some] <;> rfl) | (simp [*, errW_none, errW_some] <;> rfl), a4_⟩
 ·replace c4 := Bool.eq_false_iff.mpr c4
  subst c4
  have H1 : (some false) = some r := by rw [if_neg (show ¬ (false = true) by decide)] at H; exact H
  clear H
  have H := H1
  clear H1
  obtain rfl := Option.some.inj H
  go_enter Try.func12, Try.ntmps12
  go_wp2_with (first | ((with_reducible refine gate_callee (f := 25) rfl ?_); refine goesL_ (some 9) rfl rfl Try.func25 (by kernel_rfl) rfl #[.string a0] rfl (a1_) ?_; (with_reducible refine (impl_readTest.calls k a0 t359 t360 t361 false _ A3.out).mono ?_); rintro e w16 ⟨v362, rfl, ho0, hb⟩; refine ⟨_, rfl, ?_⟩; have n_ := c2_ (Kd.V_lower (Kd.V_mono (ok' := fun k_ => True) ho0 (fun k_ hk_ => trivial)) (below_size (a2_))) (below_step (a2_) hb); clear HB; obtain ⟨HO363, HB⟩ := n_; (try clear hb); (try clear hb2); (try clear hk); (try clear hi); (try clear ho0)) | ((with_reducible refine gate_dst (N := 5) rfl ?_); (try (refine gate_guard (by rfl) ?_; dsimp only)); refine box_event ?hg (N := 5) ?hd (cs := #[.int .u8 0, .string (⟨#[]⟩ : ByteArray), .slice none 0 0]) (t := 49) ?hr ?_; (case hd => rfl); (case hg => rfl); (case hr => first | (go_simp; done) | (go_simp; rfl)); intro gb365 hg w17 hbox hb; have n_ := c5_ (Kd.V_below (Kd.V_elderB (by (with_reducible repeat (first | apply Kd.V_alloc | apply Kd.V_drewN | apply Kd.V_drew)); exact HO363.out) gb365 (Nat.le_of_eq hg.symm)) hb) (below_step (a2_) hb) (hbox) ((by rw [hg]; exact (below_size (a2_)) : w.heap.size ≤ gb365)) ((by rw [hg]; exact (below_size (a2_)) : w.heap.size ≤ gb365)); clear HO363 HB; obtain ⟨HO363, HB, BK365, GW365, GE365⟩ := n_; clear hb hbox hg; have hcz18_0 : w17.cell? ⟨gb365, 0, none⟩ = some (.int .u8 0) := (blk_cell BK365.out 0).trans rfl; have hcz18_1 : w17.cell? ⟨gb365, 1, none⟩ = some (.string (⟨#[]⟩ : ByteArray)) := (blk_cell BK365.out 1).trans rfl; have hcz18_2 : w17.cell? ⟨gb365, 2, none⟩ = some (.slice none 0 0) := (blk_cell BK365.out 2).trans rfl; have hfz18_0 := blk_frozen BK365.out 0; have hfz18_1 := blk_frozen BK365.out 1; have hfz18_2 := blk_frozen BK365.out 2; obtain ⟨Ao19, co19, eo19⟩ := Kd.V_slice HO363.out; subst eo19))
  go_ret
  exact ⟨by first | rfl | (simp [errW_none, errW_some] <;> rfl) | (simp [*, errW_none, errW_some] <;> rfl), a4_⟩

/-! ### laws_eqStringS: function 13 -/
def laws_eqStringS.l0 : Nat → List ByteArray → List ByteArray → Int → Option (Bool)
 | 0, _, _, _ => none
 | k + 1, x0, x1, x5 => if x5 < (x0.length : Int) then (if 0 ≤ x5 then (if x5 < (x1.length : Int) then (if (rdOf ByteArray.empty x0 x5).toList = (rdOf ByteArray.empty x1 x5).toList then (laws_eqStringS.l0 k x0 x1 (wrap64 (x5 + 1))) else (some false)) else (none)) else (none)) else (some true)
def laws_eqStringS.f (k : Nat) (l0 : List ByteArray) (l1 : List ByteArray) : Option (Bool) := if (l0.length : Int) = (l1.length : Int) then (laws_eqStringS.l0 k l0 l1 0) else (some false)
theorem laws_eqStringS.mono_l : ∀ k, (∀ y0 y1 y2, LeO (laws_eqStringS.l0 k y0 y1 y2) (laws_eqStringS.l0 (k + 1) y0 y1 y2))
 | 0 => fun _ _ _ r h => by simp [laws_eqStringS.l0] at h
 | k + 1 => by
  have ih0 := laws_eqStringS.mono_l k
  ·intro y0 y1 y2
   unfold laws_eqStringS.l0
   repeat' first
   | (with_reducible exact ih0 _ _ _)
   | (with_reducible exact LeO.refl _)
   | (with_reducible exact LeO.none _)
   | (with_reducible refine LeO.ite ?_ ?_)
   | (with_reducible refine LeO.bind ?_ (fun _ => ?_))
   | exact ih0 _ _ _
   | exact LeO.none _
   | refine LeO.ite ?_ ?_
   | refine LeO.bind ?_ (fun _ => ?_)
theorem laws_eqStringS.mono : ∀ a0 a1 k, LeO (laws_eqStringS.f k a0 a1) (laws_eqStringS.f (k + 1) a0 a1) := by
 intro a0 a1 k
 have ih0 := laws_eqStringS.mono_l k
 unfold laws_eqStringS.f
 repeat' first
   | (with_reducible exact ih0 _ _ _)
   | (with_reducible exact LeO.refl _)
   | (with_reducible exact LeO.none _)
   | (with_reducible refine LeO.ite ?_ ?_)
   | (with_reducible refine LeO.bind ?_ (fun _ => ?_))
   | exact ih0 _ _ _
   | exact LeO.none _
   | refine LeO.ite ?_ ?_
   | refine LeO.bind ?_ (fun _ => ?_)
set_option maxHeartbeats 8000000 in
set_option maxRecDepth 100000 in
theorem laws_eqStringS.calls (k : Nat) (A0 : Option Addr) (c0 : Nat) (l0 : List ByteArray) (A1 : Option Addr) (c1 : Nat) (l1 : List ByteArray) (r : Bool) (w : World) (hr0 : Kd.C Kd.string w A0 l0.length l0) (hc0 : l0.length ≤ c0) (hr1 : Kd.C Kd.string w A1 l1.length l1) (hc1 : l1.length ≤ c1) (h : laws_eqStringS.f k l0 l1 = some r) :
  Calls Try.prog 13 #[.slice A0 l0.length c0, .slice A1 l1.length c1] w fun e w' => e = .returned (.bool r) ∧ Drawn0 w w' := by
 have HR0 := Aside0.mk hr0
 have HC0 := Aside0.mk hc0
 clear hr0 hc0
 have HR1 := Aside0.mk hr1
 have HC1 := Aside0.mk hc1
 clear hr1 hc1
 have H : (if (l0.length : Int) = (l1.length : Int) then (laws_eqStringS.l0 k l0 l1 0) else (some false)) = some r := h
 clear h
 by_cases c3 : (l0.length : Int) = (l1.length : Int)
 ·rw [if_pos c3] at H
  have c3b0 : ((l0.length : Int) == (l1.length : Int)) = true := beq_iff_eq.mpr c3
  have c3b1 : ((l0.length : Int) != (l1.length : Int)) = false := bne_eq_false_iff_eq.mpr c3
  have c3b2 : (l0.length == l1.length) = true := by first | simpa using c3 | (simp at c3 ⊢; omega)
  clear c3
  have H' := Aside0.mk H
  clear H
  go_enter Try.func13, Try.ntmps13
  go_wp2
  repeat (go_quiet (fail); try go_wp2)
  go_loopg [5] k (fun kq v5 w' => ∃ (x5_1 : Int), v5 = .int .i64 x5_1 ∧ Aside0 (laws_eqStringS.l0 kq l0 l1 x5_1 = some r) ∧ Aside0 (kq ≤ k) ∧ Drawn0 w w')
  case atStart => exact ⟨(0), (by first | rfl | (simp; done) | (simp [*]; done)), H', ⟨Nat.le_refl _⟩, by repeat (first | exact Drawn0.refl _ | apply Drawn0.step)⟩
  case round =>
   clear H'
   try clear c1
   try clear p2
   try clear c3
   try clear c3b0
   try clear c3b1
   try clear c3b2
   obtain ⟨x5_1, rfl, HA, HK1, ⟨m1, rfl⟩⟩ := hrel
   cases gk with
   | zero => exact absurd HA.out (by simp [laws_eqStringS.l0])
   | succ k1 =>
    have H := HA.out
    clear HA
    simp only [laws_eqStringS.l0] at H
    by_cases c4 : x5_1 < (l0.length : Int)
    ·rw [if_pos c4] at H
     have c4b0 : decide (x5_1 < (l0.length : Int)) = true := decide_eq_true c4
     clear c4
     by_cases c5 : 0 ≤ x5_1
     ·rw [if_pos c5] at H
      have c5b0 : decide (0 ≤ x5_1) = true := decide_eq_true c5
      clear c5
      by_cases c6 : x5_1 < (l1.length : Int)
      ·rw [if_pos c6] at H
       have c6b0 : decide (x5_1 < (l1.length : Int)) = true := decide_eq_true c6
       clear c6
       by_cases c7 : (rdOf ByteArray.empty l0 x5_1).toList = (rdOf ByteArray.empty l1 x5_1).toList
       ·rw [if_pos c7] at H
        have c7b0 : ((rdOf ByteArray.empty l0 x5_1).toList == (rdOf ByteArray.empty l1 x5_1).toList) = true := beq_iff_eq.mpr c7
        have c7b1 : ((rdOf ByteArray.empty l0 x5_1).toList != (rdOf ByteArray.empty l1 x5_1).toList) = false := bne_eq_false_iff_eq.mpr c7
        clear c7
        have H' := Aside0.mk H
        clear H
        have p367 : 0 ≤ (x5_1 : Int) := of_decide_eq_true (by first | (with_reducible assumption) | assumption)
        have q367 : x5_1 < (l0.length : Int) := of_decide_eq_true (by first | (with_reducible assumption) | assumption)
        obtain ⟨ad367, e367, hx367_0⟩ := Kd.at_string HR0.out x5_1 p367 q367
        cases e367
        replace p367 := eq_true p367
        replace q367 := eq_true q367
        have p368 : 0 ≤ (x5_1 : Int) := of_decide_eq_true (by first | (with_reducible assumption) | assumption)
        have q368 : x5_1 < (l1.length : Int) := of_decide_eq_true (by first | (with_reducible assumption) | assumption)
        obtain ⟨ad368, e368, hx368_0⟩ := Kd.at_string HR1.out x5_1 p368 q368
        cases e368
        replace p368 := eq_true p368
        replace q368 := eq_true q368
        go_wp2
        repeat (go_quiet (fail); try go_wp2)
        go_roundg k1
        case measure => have := HK1.out; omega
        case rel => exact ⟨(wrap64 (x5_1 + 1)), (by first | rfl | (simp; done) | (simp [*]; done)), H', ⟨by have := HK1.out; omega⟩, by repeat (first | exact Drawn0.refl _ | apply Drawn0.step)⟩
       ·rw [if_neg c7] at H
        have c7b0 : ((rdOf ByteArray.empty l0 x5_1).toList == (rdOf ByteArray.empty l1 x5_1).toList) = false := beq_eq_false_iff_ne.mpr c7
        have c7b1 : ((rdOf ByteArray.empty l0 x5_1).toList != (rdOf ByteArray.empty l1 x5_1).toList) = true := bne_iff_ne.mpr c7
        obtain rfl := Option.some.inj H
        have p367 : 0 ≤ (x5_1 : Int) := of_decide_eq_true (by first | (with_reducible assumption) | assumption)
        have q367 : x5_1 < (l0.length : Int) := of_decide_eq_true (by first | (with_reducible assumption) | assumption)
        obtain ⟨ad367, e367, hx367_0⟩ := Kd.at_string HR0.out x5_1 p367 q367
        cases e367
        replace p367 := eq_true p367
        replace q367 := eq_true q367
        have p368 : 0 ≤ (x5_1 : Int) := of_decide_eq_true (by first | (with_reducible assumption) | assumption)
        have q368 : x5_1 < (l1.length : Int) := of_decide_eq_true (by first | (with_reducible assumption) | assumption)
        obtain ⟨ad368, e368, hx368_0⟩ := Kd.at_string HR1.out x5_1 p368 q368
        cases e368
        replace p368 := eq_true p368
        replace q368 := eq_true q368
        go_wp2
        repeat (go_quiet (fail); try go_wp2)
        go_ret
        exact ⟨by first | rfl | (simp; done) | (simp [*]; done), by repeat (first | exact Drawn0.refl _ | apply Drawn0.step)⟩
      ·rw [if_neg c6] at H
       exact absurd H (by simp)
     ·rw [if_neg c5] at H
      exact absurd H (by simp)
    ·rw [if_neg c4] at H
     have c4b0 : decide (x5_1 < (l0.length : Int)) = false := decide_eq_false c4
     clear c4
     obtain rfl := Option.some.inj H
     go_wp2
     repeat (go_quiet (fail); try go_wp2)
     go_ret
     exact ⟨by first | rfl | (simp; done) | (simp [*]; done), by repeat (first | exact Drawn0.refl _ | apply Drawn0.step)⟩
 ·rw [if_neg c3] at H
  have c3b0 : ((l0.length : Int) == (l1.length : Int)) = false := beq_eq_false_iff_ne.mpr c3
  have c3b1 : ((l0.length : Int) != (l1.length : Int)) = true := bne_iff_ne.mpr c3
  have c3b2 : (l0.length == l1.length) = false := by first | simpa using c3 | (simp at c3 ⊢; omega)
  obtain rfl := Option.some.inj H
  go_enter Try.func13, Try.ntmps13
  go_wp2
  repeat (go_quiet (fail); try go_wp2)
  go_ret
  exact ⟨by first | rfl | (simp; done) | (simp [*]; done), by repeat (first | exact Drawn0.refl _ | apply Drawn0.step)⟩

/-! ### laws_FnExactLabelsFit: function 4 -/
def laws_FnExactLabelsFit.f (k : Nat) (a0 : ByteArray) (l1 : List ByteArray) : Option (Bool) := if (a0.size : Int) > 1048576 then (some true) else ((laws_szStringS.f k l1 1048576).bind fun t369 => (if t369 < 0 then (some true) else ((laws_toStringS.f k l1).bind fun t370 => ((spec_LabelsFit.f k a0 t370).bind fun t373 => ((laws_toStringS.f k l1).bind fun t374 => ((impl_LabelsFit.f k a0 t374).bind fun t377 => (if (t377 != t373) = true then (some false) else ((laws_toStringS.f k l1).bind fun t378 => ((laws_eqStringS.f k t374 t378).bind fun t381 => (if t381 = true then (some true) else (some false)))))))))))
theorem laws_FnExactLabelsFit.a1_ {p : Prop} (h : p := by first | rfl | (simp [errW_none, errW_some] <;> rfl) | (simp [*, errW_none, errW_some] <;> rfl)) : p := h
theorem laws_FnExactLabelsFit.a2_ {p : Prop} (h : p := by repeat (first | (with_reducible first | exact HB.out | apply below_alloc | apply pw_below_drewN | apply below_drew1) | exact HB.out)) : p := h
theorem laws_FnExactLabelsFit.a3_ {p : Prop} (h : p := by (try simp only [List.map_toArray, List.map_cons, List.map_nil]); first | done | rfl | (simp only [List.length_drop, List.length_take]; rfl)) : p := h
theorem laws_FnExactLabelsFit.a4_ {p : Prop} (h : p := by repeat (first | exact HR1.out | (with_reducible refine Kd.C_alloc ?_ _) | (with_reducible refine Kd.C_drewN ?_ _) | (with_reducible refine Kd.C_drew ?_))) : p := h
theorem laws_FnExactLabelsFit.a5_ {p : Prop} (h : p := by repeat (first | exact (Kd.R_reads' HO372.out).2.2 | (with_reducible refine Kd.C_alloc ?_ _) | (with_reducible refine Kd.C_drewN ?_ _) | (with_reducible refine Kd.C_drew ?_))) : p := h
theorem laws_FnExactLabelsFit.a6_ {p : Prop} (h : p := by (with_reducible repeat (first | apply Kd.R_alloc | apply Kd.R_drewN | apply Kd.R_drew)); exact HO372.out) : p := h
theorem laws_FnExactLabelsFit.a7_ {p : Prop} (h : p := by repeat (first | exact (Kd.C_below HR1.out HB.out) | (with_reducible refine Kd.C_alloc ?_ _) | (with_reducible refine Kd.C_drewN ?_ _) | (with_reducible refine Kd.C_drew ?_))) : p := h
theorem laws_FnExactLabelsFit.a8_ {p : Prop} (h : p := by repeat (first | exact (Kd.R_reads' HO376.out).2.2 | (with_reducible refine Kd.C_alloc ?_ _) | (with_reducible refine Kd.C_drewN ?_ _) | (with_reducible refine Kd.C_drew ?_))) : p := h
theorem laws_FnExactLabelsFit.a9_ {p : Prop} (h : p := by (with_reducible repeat (first | apply Kd.R_alloc | apply Kd.R_drewN | apply Kd.R_drew)); exact HO376.out) : p := h
set_option maxHeartbeats 8000000 in
set_option maxRecDepth 100000 in
theorem laws_FnExactLabelsFit.calls (k : Nat) (a0 : ByteArray) (A1 : Option Addr) (c1 : Nat) (l1 : List ByteArray) (r : Bool) (w : World) (hr1 : Kd.C Kd.string w A1 l1.length l1) (hc1 : l1.length ≤ c1) (h : laws_FnExactLabelsFit.f k a0 l1 = some r) :
  Calls Try.prog 4 #[.string a0, .slice A1 l1.length c1] w fun e w' => e = .returned (.bool r) ∧ Below w.heap.size w w' := by
 have HR1 := Aside0.mk hr1
 have HC1 := Aside0.mk hc1
 clear hr1 hc1
 have HB := Aside0.mk (Below.refl w.heap.size w)
 have H : (if (a0.size : Int) > 1048576 then (some true) else ((laws_szStringS.f k l1 1048576).bind fun t369 => (if t369 < 0 then (some true) else ((laws_toStringS.f k l1).bind fun t370 => ((spec_LabelsFit.f k a0 t370).bind fun t373 => ((laws_toStringS.f k l1).bind fun t374 => ((impl_LabelsFit.f k a0 t374).bind fun t377 => (if (t377 != t373) = true then (some false) else ((laws_toStringS.f k l1).bind fun t378 => ((laws_eqStringS.f k t374 t378).bind fun t381 => (if t381 = true then (some true) else (some false)))))))))))) = some r := h
 clear h
 by_cases c3 : (a0.size : Int) > 1048576
 ·rw [if_pos c3] at H
  have c3b0 : decide (1048576 < (a0.size : Int)) = true := decide_eq_true c3
  have c3b1 : decide (1048576 < a0.size) = true := decide_eq_true (by omega)
  clear c3
  obtain rfl := Option.some.inj H
  go_enter Try.func4, Try.ntmps4
  go_wp2
  go_ret
  exact ⟨a1_, a2_⟩
 ·rw [if_neg c3] at H
  have c3b0 : decide (1048576 < (a0.size : Int)) = false := decide_eq_false c3
  have c3b1 : decide (1048576 < a0.size) = false := decide_eq_false (by omega)
  clear c3
  replace H := Option.bind_eq_some_iff.mp H
  obtain ⟨t369, A40, H⟩ := H
  replace H : (if t369 < 0 then (some true) else ((laws_toStringS.f k l1).bind fun t370 => ((spec_LabelsFit.f k a0 t370).bind fun t373 => ((laws_toStringS.f k l1).bind fun t374 => ((impl_LabelsFit.f k a0 t374).bind fun t377 => (if (t377 != t373) = true then (some false) else ((laws_toStringS.f k l1).bind fun t378 => ((laws_eqStringS.f k t374 t378).bind fun t381 => (if t381 = true then (some true) else (some false)))))))))) = some r := H
  have A4 := Aside0.mk A40
  clear A40
  by_cases c5 : t369 < 0
  ·rw [if_pos c5] at H
   have c5b0 : decide (t369 < 0) = true := decide_eq_true c5
   clear c5
   obtain rfl := Option.some.inj H
   go_enter Try.func4, Try.ntmps4
   go_wp2_with (first | ((with_reducible refine gate_callee (f := 9) rfl ?_); refine goesL_ (some 14) rfl rfl Try.func9 (by kernel_rfl) rfl #[.slice A1 l1.length c1, .int .i64 1048576] rfl (a3_) ?_; (with_reducible refine (laws_szStringS.calls k _ _ l1 1048576 t369 _ ?side1 ?side2 A4.out).mono ?_); (case side1 => exact a4_); (case side2 => exact HC1.out); rintro e w' ⟨rfl, ⟨nd, rfl⟩⟩; refine ⟨_, rfl, ?_⟩))
   go_ret
   exact ⟨a1_, a2_⟩
  ·rw [if_neg c5] at H
   have c5b0 : decide (t369 < 0) = false := decide_eq_false c5
   clear c5
   replace H := Option.bind_eq_some_iff.mp H
   obtain ⟨t370, A60, H⟩ := H
   replace H : ((spec_LabelsFit.f k a0 t370).bind fun t373 => ((laws_toStringS.f k l1).bind fun t374 => ((impl_LabelsFit.f k a0 t374).bind fun t377 => (if (t377 != t373) = true then (some false) else ((laws_toStringS.f k l1).bind fun t378 => ((laws_eqStringS.f k t374 t378).bind fun t381 => (if t381 = true then (some true) else (some false)))))))) = some r := H
   have A6 := Aside0.mk A60
   clear A60
   replace H := Option.bind_eq_some_iff.mp H
   obtain ⟨t373, A70, H⟩ := H
   replace H : ((laws_toStringS.f k l1).bind fun t374 => ((impl_LabelsFit.f k a0 t374).bind fun t377 => (if (t377 != t373) = true then (some false) else ((laws_toStringS.f k l1).bind fun t378 => ((laws_eqStringS.f k t374 t378).bind fun t381 => (if t381 = true then (some true) else (some false))))))) = some r := H
   have A7 := Aside0.mk A70
   clear A70
   replace H := Option.bind_eq_some_iff.mp H
   obtain ⟨t374, A80, H⟩ := H
   replace H : ((impl_LabelsFit.f k a0 t374).bind fun t377 => (if (t377 != t373) = true then (some false) else ((laws_toStringS.f k l1).bind fun t378 => ((laws_eqStringS.f k t374 t378).bind fun t381 => (if t381 = true then (some true) else (some false)))))) = some r := H
   have A8 := Aside0.mk A80
   clear A80
   replace H := Option.bind_eq_some_iff.mp H
   obtain ⟨t377, A90, H⟩ := H
   replace H : (if (t377 != t373) = true then (some false) else ((laws_toStringS.f k l1).bind fun t378 => ((laws_eqStringS.f k t374 t378).bind fun t381 => (if t381 = true then (some true) else (some false))))) = some r := H
   have A9 := Aside0.mk A90
   clear A90
   by_cases c10 : (t377 != t373) = true
   ·rw [if_pos c10] at H
    have c10b0 : (t377 != t373) = true := c10
    (try (have c10b1 : decide (t377 = t373) = false := by simpa using c10))
    (try (have c10b2 : (t377 == t373) = false := by simpa using c10))
    (try (have c10b3 : ¬ (t377 = t373) := by simpa using c10))
    clear c10
    obtain rfl := Option.some.inj H
    go_enter Try.func4, Try.ntmps4
    go_wp2_with (first | ((with_reducible refine gate_callee (f := 9) rfl ?_); refine goesL_ (some 14) rfl rfl Try.func9 (by kernel_rfl) rfl #[.slice A1 l1.length c1, .int .i64 1048576] rfl (a3_) ?_; (with_reducible refine (laws_szStringS.calls k _ _ l1 1048576 t369 _ ?side1 ?side2 A4.out).mono ?_); (case side1 => exact a4_); (case side2 => exact HC1.out); rintro e w' ⟨rfl, ⟨nd, rfl⟩⟩; refine ⟨_, rfl, ?_⟩) | ((with_reducible refine gate_callee (f := 11) rfl ?_); refine goesL_ (some 19) rfl rfl Try.func11 (by kernel_rfl) rfl #[.slice A1 l1.length c1] rfl (a3_) ?_; (with_reducible refine (laws_toStringS.calls k _ _ l1 t370 _ ?side1 ?side2 A6.out).mono ?_); (case side1 => exact a4_); (case side2 => exact HC1.out); rintro e w11 ⟨v371, rfl, ho0, hb⟩; refine ⟨_, rfl, ?_⟩; have n_ := c2_ (Kd.R_lower ho0 (below_size (a2_))) (below_step (a2_) hb); clear HB; obtain ⟨HO372, HB⟩ := n_; (try clear hb); (try clear hb2); (try clear hk); (try clear hi); (try clear ho0); obtain ⟨Ao12, co12, eo12⟩ := Kd.R_slice HO372.out; subst eo12) | ((with_reducible refine gate_callee (f := 10) rfl ?_); refine goesL_ (some 20) rfl rfl Try.func10 (by kernel_rfl) rfl #[.string a0, .slice Ao12 t370.length co12] rfl (a3_) ?_; (with_reducible refine (spec_LabelsFit.calls k a0 _ _ t370 t373 _ ?side1 ?side2 A7.out).mono ?_); (case side1 => exact a5_); (case side2 => exact (Kd.R_reads' HO372.out).2.1); rintro e w13 ⟨rfl, hb⟩; refine ⟨_, rfl, ?_⟩; have n_ := c2_ (Kd.R_below (a6_) hb) (below_step (a2_) hb); clear HO372 HB; obtain ⟨HO372, HB⟩ := n_; (try clear hb); (try clear hb2); (try clear hk); (try clear hi)) | ((with_reducible refine gate_callee (f := 11) rfl ?_); refine goesL_ (some 22) rfl rfl Try.func11 (by kernel_rfl) rfl #[.slice A1 l1.length c1] rfl (a3_) ?_; (with_reducible refine (laws_toStringS.calls k _ _ l1 t374 _ ?side1 ?side2 A8.out).mono ?_); (case side1 => exact a7_); (case side2 => exact HC1.out); rintro e w14 ⟨v375, rfl, ho0, hb⟩; refine ⟨_, rfl, ?_⟩; have n_ := c3_ (Kd.R_elder' (a6_) (Kd.R_base ho0) hb) (Kd.R_lower (Kd.R_new' ho0 (Kd.R_lt (a6_))) (below_size (a2_))) (below_step (a2_) hb); clear HO372 HB; obtain ⟨HO372, HO376, HB⟩ := n_; (try clear hb); (try clear hb2); (try clear hk); (try clear hi); (try clear ho0); obtain ⟨Ao15, co15, eo15⟩ := Kd.R_slice HO376.out; subst eo15) | ((with_reducible refine gate_callee (f := 12) rfl ?_); refine goesL_ (some 25) rfl rfl Try.func12 (by kernel_rfl) rfl #[.string a0, .slice Ao15 t374.length co15] rfl (a3_) ?_; (with_reducible refine (impl_LabelsFit.calls k a0 _ _ t374 t377 _ ?side1 ?side2 A9.out).mono ?_); (case side1 => exact a8_); (case side2 => exact (Kd.R_reads' HO376.out).2.1); rintro e w16 ⟨rfl, hb⟩; refine ⟨_, rfl, ?_⟩; have n_ := c3_ (Kd.R_below (a6_) hb) (Kd.R_below (a9_) hb) (below_step (a2_) hb); clear HO372 HO376 HB; obtain ⟨HO372, HO376, HB⟩ := n_; (try clear hb); (try clear hb2); (try clear hk); (try clear hi)))
    go_ret
    exact ⟨a1_, a2_⟩
   ·rw [if_neg c10] at H
    have c10b0 : (t377 != t373) = false := by simpa using c10
    (try (have c10b1 : decide (t377 = t373) = true := by simpa using c10))
    (try (have c10b2 : (t377 == t373) = true := by simpa using c10))
    clear c10
    replace H := Option.bind_eq_some_iff.mp H
    obtain ⟨t378, A170, H⟩ := H
    replace H : ((laws_eqStringS.f k t374 t378).bind fun t381 => (if t381 = true then (some true) else (some false))) = some r := H
    have A17 := Aside0.mk A170
    clear A170
    replace H := Option.bind_eq_some_iff.mp H
    obtain ⟨t381, A180, H⟩ := H
    replace H : (if t381 = true then (some true) else (some false)) = some r := H
    have A18 := Aside0.mk A180
    clear A180
    by_cases c19 : t381 = true
    ·subst c19
     have H1 : (some true) = some r := by rw [if_pos rfl] at H; exact H
     clear H
     have H := H1
     clear H1
     obtain rfl := Option.some.inj H
     go_enter Try.func4, Try.ntmps4
     go_wp2_with (first | ((with_reducible refine gate_callee (f := 9) rfl ?_); refine goesL_ (some 14) rfl rfl Try.func9 (by kernel_rfl) rfl #[.slice A1 l1.length c1, .int .i64 1048576] rfl (a3_) ?_; (with_reducible refine (laws_szStringS.calls k _ _ l1 1048576 t369 _ ?side1 ?side2 A4.out).mono ?_); (case side1 => exact a4_); (case side2 => exact HC1.out); rintro e w' ⟨rfl, ⟨nd, rfl⟩⟩; refine ⟨_, rfl, ?_⟩) | ((with_reducible refine gate_callee (f := 11) rfl ?_); refine goesL_ (some 19) rfl rfl Try.func11 (by kernel_rfl) rfl #[.slice A1 l1.length c1] rfl (a3_) ?_; (with_reducible refine (laws_toStringS.calls k _ _ l1 t370 _ ?side1 ?side2 A6.out).mono ?_); (case side1 => exact a4_); (case side2 => exact HC1.out); rintro e w20 ⟨v371, rfl, ho0, hb⟩; refine ⟨_, rfl, ?_⟩; have n_ := c2_ (Kd.R_lower ho0 (below_size (a2_))) (below_step (a2_) hb); clear HB; obtain ⟨HO372, HB⟩ := n_; (try clear hb); (try clear hb2); (try clear hk); (try clear hi); (try clear ho0); obtain ⟨Ao21, co21, eo21⟩ := Kd.R_slice HO372.out; subst eo21) | ((with_reducible refine gate_callee (f := 10) rfl ?_); refine goesL_ (some 20) rfl rfl Try.func10 (by kernel_rfl) rfl #[.string a0, .slice Ao21 t370.length co21] rfl (a3_) ?_; (with_reducible refine (spec_LabelsFit.calls k a0 _ _ t370 t373 _ ?side1 ?side2 A7.out).mono ?_); (case side1 => exact a5_); (case side2 => exact (Kd.R_reads' HO372.out).2.1); rintro e w22 ⟨rfl, hb⟩; refine ⟨_, rfl, ?_⟩; have n_ := c2_ (Kd.R_below (a6_) hb) (below_step (a2_) hb); clear HO372 HB; obtain ⟨HO372, HB⟩ := n_; (try clear hb); (try clear hb2); (try clear hk); (try clear hi)) | ((with_reducible refine gate_callee (f := 11) rfl ?_); refine goesL_ (some 22) rfl rfl Try.func11 (by kernel_rfl) rfl #[.slice A1 l1.length c1] rfl (a3_) ?_; (with_reducible refine (laws_toStringS.calls k _ _ l1 t374 _ ?side1 ?side2 A8.out).mono ?_); (case side1 => exact a7_); (case side2 => exact HC1.out); rintro e w23 ⟨v375, rfl, ho0, hb⟩; refine ⟨_, rfl, ?_⟩; have n_ := c3_ (Kd.R_elder' (a6_) (Kd.R_base ho0) hb) (Kd.R_lower (Kd.R_new' ho0 (Kd.R_lt (a6_))) (below_size (a2_))) (below_step (a2_) hb); clear HO372 HB; obtain ⟨HO372, HO376, HB⟩ := n_; (try clear hb); (try clear hb2); (try clear hk); (try clear hi); (try clear ho0); obtain ⟨Ao24, co24, eo24⟩ := Kd.R_slice HO376.out; subst eo24) | ((with_reducible refine gate_callee (f := 12) rfl ?_); refine goesL_ (some 25) rfl rfl Try.func12 (by kernel_rfl) rfl #[.string a0, .slice Ao24 t374.length co24] rfl (a3_) ?_; (with_reducible refine (impl_LabelsFit.calls k a0 _ _ t374 t377 _ ?side1 ?side2 A9.out).mono ?_); (case side1 => exact a8_); (case side2 => exact (Kd.R_reads' HO376.out).2.1); rintro e w25 ⟨rfl, hb⟩; refine ⟨_, rfl, ?_⟩; have n_ := c3_ (Kd.R_below (a6_) hb) (Kd.R_below (a9_) hb) (below_step (a2_) hb); clear HO372 HO376 HB; obtain ⟨HO372, HO376, HB⟩ := n_; (try clear hb); (try clear hb2); (try clear hk); (try clear hi)) | ((with_reducible refine gate_callee (f := 11) rfl ?_); refine goesL_ (some 31) rfl rfl Try.func11 (by kernel_rfl) rfl #[.slice A1 l1.length c1] rfl (a3_) ?_; (with_reducible refine (laws_toStringS.calls k _ _ l1 t378 _ ?side1 ?side2 A17.out).mono ?_); (case side1 => exact a7_); (case side2 => exact HC1.out); rintro e w26 ⟨v379, rfl, ho0, hb⟩; refine ⟨_, rfl, ?_⟩; have n_ := c4_ (Kd.R_elder' (a6_) (Kd.R_base ho0) hb) (Kd.R_elder' (a9_) (Kd.R_base ho0) hb) (Kd.R_lower (Kd.R_new' (Kd.R_new' ho0 (Kd.R_lt (a6_))) (Kd.R_lt (a9_))) (below_size (a2_))) (below_step (a2_) hb); clear HO372 HO376 HB; obtain ⟨HO372, HO376, HO380, HB⟩ := n_; (try clear hb); (try clear hb2); (try clear hk); (try clear hi); (try clear ho0); obtain ⟨Ao27, co27, eo27⟩ := Kd.R_slice HO380.out; subst eo27) | ((with_reducible refine gate_callee (f := 13) rfl ?_); refine goesL_ (some 32) rfl rfl Try.func13 (by kernel_rfl) rfl #[.slice Ao24 t374.length co24, .slice Ao27 t378.length co27] rfl (a3_) ?_; (with_reducible refine (laws_eqStringS.calls k _ _ t374 _ _ t378 true _ ?side1 ?side2 ?side3 ?side4 A18.out).mono ?_); (case side1 => exact a8_); (case side2 => exact (Kd.R_reads' HO376.out).2.1); (case side3 => exact by repeat (first | exact (Kd.R_reads' HO380.out).2.2 | (with_reducible refine Kd.C_alloc ?_ _) | (with_reducible refine Kd.C_drewN ?_ _) | (with_reducible refine Kd.C_drew ?_))); (case side4 => exact (Kd.R_reads' HO380.out).2.1); rintro e w' ⟨rfl, ⟨nd, rfl⟩⟩; refine ⟨_, rfl, ?_⟩))
     go_ret
     exact ⟨a1_, a2_⟩
    ·replace c19 := Bool.eq_false_iff.mpr c19
     subst c19
     have H1 : (some false) = some r := by rw [if_neg (show ¬ (false = true) by decide)] at H; exact H
     clear H
     have H := H1
     clear H1
     obtain rfl := Option.some.inj H
     go_enter Try.func4, Try.ntmps4
     go_wp2_with (first | ((with_reducible refine gate_callee (f := 9) rfl ?_); refine goesL_ (some 14) rfl rfl Try.func9 (by kernel_rfl) rfl #[.slice A1 l1.length c1, .int .i64 1048576] rfl (a3_) ?_; (with_reducible refine (laws_szStringS.calls k _ _ l1 1048576 t369 _ ?side1 ?side2 A4.out).mono ?_); (case side1 => exact a4_); (case side2 => exact HC1.out); rintro e w' ⟨rfl, ⟨nd, rfl⟩⟩; refine ⟨_, rfl, ?_⟩) | ((with_reducible refine gate_callee (f := 11) rfl ?_); refine goesL_ (some 19) rfl rfl Try.func11 (by kernel_rfl) rfl #[.slice A1 l1.length c1] rfl (a3_) ?_; (with_reducible refine (laws_toStringS.calls k _ _ l1 t370 _ ?side1 ?side2 A6.out).mono ?_); (case side1 => exact a4_); (case side2 => exact HC1.out); rintro e w28 ⟨v371, rfl, ho0, hb⟩; refine ⟨_, rfl, ?_⟩; have n_ := c2_ (Kd.R_lower ho0 (below_size (a2_))) (below_step (a2_) hb); clear HB; obtain ⟨HO372, HB⟩ := n_; (try clear hb); (try clear hb2); (try clear hk); (try clear hi); (try clear ho0); obtain ⟨Ao29, co29, eo29⟩ := Kd.R_slice HO372.out; subst eo29) | ((with_reducible refine gate_callee (f := 10) rfl ?_); refine goesL_ (some 20) rfl rfl Try.func10 (by kernel_rfl) rfl #[.string a0, .slice Ao29 t370.length co29] rfl (a3_) ?_; (with_reducible refine (spec_LabelsFit.calls k a0 _ _ t370 t373 _ ?side1 ?side2 A7.out).mono ?_); (case side1 => exact a5_); (case side2 => exact (Kd.R_reads' HO372.out).2.1); rintro e w30 ⟨rfl, hb⟩; refine ⟨_, rfl, ?_⟩; have n_ := c2_ (Kd.R_below (a6_) hb) (below_step (a2_) hb); clear HO372 HB; obtain ⟨HO372, HB⟩ := n_; (try clear hb); (try clear hb2); (try clear hk); (try clear hi)) | ((with_reducible refine gate_callee (f := 11) rfl ?_); refine goesL_ (some 22) rfl rfl Try.func11 (by kernel_rfl) rfl #[.slice A1 l1.length c1] rfl (a3_) ?_; (with_reducible refine (laws_toStringS.calls k _ _ l1 t374 _ ?side1 ?side2 A8.out).mono ?_); (case side1 => exact a7_); (case side2 => exact HC1.out); rintro e w31 ⟨v375, rfl, ho0, hb⟩; refine ⟨_, rfl, ?_⟩; have n_ := c3_ (Kd.R_elder' (a6_) (Kd.R_base ho0) hb) (Kd.R_lower (Kd.R_new' ho0 (Kd.R_lt (a6_))) (below_size (a2_))) (below_step (a2_) hb); clear HO372 HB; obtain ⟨HO372, HO376, HB⟩ := n_; (try clear hb); (try clear hb2); (try clear hk); (try clear hi); (try clear ho0); obtain ⟨Ao32, co32, eo32⟩ := Kd.R_slice HO376.out; subst eo32) | ((with_reducible refine gate_callee (f := 12) rfl ?_); refine goesL_ (some 25) rfl rfl Try.func12 (by kernel_rfl) rfl #[.string a0, .slice Ao32 t374.length co32] rfl (a3_) ?_; (with_reducible refine (impl_LabelsFit.calls k a0 _ _ t374 t377 _ ?side1 ?side2 A9.out).mono ?_); (case side1 => exact a8_); (case side2 => exact (Kd.R_reads' HO376.out).2.1); rintro e w33 ⟨rfl, hb⟩; refine ⟨_, rfl, ?_⟩; have n_ := c3_ (Kd.R_below (a6_) hb) (Kd.R_below (a9_) hb) (below_step (a2_) hb); clear HO372 HO376 HB; obtain ⟨HO372, HO376, HB⟩ := n_; (try clear hb); (try clear hb2); (try clear hk); (try clear hi)) | ((with_reducible refine gate_callee (f := 11) rfl ?_); refine goesL_ (some 31) rfl rfl Try.func11 (by kernel_rfl) rfl #[.slice A1 l1.length c1] rfl (a3_) ?_; (with_reducible refine (laws_toStringS.calls k _ _ l1 t378 _ ?side1 ?side2 A17.out).mono ?_); (case side1 => exact a7_); (case side2 => exact HC1.out); rintro e w34 ⟨v379, rfl, ho0, hb⟩; refine ⟨_, rfl, ?_⟩; have n_ := c4_ (Kd.R_elder' (a6_) (Kd.R_base ho0) hb) (Kd.R_elder' (a9_) (Kd.R_base ho0) hb) (Kd.R_lower (Kd.R_new' (Kd.R_new' ho0 (Kd.R_lt (a6_))) (Kd.R_lt (a9_))) (below_size (a2_))) (below_step (a2_) hb); clear HO372 HO376 HB; obtain ⟨HO372, HO376, HO380, HB⟩ := n_; (try clear hb); (try clear hb2); (try clear hk); (try clear hi); (try clear ho0); obtain ⟨Ao35, co35, eo35⟩ := Kd.R_slice HO380.out; subst eo35) | ((with_reducible refine gate_callee (f := 13) rfl ?_); refine goesL_ (some 32) rfl rfl Try.func13 (by kernel_rfl) rfl #[.slice Ao32 t374.length co32, .slice Ao35 t378.length co35] rfl (a3_) ?_; (with_reducible refine (laws_eqStringS.calls k _ _ t374 _ _ t378 false _ ?side1 ?side2 ?side3 ?side4 A18.out).mono ?_); (case side1 => exact a8_); (case side2 => exact (Kd.R_reads' HO376.out).2.1); (case side3 => exact by repeat (first | exact (Kd.R_reads' HO380.out).2.2 | (with_reducible refine Kd.C_alloc ?_ _) | (with_reducible refine Kd.C_drewN ?_ _) | (with_reducible refine Kd.C_drew ?_))); (case side4 => exact (Kd.R_reads' HO380.out).2.1); rintro e w' ⟨rfl, ⟨nd, rfl⟩⟩; refine ⟨_, rfl, ?_⟩))
     go_ret
     exact ⟨a1_, a2_⟩

end Go.Proofs.Ytelfhdblldapmaa.PFnExactLabelsFit
