/- Walks of Go functions, written by program out of the print of the translation, with contracts of our own where the print has none. -/
import Derived.Test.YtmecapnpgedcnaaPFnExactGrantsFaultx0
import Derived.Test.YtmecapnpgedcnaaPFnExactGrantsFaultx6
import Derived.Test.YtmecapnpgedcnaaPFnExactGrantsFaultx9
namespace Go.Proofs.Ytmecapnpgedcnaa.PFnExactGrantsFault
open Go.RowKit Go.Proofs.YtmecapnpgedcnaaW.PrintWords Go.Proofs.YtmecapnpgedcnaaW.PrintLast Go.Proofs.YtmecapnpgedcnaaW.PrintMore
attribute [local go_sem] max2_int min2_int max_two min_two max_three min_three max_four min_four   -- for this text's walks alone
set_option linter.unusedVariables false
set_option linter.unusedSimpArgs false

/-! ### impl_test_show1: function 99 -/
def impl_test_show1.T10 : Bool × List (List Nat × List Nat) := (true, [([], []), ([], []), ([], []), ([2], [2]), ([1, 3, 3], [1, 3]), ([4], [4]), ([0, 5, 4], [0, 5]), ([6, 6, 0, 1, 2, 3, 4, 5, 6], [0, 6])])
def impl_test_show1.B10 : List Nat := [0, 0, 0, 4, 14, 30, 63, 127]
theorem impl_test_show1.tab10 : rtab .any (opsOf Try.f99 10) = impl_test_show1.T10 := by kernel_rfl
theorem impl_test_show1.bits10 : waitsOk impl_test_show1.T10.2 impl_test_show1.B10 = true := by kernel_rfl
theorem impl_test_show1.a1_ {p : Prop} (h : p := by repeat (first | (with_reducible first | exact HB.out | apply below_alloc | apply pw_below_drewN | apply below_drew1) | exact HB.out)) : p := h
theorem impl_test_show1.a2_ {p : Prop} (h : p := by repeat (first | (with_reducible first | exact HB.out | apply below_alloc | apply pw_below_drewN | apply below_drew1 | refine below_set ?_ GE329.out) | exact HB.out)) : p := h
theorem impl_test_show1.a3_ {p : Prop} (h : p := by (try simp only [List.map_toArray, List.map_cons, List.map_nil]); first | done | rfl | (simp only [List.length_drop, List.length_take]; rfl)) : p := h
theorem impl_test_show1.a4_ {p : Prop} (h : p := by (with_reducible repeat (first | refine blk_drewN ?_ _ | refine blk_drew ?_ | refine blk_alloc ?_ _)); exact BK329.out) : p := h
theorem impl_test_show1.a5_ {p : Prop} (h : p := by (with_reducible repeat (first | apply Kd.R_alloc | apply Kd.R_drewN | apply Kd.R_drew)); exact HO_3.out) : p := h
theorem impl_test_show1.a6_ {p : Prop} (h : p := by repeat (first | (with_reducible first | exact HB.out | apply below_alloc | apply pw_below_drewN | apply below_drew1 | refine below_set ?_ GE329.out | refine below_set ?_ GE333.out) | exact HB.out)) : p := h
theorem impl_test_show1.a7_ {p : Prop} (h : p := by (with_reducible repeat (first | refine blk_drewN ?_ _ | refine blk_drew ?_ | refine blk_alloc ?_ _)); exact BK333.out) : p := h
section
variable [impl_test_show.C]
def impl_test_show1.l0 : Nat → List ByteArray → List (S133) → Int → Int → Int → ByteArray → List (S133) → Option (ByteArray)
 | 0, _, _, _, _, _, _, _ => none
 | k + 1, x3, x21, x22, x23, x330000, x330001, x330002 => if x23 < x22 then (if 0 ≤ x23 then (if x23 < (x21.length : Int) then ((impl_test_rank.f x330000 x330001 x330002).bind fun t334 => ((impl_test_within.f ((rd_T133 x21 x23).f0) ((rd_T133 x21 x23).f1) ((rd_T133 x21 x23).f2) t334).bind fun t335 => (if x3.length < 8796093022208 then (impl_test_show1.l0 k (x3 ++ [t335]) x21 x22 (wrap64 (x23 + 1)) x330000 x330001 x330002) else (none)))) else (none)) else (none)) else ((strings_Join.f x3 (Utf8.encode (wrap32 (x330000)))).bind fun t339 => (some t339))
def impl_test_show1.f (k : Nat) (a0_0 : Int) (a0_1 : ByteArray) (l0_2 : List (S133)) : Option (ByteArray) := if a0_0 = 0 then (some a0_1) else (if a0_0 = 33 then (if 0 < (l0_2.length : Int) then ((impl_test_within.f ((rd_T133 l0_2 0).f0) ((rd_T133 l0_2 0).f1) ((rd_T133 l0_2 0).f2) 3).bind fun t331 => (if 1 + t331.size ≤ 9223372036854775807 then (some ((⟨#[33]⟩ : ByteArray) ++ t331)) else (none))) else (none)) else (impl_test_show1.l0 k ([] : List ByteArray) l0_2 (l0_2.length : Int) 0 a0_0 a0_1 l0_2))
theorem impl_test_show1.mono_l : ∀ k, (∀ y0 y1 y2 y3 y4 y5 y6, LeO (impl_test_show1.l0 k y0 y1 y2 y3 y4 y5 y6) (impl_test_show1.l0 (k + 1) y0 y1 y2 y3 y4 y5 y6))
 | 0 => fun _ _ _ _ _ _ _ r h => by simp [impl_test_show1.l0] at h
 | k + 1 => by
  have ih0 := impl_test_show1.mono_l k
  ·intro y0 y1 y2 y3 y4 y5 y6
   unfold impl_test_show1.l0
   repeat' first
   | (with_reducible exact ih0 _ _ _ _ _ _ _)
   | (with_reducible exact LeO.refl _)
   | (with_reducible exact LeO.none _)
   | (with_reducible refine LeO.ite ?_ ?_)
   | (with_reducible refine LeO.bind ?_ (fun _ => ?_))
   | exact ih0 _ _ _ _ _ _ _
   | exact LeO.none _
   | refine LeO.ite ?_ ?_
   | refine LeO.bind ?_ (fun _ => ?_)
theorem impl_test_show1.mono : ∀ a0 a1 a2 k, LeO (impl_test_show1.f k a0 a1 a2) (impl_test_show1.f (k + 1) a0 a1 a2) := by
 intro a0 a1 a2 k
 have ih0 := impl_test_show1.mono_l k
 unfold impl_test_show1.f
 repeat' first
   | (with_reducible exact ih0 _ _ _ _ _ _ _)
   | (with_reducible exact LeO.refl _)
   | (with_reducible exact LeO.none _)
   | (with_reducible refine LeO.ite ?_ ?_)
   | (with_reducible refine LeO.bind ?_ (fun _ => ?_))
   | exact ih0 _ _ _ _ _ _ _
   | exact LeO.none _
   | refine LeO.ite ?_ ?_
   | refine LeO.bind ?_ (fun _ => ?_)
set_option maxHeartbeats 8000000 in
set_option maxRecDepth 100000 in
theorem impl_test_show1.calls (k : Nat) (a0_0 : Int) (a0_1 : ByteArray) (A0_2 : Option Addr) (c0_2 : Nat) (l0_2 : List (S133)) (r : ByteArray) (w : World) (hr0_2 : Kd.C k133 w A0_2 l0_2.length l0_2) (hc0_2 : l0_2.length ≤ c0_2) (h : impl_test_show1.f k a0_0 a0_1 l0_2 = some r) :
  Calls Try.prog 99 #[.agg #[.int .u8 a0_0, .string a0_1, .slice A0_2 l0_2.length c0_2]] w fun e w' => e = .returned (.string r) ∧ Below w.heap.size w w' := by
 have hu133 := Try.underlying133
 have HR0_2 := Aside0.mk hr0_2
 have HC0_2 := Aside0.mk hc0_2
 clear hr0_2 hc0_2
 have HB := Aside0.mk (Below.refl w.heap.size w)
 have H : (if a0_0 = 0 then (some a0_1) else (if a0_0 = 33 then (if 0 < (l0_2.length : Int) then ((impl_test_within.f ((rd_T133 l0_2 0).f0) ((rd_T133 l0_2 0).f1) ((rd_T133 l0_2 0).f2) 3).bind fun t331 => (if 1 + t331.size ≤ 9223372036854775807 then (some ((⟨#[33]⟩ : ByteArray) ++ t331)) else (none))) else (none)) else (impl_test_show1.l0 k ([] : List ByteArray) l0_2 (l0_2.length : Int) 0 a0_0 a0_1 l0_2))) = some r := h
 clear h
 by_cases c2 : a0_0 = 0
 ·rw [if_pos c2] at H
  have c2b0 : (a0_0 == 0) = true := beq_iff_eq.mpr c2
  have c2b1 : (a0_0 != 0) = false := bne_eq_false_iff_eq.mpr c2
  clear c2
  obtain rfl := Option.some.inj H
  go_enter Try.func99, Try.ntmps99
  go_wp2_with (first | ((with_reducible refine gate_dst (N := 1) rfl ?_); refine box_event ?hg (N := 1) ?hd (cs := #[.int .u8 a0_0, .string a0_1, .slice A0_2 l0_2.length c0_2]) (t := 133) ?hr ?_; (case hd => rfl); (case hg => rfl); (case hr => first | (go_simp; done) | (go_simp; rfl)); intro gb329 hg w3 hbox hb; have n_ := c4_ (below_step (a1_) hb) (hbox) ((by rw [hg]; exact (below_size (a1_)) : w.heap.size ≤ gb329)) ((by rw [hg]; exact (below_size (a1_)) : w.heap.size ≤ gb329)); clear HB; obtain ⟨HB, BK329, GW329, GE329⟩ := n_; clear hb hbox hg; have hcz4_0 : w3.cell? ⟨gb329, 0, none⟩ = some (.int .u8 a0_0) := (blk_cell BK329.out 0).trans rfl; have hcz4_1 : w3.cell? ⟨gb329, 1, none⟩ = some (.string a0_1) := (blk_cell BK329.out 1).trans rfl; have hcz4_2 : w3.cell? ⟨gb329, 2, none⟩ = some (.slice A0_2 l0_2.length c0_2) := (blk_cell BK329.out 2).trans rfl; have hfz4_0 := blk_frozen BK329.out 0; have hfz4_1 := blk_frozen BK329.out 1; have hfz4_2 := blk_frozen BK329.out 2))
  go_ret
  exact ⟨by first | rfl | (simp [errW_none, errW_some] <;> rfl) | (simp [*, errW_none, errW_some] <;> rfl), a2_⟩
 ·rw [if_neg c2] at H
  have c2b0 : (a0_0 == 0) = false := beq_eq_false_iff_ne.mpr c2
  have c2b1 : (a0_0 != 0) = true := bne_iff_ne.mpr c2
  by_cases c5 : a0_0 = 33
  ·rw [if_pos c5] at H
   have c5b0 : (a0_0 == 33) = true := beq_iff_eq.mpr c5
   have c5b1 : (a0_0 != 33) = false := bne_eq_false_iff_eq.mpr c5
   clear c5
   by_cases c6 : 0 < (l0_2.length : Int)
   ·rw [if_pos c6] at H
    have c6b0 : decide (0 < (l0_2.length : Int)) = true := decide_eq_true c6
    have c6b1 : decide (0 < l0_2.length) = true := decide_eq_true (by omega)
    clear c6
    replace H := Option.bind_eq_some_iff.mp H
    obtain ⟨t331, A70, H⟩ := H
    replace H : (if 1 + t331.size ≤ 9223372036854775807 then (some ((⟨#[33]⟩ : ByteArray) ++ t331)) else (none)) = some r := H
    have A7 := Aside0.mk A70
    clear A70
    by_cases c8 : 1 + t331.size ≤ 9223372036854775807
    ·rw [if_pos c8] at H
     have c8b0 := eq_true c8
     have c8b1 : decide (1 + t331.size ≤ 9223372036854775807) = true := decide_eq_true c8
     try have c8b2 : (9223372036854775807 < 1 + t331.size) = False := eq_false (Nat.not_lt.2 c8)
     obtain rfl := Option.some.inj H
     go_enter Try.func99, Try.ntmps99
     go_wp2_with (first | ((with_reducible refine gate_dst (N := 1) rfl ?_); refine box_event ?hg (N := 1) ?hd (cs := #[.int .u8 a0_0, .string a0_1, .slice A0_2 l0_2.length c0_2]) (t := 133) ?hr ?_; (case hd => rfl); (case hg => rfl); (case hr => first | (go_simp; done) | (go_simp; rfl)); intro gb329 hg w9 hbox hb; have n_ := c4_ (below_step (a1_) hb) (hbox) ((by rw [hg]; exact (below_size (a1_)) : w.heap.size ≤ gb329)) ((by rw [hg]; exact (below_size (a1_)) : w.heap.size ≤ gb329)); clear HB; obtain ⟨HB, BK329, GW329, GE329⟩ := n_; clear hb hbox hg; have hcz10_0 : w9.cell? ⟨gb329, 0, none⟩ = some (.int .u8 a0_0) := (blk_cell BK329.out 0).trans rfl; have hcz10_1 : w9.cell? ⟨gb329, 1, none⟩ = some (.string a0_1) := (blk_cell BK329.out 1).trans rfl; have hcz10_2 : w9.cell? ⟨gb329, 2, none⟩ = some (.slice A0_2 l0_2.length c0_2) := (blk_cell BK329.out 2).trans rfl; have hfz10_0 := blk_frozen BK329.out 0; have hfz10_1 := blk_frozen BK329.out 1; have hfz10_2 := blk_frozen BK329.out 2; have p330 : 0 ≤ (0 : Int) := (by omega); have q330 : 0 < (l0_2.length : Int) := of_decide_eq_true (by first | (with_reducible assumption) | assumption); obtain ⟨ad330, A330_2, c330_2, e330, hx330_0, hx330_1, hx330_2, hl330_2, hi330_2⟩ := at_T133 HR0_2.out 0 p330 q330; cases e330; have qi330 : (0 < l0_2.length) = True := eq_true (by omega); (try rw [show ((0 : Int)).toNat = 0 from rfl] at hx330_0); (try rw [show 0 * 3 = 0 from rfl] at hx330_0); (try rw [Addr.add_zero'] at hx330_0); (try rw [show ((0 : Int)).toNat = 0 from rfl] at hx330_1); (try rw [show 0 * 3 = 0 from rfl] at hx330_1); (try rw [Addr.add_zero'] at hx330_1); (try rw [show ((0 : Int)).toNat = 0 from rfl] at hx330_2); (try rw [show 0 * 3 = 0 from rfl] at hx330_2); (try rw [Addr.add_zero'] at hx330_2); replace hx330_0 := (HB.out.cell (World.block_lt_of_cell? w _ hx330_0)).trans hx330_0; replace hx330_1 := (HB.out.cell (World.block_lt_of_cell? w _ hx330_1)).trans hx330_1; replace hx330_2 := (HB.out.cell (World.block_lt_of_cell? w _ hx330_2)).trans hx330_2; have HR330_2 := Aside0.mk hi330_2; have HC330_2 := Aside0.mk hl330_2; clear hi330_2 hl330_2; replace p330 := eq_true p330; replace q330 := eq_true q330) | ((with_reducible refine gate_callee (f := 103) rfl ?_); refine goesL_ (some 18) rfl rfl Try.func103 (by kernel_rfl) rfl #[.agg #[.int .u8 ((rd_T133 l0_2 0).f0), .string ((rd_T133 l0_2 0).f1), .slice A330_2 ((rd_T133 l0_2 0).f2).length c330_2], .int .i64 3] rfl (a3_) ?_; (with_reducible refine (impl_test_within.calls ((rd_T133 l0_2 0).f0) ((rd_T133 l0_2 0).f1) _ _ ((rd_T133 l0_2 0).f2) 3 t331 _ ?side1 ?side2 A7.out).mono ?_); (case side1 => exact by repeat (first | exact (Kd.C_below HR330_2.out HB.out) | (with_reducible refine Kd.C_alloc ?_ _) | (with_reducible refine Kd.C_drewN ?_ _) | (with_reducible refine Kd.C_drew ?_))); (case side2 => exact HC330_2.out); rintro e w11 ⟨rfl, hb⟩; refine ⟨_, rfl, ?_⟩; have n_ := c2_ (blk_below (g := gb329) (o := .cells #[.int .u8 a0_0, .string a0_1, .slice (some ad330) l0_2.length c0_2] 133 (0, 0)) (a4_) hb) (below_step (a2_) hb); clear BK329 HB; obtain ⟨BK329, HB⟩ := n_; (try clear hb); (try clear hb2); (try clear hk); (try clear hi)))
     go_ret
     exact ⟨by first | rfl | (simp [errW_none, errW_some] <;> rfl) | (simp [*, errW_none, errW_some] <;> rfl), a2_⟩
    ·rw [if_neg c8] at H
     exact absurd H (by simp)
   ·rw [if_neg c6] at H
    exact absurd H (by simp)
  ·rw [if_neg c5] at H
   have c5b0 : (a0_0 == 33) = false := beq_eq_false_iff_ne.mpr c5
   have c5b1 : (a0_0 != 33) = true := bne_iff_ne.mpr c5
   have H' := Aside0.mk H
   clear H
   go_enter Try.func99, Try.ntmps99
   go_wp2_with (first | ((with_reducible refine gate_dst (N := 1) rfl ?_); refine box_event ?hg (N := 1) ?hd (cs := #[.int .u8 a0_0, .string a0_1, .slice A0_2 l0_2.length c0_2]) (t := 133) ?hr ?_; (case hd => rfl); (case hg => rfl); (case hr => first | (go_simp; done) | (go_simp; rfl)); intro gb329 hg w12 hbox hb; have n_ := c4_ (below_step (a1_) hb) (hbox) ((by rw [hg]; exact (below_size (a1_)) : w.heap.size ≤ gb329)) ((by rw [hg]; exact (below_size (a1_)) : w.heap.size ≤ gb329)); clear HB; obtain ⟨HB, BK329, GW329, GE329⟩ := n_; clear hb hbox hg; have hcz13_0 : w12.cell? ⟨gb329, 0, none⟩ = some (.int .u8 a0_0) := (blk_cell BK329.out 0).trans rfl; have hcz13_1 : w12.cell? ⟨gb329, 1, none⟩ = some (.string a0_1) := (blk_cell BK329.out 1).trans rfl; have hcz13_2 : w12.cell? ⟨gb329, 2, none⟩ = some (.slice A0_2 l0_2.length c0_2) := (blk_cell BK329.out 2).trans rfl; have hfz13_0 := blk_frozen BK329.out 0; have hfz13_1 := blk_frozen BK329.out 1; have hfz13_2 := blk_frozen BK329.out 2))
   go_loopg [3, 23] k (fun kq v3 v23 w' => ∃ (x3_1 : List ByteArray) (x23_1 : Int), v23 = .int .i64 x23_1 ∧ Aside0 (impl_test_show1.l0 kq x3_1 l0_2 (l0_2.length : Int) x23_1 a0_0 a0_1 l0_2 = some r) ∧ Aside0 (kq ≤ k) ∧ Aside0 (Kd.R Kd.string 9 w' w.heap.size (fun _ => True) v3 x3_1) ∧ Aside0 (w'.heap[gb329]? = some (.cells #[.int .u8 a0_0, .string a0_1, (.slice A0_2 l0_2.length c0_2)] 133 (0, 0))) ∧ Aside0 (Below w.heap.size w w'))
   case atStart => exact ⟨(([] : List ByteArray)), (0), (by first | rfl | (simp; done) | (simp [*]; done)), H', ⟨Nat.le_refl _⟩, ⟨by first | exact Kd.R_nil _ _ _ _ _ | exact Kd.N_nil _ _ _ _ _ | exact Kd.V_nil _ _ _ _ _ | exact Kd.Q_nil _ _ _ _ _ | exact Kd.S_nil _ _ _ _ _⟩, ⟨a4_⟩, ⟨a2_⟩⟩
   case round =>
    clear H'
    try clear c1
    try clear c2
    try clear c2b0
    try clear c2b1
    try clear p2
    try clear c3
    try clear p3
    try clear q3
    try clear hx3
    try clear qi3
    try clear c5
    try clear c5b0
    try clear c5b1
    try clear c6
    try clear c6b0
    try clear c6b1
    try clear c8
    try clear c8b0
    try clear c8b1
    try clear c8b2
    try clear c9
    try clear c10
    try clear hcz10_0
    try clear hcz10_1
    try clear hcz10_2
    try clear hcz13_0
    try clear hcz13_1
    try clear hcz13_2
    try clear hcz4_0
    try clear hcz4_1
    try clear hcz4_2
    try clear hfz10_0
    try clear hfz10_1
    try clear hfz10_2
    try clear hfz13_0
    try clear hfz13_1
    try clear hfz13_2
    try clear hfz4_0
    try clear hfz4_1
    try clear hfz4_2
    try clear hx330_0
    try clear hx330_1
    try clear hx330_2
    try clear p330
    try clear q330
    obtain ⟨x3_1, x23_1, rfl, HA, HK1, HO_3, BK329, HB⟩ := hrel
    cases gk with
    | zero => exact absurd HA.out (by simp [impl_test_show1.l0])
    | succ k1 =>
     have H := HA.out
     clear HA
     simp only [impl_test_show1.l0] at H
     by_cases c14 : x23_1 < (l0_2.length : Int)
     ·rw [if_pos c14] at H
      have c14b0 : decide (x23_1 < (l0_2.length : Int)) = true := decide_eq_true c14
      clear c14
      by_cases c15 : 0 ≤ x23_1
      ·rw [if_pos c15] at H
       have c15b0 : decide (0 ≤ x23_1) = true := decide_eq_true c15
       clear c15
       by_cases c16 : x23_1 < (l0_2.length : Int)
       ·rw [if_pos c16] at H
        have c16b0 : decide (x23_1 < (l0_2.length : Int)) = true := decide_eq_true c16
        clear c16
        replace H := Option.bind_eq_some_iff.mp H
        obtain ⟨t334, A170, H⟩ := H
        replace H : ((impl_test_within.f ((rd_T133 l0_2 x23_1).f0) ((rd_T133 l0_2 x23_1).f1) ((rd_T133 l0_2 x23_1).f2) t334).bind fun t335 => (if x3_1.length < 8796093022208 then (impl_test_show1.l0 k1 (x3_1 ++ [t335]) l0_2 (l0_2.length : Int) (wrap64 (x23_1 + 1)) a0_0 a0_1 l0_2) else (none))) = some r := H
        have A17 := Aside0.mk A170
        clear A170
        replace H := Option.bind_eq_some_iff.mp H
        obtain ⟨t335, A180, H⟩ := H
        replace H : (if x3_1.length < 8796093022208 then (impl_test_show1.l0 k1 (x3_1 ++ [t335]) l0_2 (l0_2.length : Int) (wrap64 (x23_1 + 1)) a0_0 a0_1 l0_2) else (none)) = some r := H
        have A18 := Aside0.mk A180
        clear A180
        by_cases c19 : x3_1.length < 8796093022208
        ·rw [if_pos c19] at H
         have LMc19 := Aside0.mk c19
         clear c19
         obtain ⟨y336, hy336⟩ : ∃ y_ : List ByteArray, y_ = (x3_1 ++ [t335]) := ⟨_, rfl⟩
         replace H : (impl_test_show1.l0 k1 y336 l0_2 (l0_2.length : Int) (wrap64 (x23_1 + 1)) a0_0 a0_1 l0_2) = some r := by first | (rw [hy336]; with_reducible exact H) | (have H2_ := (Option.bind_some _ _).symm.trans H; rw [hy336]; with_reducible exact H2_) | (have H2_ := (Option.bind_some _ _).symm.trans H; with_reducible exact H2_) | with_reducible exact H | (rw [hy336]; exact H) | exact H
         have Ny336 := Aside0.mk hy336
         clear hy336
         have H' := Aside0.mk H
         clear H
         have p332 : 0 ≤ (x23_1 : Int) := of_decide_eq_true (by first | (with_reducible assumption) | assumption)
         have q332 : x23_1 < (l0_2.length : Int) := of_decide_eq_true (by first | (with_reducible assumption) | assumption)
         obtain ⟨ad332, A332_2, c332_2, e332, hx332_0, hx332_1, hx332_2, hl332_2, hi332_2⟩ := at_T133 HR0_2.out x23_1 p332 q332
         cases e332
         replace hx332_0 := (HB.out.cell (World.block_lt_of_cell? w _ hx332_0)).trans hx332_0
         replace hx332_1 := (HB.out.cell (World.block_lt_of_cell? w _ hx332_1)).trans hx332_1
         replace hx332_2 := (HB.out.cell (World.block_lt_of_cell? w _ hx332_2)).trans hx332_2
         have HR332_2 := Aside0.mk hi332_2
         have HC332_2 := Aside0.mk hl332_2
         clear hi332_2 hl332_2
         replace p332 := eq_true p332
         replace q332 := eq_true q332
         try go_wp2_with (first | ((with_reducible refine gate_dst (N := 5) rfl ?_); refine box_event ?hg (N := 5) ?hd (cs := #[.int .u8 0, .string (⟨#[]⟩ : ByteArray), .slice none 0 0]) (t := 133) ?hr ?_; (case hd => rfl); (case hg => rfl); (case hr => first | (go_simp; done) | (go_simp; rfl)); intro gb333 hg w20 hbox hb; have n_ := c8_ (Kd.R_below (a5_) hb) (blk_below (g := gb329) (o := .cells #[.int .u8 a0_0, .string a0_1, .slice (some ad332) l0_2.length c0_2] 133 (0, 0)) (a4_) hb) (below_step (a2_) hb) (hbox) ((by rw [hg]; exact (below_size (a2_)) : w.heap.size ≤ gb333)) ((by rw [hg]; exact (below_size (a2_)) : w.heap.size ≤ gb333)) ((by rw [hg]; exact Nat.ne_of_lt (blk_lt (g := gb329) (o := .cells #[.int .u8 a0_0, .string a0_1, .slice (some ad332) l0_2.length c0_2] 133 (0, 0)) (a4_)) : gb329 ≠ gb333)) ((by rw [hg]; exact Nat.ne_of_gt (blk_lt (g := gb329) (o := .cells #[.int .u8 a0_0, .string a0_1, .slice (some ad332) l0_2.length c0_2] 133 (0, 0)) (a4_)) : gb333 ≠ gb329)); clear HO_3 BK329 HB; obtain ⟨HO_3, BK329, HB, BK333, GW333, GE333, NB329_333, NB333_329⟩ := n_; clear hb hbox hg; have hnb21 := NB333_329.out; have hnc21 := NB329_333.out; have hcz22_0 : w20.cell? ⟨gb333, 0, none⟩ = some (.int .u8 0) := (blk_cell BK333.out 0).trans rfl; have hcz22_1 : w20.cell? ⟨gb333, 1, none⟩ = some (.string (⟨#[]⟩ : ByteArray)) := (blk_cell BK333.out 1).trans rfl; have hcz22_2 : w20.cell? ⟨gb333, 2, none⟩ = some (.slice none 0 0) := (blk_cell BK333.out 2).trans rfl; have hfz22_0 := blk_frozen BK333.out 0; have hfz22_1 := blk_frozen BK333.out 1; have hfz22_2 := blk_frozen BK333.out 2))
         have n_ := c4_ (show Kd.R Kd.string 9 (((w20.setCell ⟨gb333, 0, none⟩ (.int .u8 ((rd_T133 l0_2 x23_1).f0))).setCell ⟨gb333, 1, none⟩ (.string ((rd_T133 l0_2 x23_1).f1))).setCell ⟨gb333, 2, none⟩ (.slice A332_2 ((rd_T133 l0_2 x23_1).f2).length c332_2)) w.heap.size (fun _ => True) u3 x3_1 from by (with_reducible repeat (first | apply Kd.R_alloc | apply Kd.R_drewN | apply Kd.R_drew)); exact Kd.R_mono (Kd.R_far (p := ⟨gb333, 2, none⟩) (Kd.R_far (p := ⟨gb333, 1, none⟩) (Kd.R_far (p := ⟨gb333, 0, none⟩) (Kd.R_types HO_3.out BK333.out (by decide)) (fun _ hk => hk.2) (.int .u8 ((rd_T133 l0_2 x23_1).f0))) (fun _ hk => hk.2) (.string ((rd_T133 l0_2 x23_1).f1))) (fun _ hk => hk.2) (.slice A332_2 ((rd_T133 l0_2 x23_1).f2).length c332_2)) (fun _ hk => trivial)) (show (((w20.setCell ⟨gb333, 0, none⟩ (.int .u8 ((rd_T133 l0_2 x23_1).f0))).setCell ⟨gb333, 1, none⟩ (.string ((rd_T133 l0_2 x23_1).f1))).setCell ⟨gb333, 2, none⟩ (.slice A332_2 ((rd_T133 l0_2 x23_1).f2).length c332_2)).heap[gb329]? = some (.cells #[.int .u8 a0_0, .string a0_1, .slice (some ad332) l0_2.length c0_2] 133 (0, 0)) from by (with_reducible repeat (first | refine blk_drewN ?_ _ | refine blk_drew ?_ | refine blk_alloc ?_ _)); refine blk_far ?_ NB329_333.out _; (with_reducible repeat (first | refine blk_drewN ?_ _ | refine blk_drew ?_ | refine blk_alloc ?_ _)); refine blk_far ?_ NB329_333.out _; (with_reducible repeat (first | refine blk_drewN ?_ _ | refine blk_drew ?_ | refine blk_alloc ?_ _)); refine blk_far ?_ NB329_333.out _; (with_reducible repeat (first | refine blk_drewN ?_ _ | refine blk_drew ?_ | refine blk_alloc ?_ _)); exact BK329.out) (show (((w20.setCell ⟨gb333, 0, none⟩ (.int .u8 ((rd_T133 l0_2 x23_1).f0))).setCell ⟨gb333, 1, none⟩ (.string ((rd_T133 l0_2 x23_1).f1))).setCell ⟨gb333, 2, none⟩ (.slice A332_2 ((rd_T133 l0_2 x23_1).f2).length c332_2)).heap[gb333]? = some (.cells #[.int .u8 ((rd_T133 l0_2 x23_1).f0), .string ((rd_T133 l0_2 x23_1).f1), .slice A332_2 ((rd_T133 l0_2 x23_1).f2).length c332_2] 133 (0, 0)) from by (with_reducible repeat (first | refine blk_drewN ?_ _ | refine blk_drew ?_ | refine blk_alloc ?_ _)); refine blk_put (cs := #[.int .u8 ((rd_T133 l0_2 x23_1).f0), .string ((rd_T133 l0_2 x23_1).f1), .slice none 0 0]) ?_ 2 _ rfl; (with_reducible repeat (first | refine blk_drewN ?_ _ | refine blk_drew ?_ | refine blk_alloc ?_ _)); refine blk_put (cs := #[.int .u8 ((rd_T133 l0_2 x23_1).f0), .string (⟨#[]⟩ : ByteArray), .slice none 0 0]) ?_ 1 _ rfl; (with_reducible repeat (first | refine blk_drewN ?_ _ | refine blk_drew ?_ | refine blk_alloc ?_ _)); refine blk_put (cs := #[.int .u8 0, .string (⟨#[]⟩ : ByteArray), .slice none 0 0]) ?_ 0 _ rfl; (with_reducible repeat (first | refine blk_drewN ?_ _ | refine blk_drew ?_ | refine blk_alloc ?_ _)); exact BK333.out) (show Below w.heap.size w (((w20.setCell ⟨gb333, 0, none⟩ (.int .u8 ((rd_T133 l0_2 x23_1).f0))).setCell ⟨gb333, 1, none⟩ (.string ((rd_T133 l0_2 x23_1).f1))).setCell ⟨gb333, 2, none⟩ (.slice A332_2 ((rd_T133 l0_2 x23_1).f2).length c332_2)) from a6_)
         (try clear HO_3)
         (try clear BK329)
         (try clear BK333)
         (try clear HB)
         generalize (((w20.setCell ⟨gb333, 0, none⟩ (.int .u8 ((rd_T133 l0_2 x23_1).f0))).setCell ⟨gb333, 1, none⟩ (.string ((rd_T133 l0_2 x23_1).f1))).setCell ⟨gb333, 2, none⟩ (.slice A332_2 ((rd_T133 l0_2 x23_1).f2).length c332_2)) = w23 at n_ ⊢
         obtain ⟨HO_3, BK329, BK333, HB⟩ := n_
         have n_ := c4_ (Kd.R_drew HO_3.out) (blk_drew BK329.out) (blk_drew BK333.out) (below_drew1 HB.out)
         clear HO_3 BK329 BK333 HB
         obtain ⟨HO_3, BK329, BK333, HB⟩ := n_
         refine start_ (n := 8) (S := fun w' => w'.cell? ⟨gb333, 0, none⟩ = some (.int .u8 ((rd_T133 l0_2 x23_1).f0)) ∧ w'.cell? ⟨gb333, 1, none⟩ = some (.string ((rd_T133 l0_2 x23_1).f1)) ∧ w'.cell? ⟨gb333, 2, none⟩ = some (.slice A332_2 ((rd_T133 l0_2 x23_1).f2).length c332_2) ∧ w'.cell? ⟨gb329, 0, none⟩ = some (.int .u8 a0_0) ∧ w'.cell? ⟨gb329, 1, none⟩ = some (.string a0_1) ∧ w'.cell? ⟨gb329, 2, none⟩ = some (.slice (some ad332) l0_2.length c0_2)) (ds := []) (bs_ 8 0) (by kernel_rfl) (by kernel_rfl) (by kernel_rfl) ⟨(blk_cell BK333.out 0).trans rfl, (blk_cell BK333.out 1).trans rfl, (blk_cell BK333.out 2).trans rfl, (blk_cell BK329.out 0).trans rfl, (blk_cell BK329.out 1).trans rfl, (blk_cell BK329.out 2).trans rfl⟩ (fun hHeld => ?_); refine with_tabW impl_test_show1.tab10 impl_test_show1.bits10 (fun HT_ HW_ => ?_)
         generalize w23.drew = w24 at HO_3 BK329 BK333 HB hHeld ⊢
         refine pu_ (i := 0) (N := some 27) (v := ?_) (a' := ?_) 1 rfl rfl HT_ (Or.inl ⟨by rfl, ?_⟩) ?_ ?_
         rotate_left
         ·intro w'
          go_simp
          with_reducible rfl
         rotate_left
         ·simp only [pt_]
          rfl
         refine tk_ (i := 1) (N := some 28) (v := ?_) (a' := ?_) 3 rfl rfl HT_ HW_ (Or.inl ⟨by rfl, ?_⟩) hHeld ?_ ?_
         rotate_left
         ·rintro w' ⟨s0, s1, s2, s3, s4, s5⟩
          go_simp
          with_reducible rfl
         rotate_left
         ·simp only [pt_]
          rfl
         refine tk_ (i := 2) (N := some 29) (v := ?_) (a' := ?_) 7 rfl rfl HT_ HW_ (Or.inl ⟨by rfl, ?_⟩) hHeld ?_ ?_
         rotate_left
         ·rintro w' ⟨s0, s1, s2, s3, s4, s5⟩
          go_simp
          with_reducible rfl
         rotate_left
         ·simp only [pt_]
          rfl
         refine one_ (i := 3) (N := some 30) (bs_ 8 15) rfl rfl (one_of HT_.out (by kernel_rfl)) (by decide) (fun K hK => ?_)
         refine goes_ Try.func104 (by kernel_rfl) rfl #[.agg #[.int .u8 a0_0, .string a0_1, .slice (some ad332) l0_2.length c0_2]] (by rfl) rfl rfl (a3_) ?_
         with_reducible refine (impl_test_rank.calls a0_0 a0_1 _ _ l0_2 t334 _ ?side1 ?side2 A17.out).mono ?_
         (case side1 => exact by repeat (first | exact (Kd.C_below HR0_2.out HB.out) | (with_reducible refine Kd.C_alloc ?_ _) | (with_reducible refine Kd.C_drewN ?_ _) | (with_reducible refine Kd.C_drew ?_)))
         (case side2 => exact HC0_2.out)
         rintro e w25 ⟨rfl, hb⟩
         refine ⟨_, rfl, ?_⟩
         have n_ := c4_ (Kd.R_below (a5_) hb) (blk_below (g := gb329) (o := .cells #[.int .u8 a0_0, .string a0_1, .slice (some ad332) l0_2.length c0_2] 133 (0, 0)) (a4_) hb) (blk_below (g := gb333) (o := .cells #[.int .u8 ((rd_T133 l0_2 x23_1).f0), .string ((rd_T133 l0_2 x23_1).f1), .slice A332_2 ((rd_T133 l0_2 x23_1).f2).length c332_2] 133 (0, 0)) (a7_) hb) (below_step (a6_) hb)
         clear HO_3 BK329 BK333 HB
         obtain ⟨HO_3, BK329, BK333, HB⟩ := n_
         (try clear hb)
         (try clear hb2)
         (try clear hk)
         (try clear hi)
         refine hK.out _ _ ⟨(blk_cell BK333.out 0).trans rfl, (blk_cell BK333.out 1).trans rfl, (blk_cell BK333.out 2).trans rfl, (blk_cell BK329.out 0).trans rfl, (blk_cell BK329.out 1).trans rfl, (blk_cell BK329.out 2).trans rfl⟩ (fun hHeld => ?_)
         clear hK K
         refine norm_ (a' := ?_) ?_ ?_
         rotate_left
         ·show Act.put _ (some 30) _ = _
          simp only [pt_]
          rfl
         refine one_ (i := 4) (N := some 31) (bs_ 8 31) rfl rfl (one_of HT_.out (by kernel_rfl)) (by decide) (fun K hK => ?_)
         refine goes_ Try.func103 (by kernel_rfl) rfl #[.agg #[.int .u8 ((rd_T133 l0_2 x23_1).f0), .string ((rd_T133 l0_2 x23_1).f1), .slice A332_2 ((rd_T133 l0_2 x23_1).f2).length c332_2], .int .i64 t334] (by rfl) rfl rfl (a3_) ?_
         with_reducible refine (impl_test_within.calls ((rd_T133 l0_2 x23_1).f0) ((rd_T133 l0_2 x23_1).f1) _ _ ((rd_T133 l0_2 x23_1).f2) t334 t335 _ ?side1 ?side2 A18.out).mono ?_
         (case side1 => exact by repeat (first | exact (Kd.C_below HR332_2.out HB.out) | (with_reducible refine Kd.C_alloc ?_ _) | (with_reducible refine Kd.C_drewN ?_ _) | (with_reducible refine Kd.C_drew ?_)))
         (case side2 => exact HC332_2.out)
         rintro e w26 ⟨rfl, hb⟩
         refine ⟨_, rfl, ?_⟩
         have n_ := c4_ (Kd.R_below (a5_) hb) (blk_below (g := gb329) (o := .cells #[.int .u8 a0_0, .string a0_1, .slice (some ad332) l0_2.length c0_2] 133 (0, 0)) (a4_) hb) (blk_below (g := gb333) (o := .cells #[.int .u8 ((rd_T133 l0_2 x23_1).f0), .string ((rd_T133 l0_2 x23_1).f1), .slice A332_2 ((rd_T133 l0_2 x23_1).f2).length c332_2] 133 (0, 0)) (a7_) hb) (below_step (a6_) hb)
         clear HO_3 BK329 BK333 HB
         obtain ⟨HO_3, BK329, BK333, HB⟩ := n_
         (try clear hb)
         (try clear hb2)
         (try clear hk)
         (try clear hi)
         refine hK.out _ _ ⟨(blk_cell BK333.out 0).trans rfl, (blk_cell BK333.out 1).trans rfl, (blk_cell BK333.out 2).trans rfl, (blk_cell BK329.out 0).trans rfl, (blk_cell BK329.out 1).trans rfl, (blk_cell BK329.out 2).trans rfl⟩ (fun hHeld => ?_)
         clear hK K
         refine norm_ (a' := ?_) ?_ ?_
         rotate_left
         ·show Act.put _ (some 31) _ = _
          simp only [pt_]
          rfl
         refine one_ (i := 5) (N := some 32) (bs_ 8 63) rfl rfl (one_of HT_.out (by kernel_rfl)) (by decide) (fun K hK => ?_)
         refine value_ (w1 := ?_) (v := ?_) (by rfl) rfl ?_ ?_
         rotate_left 2
         ·go_simp
          constructor
          ·rfl
          ·rfl
         refine hK.out _ _ ⟨(blk_cell (blk_alloc BK333.out _) 0).trans rfl, (blk_cell (blk_alloc BK333.out _) 1).trans rfl, (blk_cell (blk_alloc BK333.out _) 2).trans rfl, (blk_cell (blk_alloc BK329.out _) 0).trans rfl, (blk_cell (blk_alloc BK329.out _) 1).trans rfl, (blk_cell (blk_alloc BK329.out _) 2).trans rfl⟩ (fun hHeld => ?_)
         clear hK K
         refine norm_ (a' := ?_) ?_ ?_
         rotate_left
         ·show Act.put _ (some 32) _ = _
          simp only [pt_]
          rfl
         refine one_ (i := 6) (N := some 33) (bs_ 8 127) rfl rfl (one_of HT_.out (by kernel_rfl)) (by decide) (fun K hK => ?_)
         refine Kd.R_append_step Kd.string (w0 := w) w.heap.size (by rfl) (.tmp 27) (.tmp 32) 84 9 (.string ⟨#[]⟩) 16 rfl Try.underlying84 info9 rfl (by decide) (by omega) u3 x3_1 t335 [.string t335] (fun _ => True) (fun _ => False) rfl rfl ?aP (fun _ hk => hk.elim) ?aF ?aO ?aB ?aS ?aL ?_
         (case aP => exact rfl)
         (case aB => exact (a6_))
         (case aF => exact (fun _ _ => trivial))
         (case aO => exact (a5_))
         (case aS => exact (below_size (a6_)))
         (case aL => have := LMc19.out; omega)
         intro v337 w27 ho hb hg hat
         rw [← Ny336.out] at ho
         have n_ := c4_ (blk_grown (g := gb329) (o := .cells #[.int .u8 a0_0, .string a0_1, .slice (some ad332) l0_2.length c0_2] 133 (0, 0)) (a4_) hg (Kd.R_ne HO_3.out BK329.out (by decide))) (blk_grown (g := gb333) (o := .cells #[.int .u8 ((rd_T133 l0_2 x23_1).f0), .string ((rd_T133 l0_2 x23_1).f1), .slice A332_2 ((rd_T133 l0_2 x23_1).f2).length c332_2] 133 (0, 0)) (a7_) hg (Kd.R_ne HO_3.out BK333.out (by decide))) (hb) (ho)
         clear BK329 BK333 HB HO_3
         obtain ⟨BK329, BK333, HB, HO338⟩ := n_
         clear ho hb hg hat
         refine hK.out _ _ ⟨(blk_cell BK333.out 0).trans rfl, (blk_cell BK333.out 1).trans rfl, (blk_cell BK333.out 2).trans rfl, (blk_cell BK329.out 0).trans rfl, (blk_cell BK329.out 1).trans rfl, (blk_cell BK329.out 2).trans rfl⟩ (fun hHeld => ?_)
         clear hK K
         refine norm_ (a' := ?_) ?_ ?_
         rotate_left
         ·show Act.put _ (some 33) _ = _
          simp only [pt_]
          rfl
         refine pu_ (i := 7) (N := some 3) (v := ?_) (a' := ?_) 255 rfl rfl HT_ (Or.inl ⟨by rfl, ?_⟩) ?_ ?_
         rotate_left
         ·intro w'
          go_simp
          with_reducible rfl
         rotate_left
         ·simp only [pt_]
          rfl
         refine done_ (done_of HT_.out (by kernel_rfl)) ?_
         try go_wp2
         go_roundg k1
         case measure => have := HK1.out; omega
         case rel => exact ⟨(y336), (wrap64 (x23_1 + 1)), (by first | rfl | (simp; done) | (simp [*]; done)), H', ⟨by have := HK1.out; omega⟩, ⟨by (with_reducible repeat (first | apply Kd.R_alloc | apply Kd.R_drewN | apply Kd.R_drew)); exact HO338.out⟩, ⟨a4_⟩, ⟨a6_⟩⟩
        ·rw [if_neg c19] at H
         exact absurd H (by simp)
       ·rw [if_neg c16] at H
        exact absurd H (by simp)
      ·rw [if_neg c15] at H
       exact absurd H (by simp)
     ·rw [if_neg c14] at H
      have c14b0 : decide (x23_1 < (l0_2.length : Int)) = false := decide_eq_false c14
      clear c14
      replace H := Option.bind_eq_some_iff.mp H
      obtain ⟨t339, A280, H⟩ := H
      replace H : (some t339) = some r := H
      have A28 := Aside0.mk A280
      clear A280
      obtain rfl := Option.some.inj H
      have hcz29_0 : wr.cell? ⟨gb329, 0, none⟩ = some (.int .u8 a0_0) := (blk_cell BK329.out 0).trans rfl
      have hcz29_1 : wr.cell? ⟨gb329, 1, none⟩ = some (.string a0_1) := (blk_cell BK329.out 1).trans rfl
      have hcz29_2 : wr.cell? ⟨gb329, 2, none⟩ = some (.slice A0_2 l0_2.length c0_2) := (blk_cell BK329.out 2).trans rfl
      have hfz29_0 := blk_frozen BK329.out 0
      have hfz29_1 := blk_frozen BK329.out 1
      have hfz29_2 := blk_frozen BK329.out 2
      obtain ⟨Ao30, co30, eo30⟩ := Kd.R_slice HO_3.out
      subst eo30
      go_wp2_with (first | ((with_reducible refine gate_callee (f := 105) rfl ?_); refine goesL_ (some 40) rfl rfl Try.func105 (by kernel_rfl) rfl #[.slice Ao30 x3_1.length co30, .string (Utf8.encode (wrap32 (a0_0)))] rfl (a3_) ?_; (with_reducible refine (strings_Join.calls _ _ x3_1 (Utf8.encode (wrap32 (a0_0))) t339 _ ?side1 ?side2 A28.out).mono ?_); (case side1 => exact by repeat (first | exact (Kd.R_reads' HO_3.out).2.2 | (with_reducible refine Kd.C_alloc ?_ _) | (with_reducible refine Kd.C_drewN ?_ _) | (with_reducible refine Kd.C_drew ?_))); (case side2 => exact (Kd.R_reads' HO_3.out).2.1); rintro e w31 ⟨rfl, hb⟩; refine ⟨_, rfl, ?_⟩; have n_ := c3_ (Kd.R_below (a5_) hb) (blk_below (g := gb329) (o := .cells #[.int .u8 a0_0, .string a0_1, .slice A0_2 l0_2.length c0_2] 133 (0, 0)) (a4_) hb) (below_step (a2_) hb); clear HO_3 BK329 HB; obtain ⟨HO_3, BK329, HB⟩ := n_; (try clear hb); (try clear hb2); (try clear hk); (try clear hi)))
      go_ret
      exact ⟨by first | rfl | (simp [errW_none, errW_some] <;> rfl) | (simp [*, errW_none, errW_some] <;> rfl), a2_⟩
end

/-! ### impl_test_show2: function 99 -/
structure impl_test_show2.B where
 c : impl_test_show.C
def impl_test_show2.I : Nat → impl_test_show2.B
 | 0 => ⟨⟨fun _ _ _ => none, fun a0_0 a0_1 A0_2 c0_2 l0_2 r w hr0_2 hc0_2 h => by cases h⟩⟩
 | k + 1 => ⟨⟨fun a0_0 a0_1 l0_2 => @impl_test_show1.f (impl_test_show2.I k).c k a0_0 a0_1 l0_2, fun a0_0 a0_1 A0_2 c0_2 l0_2 r w hr0_2 hc0_2 h => @impl_test_show1.calls (impl_test_show2.I k).c k a0_0 a0_1 A0_2 c0_2 l0_2 r w hr0_2 hc0_2 h⟩⟩
def impl_test_show2.f (k : Nat) (a0_0 : Int) (a0_1 : ByteArray) (l0_2 : List (S133)) : Option (ByteArray) := (impl_test_show2.I k).c.f a0_0 a0_1 l0_2
theorem impl_test_show2.calls (k : Nat) (a0_0 : Int) (a0_1 : ByteArray) (A0_2 : Option Addr) (c0_2 : Nat) (l0_2 : List (S133)) (r : ByteArray) (w : World) (hr0_2 : Kd.C k133 w A0_2 l0_2.length l0_2) (hc0_2 : l0_2.length ≤ c0_2) (h : impl_test_show2.f k a0_0 a0_1 l0_2 = some r) : Calls Try.prog 99 #[.agg #[.int .u8 a0_0, .string a0_1, .slice A0_2 l0_2.length c0_2]] w fun e w' => e = .returned (.string r) ∧ Below w.heap.size w w' := (impl_test_show2.I k).c.calls a0_0 a0_1 A0_2 c0_2 l0_2 r w hr0_2 hc0_2 h

/-! ### impl_readTest: function 90 -/
def impl_readTest.f (k : Nat) (a0 : ByteArray) : Option (Int × ByteArray × (List (S133)) × Bool) := if (a0.size : Int) > 200 then (some (0, (⟨#[]⟩ : ByteArray), ([] : List (S133)), false)) else ((impl_testReader_or2.f k a0 0 0 false).bind fun bt342 => (if bt342.2.2.2.2.2.2 = true then (some (bt342.1, bt342.2.1, bt342.2.2.1, false)) else (if bt342.2.2.2.2.1 = (a0.size : Int) then ((impl_test_show2.f k bt342.1 bt342.2.1 bt342.2.2.1).bind fun t352 => (if t352.toList = a0.toList then (some (bt342.1, bt342.2.1, bt342.2.2.1, true)) else (some (bt342.1, bt342.2.1, bt342.2.2.1, false)))) else (some (bt342.1, bt342.2.1, bt342.2.2.1, false)))))
theorem impl_readTest.a1_ {p : Prop} (h : p := by repeat (first | (with_reducible first | exact HB.out | apply below_alloc | apply pw_below_drewN | apply below_drew1) | exact HB.out)) : p := h
theorem impl_readTest.a2_ {p : Prop} (h : p := by first | rfl | (simp [errW_none, errW_some] <;> rfl) | (simp [*, errW_none, errW_some] <;> rfl)) : p := h
theorem impl_readTest.a3_ {p : Prop} (h : p := by repeat (first | (with_reducible first | exact HB.out | apply below_alloc | apply pw_below_drewN | apply below_drew1 | refine below_set ?_ GE340.out) | exact HB.out)) : p := h
theorem impl_readTest.a4_ {p : Prop} (h : p := by (with_reducible repeat (first | refine blk_drewN ?_ _ | refine blk_drew ?_ | refine blk_alloc ?_ _)); exact BK340.out) : p := h
theorem impl_readTest.a5_ {p : Prop} (h : p := by (try simp only [List.map_toArray, List.map_cons, List.map_nil]); first | done | rfl | (simp only [List.length_drop, List.length_take]; rfl)) : p := h
theorem impl_readTest.a6_ {p : Prop} (h : p := by repeat (first | (with_reducible first | exact HI341.out | apply IsS142.alloc | apply IsS142.drewN | apply IsS142.drew | apply IsS142.set_0 | apply IsS142.set_1 | apply IsS142.set_2 | apply IsS142.set_3 | apply IsS142.far (p := ⟨gb340, _, none⟩) (hne := NB341_340.out)) | exact HI341.out)) : p := h
theorem impl_readTest.a7_ {p : Prop} (h : p := by repeat (first | (with_reducible first | exact HB.out | apply below_alloc | apply pw_below_drewN | apply below_drew1 | refine below_set ?_ (IsS142.ge HI341.out) | refine below_set ?_ GE340.out) | exact HB.out)) : p := h
theorem impl_readTest.a8_ {p : Prop} (h : p := by (with_reducible repeat (first | apply Kd.V_alloc | apply Kd.V_drewN | apply Kd.V_drew)); exact HO346.out) : p := h
theorem impl_readTest.a9_ {p : Prop} (h : p := by (with_reducible repeat (first | refine blk_drewN ?_ _ | refine blk_drew ?_ | refine blk_alloc ?_ _)); refine blk_put (cs := #[.int .u8 t342, .string t343, .slice none 0 0]) ?_ 2 _ rfl; (with_reducible repeat (first | refine blk_drewN ?_ _ | refine blk_drew ?_ | refine blk_alloc ?_ _)); refine blk_put (cs := #[.int .u8 t342, .string (⟨#[]⟩ : ByteArray), .slice none 0 0]) ?_ 1 _ rfl; (with_reducible repeat (first | refine blk_drewN ?_ _ | refine blk_drew ?_ | refine blk_alloc ?_ _)); refine blk_put (cs := #[.int .u8 0, .string (⟨#[]⟩ : ByteArray), .slice none 0 0]) ?_ 0 _ rfl; (with_reducible repeat (first | refine blk_drewN ?_ _ | refine blk_drew ?_ | refine blk_alloc ?_ _)); refine blk_far ?_ NB340_351.out _; (with_reducible repeat (first | refine blk_drewN ?_ _ | refine blk_drew ?_ | refine blk_alloc ?_ _)); refine blk_far ?_ NB340_351.out _; (with_reducible repeat (first | refine blk_drewN ?_ _ | refine blk_drew ?_ | refine blk_alloc ?_ _)); refine blk_far ?_ NB340_351.out _; (with_reducible repeat (first | refine blk_drewN ?_ _ | refine blk_drew ?_ | refine blk_alloc ?_ _)); exact BK340.out) : p := h
theorem impl_readTest.a10_ {p : Prop} (h : p := by repeat (first | (with_reducible first | exact HB.out | apply below_alloc | apply pw_below_drewN | apply below_drew1 | refine below_set ?_ (IsS142.ge HI341.out) | refine below_set ?_ GE340.out | refine below_set ?_ GE351.out) | exact HB.out)) : p := h
theorem impl_readTest.a11_ {p : Prop} (h : p := by (with_reducible repeat (first | apply Kd.V_alloc | apply Kd.V_drewN | apply Kd.V_drew)); exact (Kd.V_mono (Kd.V_far (p := ⟨gb351, 2, none⟩) (Kd.V_far (p := ⟨gb351, 1, none⟩) (Kd.V_far (p := ⟨gb351, 0, none⟩) (Kd.V_mono HO346.out (fun k_ hk => (⟨hk, hk.2⟩ : _ ∧ k_ ≠ gb351))) (fun _ hk => hk.2) (.int .u8 t342)) (fun _ hk => hk.2) (.string t343)) (fun _ hk => hk.2) (.slice Ao28 t344.length co28)) (fun _ h_ => h_.1))) : p := h
theorem impl_readTest.a12_ {p : Prop} (h : p := by (with_reducible repeat (first | refine blk_drewN ?_ _ | refine blk_drew ?_ | refine blk_alloc ?_ _)); refine blk_far ?_ NB340_351.out _; (with_reducible repeat (first | refine blk_drewN ?_ _ | refine blk_drew ?_ | refine blk_alloc ?_ _)); refine blk_far ?_ NB340_351.out _; (with_reducible repeat (first | refine blk_drewN ?_ _ | refine blk_drew ?_ | refine blk_alloc ?_ _)); refine blk_far ?_ NB340_351.out _; (with_reducible repeat (first | refine blk_drewN ?_ _ | refine blk_drew ?_ | refine blk_alloc ?_ _)); exact BK340.out) : p := h
theorem impl_readTest.a13_ {p : Prop} (h : p := by repeat (first | (with_reducible first | exact HI341.out | apply IsS142.alloc | apply IsS142.drewN | apply IsS142.drew | apply IsS142.set_0 | apply IsS142.set_1 | apply IsS142.set_2 | apply IsS142.set_3 | apply IsS142.far (p := ⟨gb340, _, none⟩) (hne := NB341_340.out) | apply IsS142.far (p := ⟨gb351, _, none⟩) (hne := NB341_351.out)) | exact HI341.out)) : p := h
theorem impl_readTest.a14_ {p : Prop} (h : p := by (with_reducible repeat (first | refine blk_drewN ?_ _ | refine blk_drew ?_ | refine blk_alloc ?_ _)); refine blk_put (cs := #[.int .u8 t342, .string t343, .slice none 0 0]) ?_ 2 _ rfl; (with_reducible repeat (first | refine blk_drewN ?_ _ | refine blk_drew ?_ | refine blk_alloc ?_ _)); refine blk_put (cs := #[.int .u8 t342, .string (⟨#[]⟩ : ByteArray), .slice none 0 0]) ?_ 1 _ rfl; (with_reducible repeat (first | refine blk_drewN ?_ _ | refine blk_drew ?_ | refine blk_alloc ?_ _)); refine blk_put (cs := #[.int .u8 0, .string (⟨#[]⟩ : ByteArray), .slice none 0 0]) ?_ 0 _ rfl; (with_reducible repeat (first | refine blk_drewN ?_ _ | refine blk_drew ?_ | refine blk_alloc ?_ _)); exact BK351.out) : p := h
theorem impl_readTest.a15_ {p : Prop} (h : p := by (with_reducible repeat (first | refine blk_drewN ?_ _ | refine blk_drew ?_ | refine blk_alloc ?_ _)); refine blk_put (cs := #[.int .u8 t342, .string t343, .slice none 0 0]) ?_ 2 _ rfl; (with_reducible repeat (first | refine blk_drewN ?_ _ | refine blk_drew ?_ | refine blk_alloc ?_ _)); refine blk_put (cs := #[.int .u8 t342, .string (⟨#[]⟩ : ByteArray), .slice none 0 0]) ?_ 1 _ rfl; (with_reducible repeat (first | refine blk_drewN ?_ _ | refine blk_drew ?_ | refine blk_alloc ?_ _)); refine blk_put (cs := #[.int .u8 0, .string (⟨#[]⟩ : ByteArray), .slice none 0 0]) ?_ 0 _ rfl; (with_reducible repeat (first | refine blk_drewN ?_ _ | refine blk_drew ?_ | refine blk_alloc ?_ _)); exact BK340.out) : p := h
theorem impl_readTest.a16_ {p : Prop} (h : p := by (with_reducible repeat (first | apply Kd.V_alloc | apply Kd.V_drewN | apply Kd.V_drew)); exact (Kd.V_mono (Kd.V_far (p := ⟨gb351, 2, none⟩) (Kd.V_far (p := ⟨gb351, 1, none⟩) (Kd.V_far (p := ⟨gb351, 0, none⟩) (Kd.V_mono HO346.out (fun k_ hk => (⟨hk, hk.2⟩ : _ ∧ k_ ≠ gb351))) (fun _ hk => hk.2) (.int .u8 t342)) (fun _ hk => hk.2) (.string t343)) (fun _ hk => hk.2) (.slice Ao41 t344.length co41)) (fun _ h_ => h_.1))) : p := h
set_option maxHeartbeats 8000000 in
set_option maxRecDepth 100000 in
theorem impl_readTest.calls (k : Nat) (a0 : ByteArray) (r1 : Int) (r2 : ByteArray) (r3 : List (S133)) (r4 : Bool) (w : World) (h : impl_readTest.f k a0 = some (r1, r2, r3, r4)) :
  Calls Try.prog 90 #[.string a0] w fun e w' => ∃ v2_ : Value, e = .returned (.tuple #[.agg #[.int .u8 r1, .string r2, v2_], .bool r4]) ∧ Kd.V k133 133 w' w.heap.size (fun k_ => (w.heap.size ≤ k_)) v2_ r3 ∧ Below w.heap.size w w' := by
 have hu133 := Try.underlying133
 have hu142 := Try.underlying142
 have HB := Aside0.mk (Below.refl w.heap.size w)
 have H : (if (a0.size : Int) > 200 then (some (0, (⟨#[]⟩ : ByteArray), ([] : List (S133)), false)) else ((impl_testReader_or2.f k a0 0 0 false).bind fun bt342 => (if bt342.2.2.2.2.2.2 = true then (some (bt342.1, bt342.2.1, bt342.2.2.1, false)) else (if bt342.2.2.2.2.1 = (a0.size : Int) then ((impl_test_show2.f k bt342.1 bt342.2.1 bt342.2.2.1).bind fun t352 => (if t352.toList = a0.toList then (some (bt342.1, bt342.2.1, bt342.2.2.1, true)) else (some (bt342.1, bt342.2.1, bt342.2.2.1, false)))) else (some (bt342.1, bt342.2.1, bt342.2.2.1, false)))))) = some (r1, r2, r3, r4) := h
 clear h
 by_cases c2 : (a0.size : Int) > 200
 ·rw [if_pos c2] at H
  have c2b0 : decide (200 < (a0.size : Int)) = true := decide_eq_true c2
  have c2b1 : decide (200 < a0.size) = true := decide_eq_true (by omega)
  clear c2
  simp only [Option.some.injEq, Prod.mk.injEq] at H
  obtain ⟨rfl, rfl, rfl, rfl⟩ := H
  go_enter Try.func90, Try.ntmps90
  go_wp2_with (first | ((with_reducible refine gate_dst (N := 2) rfl ?_); (try (refine gate_guard (by rfl) ?_; dsimp only)); refine box_event ?hg (N := 2) ?hd (cs := #[.int .u8 0, .string (⟨#[]⟩ : ByteArray), .slice none 0 0]) (t := 133) ?hr ?_; (case hd => rfl); (case hg => rfl); (case hr => first | (go_simp; done) | (go_simp; rfl)); intro gb340 hg w3 hbox hb; have n_ := c4_ (below_step (a1_) hb) (hbox) ((by rw [hg]; exact (below_size (a1_)) : w.heap.size ≤ gb340)) ((by rw [hg]; exact (below_size (a1_)) : w.heap.size ≤ gb340)); clear HB; obtain ⟨HB, BK340, GW340, GE340⟩ := n_; clear hb hbox hg; have hcz4_0 : w3.cell? ⟨gb340, 0, none⟩ = some (.int .u8 0) := (blk_cell BK340.out 0).trans rfl; have hcz4_1 : w3.cell? ⟨gb340, 1, none⟩ = some (.string (⟨#[]⟩ : ByteArray)) := (blk_cell BK340.out 1).trans rfl; have hcz4_2 : w3.cell? ⟨gb340, 2, none⟩ = some (.slice none 0 0) := (blk_cell BK340.out 2).trans rfl; have hfz4_0 := blk_frozen BK340.out 0; have hfz4_1 := blk_frozen BK340.out 1; have hfz4_2 := blk_frozen BK340.out 2))
  refine bodyPost_ret (results_ct rfl _ _ gb340 133 #[.int .u8 0, .string (⟨#[]⟩ : ByteArray), .slice none 0 0] (0, 0) _ rfl (by (with_reducible repeat (first | refine blk_drewN ?_ _ | refine blk_drew ?_ | refine blk_alloc ?_ _)); refine blk_put (cs := #[.int .u8 0, .string (⟨#[]⟩ : ByteArray), .slice none 0 0]) ?_ 2 _ rfl; (with_reducible repeat (first | refine blk_drewN ?_ _ | refine blk_drew ?_ | refine blk_alloc ?_ _)); refine blk_put (cs := #[.int .u8 0, .string (⟨#[]⟩ : ByteArray), .slice none 0 0]) ?_ 1 _ rfl; (with_reducible repeat (first | refine blk_drewN ?_ _ | refine blk_drew ?_ | refine blk_alloc ?_ _)); refine blk_put (cs := #[.int .u8 0, .string (⟨#[]⟩ : ByteArray), .slice none 0 0]) ?_ 0 _ rfl; (with_reducible repeat (first | refine blk_drewN ?_ _ | refine blk_drew ?_ | refine blk_alloc ?_ _)); exact BK340.out) Try.underlying133 rfl (by kernel_rfl)) rfl ?_
  exact ⟨_, a2_, by first | exact Kd.V_nil _ _ _ _ _, a3_⟩
 ·rw [if_neg c2] at H
  have c2b0 : decide (200 < (a0.size : Int)) = false := decide_eq_false c2
  have c2b1 : decide (200 < a0.size) = false := decide_eq_false (by omega)
  clear c2
  replace H := Option.bind_eq_some_iff.mp H
  obtain ⟨⟨t342, t343, t344, t347, t348, t349, t350⟩, A50, H⟩ := H
  replace H : (if t350 = true then (some (t342, t343, t344, false)) else (if t348 = (a0.size : Int) then ((impl_test_show2.f k t342 t343 t344).bind fun t352 => (if t352.toList = a0.toList then (some (t342, t343, t344, true)) else (some (t342, t343, t344, false)))) else (some (t342, t343, t344, false)))) = some (r1, r2, r3, r4) := H
  have A5 := Aside0.mk A50
  clear A50
  by_cases c6 : t350 = true
  ·subst c6
   have H1 : (some (t342, t343, t344, false)) = some (r1, r2, r3, r4) := by rw [if_pos rfl] at H; exact H
   clear H
   have H := H1
   clear H1
   simp only [Option.some.injEq, Prod.mk.injEq] at H
   obtain ⟨rfl, rfl, rfl, rfl⟩ := H
   go_enter Try.func90, Try.ntmps90
   go_wp2_with (first | ((with_reducible refine gate_dst (N := 2) rfl ?_); (try (refine gate_guard (by rfl) ?_; dsimp only)); refine box_event ?hg (N := 2) ?hd (cs := #[.int .u8 0, .string (⟨#[]⟩ : ByteArray), .slice none 0 0]) (t := 133) ?hr ?_; (case hd => rfl); (case hg => rfl); (case hr => first | (go_simp; done) | (go_simp; rfl)); intro gb340 hg w7 hbox hb; have n_ := c4_ (below_step (a1_) hb) (hbox) ((by rw [hg]; exact (below_size (a1_)) : w.heap.size ≤ gb340)) ((by rw [hg]; exact (below_size (a1_)) : w.heap.size ≤ gb340)); clear HB; obtain ⟨HB, BK340, GW340, GE340⟩ := n_; clear hb hbox hg) | ((with_reducible refine gate_dst (N := 12) rfl ?_); (try (refine gate_guard (by rfl) ?_; dsimp only)); refine box_event ?hg (N := 12) ?hd (cs := #[.string a0, .int .i64 0, .int .i64 0, .bool false]) (t := 142) ?hr ?_; (case hd => rfl); (case hg => rfl); (case hr => first | (go_simp; done) | (go_simp; rfl)); intro gb341 hg w8 hbox hb; have n_ := c7_ (blk_below (g := gb340) (o := .cells #[.int .u8 0, .string (⟨#[]⟩ : ByteArray), .slice none 0 0] 133 (0, 0)) (a4_) hb) (below_step (a3_) hb) ((by rw [hg]; exact (below_size (a3_)) : w.heap.size ≤ gb341)) ((by rw [hg]; exact (below_size (a3_)) : w.heap.size ≤ gb341)) ((by rw [hg]; exact Nat.ne_of_lt (blk_lt (g := gb340) (o := .cells #[.int .u8 0, .string (⟨#[]⟩ : ByteArray), .slice none 0 0] 133 (0, 0)) (a4_)) : gb340 ≠ gb341)) ((by rw [hg]; exact Nat.ne_of_gt (blk_lt (g := gb340) (o := .cells #[.int .u8 0, .string (⟨#[]⟩ : ByteArray), .slice none 0 0] 133 (0, 0)) (a4_)) : gb341 ≠ gb340)) ((show IsS142 w w8 gb341 a0 0 0 false from ⟨hbox, (by rw [hg]; exact (below_size (a3_)) : w.heap.size ≤ gb341)⟩)); clear BK340 HB; obtain ⟨BK340, HB, GW341, GE341, NB340_341, NB341_340, HI341⟩ := n_; clear hb hbox hg) | ((with_reducible refine gate_callee (f := 98) rfl ?_); refine goesL_ (some 14) rfl rfl Try.func98 (by kernel_rfl) rfl #[.pointer (some ⟨gb341, 0, none⟩)] rfl (a5_) ?_; (with_reducible refine (impl_testReader_or2.calls k gb341 a0 0 0 false t342 t343 t344 t347 t348 t349 true w _ ?side1 ?side2 A5.out).mono ?_); (case side1 => exact a6_); (case side2 => exact a7_); rintro e w9 ⟨v345, rfl, ho0, hi, hb, hk⟩; refine ⟨_, rfl, ?_⟩; have n_ := c4_ (KeepBut.blk hk (g' := gb340) (o := .cells #[.int .u8 0, .string (⟨#[]⟩ : ByteArray), .slice none 0 0] 133 (0, 0)) (a4_) NB340_341.out (by simp)) (Kd.V_lower (Kd.V_mono (ok' := fun k_ => (w.heap.size ≤ k_) ∧ k_ ≠ gb340 ∧ k_ ≠ gb341) ho0 (fun k_ hk_ => ⟨(Nat.le_trans (below_size (a7_)) hk_), (Kd.freshB (g := gb340) (o := .cells #[.int .u8 0, .string (⟨#[]⟩ : ByteArray), .slice none 0 0] 133 (0, 0)) (a4_) k_ hk_), (IsS142.fresh (a6_) k_ hk_)⟩)) (below_size (a7_))) (hb) (hi); clear BK340 HB HI341; obtain ⟨BK340, HO346, HB, HI341⟩ := n_; (try clear hb); (try clear hb2); (try clear hk); (try clear hi); (try clear ho0)) | ((with_reducible refine gate_dst (N := 5) rfl ?_); (try (refine gate_guard (by rfl) ?_; dsimp only)); refine box_event ?hg (N := 5) ?hd (cs := #[.int .u8 0, .string (⟨#[]⟩ : ByteArray), .slice none 0 0]) (t := 133) ?hr ?_; (case hd => rfl); (case hg => rfl); (case hr => first | (go_simp; done) | (go_simp; rfl)); intro gb351 hg w10 hbox hb; have n_ := c11_ (Kd.V_below (Kd.V_elderB (a8_) gb351 (Nat.le_of_eq hg.symm)) hb) (blk_below (g := gb340) (o := .cells #[.int .u8 0, .string (⟨#[]⟩ : ByteArray), .slice none 0 0] 133 (0, 0)) (a4_) hb) (IsS142.below (a6_) hb) (below_step (a7_) hb) (hbox) ((by rw [hg]; exact (below_size (a7_)) : w.heap.size ≤ gb351)) ((by rw [hg]; exact (below_size (a7_)) : w.heap.size ≤ gb351)) ((by rw [hg]; exact Nat.ne_of_lt (blk_lt (g := gb340) (o := .cells #[.int .u8 0, .string (⟨#[]⟩ : ByteArray), .slice none 0 0] 133 (0, 0)) (a4_)) : gb340 ≠ gb351)) ((by rw [hg]; exact Nat.ne_of_gt (blk_lt (g := gb340) (o := .cells #[.int .u8 0, .string (⟨#[]⟩ : ByteArray), .slice none 0 0] 133 (0, 0)) (a4_)) : gb351 ≠ gb340)) ((by rw [hg]; exact Nat.ne_of_lt (IsS142.lt (show IsS142 w _ gb341 t347 t348 t349 true from a6_)) : gb341 ≠ gb351)) ((by rw [hg]; exact Nat.ne_of_gt (IsS142.lt (show IsS142 w _ gb341 t347 t348 t349 true from a6_)) : gb351 ≠ gb341)); clear HO346 BK340 HI341 HB; obtain ⟨HO346, BK340, HI341, HB, BK351, GW351, GE351, NB340_351, NB351_340, NB341_351, NB351_341⟩ := n_; clear hb hbox hg; have hnb11 := NB351_340.out; have hnc11 := NB340_351.out; have hnb12 := NB351_341.out; have hnc12 := NB341_351.out; have hcz13_0 : w10.cell? ⟨gb351, 0, none⟩ = some (.int .u8 0) := (blk_cell BK351.out 0).trans rfl; have hcz13_1 : w10.cell? ⟨gb351, 1, none⟩ = some (.string (⟨#[]⟩ : ByteArray)) := (blk_cell BK351.out 1).trans rfl; have hcz13_2 : w10.cell? ⟨gb351, 2, none⟩ = some (.slice none 0 0) := (blk_cell BK351.out 2).trans rfl; have hfz13_0 := blk_frozen BK351.out 0; have hfz13_1 := blk_frozen BK351.out 1; have hfz13_2 := blk_frozen BK351.out 2; obtain ⟨Ao14, co14, eo14⟩ := Kd.V_slice HO346.out; subst eo14; obtain ⟨HGz15, hgz15⟩ := HI341.out; have hcz15_0 := cellS142_0 HGz15; have hcz15_1 := cellS142_1 HGz15; have hcz15_2 := cellS142_2 HGz15; have hcz15_3 := cellS142_3 HGz15; have hfz15_0 := blk_frozen HGz15 0; have hfz15_1 := blk_frozen HGz15 1; have hfz15_2 := blk_frozen HGz15 2; have hfz15_3 := blk_frozen HGz15 3; clear HGz15 hgz15; have hnb16 := NB340_341.out; have hnc16 := NB341_340.out; have hcz17_0 : w10.cell? ⟨gb340, 0, none⟩ = some (.int .u8 0) := (blk_cell BK340.out 0).trans rfl; have hcz17_1 : w10.cell? ⟨gb340, 1, none⟩ = some (.string (⟨#[]⟩ : ByteArray)) := (blk_cell BK340.out 1).trans rfl; have hcz17_2 : w10.cell? ⟨gb340, 2, none⟩ = some (.slice none 0 0) := (blk_cell BK340.out 2).trans rfl; have hfz17_0 := blk_frozen BK340.out 0; have hfz17_1 := blk_frozen BK340.out 1; have hfz17_2 := blk_frozen BK340.out 2))
   refine bodyPost_ret (results_ct rfl _ _ gb340 133 #[.int .u8 t342, .string t343, .slice Ao14 t344.length co14] (0, 0) _ rfl (a9_) Try.underlying133 rfl (by kernel_rfl)) rfl ?_
   exact ⟨_, a2_, by (with_reducible repeat (first | apply Kd.V_alloc | apply Kd.V_drewN | apply Kd.V_drew)); exact Kd.V_mono (Kd.V_far (p := ⟨gb340, 2, none⟩) (Kd.V_far (p := ⟨gb340, 1, none⟩) (Kd.V_far (p := ⟨gb340, 0, none⟩) (Kd.V_far (p := ⟨gb351, 2, none⟩) (Kd.V_far (p := ⟨gb351, 1, none⟩) (Kd.V_far (p := ⟨gb351, 0, none⟩) (Kd.V_mono (Kd.V_mono HO346.out (fun k_ hk => (⟨hk, hk.2⟩ : _ ∧ k_ ≠ gb351))) (fun k_ hk => (⟨hk, hk.1.1.2.1⟩ : _ ∧ k_ ≠ gb340))) (fun _ hk => hk.1.2) (.int .u8 t342)) (fun _ hk => hk.1.2) (.string t343)) (fun _ hk => hk.1.2) (.slice Ao14 t344.length co14)) (fun _ hk => hk.2) (.int .u8 t342)) (fun _ hk => hk.2) (.string t343)) (fun _ hk => hk.2) (.slice Ao14 t344.length co14)) (fun _ hk => hk.1.1.1.1), a10_⟩
  ·replace c6 := Bool.eq_false_iff.mpr c6
   subst c6
   have H1 : (if t348 = (a0.size : Int) then ((impl_test_show2.f k t342 t343 t344).bind fun t352 => (if t352.toList = a0.toList then (some (t342, t343, t344, true)) else (some (t342, t343, t344, false)))) else (some (t342, t343, t344, false))) = some (r1, r2, r3, r4) := by rw [if_neg (show ¬ (false = true) by decide)] at H; exact H
   clear H
   have H := H1
   clear H1
   by_cases c18 : t348 = (a0.size : Int)
   ·rw [if_pos c18] at H
    have c18b0 : (t348 == (a0.size : Int)) = true := beq_iff_eq.mpr c18
    have c18b1 : (t348 != (a0.size : Int)) = false := bne_eq_false_iff_eq.mpr c18
    clear c18
    replace H := Option.bind_eq_some_iff.mp H
    obtain ⟨t352, A190, H⟩ := H
    replace H : (if t352.toList = a0.toList then (some (t342, t343, t344, true)) else (some (t342, t343, t344, false))) = some (r1, r2, r3, r4) := H
    have A19 := Aside0.mk A190
    clear A190
    by_cases c20 : t352.toList = a0.toList
    ·rw [if_pos c20] at H
     have c20b0 : (t352.toList == a0.toList) = true := beq_iff_eq.mpr c20
     have c20b1 : (t352.toList != a0.toList) = false := bne_eq_false_iff_eq.mpr c20
     clear c20
     simp only [Option.some.injEq, Prod.mk.injEq] at H
     obtain ⟨rfl, rfl, rfl, rfl⟩ := H
     go_enter Try.func90, Try.ntmps90
     go_wp2_with (first | ((with_reducible refine gate_dst (N := 2) rfl ?_); (try (refine gate_guard (by rfl) ?_; dsimp only)); refine box_event ?hg (N := 2) ?hd (cs := #[.int .u8 0, .string (⟨#[]⟩ : ByteArray), .slice none 0 0]) (t := 133) ?hr ?_; (case hd => rfl); (case hg => rfl); (case hr => first | (go_simp; done) | (go_simp; rfl)); intro gb340 hg w21 hbox hb; have n_ := c4_ (below_step (a1_) hb) (hbox) ((by rw [hg]; exact (below_size (a1_)) : w.heap.size ≤ gb340)) ((by rw [hg]; exact (below_size (a1_)) : w.heap.size ≤ gb340)); clear HB; obtain ⟨HB, BK340, GW340, GE340⟩ := n_; clear hb hbox hg) | ((with_reducible refine gate_dst (N := 12) rfl ?_); (try (refine gate_guard (by rfl) ?_; dsimp only)); refine box_event ?hg (N := 12) ?hd (cs := #[.string a0, .int .i64 0, .int .i64 0, .bool false]) (t := 142) ?hr ?_; (case hd => rfl); (case hg => rfl); (case hr => first | (go_simp; done) | (go_simp; rfl)); intro gb341 hg w22 hbox hb; have n_ := c7_ (blk_below (g := gb340) (o := .cells #[.int .u8 0, .string (⟨#[]⟩ : ByteArray), .slice none 0 0] 133 (0, 0)) (a4_) hb) (below_step (a3_) hb) ((by rw [hg]; exact (below_size (a3_)) : w.heap.size ≤ gb341)) ((by rw [hg]; exact (below_size (a3_)) : w.heap.size ≤ gb341)) ((by rw [hg]; exact Nat.ne_of_lt (blk_lt (g := gb340) (o := .cells #[.int .u8 0, .string (⟨#[]⟩ : ByteArray), .slice none 0 0] 133 (0, 0)) (a4_)) : gb340 ≠ gb341)) ((by rw [hg]; exact Nat.ne_of_gt (blk_lt (g := gb340) (o := .cells #[.int .u8 0, .string (⟨#[]⟩ : ByteArray), .slice none 0 0] 133 (0, 0)) (a4_)) : gb341 ≠ gb340)) ((show IsS142 w w22 gb341 a0 0 0 false from ⟨hbox, (by rw [hg]; exact (below_size (a3_)) : w.heap.size ≤ gb341)⟩)); clear BK340 HB; obtain ⟨BK340, HB, GW341, GE341, NB340_341, NB341_340, HI341⟩ := n_; clear hb hbox hg) | ((with_reducible refine gate_callee (f := 98) rfl ?_); refine goesL_ (some 14) rfl rfl Try.func98 (by kernel_rfl) rfl #[.pointer (some ⟨gb341, 0, none⟩)] rfl (a5_) ?_; (with_reducible refine (impl_testReader_or2.calls k gb341 a0 0 0 false t342 t343 t344 t347 t348 t349 false w _ ?side1 ?side2 A5.out).mono ?_); (case side1 => exact a6_); (case side2 => exact a7_); rintro e w23 ⟨v345, rfl, ho0, hi, hb, hk⟩; refine ⟨_, rfl, ?_⟩; have n_ := c4_ (KeepBut.blk hk (g' := gb340) (o := .cells #[.int .u8 0, .string (⟨#[]⟩ : ByteArray), .slice none 0 0] 133 (0, 0)) (a4_) NB340_341.out (by simp)) (Kd.V_lower (Kd.V_mono (ok' := fun k_ => (w.heap.size ≤ k_) ∧ k_ ≠ gb340 ∧ k_ ≠ gb341) ho0 (fun k_ hk_ => ⟨(Nat.le_trans (below_size (a7_)) hk_), (Kd.freshB (g := gb340) (o := .cells #[.int .u8 0, .string (⟨#[]⟩ : ByteArray), .slice none 0 0] 133 (0, 0)) (a4_) k_ hk_), (IsS142.fresh (a6_) k_ hk_)⟩)) (below_size (a7_))) (hb) (hi); clear BK340 HB HI341; obtain ⟨BK340, HO346, HB, HI341⟩ := n_; (try clear hb); (try clear hb2); (try clear hk); (try clear hi); (try clear ho0)) | ((with_reducible refine gate_dst (N := 5) rfl ?_); (try (refine gate_guard (by rfl) ?_; dsimp only)); refine box_event ?hg (N := 5) ?hd (cs := #[.int .u8 0, .string (⟨#[]⟩ : ByteArray), .slice none 0 0]) (t := 133) ?hr ?_; (case hd => rfl); (case hg => rfl); (case hr => first | (go_simp; done) | (go_simp; rfl)); intro gb351 hg w24 hbox hb; have n_ := c11_ (Kd.V_below (Kd.V_elderB (a8_) gb351 (Nat.le_of_eq hg.symm)) hb) (blk_below (g := gb340) (o := .cells #[.int .u8 0, .string (⟨#[]⟩ : ByteArray), .slice none 0 0] 133 (0, 0)) (a4_) hb) (IsS142.below (a6_) hb) (below_step (a7_) hb) (hbox) ((by rw [hg]; exact (below_size (a7_)) : w.heap.size ≤ gb351)) ((by rw [hg]; exact (below_size (a7_)) : w.heap.size ≤ gb351)) ((by rw [hg]; exact Nat.ne_of_lt (blk_lt (g := gb340) (o := .cells #[.int .u8 0, .string (⟨#[]⟩ : ByteArray), .slice none 0 0] 133 (0, 0)) (a4_)) : gb340 ≠ gb351)) ((by rw [hg]; exact Nat.ne_of_gt (blk_lt (g := gb340) (o := .cells #[.int .u8 0, .string (⟨#[]⟩ : ByteArray), .slice none 0 0] 133 (0, 0)) (a4_)) : gb351 ≠ gb340)) ((by rw [hg]; exact Nat.ne_of_lt (IsS142.lt (show IsS142 w _ gb341 t347 t348 t349 false from a6_)) : gb341 ≠ gb351)) ((by rw [hg]; exact Nat.ne_of_gt (IsS142.lt (show IsS142 w _ gb341 t347 t348 t349 false from a6_)) : gb351 ≠ gb341)); clear HO346 BK340 HI341 HB; obtain ⟨HO346, BK340, HI341, HB, BK351, GW351, GE351, NB340_351, NB351_340, NB341_351, NB351_341⟩ := n_; clear hb hbox hg; have hnb25 := NB351_340.out; have hnc25 := NB340_351.out; have hnb26 := NB351_341.out; have hnc26 := NB341_351.out; have hcz27_0 : w24.cell? ⟨gb351, 0, none⟩ = some (.int .u8 0) := (blk_cell BK351.out 0).trans rfl; have hcz27_1 : w24.cell? ⟨gb351, 1, none⟩ = some (.string (⟨#[]⟩ : ByteArray)) := (blk_cell BK351.out 1).trans rfl; have hcz27_2 : w24.cell? ⟨gb351, 2, none⟩ = some (.slice none 0 0) := (blk_cell BK351.out 2).trans rfl; have hfz27_0 := blk_frozen BK351.out 0; have hfz27_1 := blk_frozen BK351.out 1; have hfz27_2 := blk_frozen BK351.out 2; obtain ⟨Ao28, co28, eo28⟩ := Kd.V_slice HO346.out; subst eo28; obtain ⟨HGz29, hgz29⟩ := HI341.out; have hcz29_0 := cellS142_0 HGz29; have hcz29_1 := cellS142_1 HGz29; have hcz29_2 := cellS142_2 HGz29; have hcz29_3 := cellS142_3 HGz29; have hfz29_0 := blk_frozen HGz29 0; have hfz29_1 := blk_frozen HGz29 1; have hfz29_2 := blk_frozen HGz29 2; have hfz29_3 := blk_frozen HGz29 3; clear HGz29 hgz29) | (go_at_call 99; (with_reducible refine (impl_test_show2.calls k t342 t343 _ _ t344 t352 _ ?side1 ?side2 A19.out).mono ?_); (case side1 => refine (Kd.V_reads' (e := 133) (base := w.heap.size) (ok := fun k_ => (((w.heap.size ≤ k_) ∧ (k_ ≠ gb340 ∧ k_ ≠ gb341)) ∧ k_ ≠ gb351)) (n := t344.length) (c := co28) ?_).2.2; exact (a11_)); (case side2 => exact (Kd.V_reads' HO346.out).2.1); rintro e w30 ⟨rfl, hb⟩; have n_ := c5_ (Kd.V_below (a11_) hb) (blk_below (g := gb340) (o := .cells #[.int .u8 0, .string (⟨#[]⟩ : ByteArray), .slice none 0 0] 133 (0, 0)) (a12_) hb) (IsS142.below (show IsS142 w (((w24.setCell ⟨gb351, 0, none⟩ (.int .u8 t342)).setCell ⟨gb351, 1, none⟩ (.string t343)).setCell ⟨gb351, 2, none⟩ (.slice Ao28 t344.length co28)) gb341 t347 t348 t349 false from a13_) hb) (blk_below (g := gb351) (o := .cells #[.int .u8 t342, .string t343, .slice Ao28 t344.length co28] 133 (0, 0)) (a14_) hb) (below_step (a10_) hb); clear HO346 BK340 HI341 BK351 HB; obtain ⟨HO346, BK340, HI341, BK351, HB⟩ := n_; (try clear hb); (try clear hb2); (try clear hk); (try clear hi); have hcz31_0 : w30.cell? ⟨gb351, 0, none⟩ = some (.int .u8 t342) := (blk_cell BK351.out 0).trans rfl; have hcz31_1 : w30.cell? ⟨gb351, 1, none⟩ = some (.string t343) := (blk_cell BK351.out 1).trans rfl; have hcz31_2 : w30.cell? ⟨gb351, 2, none⟩ = some (.slice Ao28 t344.length co28) := (blk_cell BK351.out 2).trans rfl; have hfz31_0 := blk_frozen BK351.out 0; have hfz31_1 := blk_frozen BK351.out 1; have hfz31_2 := blk_frozen BK351.out 2; have hnb32 := NB340_341.out; have hnc32 := NB341_340.out; have hcz33_0 : w30.cell? ⟨gb340, 0, none⟩ = some (.int .u8 0) := (blk_cell BK340.out 0).trans rfl; have hcz33_1 : w30.cell? ⟨gb340, 1, none⟩ = some (.string (⟨#[]⟩ : ByteArray)) := (blk_cell BK340.out 1).trans rfl; have hcz33_2 : w30.cell? ⟨gb340, 2, none⟩ = some (.slice none 0 0) := (blk_cell BK340.out 2).trans rfl; have hfz33_0 := blk_frozen BK340.out 0; have hfz33_1 := blk_frozen BK340.out 1; have hfz33_2 := blk_frozen BK340.out 2))
     refine bodyPost_ret (results_ct rfl _ _ gb340 133 #[.int .u8 t342, .string t343, .slice Ao28 t344.length co28] (0, 0) _ rfl (a15_) Try.underlying133 rfl (by kernel_rfl)) rfl ?_
     exact ⟨_, a2_, by (with_reducible repeat (first | apply Kd.V_alloc | apply Kd.V_drewN | apply Kd.V_drew)); exact Kd.V_mono (Kd.V_far (p := ⟨gb340, 2, none⟩) (Kd.V_far (p := ⟨gb340, 1, none⟩) (Kd.V_far (p := ⟨gb340, 0, none⟩) (Kd.V_mono HO346.out (fun k_ hk => (⟨hk, hk.1.2.1⟩ : _ ∧ k_ ≠ gb340))) (fun _ hk => hk.2) (.int .u8 t342)) (fun _ hk => hk.2) (.string t343)) (fun _ hk => hk.2) (.slice Ao28 t344.length co28)) (fun _ hk => hk.1.1.1), a10_⟩
    ·rw [if_neg c20] at H
     have c20b0 : (t352.toList == a0.toList) = false := beq_eq_false_iff_ne.mpr c20
     have c20b1 : (t352.toList != a0.toList) = true := bne_iff_ne.mpr c20
     simp only [Option.some.injEq, Prod.mk.injEq] at H
     obtain ⟨rfl, rfl, rfl, rfl⟩ := H
     go_enter Try.func90, Try.ntmps90
     go_wp2_with (first | ((with_reducible refine gate_dst (N := 2) rfl ?_); (try (refine gate_guard (by rfl) ?_; dsimp only)); refine box_event ?hg (N := 2) ?hd (cs := #[.int .u8 0, .string (⟨#[]⟩ : ByteArray), .slice none 0 0]) (t := 133) ?hr ?_; (case hd => rfl); (case hg => rfl); (case hr => first | (go_simp; done) | (go_simp; rfl)); intro gb340 hg w34 hbox hb; have n_ := c4_ (below_step (a1_) hb) (hbox) ((by rw [hg]; exact (below_size (a1_)) : w.heap.size ≤ gb340)) ((by rw [hg]; exact (below_size (a1_)) : w.heap.size ≤ gb340)); clear HB; obtain ⟨HB, BK340, GW340, GE340⟩ := n_; clear hb hbox hg) | ((with_reducible refine gate_dst (N := 12) rfl ?_); (try (refine gate_guard (by rfl) ?_; dsimp only)); refine box_event ?hg (N := 12) ?hd (cs := #[.string a0, .int .i64 0, .int .i64 0, .bool false]) (t := 142) ?hr ?_; (case hd => rfl); (case hg => rfl); (case hr => first | (go_simp; done) | (go_simp; rfl)); intro gb341 hg w35 hbox hb; have n_ := c7_ (blk_below (g := gb340) (o := .cells #[.int .u8 0, .string (⟨#[]⟩ : ByteArray), .slice none 0 0] 133 (0, 0)) (a4_) hb) (below_step (a3_) hb) ((by rw [hg]; exact (below_size (a3_)) : w.heap.size ≤ gb341)) ((by rw [hg]; exact (below_size (a3_)) : w.heap.size ≤ gb341)) ((by rw [hg]; exact Nat.ne_of_lt (blk_lt (g := gb340) (o := .cells #[.int .u8 0, .string (⟨#[]⟩ : ByteArray), .slice none 0 0] 133 (0, 0)) (a4_)) : gb340 ≠ gb341)) ((by rw [hg]; exact Nat.ne_of_gt (blk_lt (g := gb340) (o := .cells #[.int .u8 0, .string (⟨#[]⟩ : ByteArray), .slice none 0 0] 133 (0, 0)) (a4_)) : gb341 ≠ gb340)) ((show IsS142 w w35 gb341 a0 0 0 false from ⟨hbox, (by rw [hg]; exact (below_size (a3_)) : w.heap.size ≤ gb341)⟩)); clear BK340 HB; obtain ⟨BK340, HB, GW341, GE341, NB340_341, NB341_340, HI341⟩ := n_; clear hb hbox hg) | ((with_reducible refine gate_callee (f := 98) rfl ?_); refine goesL_ (some 14) rfl rfl Try.func98 (by kernel_rfl) rfl #[.pointer (some ⟨gb341, 0, none⟩)] rfl (a5_) ?_; (with_reducible refine (impl_testReader_or2.calls k gb341 a0 0 0 false t342 t343 t344 t347 t348 t349 false w _ ?side1 ?side2 A5.out).mono ?_); (case side1 => exact a6_); (case side2 => exact a7_); rintro e w36 ⟨v345, rfl, ho0, hi, hb, hk⟩; refine ⟨_, rfl, ?_⟩; have n_ := c4_ (KeepBut.blk hk (g' := gb340) (o := .cells #[.int .u8 0, .string (⟨#[]⟩ : ByteArray), .slice none 0 0] 133 (0, 0)) (a4_) NB340_341.out (by simp)) (Kd.V_lower (Kd.V_mono (ok' := fun k_ => (w.heap.size ≤ k_) ∧ k_ ≠ gb340 ∧ k_ ≠ gb341) ho0 (fun k_ hk_ => ⟨(Nat.le_trans (below_size (a7_)) hk_), (Kd.freshB (g := gb340) (o := .cells #[.int .u8 0, .string (⟨#[]⟩ : ByteArray), .slice none 0 0] 133 (0, 0)) (a4_) k_ hk_), (IsS142.fresh (a6_) k_ hk_)⟩)) (below_size (a7_))) (hb) (hi); clear BK340 HB HI341; obtain ⟨BK340, HO346, HB, HI341⟩ := n_; (try clear hb); (try clear hb2); (try clear hk); (try clear hi); (try clear ho0)) | ((with_reducible refine gate_dst (N := 5) rfl ?_); (try (refine gate_guard (by rfl) ?_; dsimp only)); refine box_event ?hg (N := 5) ?hd (cs := #[.int .u8 0, .string (⟨#[]⟩ : ByteArray), .slice none 0 0]) (t := 133) ?hr ?_; (case hd => rfl); (case hg => rfl); (case hr => first | (go_simp; done) | (go_simp; rfl)); intro gb351 hg w37 hbox hb; have n_ := c11_ (Kd.V_below (Kd.V_elderB (a8_) gb351 (Nat.le_of_eq hg.symm)) hb) (blk_below (g := gb340) (o := .cells #[.int .u8 0, .string (⟨#[]⟩ : ByteArray), .slice none 0 0] 133 (0, 0)) (a4_) hb) (IsS142.below (a6_) hb) (below_step (a7_) hb) (hbox) ((by rw [hg]; exact (below_size (a7_)) : w.heap.size ≤ gb351)) ((by rw [hg]; exact (below_size (a7_)) : w.heap.size ≤ gb351)) ((by rw [hg]; exact Nat.ne_of_lt (blk_lt (g := gb340) (o := .cells #[.int .u8 0, .string (⟨#[]⟩ : ByteArray), .slice none 0 0] 133 (0, 0)) (a4_)) : gb340 ≠ gb351)) ((by rw [hg]; exact Nat.ne_of_gt (blk_lt (g := gb340) (o := .cells #[.int .u8 0, .string (⟨#[]⟩ : ByteArray), .slice none 0 0] 133 (0, 0)) (a4_)) : gb351 ≠ gb340)) ((by rw [hg]; exact Nat.ne_of_lt (IsS142.lt (show IsS142 w _ gb341 t347 t348 t349 false from a6_)) : gb341 ≠ gb351)) ((by rw [hg]; exact Nat.ne_of_gt (IsS142.lt (show IsS142 w _ gb341 t347 t348 t349 false from a6_)) : gb351 ≠ gb341)); clear HO346 BK340 HI341 HB; obtain ⟨HO346, BK340, HI341, HB, BK351, GW351, GE351, NB340_351, NB351_340, NB341_351, NB351_341⟩ := n_; clear hb hbox hg; have hnb38 := NB351_340.out; have hnc38 := NB340_351.out; have hnb39 := NB351_341.out; have hnc39 := NB341_351.out; have hcz40_0 : w37.cell? ⟨gb351, 0, none⟩ = some (.int .u8 0) := (blk_cell BK351.out 0).trans rfl; have hcz40_1 : w37.cell? ⟨gb351, 1, none⟩ = some (.string (⟨#[]⟩ : ByteArray)) := (blk_cell BK351.out 1).trans rfl; have hcz40_2 : w37.cell? ⟨gb351, 2, none⟩ = some (.slice none 0 0) := (blk_cell BK351.out 2).trans rfl; have hfz40_0 := blk_frozen BK351.out 0; have hfz40_1 := blk_frozen BK351.out 1; have hfz40_2 := blk_frozen BK351.out 2; obtain ⟨Ao41, co41, eo41⟩ := Kd.V_slice HO346.out; subst eo41; obtain ⟨HGz42, hgz42⟩ := HI341.out; have hcz42_0 := cellS142_0 HGz42; have hcz42_1 := cellS142_1 HGz42; have hcz42_2 := cellS142_2 HGz42; have hcz42_3 := cellS142_3 HGz42; have hfz42_0 := blk_frozen HGz42 0; have hfz42_1 := blk_frozen HGz42 1; have hfz42_2 := blk_frozen HGz42 2; have hfz42_3 := blk_frozen HGz42 3; clear HGz42 hgz42) | (go_at_call 99; (with_reducible refine (impl_test_show2.calls k t342 t343 _ _ t344 t352 _ ?side1 ?side2 A19.out).mono ?_); (case side1 => refine (Kd.V_reads' (e := 133) (base := w.heap.size) (ok := fun k_ => (((w.heap.size ≤ k_) ∧ (k_ ≠ gb340 ∧ k_ ≠ gb341)) ∧ k_ ≠ gb351)) (n := t344.length) (c := co41) ?_).2.2; exact (a16_)); (case side2 => exact (Kd.V_reads' HO346.out).2.1); rintro e w43 ⟨rfl, hb⟩; have n_ := c5_ (Kd.V_below (a16_) hb) (blk_below (g := gb340) (o := .cells #[.int .u8 0, .string (⟨#[]⟩ : ByteArray), .slice none 0 0] 133 (0, 0)) (a12_) hb) (IsS142.below (show IsS142 w (((w37.setCell ⟨gb351, 0, none⟩ (.int .u8 t342)).setCell ⟨gb351, 1, none⟩ (.string t343)).setCell ⟨gb351, 2, none⟩ (.slice Ao41 t344.length co41)) gb341 t347 t348 t349 false from a13_) hb) (blk_below (g := gb351) (o := .cells #[.int .u8 t342, .string t343, .slice Ao41 t344.length co41] 133 (0, 0)) (a14_) hb) (below_step (a10_) hb); clear HO346 BK340 HI341 BK351 HB; obtain ⟨HO346, BK340, HI341, BK351, HB⟩ := n_; (try clear hb); (try clear hb2); (try clear hk); (try clear hi); have hcz44_0 : w43.cell? ⟨gb351, 0, none⟩ = some (.int .u8 t342) := (blk_cell BK351.out 0).trans rfl; have hcz44_1 : w43.cell? ⟨gb351, 1, none⟩ = some (.string t343) := (blk_cell BK351.out 1).trans rfl; have hcz44_2 : w43.cell? ⟨gb351, 2, none⟩ = some (.slice Ao41 t344.length co41) := (blk_cell BK351.out 2).trans rfl; have hfz44_0 := blk_frozen BK351.out 0; have hfz44_1 := blk_frozen BK351.out 1; have hfz44_2 := blk_frozen BK351.out 2; have hnb45 := NB340_341.out; have hnc45 := NB341_340.out; have hcz46_0 : w43.cell? ⟨gb340, 0, none⟩ = some (.int .u8 0) := (blk_cell BK340.out 0).trans rfl; have hcz46_1 : w43.cell? ⟨gb340, 1, none⟩ = some (.string (⟨#[]⟩ : ByteArray)) := (blk_cell BK340.out 1).trans rfl; have hcz46_2 : w43.cell? ⟨gb340, 2, none⟩ = some (.slice none 0 0) := (blk_cell BK340.out 2).trans rfl; have hfz46_0 := blk_frozen BK340.out 0; have hfz46_1 := blk_frozen BK340.out 1; have hfz46_2 := blk_frozen BK340.out 2))
     refine bodyPost_ret (results_ct rfl _ _ gb340 133 #[.int .u8 t342, .string t343, .slice Ao41 t344.length co41] (0, 0) _ rfl (a15_) Try.underlying133 rfl (by kernel_rfl)) rfl ?_
     exact ⟨_, a2_, by (with_reducible repeat (first | apply Kd.V_alloc | apply Kd.V_drewN | apply Kd.V_drew)); exact Kd.V_mono (Kd.V_far (p := ⟨gb340, 2, none⟩) (Kd.V_far (p := ⟨gb340, 1, none⟩) (Kd.V_far (p := ⟨gb340, 0, none⟩) (Kd.V_mono HO346.out (fun k_ hk => (⟨hk, hk.1.2.1⟩ : _ ∧ k_ ≠ gb340))) (fun _ hk => hk.2) (.int .u8 t342)) (fun _ hk => hk.2) (.string t343)) (fun _ hk => hk.2) (.slice Ao41 t344.length co41)) (fun _ hk => hk.1.1.1), a10_⟩
   ·rw [if_neg c18] at H
    have c18b0 : (t348 == (a0.size : Int)) = false := beq_eq_false_iff_ne.mpr c18
    have c18b1 : (t348 != (a0.size : Int)) = true := bne_iff_ne.mpr c18
    simp only [Option.some.injEq, Prod.mk.injEq] at H
    obtain ⟨rfl, rfl, rfl, rfl⟩ := H
    go_enter Try.func90, Try.ntmps90
    go_wp2_with (first | ((with_reducible refine gate_dst (N := 2) rfl ?_); (try (refine gate_guard (by rfl) ?_; dsimp only)); refine box_event ?hg (N := 2) ?hd (cs := #[.int .u8 0, .string (⟨#[]⟩ : ByteArray), .slice none 0 0]) (t := 133) ?hr ?_; (case hd => rfl); (case hg => rfl); (case hr => first | (go_simp; done) | (go_simp; rfl)); intro gb340 hg w47 hbox hb; have n_ := c4_ (below_step (a1_) hb) (hbox) ((by rw [hg]; exact (below_size (a1_)) : w.heap.size ≤ gb340)) ((by rw [hg]; exact (below_size (a1_)) : w.heap.size ≤ gb340)); clear HB; obtain ⟨HB, BK340, GW340, GE340⟩ := n_; clear hb hbox hg) | ((with_reducible refine gate_dst (N := 12) rfl ?_); (try (refine gate_guard (by rfl) ?_; dsimp only)); refine box_event ?hg (N := 12) ?hd (cs := #[.string a0, .int .i64 0, .int .i64 0, .bool false]) (t := 142) ?hr ?_; (case hd => rfl); (case hg => rfl); (case hr => first | (go_simp; done) | (go_simp; rfl)); intro gb341 hg w48 hbox hb; have n_ := c7_ (blk_below (g := gb340) (o := .cells #[.int .u8 0, .string (⟨#[]⟩ : ByteArray), .slice none 0 0] 133 (0, 0)) (a4_) hb) (below_step (a3_) hb) ((by rw [hg]; exact (below_size (a3_)) : w.heap.size ≤ gb341)) ((by rw [hg]; exact (below_size (a3_)) : w.heap.size ≤ gb341)) ((by rw [hg]; exact Nat.ne_of_lt (blk_lt (g := gb340) (o := .cells #[.int .u8 0, .string (⟨#[]⟩ : ByteArray), .slice none 0 0] 133 (0, 0)) (a4_)) : gb340 ≠ gb341)) ((by rw [hg]; exact Nat.ne_of_gt (blk_lt (g := gb340) (o := .cells #[.int .u8 0, .string (⟨#[]⟩ : ByteArray), .slice none 0 0] 133 (0, 0)) (a4_)) : gb341 ≠ gb340)) ((show IsS142 w w48 gb341 a0 0 0 false from ⟨hbox, (by rw [hg]; exact (below_size (a3_)) : w.heap.size ≤ gb341)⟩)); clear BK340 HB; obtain ⟨BK340, HB, GW341, GE341, NB340_341, NB341_340, HI341⟩ := n_; clear hb hbox hg) | ((with_reducible refine gate_callee (f := 98) rfl ?_); refine goesL_ (some 14) rfl rfl Try.func98 (by kernel_rfl) rfl #[.pointer (some ⟨gb341, 0, none⟩)] rfl (a5_) ?_; (with_reducible refine (impl_testReader_or2.calls k gb341 a0 0 0 false t342 t343 t344 t347 t348 t349 false w _ ?side1 ?side2 A5.out).mono ?_); (case side1 => exact a6_); (case side2 => exact a7_); rintro e w49 ⟨v345, rfl, ho0, hi, hb, hk⟩; refine ⟨_, rfl, ?_⟩; have n_ := c4_ (KeepBut.blk hk (g' := gb340) (o := .cells #[.int .u8 0, .string (⟨#[]⟩ : ByteArray), .slice none 0 0] 133 (0, 0)) (a4_) NB340_341.out (by simp)) (Kd.V_lower (Kd.V_mono (ok' := fun k_ => (w.heap.size ≤ k_) ∧ k_ ≠ gb340 ∧ k_ ≠ gb341) ho0 (fun k_ hk_ => ⟨(Nat.le_trans (below_size (a7_)) hk_), (Kd.freshB (g := gb340) (o := .cells #[.int .u8 0, .string (⟨#[]⟩ : ByteArray), .slice none 0 0] 133 (0, 0)) (a4_) k_ hk_), (IsS142.fresh (a6_) k_ hk_)⟩)) (below_size (a7_))) (hb) (hi); clear BK340 HB HI341; obtain ⟨BK340, HO346, HB, HI341⟩ := n_; (try clear hb); (try clear hb2); (try clear hk); (try clear hi); (try clear ho0)) | ((with_reducible refine gate_dst (N := 5) rfl ?_); (try (refine gate_guard (by rfl) ?_; dsimp only)); refine box_event ?hg (N := 5) ?hd (cs := #[.int .u8 0, .string (⟨#[]⟩ : ByteArray), .slice none 0 0]) (t := 133) ?hr ?_; (case hd => rfl); (case hg => rfl); (case hr => first | (go_simp; done) | (go_simp; rfl)); intro gb351 hg w50 hbox hb; have n_ := c11_ (Kd.V_below (Kd.V_elderB (a8_) gb351 (Nat.le_of_eq hg.symm)) hb) (blk_below (g := gb340) (o := .cells #[.int .u8 0, .string (⟨#[]⟩ : ByteArray), .slice none 0 0] 133 (0, 0)) (a4_) hb) (IsS142.below (a6_) hb) (below_step (a7_) hb) (hbox) ((by rw [hg]; exact (below_size (a7_)) : w.heap.size ≤ gb351)) ((by rw [hg]; exact (below_size (a7_)) : w.heap.size ≤ gb351)) ((by rw [hg]; exact Nat.ne_of_lt (blk_lt (g := gb340) (o := .cells #[.int .u8 0, .string (⟨#[]⟩ : ByteArray), .slice none 0 0] 133 (0, 0)) (a4_)) : gb340 ≠ gb351)) ((by rw [hg]; exact Nat.ne_of_gt (blk_lt (g := gb340) (o := .cells #[.int .u8 0, .string (⟨#[]⟩ : ByteArray), .slice none 0 0] 133 (0, 0)) (a4_)) : gb351 ≠ gb340)) ((by rw [hg]; exact Nat.ne_of_lt (IsS142.lt (show IsS142 w _ gb341 t347 t348 t349 false from a6_)) : gb341 ≠ gb351)) ((by rw [hg]; exact Nat.ne_of_gt (IsS142.lt (show IsS142 w _ gb341 t347 t348 t349 false from a6_)) : gb351 ≠ gb341)); clear HO346 BK340 HI341 HB; obtain ⟨HO346, BK340, HI341, HB, BK351, GW351, GE351, NB340_351, NB351_340, NB341_351, NB351_341⟩ := n_; clear hb hbox hg; have hnb51 := NB351_340.out; have hnc51 := NB340_351.out; have hnb52 := NB351_341.out; have hnc52 := NB341_351.out; have hcz53_0 : w50.cell? ⟨gb351, 0, none⟩ = some (.int .u8 0) := (blk_cell BK351.out 0).trans rfl; have hcz53_1 : w50.cell? ⟨gb351, 1, none⟩ = some (.string (⟨#[]⟩ : ByteArray)) := (blk_cell BK351.out 1).trans rfl; have hcz53_2 : w50.cell? ⟨gb351, 2, none⟩ = some (.slice none 0 0) := (blk_cell BK351.out 2).trans rfl; have hfz53_0 := blk_frozen BK351.out 0; have hfz53_1 := blk_frozen BK351.out 1; have hfz53_2 := blk_frozen BK351.out 2; obtain ⟨Ao54, co54, eo54⟩ := Kd.V_slice HO346.out; subst eo54; obtain ⟨HGz55, hgz55⟩ := HI341.out; have hcz55_0 := cellS142_0 HGz55; have hcz55_1 := cellS142_1 HGz55; have hcz55_2 := cellS142_2 HGz55; have hcz55_3 := cellS142_3 HGz55; have hfz55_0 := blk_frozen HGz55 0; have hfz55_1 := blk_frozen HGz55 1; have hfz55_2 := blk_frozen HGz55 2; have hfz55_3 := blk_frozen HGz55 3; clear HGz55 hgz55; have hnb56 := NB340_341.out; have hnc56 := NB341_340.out; have hcz57_0 : w50.cell? ⟨gb340, 0, none⟩ = some (.int .u8 0) := (blk_cell BK340.out 0).trans rfl; have hcz57_1 : w50.cell? ⟨gb340, 1, none⟩ = some (.string (⟨#[]⟩ : ByteArray)) := (blk_cell BK340.out 1).trans rfl; have hcz57_2 : w50.cell? ⟨gb340, 2, none⟩ = some (.slice none 0 0) := (blk_cell BK340.out 2).trans rfl; have hfz57_0 := blk_frozen BK340.out 0; have hfz57_1 := blk_frozen BK340.out 1; have hfz57_2 := blk_frozen BK340.out 2))
    refine bodyPost_ret (results_ct rfl _ _ gb340 133 #[.int .u8 t342, .string t343, .slice Ao54 t344.length co54] (0, 0) _ rfl (a9_) Try.underlying133 rfl (by kernel_rfl)) rfl ?_
    exact ⟨_, a2_, by (with_reducible repeat (first | apply Kd.V_alloc | apply Kd.V_drewN | apply Kd.V_drew)); exact Kd.V_mono (Kd.V_far (p := ⟨gb340, 2, none⟩) (Kd.V_far (p := ⟨gb340, 1, none⟩) (Kd.V_far (p := ⟨gb340, 0, none⟩) (Kd.V_far (p := ⟨gb351, 2, none⟩) (Kd.V_far (p := ⟨gb351, 1, none⟩) (Kd.V_far (p := ⟨gb351, 0, none⟩) (Kd.V_mono (Kd.V_mono HO346.out (fun k_ hk => (⟨hk, hk.2⟩ : _ ∧ k_ ≠ gb351))) (fun k_ hk => (⟨hk, hk.1.1.2.1⟩ : _ ∧ k_ ≠ gb340))) (fun _ hk => hk.1.2) (.int .u8 t342)) (fun _ hk => hk.1.2) (.string t343)) (fun _ hk => hk.1.2) (.slice Ao54 t344.length co54)) (fun _ hk => hk.2) (.int .u8 t342)) (fun _ hk => hk.2) (.string t343)) (fun _ hk => hk.2) (.slice Ao54 t344.length co54)) (fun _ hk => hk.1.1.1.1), a10_⟩

/-! ### impl_LabelsFault: function 79 -/
def impl_LabelsFault.f (k : Nat) (a0 : ByteArray) : Option (Int) := (impl_readTest.f k a0).bind fun bt353 => (if bt353.2.2.2 = true then (some 0) else (some 1))
theorem impl_LabelsFault.a1_ {p : Prop} (h : p := by repeat (first | (with_reducible first | exact HB.out | apply below_alloc | apply pw_below_drewN | apply below_drew1) | exact HB.out)) : p := h
set_option maxHeartbeats 8000000 in
set_option maxRecDepth 100000 in
theorem impl_LabelsFault.calls (k : Nat) (a0 : ByteArray) (r : Int) (w : World) (h : impl_LabelsFault.f k a0 = some r) :
  Calls Try.prog 79 #[.string a0] w fun e w' => e = .returned (.int .i64 r) ∧ Below w.heap.size w w' := by
 have hu133 := Try.underlying133
 have HB := Aside0.mk (Below.refl w.heap.size w)
 have H : ((impl_readTest.f k a0).bind fun bt353 => (if bt353.2.2.2 = true then (some 0) else (some 1))) = some r := h
 clear h
 replace H := Option.bind_eq_some_iff.mp H
 obtain ⟨⟨t353, t354, t355, t358⟩, A20, H⟩ := H
 replace H : (if t358 = true then (some 0) else (some 1)) = some r := H
 have A2 := Aside0.mk A20
 clear A20
 by_cases c3 : t358 = true
 ·subst c3
  have H1 : (some 0) = some r := by rw [if_pos rfl] at H; exact H
  clear H
  have H := H1
  clear H1
  obtain rfl := Option.some.inj H
  go_enter Try.func79, Try.ntmps79
  go_wp2_with (first | ((with_reducible refine gate_callee (f := 90) rfl ?_); refine goesL_ (some 7) rfl rfl Try.func90 (by kernel_rfl) rfl #[.string a0] rfl (by (try simp only [List.map_toArray, List.map_cons, List.map_nil]); first | done | rfl | (simp only [List.length_drop, List.length_take]; rfl)) ?_; (with_reducible refine (impl_readTest.calls k a0 t353 t354 t355 true _ A2.out).mono ?_); rintro e w4 ⟨v356, rfl, ho0, hb⟩; refine ⟨_, rfl, ?_⟩; have n_ := c2_ (Kd.V_lower (Kd.V_mono (ok' := fun k_ => True) ho0 (fun k_ hk_ => trivial)) (below_size (a1_))) (below_step (a1_) hb); clear HB; obtain ⟨HO357, HB⟩ := n_; (try clear hb); (try clear hb2); (try clear hk); (try clear hi); (try clear ho0)) | ((with_reducible refine gate_dst (N := 3) rfl ?_); refine box_event ?hg (N := 3) ?hd (cs := #[.int .u8 0, .string (⟨#[]⟩ : ByteArray), .slice none 0 0]) (t := 133) ?hr ?_; (case hd => rfl); (case hg => rfl); (case hr => first | (go_simp; done) | (go_simp; rfl)); intro gb359 hg w5 hbox hb; have n_ := c5_ (Kd.V_below (Kd.V_elderB (by (with_reducible repeat (first | apply Kd.V_alloc | apply Kd.V_drewN | apply Kd.V_drew)); exact HO357.out) gb359 (Nat.le_of_eq hg.symm)) hb) (below_step (a1_) hb) (hbox) ((by rw [hg]; exact (below_size (a1_)) : w.heap.size ≤ gb359)) ((by rw [hg]; exact (below_size (a1_)) : w.heap.size ≤ gb359)); clear HO357 HB; obtain ⟨HO357, HB, BK359, GW359, GE359⟩ := n_; clear hb hbox hg; have hcz6_0 : w5.cell? ⟨gb359, 0, none⟩ = some (.int .u8 0) := (blk_cell BK359.out 0).trans rfl; have hcz6_1 : w5.cell? ⟨gb359, 1, none⟩ = some (.string (⟨#[]⟩ : ByteArray)) := (blk_cell BK359.out 1).trans rfl; have hcz6_2 : w5.cell? ⟨gb359, 2, none⟩ = some (.slice none 0 0) := (blk_cell BK359.out 2).trans rfl; have hfz6_0 := blk_frozen BK359.out 0; have hfz6_1 := blk_frozen BK359.out 1; have hfz6_2 := blk_frozen BK359.out 2; obtain ⟨Ao7, co7, eo7⟩ := Kd.V_slice HO357.out; subst eo7))
  go_ret
  exact ⟨by first | rfl | (simp [errW_none, errW_some] <;> rfl) | (simp [*, errW_none, errW_some] <;> rfl), by repeat (first | (with_reducible first | exact HB.out | apply below_alloc | apply pw_below_drewN | apply below_drew1 | refine below_set ?_ GE359.out) | exact HB.out)⟩
 ·replace c3 := Bool.eq_false_iff.mpr c3
  subst c3
  have H1 : (some 1) = some r := by rw [if_neg (show ¬ (false = true) by decide)] at H; exact H
  clear H
  have H := H1
  clear H1
  obtain rfl := Option.some.inj H
  go_enter Try.func79, Try.ntmps79
  go_wp2_with (first | ((with_reducible refine gate_callee (f := 90) rfl ?_); refine goesL_ (some 7) rfl rfl Try.func90 (by kernel_rfl) rfl #[.string a0] rfl (by (try simp only [List.map_toArray, List.map_cons, List.map_nil]); first | done | rfl | (simp only [List.length_drop, List.length_take]; rfl)) ?_; (with_reducible refine (impl_readTest.calls k a0 t353 t354 t355 false _ A2.out).mono ?_); rintro e w8 ⟨v356, rfl, ho0, hb⟩; refine ⟨_, rfl, ?_⟩; have n_ := c2_ (Kd.V_lower (Kd.V_mono (ok' := fun k_ => True) ho0 (fun k_ hk_ => trivial)) (below_size (a1_))) (below_step (a1_) hb); clear HB; obtain ⟨HO357, HB⟩ := n_; (try clear hb); (try clear hb2); (try clear hk); (try clear hi); (try clear ho0)) | ((with_reducible refine gate_dst (N := 3) rfl ?_); refine box_event ?hg (N := 3) ?hd (cs := #[.int .u8 0, .string (⟨#[]⟩ : ByteArray), .slice none 0 0]) (t := 133) ?hr ?_; (case hd => rfl); (case hg => rfl); (case hr => first | (go_simp; done) | (go_simp; rfl)); intro gb359 hg w9 hbox hb; have n_ := c5_ (Kd.V_below (Kd.V_elderB (by (with_reducible repeat (first | apply Kd.V_alloc | apply Kd.V_drewN | apply Kd.V_drew)); exact HO357.out) gb359 (Nat.le_of_eq hg.symm)) hb) (below_step (a1_) hb) (hbox) ((by rw [hg]; exact (below_size (a1_)) : w.heap.size ≤ gb359)) ((by rw [hg]; exact (below_size (a1_)) : w.heap.size ≤ gb359)); clear HO357 HB; obtain ⟨HO357, HB, BK359, GW359, GE359⟩ := n_; clear hb hbox hg; have hcz10_0 : w9.cell? ⟨gb359, 0, none⟩ = some (.int .u8 0) := (blk_cell BK359.out 0).trans rfl; have hcz10_1 : w9.cell? ⟨gb359, 1, none⟩ = some (.string (⟨#[]⟩ : ByteArray)) := (blk_cell BK359.out 1).trans rfl; have hcz10_2 : w9.cell? ⟨gb359, 2, none⟩ = some (.slice none 0 0) := (blk_cell BK359.out 2).trans rfl; have hfz10_0 := blk_frozen BK359.out 0; have hfz10_1 := blk_frozen BK359.out 1; have hfz10_2 := blk_frozen BK359.out 2; obtain ⟨Ao11, co11, eo11⟩ := Kd.V_slice HO357.out; subst eo11))
  go_ret
  exact ⟨by first | rfl | (simp [errW_none, errW_some] <;> rfl) | (simp [*, errW_none, errW_some] <;> rfl), by repeat (first | (with_reducible first | exact HB.out | apply below_alloc | apply pw_below_drewN | apply below_drew1 | refine below_set ?_ GE359.out) | exact HB.out)⟩

end Go.Proofs.Ytmecapnpgedcnaa.PFnExactGrantsFault
