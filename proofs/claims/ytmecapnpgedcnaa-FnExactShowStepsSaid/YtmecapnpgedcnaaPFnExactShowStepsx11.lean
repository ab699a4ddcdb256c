/- Walks of Go functions, written by program out of the print of the translation, with contracts of our own where the print has none. -/
import Derived.Test.YtmecapnpgedcnaaPFnExactShowStepsx0
import Derived.Test.YtmecapnpgedcnaaPFnExactShowStepsx7
import Derived.Test.YtmecapnpgedcnaaPFnExactShowStepsx10
namespace Go.Proofs.Ytmecapnpgedcnaa.PFnExactShowSteps
open Go.RowKit Go.Proofs.YtmecapnpgedcnaaW.PrintWords Go.Proofs.YtmecapnpgedcnaaW.PrintLast Go.Proofs.YtmecapnpgedcnaaW.PrintMore
attribute [local go_sem] max2_int min2_int max_two min_two max_three min_three max_four min_four   -- for this text's walks alone
set_option linter.unusedVariables false
set_option linter.unusedSimpArgs false

/-! ### impl_test_show1: function 99 -/
def impl_test_show1.T10 : Bool × List (List Nat × List Nat) := (true, [([], []), ([], []), ([], []), ([2], [2]), ([1, 3, 3], [1, 3]), ([4], [4]), ([0, 5, 4], [0, 5]), ([6, 6, 0, 1, 2, 3, 4, 5, 6], [0, 6])])
def impl_test_show1.B10 : List Nat := [0, 0, 0, 4, 14, 30, 63, 127]
theorem impl_test_show1.tab10 : rtab .any (opsOf Try.f99 10) = impl_test_show1.T10 := by kernel_rfl
theorem impl_test_show1.bits10 : waitsOk impl_test_show1.T10.2 impl_test_show1.B10 = true := by kernel_rfl
theorem impl_test_show1.a1_ {p : Prop} (h : p := by repeat (first | (with_reducible first | exact HB.out | apply below_alloc | apply pw_below_drewN | apply below_drew1) | exact HB.out)) : p := h
theorem impl_test_show1.a2_ {p : Prop} (h : p := by repeat (first | (with_reducible first | exact HB.out | apply below_alloc | apply pw_below_drewN | apply below_drew1 | refine below_set ?_ GE376.out) | exact HB.out)) : p := h
theorem impl_test_show1.a3_ {p : Prop} (h : p := by (try simp only [List.map_toArray, List.map_cons, List.map_nil]); first | done | rfl | (simp only [List.length_drop, List.length_take]; rfl)) : p := h
theorem impl_test_show1.a4_ {p : Prop} (h : p := by (with_reducible repeat (first | refine blk_drewN ?_ _ | refine blk_drew ?_ | refine blk_alloc ?_ _)); exact BK376.out) : p := h
theorem impl_test_show1.a5_ {p : Prop} (h : p := by (with_reducible repeat (first | apply Kd.R_alloc | apply Kd.R_drewN | apply Kd.R_drew)); exact HO_3.out) : p := h
theorem impl_test_show1.a6_ {p : Prop} (h : p := by repeat (first | (with_reducible first | exact HB.out | apply below_alloc | apply pw_below_drewN | apply below_drew1 | refine below_set ?_ GE376.out | refine below_set ?_ GE380.out) | exact HB.out)) : p := h
theorem impl_test_show1.a7_ {p : Prop} (h : p := by (with_reducible repeat (first | refine blk_drewN ?_ _ | refine blk_drew ?_ | refine blk_alloc ?_ _)); exact BK380.out) : p := h
section
variable [impl_test_show.C]
def impl_test_show1.l0 : Nat → List ByteArray → List (S133) → Int → Int → Int → ByteArray → List (S133) → Option (ByteArray)
 | 0, _, _, _, _, _, _, _ => none
 | k + 1, x3, x21, x22, x23, x377000, x377001, x377002 => if x23 < x22 then (if 0 ≤ x23 then (if x23 < (x21.length : Int) then ((impl_test_rank.f x377000 x377001 x377002).bind fun t381 => ((impl_test_within.f ((rd_T133 x21 x23).f0) ((rd_T133 x21 x23).f1) ((rd_T133 x21 x23).f2) t381).bind fun t382 => (if x3.length < 8796093022208 then (impl_test_show1.l0 k (x3 ++ [t382]) x21 x22 (wrap64 (x23 + 1)) x377000 x377001 x377002) else (none)))) else (none)) else (none)) else ((strings_Join.f x3 (Utf8.encode (wrap32 (x377000)))).bind fun t386 => (some t386))
def impl_test_show1.f (k : Nat) (a0_0 : Int) (a0_1 : ByteArray) (l0_2 : List (S133)) : Option (ByteArray) := if a0_0 = 0 then (some a0_1) else (if a0_0 = 33 then (if 0 < (l0_2.length : Int) then ((impl_test_within.f ((rd_T133 l0_2 0).f0) ((rd_T133 l0_2 0).f1) ((rd_T133 l0_2 0).f2) 3).bind fun t378 => (if 1 + t378.size ≤ 9223372036854775807 then (some ((⟨#[33]⟩ : ByteArray) ++ t378)) else (none))) else (none)) else (impl_test_show1.l0 k ([] : List ByteArray) l0_2 (l0_2.length : Int) 0 a0_0 a0_1 l0_2))
theorem impl_test_show1.mono_l : ∀ k, (∀ y0 y1 y2 y3 y4 y5 y6, LeO (impl_test_show1.l0 k y0 y1 y2 y3 y4 y5 y6) (impl_test_show1.l0 (k + 1) y0 y1 y2 y3 y4 y5 y6))
 | 0 => fun _ _ _ _ _ _ _ r h => by simp [impl_test_show1.l0] at h
 | k + 1 => by
  have ih0 := impl_test_show1.mono_l k
  ·intro y0 y1 y2 y3 y4 y5 y6
   unfold impl_test_show1.l0
   repeat' first
   | (with_reducible exact ih0 _ _ _ _ _ _ _)
   | (with_reducible exact LeO.refl _)
   | (with_reducible exact LeO.none _)
   | (with_reducible refine LeO.ite ?_ ?_)
   | (with_reducible refine LeO.bind ?_ (fun _ => ?_))
   | exact ih0 _ _ _ _ _ _ _
   | exact LeO.none _
   | refine LeO.ite ?_ ?_
   | refine LeO.bind ?_ (fun _ => ?_)
theorem impl_test_show1.mono : ∀ a0 a1 a2 k, LeO (impl_test_show1.f k a0 a1 a2) (impl_test_show1.f (k + 1) a0 a1 a2) := by
 intro a0 a1 a2 k
 have ih0 := impl_test_show1.mono_l k
 unfold impl_test_show1.f
 repeat' first
   | (with_reducible exact ih0 _ _ _ _ _ _ _)
   | (with_reducible exact LeO.refl _)
   | (with_reducible exact LeO.none _)
   | (with_reducible refine LeO.ite ?_ ?_)
   | (with_reducible refine LeO.bind ?_ (fun _ => ?_))
   | exact ih0 _ _ _ _ _ _ _
   | exact LeO.none _
   | refine LeO.ite ?_ ?_
   | refine LeO.bind ?_ (fun _ => ?_)
set_option maxHeartbeats 8000000 in
set_option maxRecDepth 100000 in
theorem impl_test_show1.calls (k : Nat) (a0_0 : Int) (a0_1 : ByteArray) (A0_2 : Option Addr) (c0_2 : Nat) (l0_2 : List (S133)) (r : ByteArray) (w : World) (hr0_2 : Kd.C k133 w A0_2 l0_2.length l0_2) (hc0_2 : l0_2.length ≤ c0_2) (h : impl_test_show1.f k a0_0 a0_1 l0_2 = some r) :
  Calls Try.prog 99 #[.agg #[.int .u8 a0_0, .string a0_1, .slice A0_2 l0_2.length c0_2]] w fun e w' => e = .returned (.string r) ∧ Below w.heap.size w w' := by
 have hu133 := Try.underlying133
 have HR0_2 := Aside0.mk hr0_2
 have HC0_2 := Aside0.mk hc0_2
 clear hr0_2 hc0_2
 have HB := Aside0.mk (Below.refl w.heap.size w)
 have H : (if a0_0 = 0 then (some a0_1) else (if a0_0 = 33 then (if 0 < (l0_2.length : Int) then ((impl_test_within.f ((rd_T133 l0_2 0).f0) ((rd_T133 l0_2 0).f1) ((rd_T133 l0_2 0).f2) 3).bind fun t378 => (if 1 + t378.size ≤ 9223372036854775807 then (some ((⟨#[33]⟩ : ByteArray) ++ t378)) else (none))) else (none)) else (impl_test_show1.l0 k ([] : List ByteArray) l0_2 (l0_2.length : Int) 0 a0_0 a0_1 l0_2))) = some r := h
 clear h
 by_cases c2 : a0_0 = 0
 ·rw [if_pos c2] at H
  have c2b0 : (a0_0 == 0) = true := beq_iff_eq.mpr c2
  have c2b1 : (a0_0 != 0) = false := bne_eq_false_iff_eq.mpr c2
  clear c2
  obtain rfl := Option.some.inj H
  go_enter Try.func99, Try.ntmps99
  go_wp2_with (first | ((with_reducible refine gate_dst (N := 1) rfl ?_); refine box_event ?hg (N := 1) ?hd (cs := #[.int .u8 a0_0, .string a0_1, .slice A0_2 l0_2.length c0_2]) (t := 133) ?hr ?_; (case hd => rfl); (case hg => rfl); (case hr => first | (go_simp; done) | (go_simp; rfl)); intro gb376 hg w3 hbox hb; have n_ := c4_ (below_step (a1_) hb) (hbox) ((by rw [hg]; exact (below_size (a1_)) : w.heap.size ≤ gb376)) ((by rw [hg]; exact (below_size (a1_)) : w.heap.size ≤ gb376)); clear HB; obtain ⟨HB, BK376, GW376, GE376⟩ := n_; clear hb hbox hg; obtain ⟨hcz4_0, hcz4_1, hcz4_2, hfz4_0, hfz4_1, hfz4_2⟩ := cf3_ BK376.out))
  go_ret
  exact ⟨by first | rfl | (simp [errW_none, errW_some] <;> rfl) | (simp [*, errW_none, errW_some] <;> rfl), a2_⟩
 ·rw [if_neg c2] at H
  have c2b0 : (a0_0 == 0) = false := beq_eq_false_iff_ne.mpr c2
  have c2b1 : (a0_0 != 0) = true := bne_iff_ne.mpr c2
  by_cases c5 : a0_0 = 33
  ·rw [if_pos c5] at H
   have c5b0 : (a0_0 == 33) = true := beq_iff_eq.mpr c5
   have c5b1 : (a0_0 != 33) = false := bne_eq_false_iff_eq.mpr c5
   clear c5
   by_cases c6 : 0 < (l0_2.length : Int)
   ·rw [if_pos c6] at H
    have c6b0 : decide (0 < (l0_2.length : Int)) = true := decide_eq_true c6
    have c6b1 : decide (0 < l0_2.length) = true := decide_eq_true (by omega)
    clear c6
    replace H := Option.bind_eq_some_iff.mp H
    obtain ⟨t378, A70, H⟩ := H
    try dsimp only at H
    have A7 := Aside0.mk A70
    clear A70
    by_cases c8 : 1 + t378.size ≤ 9223372036854775807
    ·rw [if_pos c8] at H
     have c8b0 := eq_true c8
     have c8b1 : decide (1 + t378.size ≤ 9223372036854775807) = true := decide_eq_true c8
     try have c8b2 : (9223372036854775807 < 1 + t378.size) = False := eq_false (Nat.not_lt.2 c8)
     obtain rfl := Option.some.inj H
     go_enter Try.func99, Try.ntmps99
     go_wp2_with (first | ((with_reducible refine gate_dst (N := 1) rfl ?_); refine box_event ?hg (N := 1) ?hd (cs := #[.int .u8 a0_0, .string a0_1, .slice A0_2 l0_2.length c0_2]) (t := 133) ?hr ?_; (case hd => rfl); (case hg => rfl); (case hr => first | (go_simp; done) | (go_simp; rfl)); intro gb376 hg w9 hbox hb; have n_ := c4_ (below_step (a1_) hb) (hbox) ((by rw [hg]; exact (below_size (a1_)) : w.heap.size ≤ gb376)) ((by rw [hg]; exact (below_size (a1_)) : w.heap.size ≤ gb376)); clear HB; obtain ⟨HB, BK376, GW376, GE376⟩ := n_; clear hb hbox hg; obtain ⟨hcz10_0, hcz10_1, hcz10_2, hfz10_0, hfz10_1, hfz10_2⟩ := cf3_ BK376.out; have p377 : 0 ≤ (0 : Int) := (by omega); have q377 : 0 < (l0_2.length : Int) := of_decide_eq_true (by first | (with_reducible assumption) | assumption); obtain ⟨ad377, A377_2, c377_2, e377, hx377_0, hx377_1, hx377_2, hl377_2, hi377_2⟩ := at_T133 HR0_2.out 0 p377 q377; cases e377; have qi377 : (0 < l0_2.length) = True := eq_true (by omega); (try rw [show ((0 : Int)).toNat = 0 from rfl] at hx377_0); (try rw [show 0 * 3 = 0 from rfl] at hx377_0); (try rw [Addr.add_zero'] at hx377_0); (try rw [show ((0 : Int)).toNat = 0 from rfl] at hx377_1); (try rw [show 0 * 3 = 0 from rfl] at hx377_1); (try rw [Addr.add_zero'] at hx377_1); (try rw [show ((0 : Int)).toNat = 0 from rfl] at hx377_2); (try rw [show 0 * 3 = 0 from rfl] at hx377_2); (try rw [Addr.add_zero'] at hx377_2); replace hx377_0 := (HB.out.cell (World.block_lt_of_cell? w _ hx377_0)).trans hx377_0; replace hx377_1 := (HB.out.cell (World.block_lt_of_cell? w _ hx377_1)).trans hx377_1; replace hx377_2 := (HB.out.cell (World.block_lt_of_cell? w _ hx377_2)).trans hx377_2; have HR377_2 := Aside0.mk hi377_2; have HC377_2 := Aside0.mk hl377_2; clear hi377_2 hl377_2; replace p377 := eq_true p377; replace q377 := eq_true q377) | ((with_reducible refine gate_callee (f := 103) rfl ?_); refine goesL_ (some 18) rfl rfl Try.func103 (by kernel_rfl) rfl #[.agg #[.int .u8 ((rd_T133 l0_2 0).f0), .string ((rd_T133 l0_2 0).f1), .slice A377_2 ((rd_T133 l0_2 0).f2).length c377_2], .int .i64 3] rfl (a3_) ?_; (with_reducible refine (impl_test_within.calls ((rd_T133 l0_2 0).f0) ((rd_T133 l0_2 0).f1) _ _ ((rd_T133 l0_2 0).f2) 3 t378 _ ?side1 ?side2 A7.out).mono ?_); (case side1 => exact by repeat (first | exact (Kd.C_below HR377_2.out HB.out) | (with_reducible refine Kd.C_alloc ?_ _) | (with_reducible refine Kd.C_drewN ?_ _) | (with_reducible refine Kd.C_drew ?_))); (case side2 => exact HC377_2.out); rintro e w11 ⟨rfl, hb⟩; refine ⟨_, rfl, ?_⟩; have n_ := c2_ (blk_below (g := gb376) (o := .cells #[.int .u8 a0_0, .string a0_1, .slice (some ad377) l0_2.length c0_2] 133 (0, 0)) (a4_) hb) (below_step (a2_) hb); clear BK376 HB; obtain ⟨BK376, HB⟩ := n_; (try clear hb); (try clear hb2); (try clear hk); (try clear hi)))
     go_ret
     exact ⟨by first | rfl | (simp [errW_none, errW_some] <;> rfl) | (simp [*, errW_none, errW_some] <;> rfl), a2_⟩
    ·rw [if_neg c8] at H
     exact absurd H (by simp)
   ·rw [if_neg c6] at H
    exact absurd H (by simp)
  ·rw [if_neg c5] at H
   have c5b0 : (a0_0 == 33) = false := beq_eq_false_iff_ne.mpr c5
   have c5b1 : (a0_0 != 33) = true := bne_iff_ne.mpr c5
   have H' := Aside0.mk H
   clear H
   go_enter Try.func99, Try.ntmps99
   go_wp2_with (first | ((with_reducible refine gate_dst (N := 1) rfl ?_); refine box_event ?hg (N := 1) ?hd (cs := #[.int .u8 a0_0, .string a0_1, .slice A0_2 l0_2.length c0_2]) (t := 133) ?hr ?_; (case hd => rfl); (case hg => rfl); (case hr => first | (go_simp; done) | (go_simp; rfl)); intro gb376 hg w12 hbox hb; have n_ := c4_ (below_step (a1_) hb) (hbox) ((by rw [hg]; exact (below_size (a1_)) : w.heap.size ≤ gb376)) ((by rw [hg]; exact (below_size (a1_)) : w.heap.size ≤ gb376)); clear HB; obtain ⟨HB, BK376, GW376, GE376⟩ := n_; clear hb hbox hg; obtain ⟨hcz13_0, hcz13_1, hcz13_2, hfz13_0, hfz13_1, hfz13_2⟩ := cf3_ BK376.out))
   go_loopg [3, 23] k (fun kq v3 v23 w' => ∃ (x3_1 : List ByteArray) (x23_1 : Int), v23 = .int .i64 x23_1 ∧ Aside0 (impl_test_show1.l0 kq x3_1 l0_2 (l0_2.length : Int) x23_1 a0_0 a0_1 l0_2 = some r) ∧ Aside0 (kq ≤ k) ∧ Aside0 (Kd.R Kd.string 9 w' w.heap.size (fun _ => True) v3 x3_1) ∧ Aside0 (w'.heap[gb376]? = some (.cells #[.int .u8 a0_0, .string a0_1, (.slice A0_2 l0_2.length c0_2)] 133 (0, 0))) ∧ Aside0 (Below w.heap.size w w'))
   case atStart => exact ⟨(([] : List ByteArray)), (0), (by first | rfl | (simp; done) | (simp [*]; done)), H', ⟨Nat.le_refl _⟩, ⟨by first | exact Kd.R_nil _ _ _ _ _ | exact Kd.N_nil _ _ _ _ _ | exact Kd.V_nil _ _ _ _ _ | exact Kd.Q_nil _ _ _ _ _ | exact Kd.S_nil _ _ _ _ _⟩, ⟨a4_⟩, ⟨a2_⟩⟩
   case round =>
    clear H'
    try clear c1
    try clear c2
    try clear c2b0
    try clear c2b1
    try clear p2
    try clear c3
    try clear p3
    try clear q3
    try clear hx3
    try clear qi3
    try clear c5
    try clear c5b0
    try clear c5b1
    try clear c6
    try clear c6b0
    try clear c6b1
    try clear c8
    try clear c8b0
    try clear c8b1
    try clear c8b2
    try clear c9
    try clear c10
    try clear hcz10_0
    try clear hcz10_1
    try clear hcz10_2
    try clear hcz13_0
    try clear hcz13_1
    try clear hcz13_2
    try clear hcz4_0
    try clear hcz4_1
    try clear hcz4_2
    try clear hfz10_0
    try clear hfz10_1
    try clear hfz10_2
    try clear hfz13_0
    try clear hfz13_1
    try clear hfz13_2
    try clear hfz4_0
    try clear hfz4_1
    try clear hfz4_2
    try clear hx377_0
    try clear hx377_1
    try clear hx377_2
    try clear p377
    try clear q377
    obtain ⟨x3_1, x23_1, rfl, HA, HK1, HO_3, BK376, HB⟩ := hrel
    cases gk with
    | zero => exact absurd HA.out (by simp [impl_test_show1.l0])
    | succ k1 =>
     have H := HA.out
     clear HA
     simp only [impl_test_show1.l0] at H
     by_cases c14 : x23_1 < (l0_2.length : Int)
     ·rw [if_pos c14] at H
      have c14b0 : decide (x23_1 < (l0_2.length : Int)) = true := decide_eq_true c14
      clear c14
      by_cases c15 : 0 ≤ x23_1
      ·rw [if_pos c15] at H
       have c15b0 : decide (0 ≤ x23_1) = true := decide_eq_true c15
       clear c15
       by_cases c16 : x23_1 < (l0_2.length : Int)
       ·rw [if_pos c16] at H
        have c16b0 : decide (x23_1 < (l0_2.length : Int)) = true := decide_eq_true c16
        clear c16
        replace H := Option.bind_eq_some_iff.mp H
        obtain ⟨t381, A170, H⟩ := H
        try dsimp only at H
        have A17 := Aside0.mk A170
        clear A170
        replace H := Option.bind_eq_some_iff.mp H
        obtain ⟨t382, A180, H⟩ := H
        try dsimp only at H
        have A18 := Aside0.mk A180
        clear A180
        by_cases c19 : x3_1.length < 8796093022208
        ·rw [if_pos c19] at H
         have LMc19 := Aside0.mk c19
         clear c19
         obtain ⟨y383, hy383⟩ : ∃ y_ : List ByteArray, y_ = (x3_1 ++ [t382]) := ⟨_, rfl⟩
         replace H : (impl_test_show1.l0 k1 y383 l0_2 (l0_2.length : Int) (wrap64 (x23_1 + 1)) a0_0 a0_1 l0_2) = some r := by first | (rw [hy383]; with_reducible exact H) | (have H2_ := (Option.bind_some _ _).symm.trans H; rw [hy383]; with_reducible exact H2_) | (have H2_ := (Option.bind_some _ _).symm.trans H; with_reducible exact H2_) | with_reducible exact H | (rw [hy383]; exact H) | exact H
         have Ny383 := Aside0.mk hy383
         clear hy383
         have H' := Aside0.mk H
         clear H
         have p379 : 0 ≤ (x23_1 : Int) := of_decide_eq_true (by first | (with_reducible assumption) | assumption)
         have q379 : x23_1 < (l0_2.length : Int) := of_decide_eq_true (by first | (with_reducible assumption) | assumption)
         obtain ⟨ad379, A379_2, c379_2, e379, hx379_0, hx379_1, hx379_2, hl379_2, hi379_2⟩ := at_T133 HR0_2.out x23_1 p379 q379
         cases e379
         replace hx379_0 := (HB.out.cell (World.block_lt_of_cell? w _ hx379_0)).trans hx379_0
         replace hx379_1 := (HB.out.cell (World.block_lt_of_cell? w _ hx379_1)).trans hx379_1
         replace hx379_2 := (HB.out.cell (World.block_lt_of_cell? w _ hx379_2)).trans hx379_2
         have HR379_2 := Aside0.mk hi379_2
         have HC379_2 := Aside0.mk hl379_2
         clear hi379_2 hl379_2
         replace p379 := eq_true p379
         replace q379 := eq_true q379
         try go_wp2_with (first | ((with_reducible refine gate_dst (N := 5) rfl ?_); refine box_event ?hg (N := 5) ?hd (cs := #[.int .u8 0, .string (⟨#[]⟩ : ByteArray), .slice none 0 0]) (t := 133) ?hr ?_; (case hd => rfl); (case hg => rfl); (case hr => first | (go_simp; done) | (go_simp; rfl)); intro gb380 hg w20 hbox hb; have n_ := c8_ (Kd.R_below (a5_) hb) (blk_below (g := gb376) (o := .cells #[.int .u8 a0_0, .string a0_1, .slice (some ad379) l0_2.length c0_2] 133 (0, 0)) (a4_) hb) (below_step (a2_) hb) (hbox) ((by rw [hg]; exact (below_size (a2_)) : w.heap.size ≤ gb380)) ((by rw [hg]; exact (below_size (a2_)) : w.heap.size ≤ gb380)) ((by rw [hg]; exact Nat.ne_of_lt (blk_lt (g := gb376) (o := .cells #[.int .u8 a0_0, .string a0_1, .slice (some ad379) l0_2.length c0_2] 133 (0, 0)) (a4_)) : gb376 ≠ gb380)) ((by rw [hg]; exact Nat.ne_of_gt (blk_lt (g := gb376) (o := .cells #[.int .u8 a0_0, .string a0_1, .slice (some ad379) l0_2.length c0_2] 133 (0, 0)) (a4_)) : gb380 ≠ gb376)); clear HO_3 BK376 HB; obtain ⟨HO_3, BK376, HB, BK380, GW380, GE380, NB376_380, NB380_376⟩ := n_; clear hb hbox hg; have hnb21 := NB380_376.out; have hnc21 := NB376_380.out; obtain ⟨hcz22_0, hcz22_1, hcz22_2, hfz22_0, hfz22_1, hfz22_2⟩ := cf3_ BK380.out))
         have n_ := c4_ (show Kd.R Kd.string 9 (((w20.setCell ⟨gb380, 0, none⟩ (.int .u8 ((rd_T133 l0_2 x23_1).f0))).setCell ⟨gb380, 1, none⟩ (.string ((rd_T133 l0_2 x23_1).f1))).setCell ⟨gb380, 2, none⟩ (.slice A379_2 ((rd_T133 l0_2 x23_1).f2).length c379_2)) w.heap.size (fun _ => True) u3 x3_1 from by (with_reducible repeat (first | apply Kd.R_alloc | apply Kd.R_drewN | apply Kd.R_drew)); exact Kd.R_mono (Kd.R_far (p := ⟨gb380, 2, none⟩) (Kd.R_far (p := ⟨gb380, 1, none⟩) (Kd.R_far (p := ⟨gb380, 0, none⟩) (Kd.R_types HO_3.out BK380.out (by decide)) (fun _ hk => hk.2) (.int .u8 ((rd_T133 l0_2 x23_1).f0))) (fun _ hk => hk.2) (.string ((rd_T133 l0_2 x23_1).f1))) (fun _ hk => hk.2) (.slice A379_2 ((rd_T133 l0_2 x23_1).f2).length c379_2)) (fun _ hk => trivial)) (show (((w20.setCell ⟨gb380, 0, none⟩ (.int .u8 ((rd_T133 l0_2 x23_1).f0))).setCell ⟨gb380, 1, none⟩ (.string ((rd_T133 l0_2 x23_1).f1))).setCell ⟨gb380, 2, none⟩ (.slice A379_2 ((rd_T133 l0_2 x23_1).f2).length c379_2)).heap[gb376]? = some (.cells #[.int .u8 a0_0, .string a0_1, .slice (some ad379) l0_2.length c0_2] 133 (0, 0)) from by (with_reducible repeat (first | refine blk_drewN ?_ _ | refine blk_drew ?_ | refine blk_alloc ?_ _)); refine blk_far ?_ NB376_380.out _; (with_reducible repeat (first | refine blk_drewN ?_ _ | refine blk_drew ?_ | refine blk_alloc ?_ _)); refine blk_far ?_ NB376_380.out _; (with_reducible repeat (first | refine blk_drewN ?_ _ | refine blk_drew ?_ | refine blk_alloc ?_ _)); refine blk_far ?_ NB376_380.out _; (with_reducible repeat (first | refine blk_drewN ?_ _ | refine blk_drew ?_ | refine blk_alloc ?_ _)); exact BK376.out) (show (((w20.setCell ⟨gb380, 0, none⟩ (.int .u8 ((rd_T133 l0_2 x23_1).f0))).setCell ⟨gb380, 1, none⟩ (.string ((rd_T133 l0_2 x23_1).f1))).setCell ⟨gb380, 2, none⟩ (.slice A379_2 ((rd_T133 l0_2 x23_1).f2).length c379_2)).heap[gb380]? = some (.cells #[.int .u8 ((rd_T133 l0_2 x23_1).f0), .string ((rd_T133 l0_2 x23_1).f1), .slice A379_2 ((rd_T133 l0_2 x23_1).f2).length c379_2] 133 (0, 0)) from by (with_reducible repeat (first | refine blk_drewN ?_ _ | refine blk_drew ?_ | refine blk_alloc ?_ _)); refine blk_put (cs := #[.int .u8 ((rd_T133 l0_2 x23_1).f0), .string ((rd_T133 l0_2 x23_1).f1), .slice none 0 0]) ?_ 2 _ rfl; (with_reducible repeat (first | refine blk_drewN ?_ _ | refine blk_drew ?_ | refine blk_alloc ?_ _)); refine blk_put (cs := #[.int .u8 ((rd_T133 l0_2 x23_1).f0), .string (⟨#[]⟩ : ByteArray), .slice none 0 0]) ?_ 1 _ rfl; (with_reducible repeat (first | refine blk_drewN ?_ _ | refine blk_drew ?_ | refine blk_alloc ?_ _)); refine blk_put (cs := #[.int .u8 0, .string (⟨#[]⟩ : ByteArray), .slice none 0 0]) ?_ 0 _ rfl; (with_reducible repeat (first | refine blk_drewN ?_ _ | refine blk_drew ?_ | refine blk_alloc ?_ _)); exact BK380.out) (show Below w.heap.size w (((w20.setCell ⟨gb380, 0, none⟩ (.int .u8 ((rd_T133 l0_2 x23_1).f0))).setCell ⟨gb380, 1, none⟩ (.string ((rd_T133 l0_2 x23_1).f1))).setCell ⟨gb380, 2, none⟩ (.slice A379_2 ((rd_T133 l0_2 x23_1).f2).length c379_2)) from a6_)
         (try clear HO_3)
         (try clear BK376)
         (try clear BK380)
         (try clear HB)
         generalize (((w20.setCell ⟨gb380, 0, none⟩ (.int .u8 ((rd_T133 l0_2 x23_1).f0))).setCell ⟨gb380, 1, none⟩ (.string ((rd_T133 l0_2 x23_1).f1))).setCell ⟨gb380, 2, none⟩ (.slice A379_2 ((rd_T133 l0_2 x23_1).f2).length c379_2)) = w23 at n_ ⊢
         obtain ⟨HO_3, BK376, BK380, HB⟩ := n_
         have n_ := c4_ (Kd.R_drew HO_3.out) (blk_drew BK376.out) (blk_drew BK380.out) (below_drew1 HB.out)
         clear HO_3 BK376 BK380 HB
         obtain ⟨HO_3, BK376, BK380, HB⟩ := n_
         refine start_ (n := 8) (S := fun w' => w'.cell? ⟨gb380, 0, none⟩ = some (.int .u8 ((rd_T133 l0_2 x23_1).f0)) ∧ w'.cell? ⟨gb380, 1, none⟩ = some (.string ((rd_T133 l0_2 x23_1).f1)) ∧ w'.cell? ⟨gb380, 2, none⟩ = some (.slice A379_2 ((rd_T133 l0_2 x23_1).f2).length c379_2) ∧ w'.cell? ⟨gb376, 0, none⟩ = some (.int .u8 a0_0) ∧ w'.cell? ⟨gb376, 1, none⟩ = some (.string a0_1) ∧ w'.cell? ⟨gb376, 2, none⟩ = some (.slice (some ad379) l0_2.length c0_2)) (ds := []) (bs_ 8 0) (by kernel_rfl) (by kernel_rfl) (by kernel_rfl) ⟨(blk_cell BK380.out 0).trans rfl, (blk_cell BK380.out 1).trans rfl, (blk_cell BK380.out 2).trans rfl, (blk_cell BK376.out 0).trans rfl, (blk_cell BK376.out 1).trans rfl, (blk_cell BK376.out 2).trans rfl⟩ (fun hHeld => ?_); refine with_tabW impl_test_show1.tab10 impl_test_show1.bits10 (fun HT_ HW_ => ?_)
         generalize w23.drew = w24 at HO_3 BK376 BK380 HB hHeld ⊢
         refine pu_ (i := 0) (N := some 27) 1 rfl rfl HT_ (Or.inl ⟨by rfl, by intro w'; go_simp; with_reducible rfl⟩) (by simp only [pt_]; rfl) ?_
         refine tk_ (i := 1) (N := some 28) 3 rfl rfl HT_ HW_ (Or.inl ⟨by rfl, by rintro w' ⟨s0, s1, s2, s3, s4, s5⟩; go_simp; with_reducible rfl⟩) hHeld (by simp only [pt_]; rfl) ?_
         refine tk_ (i := 2) (N := some 29) 7 rfl rfl HT_ HW_ (Or.inl ⟨by rfl, by rintro w' ⟨s0, s1, s2, s3, s4, s5⟩; go_simp; with_reducible rfl⟩) hHeld (by simp only [pt_]; rfl) ?_
         refine one_ (i := 3) (N := some 30) (bs_ 8 15) rfl rfl (one_of HT_.out (by kernel_rfl)) (by decide) (fun K hK => ?_)
         refine goes_ Try.func104 (by kernel_rfl) rfl #[.agg #[.int .u8 a0_0, .string a0_1, .slice (some ad379) l0_2.length c0_2]] (by rfl) rfl rfl (a3_) ?_
         with_reducible refine (impl_test_rank.calls a0_0 a0_1 _ _ l0_2 t381 _ ?side1 ?side2 A17.out).mono ?_
         (case side1 => exact by repeat (first | exact (Kd.C_below HR0_2.out HB.out) | (with_reducible refine Kd.C_alloc ?_ _) | (with_reducible refine Kd.C_drewN ?_ _) | (with_reducible refine Kd.C_drew ?_)))
         (case side2 => exact HC0_2.out)
         rintro e w25 ⟨rfl, hb⟩
         refine ⟨_, rfl, ?_⟩
         have n_ := c4_ (Kd.R_below (a5_) hb) (blk_below (g := gb376) (o := .cells #[.int .u8 a0_0, .string a0_1, .slice (some ad379) l0_2.length c0_2] 133 (0, 0)) (a4_) hb) (blk_below (g := gb380) (o := .cells #[.int .u8 ((rd_T133 l0_2 x23_1).f0), .string ((rd_T133 l0_2 x23_1).f1), .slice A379_2 ((rd_T133 l0_2 x23_1).f2).length c379_2] 133 (0, 0)) (a7_) hb) (below_step (a6_) hb)
         clear HO_3 BK376 BK380 HB
         obtain ⟨HO_3, BK376, BK380, HB⟩ := n_
         (try clear hb)
         (try clear hb2)
         (try clear hk)
         (try clear hi)
         refine hK.out _ _ ⟨(blk_cell BK380.out 0).trans rfl, (blk_cell BK380.out 1).trans rfl, (blk_cell BK380.out 2).trans rfl, (blk_cell BK376.out 0).trans rfl, (blk_cell BK376.out 1).trans rfl, (blk_cell BK376.out 2).trans rfl⟩ (fun hHeld => ?_)
         clear hK K
         refine norm_ (a' := ?_) ?_ ?_
         rotate_left
         ·show Act.put _ (some 30) _ = _
          simp only [pt_]
          rfl
         refine one_ (i := 4) (N := some 31) (bs_ 8 31) rfl rfl (one_of HT_.out (by kernel_rfl)) (by decide) (fun K hK => ?_)
         refine goes_ Try.func103 (by kernel_rfl) rfl #[.agg #[.int .u8 ((rd_T133 l0_2 x23_1).f0), .string ((rd_T133 l0_2 x23_1).f1), .slice A379_2 ((rd_T133 l0_2 x23_1).f2).length c379_2], .int .i64 t381] (by rfl) rfl rfl (a3_) ?_
         with_reducible refine (impl_test_within.calls ((rd_T133 l0_2 x23_1).f0) ((rd_T133 l0_2 x23_1).f1) _ _ ((rd_T133 l0_2 x23_1).f2) t381 t382 _ ?side1 ?side2 A18.out).mono ?_
         (case side1 => exact by repeat (first | exact (Kd.C_below HR379_2.out HB.out) | (with_reducible refine Kd.C_alloc ?_ _) | (with_reducible refine Kd.C_drewN ?_ _) | (with_reducible refine Kd.C_drew ?_)))
         (case side2 => exact HC379_2.out)
         rintro e w26 ⟨rfl, hb⟩
         refine ⟨_, rfl, ?_⟩
         have n_ := c4_ (Kd.R_below (a5_) hb) (blk_below (g := gb376) (o := .cells #[.int .u8 a0_0, .string a0_1, .slice (some ad379) l0_2.length c0_2] 133 (0, 0)) (a4_) hb) (blk_below (g := gb380) (o := .cells #[.int .u8 ((rd_T133 l0_2 x23_1).f0), .string ((rd_T133 l0_2 x23_1).f1), .slice A379_2 ((rd_T133 l0_2 x23_1).f2).length c379_2] 133 (0, 0)) (a7_) hb) (below_step (a6_) hb)
         clear HO_3 BK376 BK380 HB
         obtain ⟨HO_3, BK376, BK380, HB⟩ := n_
         (try clear hb)
         (try clear hb2)
         (try clear hk)
         (try clear hi)
         refine hK.out _ _ ⟨(blk_cell BK380.out 0).trans rfl, (blk_cell BK380.out 1).trans rfl, (blk_cell BK380.out 2).trans rfl, (blk_cell BK376.out 0).trans rfl, (blk_cell BK376.out 1).trans rfl, (blk_cell BK376.out 2).trans rfl⟩ (fun hHeld => ?_)
         clear hK K
         refine norm_ (a' := ?_) ?_ ?_
         rotate_left
         ·show Act.put _ (some 31) _ = _
          simp only [pt_]
          rfl
         refine one_ (i := 5) (N := some 32) (bs_ 8 63) rfl rfl (one_of HT_.out (by kernel_rfl)) (by decide) (fun K hK => ?_)
         refine value_ (w1 := ?_) (v := ?_) (by rfl) rfl ?_ ?_
         rotate_left 2
         ·go_simp
          constructor
          ·rfl
          ·rfl
         refine hK.out _ _ ⟨(blk_cell (blk_alloc BK380.out _) 0).trans rfl, (blk_cell (blk_alloc BK380.out _) 1).trans rfl, (blk_cell (blk_alloc BK380.out _) 2).trans rfl, (blk_cell (blk_alloc BK376.out _) 0).trans rfl, (blk_cell (blk_alloc BK376.out _) 1).trans rfl, (blk_cell (blk_alloc BK376.out _) 2).trans rfl⟩ (fun hHeld => ?_)
         clear hK K
         refine norm_ (a' := ?_) ?_ ?_
         rotate_left
         ·show Act.put _ (some 32) _ = _
          simp only [pt_]
          rfl
         refine one_ (i := 6) (N := some 33) (bs_ 8 127) rfl rfl (one_of HT_.out (by kernel_rfl)) (by decide) (fun K hK => ?_)
         refine Kd.R_append_step Kd.string (w0 := w) w.heap.size (by rfl) (.tmp 27) (.tmp 32) 84 9 (.string ⟨#[]⟩) 16 rfl Try.underlying84 info9 rfl (by decide) (by omega) u3 x3_1 t382 [.string t382] (fun _ => True) (fun _ => False) rfl rfl ?aP (fun _ hk => hk.elim) ?aF ?aO ?aB ?aS ?aL ?_
         (case aP => exact rfl)
         (case aB => exact (a6_))
         (case aF => exact (fun _ _ => trivial))
         (case aO => exact (a5_))
         (case aS => exact (below_size (a6_)))
         (case aL => have := LMc19.out; omega)
         intro v384 w27 ho hb hg hat
         rw [← Ny383.out] at ho
         have n_ := c4_ (blk_grown (g := gb376) (o := .cells #[.int .u8 a0_0, .string a0_1, .slice (some ad379) l0_2.length c0_2] 133 (0, 0)) (a4_) hg (Kd.R_ne HO_3.out BK376.out (by decide))) (blk_grown (g := gb380) (o := .cells #[.int .u8 ((rd_T133 l0_2 x23_1).f0), .string ((rd_T133 l0_2 x23_1).f1), .slice A379_2 ((rd_T133 l0_2 x23_1).f2).length c379_2] 133 (0, 0)) (a7_) hg (Kd.R_ne HO_3.out BK380.out (by decide))) (hb) (ho)
         clear BK376 BK380 HB HO_3
         obtain ⟨BK376, BK380, HB, HO385⟩ := n_
         clear ho hb hg hat
         refine hK.out _ _ ⟨(blk_cell BK380.out 0).trans rfl, (blk_cell BK380.out 1).trans rfl, (blk_cell BK380.out 2).trans rfl, (blk_cell BK376.out 0).trans rfl, (blk_cell BK376.out 1).trans rfl, (blk_cell BK376.out 2).trans rfl⟩ (fun hHeld => ?_)
         clear hK K
         refine norm_ (a' := ?_) ?_ ?_
         rotate_left
         ·show Act.put _ (some 33) _ = _
          simp only [pt_]
          rfl
         refine pu_ (i := 7) (N := some 3) 255 rfl rfl HT_ (Or.inl ⟨by rfl, by intro w'; go_simp; with_reducible rfl⟩) (by simp only [pt_]; rfl) ?_
         refine done_ (done_of HT_.out (by kernel_rfl)) ?_
         try go_wp2
         go_roundg k1
         case measure => have := HK1.out; omega
         case rel => exact ⟨(y383), (wrap64 (x23_1 + 1)), (by first | rfl | (simp; done) | (simp [*]; done)), H', ⟨by have := HK1.out; omega⟩, ⟨by (with_reducible repeat (first | apply Kd.R_alloc | apply Kd.R_drewN | apply Kd.R_drew)); exact HO385.out⟩, ⟨a4_⟩, ⟨a6_⟩⟩
        ·rw [if_neg c19] at H
         exact absurd H (by simp)
       ·rw [if_neg c16] at H
        exact absurd H (by simp)
      ·rw [if_neg c15] at H
       exact absurd H (by simp)
     ·rw [if_neg c14] at H
      have c14b0 : decide (x23_1 < (l0_2.length : Int)) = false := decide_eq_false c14
      clear c14
      replace H := Option.bind_eq_some_iff.mp H
      obtain ⟨t386, A280, H⟩ := H
      try dsimp only at H
      have A28 := Aside0.mk A280
      clear A280
      obtain rfl := Option.some.inj H
      obtain ⟨hcz29_0, hcz29_1, hcz29_2, hfz29_0, hfz29_1, hfz29_2⟩ := cf3_ BK376.out
      obtain ⟨Ao30, co30, eo30⟩ := Kd.R_slice HO_3.out
      subst eo30
      go_wp2_with (first | ((with_reducible refine gate_callee (f := 105) rfl ?_); refine goesL_ (some 40) rfl rfl Try.func105 (by kernel_rfl) rfl #[.slice Ao30 x3_1.length co30, .string (Utf8.encode (wrap32 (a0_0)))] rfl (a3_) ?_; (with_reducible refine (strings_Join.calls _ _ x3_1 (Utf8.encode (wrap32 (a0_0))) t386 _ ?side1 ?side2 A28.out).mono ?_); (case side1 => exact by repeat (first | exact (Kd.R_reads' HO_3.out).2.2 | (with_reducible refine Kd.C_alloc ?_ _) | (with_reducible refine Kd.C_drewN ?_ _) | (with_reducible refine Kd.C_drew ?_))); (case side2 => exact (Kd.R_reads' HO_3.out).2.1); rintro e w31 ⟨rfl, hb⟩; refine ⟨_, rfl, ?_⟩; have n_ := c3_ (Kd.R_below (a5_) hb) (blk_below (g := gb376) (o := .cells #[.int .u8 a0_0, .string a0_1, .slice A0_2 l0_2.length c0_2] 133 (0, 0)) (a4_) hb) (below_step (a2_) hb); clear HO_3 BK376 HB; obtain ⟨HO_3, BK376, HB⟩ := n_; (try clear hb); (try clear hb2); (try clear hk); (try clear hi)))
      go_ret
      exact ⟨by first | rfl | (simp [errW_none, errW_some] <;> rfl) | (simp [*, errW_none, errW_some] <;> rfl), a2_⟩
end

/-! ### impl_test_show2: function 99 -/
structure impl_test_show2.B where
 c : impl_test_show.C
def impl_test_show2.I : Nat → impl_test_show2.B
 | 0 => ⟨⟨fun _ _ _ => none, fun a0_0 a0_1 A0_2 c0_2 l0_2 r w hr0_2 hc0_2 h => by cases h⟩⟩
 | k + 1 => ⟨⟨fun a0_0 a0_1 l0_2 => @impl_test_show1.f (impl_test_show2.I k).c k a0_0 a0_1 l0_2, fun a0_0 a0_1 A0_2 c0_2 l0_2 r w hr0_2 hc0_2 h => @impl_test_show1.calls (impl_test_show2.I k).c k a0_0 a0_1 A0_2 c0_2 l0_2 r w hr0_2 hc0_2 h⟩⟩
def impl_test_show2.f (k : Nat) (a0_0 : Int) (a0_1 : ByteArray) (l0_2 : List (S133)) : Option (ByteArray) := (impl_test_show2.I k).c.f a0_0 a0_1 l0_2
theorem impl_test_show2.calls (k : Nat) (a0_0 : Int) (a0_1 : ByteArray) (A0_2 : Option Addr) (c0_2 : Nat) (l0_2 : List (S133)) (r : ByteArray) (w : World) (hr0_2 : Kd.C k133 w A0_2 l0_2.length l0_2) (hc0_2 : l0_2.length ≤ c0_2) (h : impl_test_show2.f k a0_0 a0_1 l0_2 = some r) : Calls Try.prog 99 #[.agg #[.int .u8 a0_0, .string a0_1, .slice A0_2 l0_2.length c0_2]] w fun e w' => e = .returned (.string r) ∧ Below w.heap.size w w' := (impl_test_show2.I k).c.calls a0_0 a0_1 A0_2 c0_2 l0_2 r w hr0_2 hc0_2 h

/-! ### impl_readTest: function 90 -/
def impl_readTest.f (k : Nat) (a0 : ByteArray) : Option (Int × ByteArray × (List (S133)) × Bool) := if (a0.size : Int) > 200 then (some (0, (⟨#[]⟩ : ByteArray), ([] : List (S133)), false)) else ((impl_testReader_or2.f k a0 0 0 false).bind fun bt389 => (if bt389.2.2.2.2.2.2 = true then (some (bt389.1, bt389.2.1, bt389.2.2.1, false)) else (if bt389.2.2.2.2.1 = (a0.size : Int) then ((impl_test_show2.f k bt389.1 bt389.2.1 bt389.2.2.1).bind fun t399 => (if t399.toList = a0.toList then (some (bt389.1, bt389.2.1, bt389.2.2.1, true)) else (some (bt389.1, bt389.2.1, bt389.2.2.1, false)))) else (some (bt389.1, bt389.2.1, bt389.2.2.1, false)))))
theorem impl_readTest.a1_ {p : Prop} (h : p := by repeat (first | (with_reducible first | exact HB.out | apply below_alloc | apply pw_below_drewN | apply below_drew1) | exact HB.out)) : p := h
theorem impl_readTest.a2_ {p : Prop} (h : p := by first | rfl | (simp [errW_none, errW_some] <;> rfl) | (simp [*, errW_none, errW_some] <;> rfl)) : p := h
theorem impl_readTest.a3_ {p : Prop} (h : p := by repeat (first | (with_reducible first | exact HB.out | apply below_alloc | apply pw_below_drewN | apply below_drew1 | refine below_set ?_ GE387.out) | exact HB.out)) : p := h
theorem impl_readTest.a4_ {p : Prop} (h : p := by (with_reducible repeat (first | refine blk_drewN ?_ _ | refine blk_drew ?_ | refine blk_alloc ?_ _)); exact BK387.out) : p := h
theorem impl_readTest.a5_ {p : Prop} (h : p := by (try simp only [List.map_toArray, List.map_cons, List.map_nil]); first | done | rfl | (simp only [List.length_drop, List.length_take]; rfl)) : p := h
theorem impl_readTest.a6_ {p : Prop} (h : p := by repeat (first | (with_reducible first | exact HI388.out | apply IsS142.alloc | apply IsS142.drewN | apply IsS142.drew | apply IsS142.set_0 | apply IsS142.set_1 | apply IsS142.set_2 | apply IsS142.set_3 | apply IsS142.far (p := ⟨gb387, _, none⟩) (hne := NB388_387.out)) | exact HI388.out)) : p := h
theorem impl_readTest.a7_ {p : Prop} (h : p := by repeat (first | (with_reducible first | exact HB.out | apply below_alloc | apply pw_below_drewN | apply below_drew1 | refine below_set ?_ (IsS142.ge HI388.out) | refine below_set ?_ GE387.out) | exact HB.out)) : p := h
theorem impl_readTest.a8_ {p : Prop} (h : p := by (with_reducible repeat (first | apply Kd.V_alloc | apply Kd.V_drewN | apply Kd.V_drew)); exact HO393.out) : p := h
theorem impl_readTest.a9_ {p : Prop} (h : p := by (with_reducible repeat (first | refine blk_drewN ?_ _ | refine blk_drew ?_ | refine blk_alloc ?_ _)); refine blk_put (cs := #[.int .u8 t389, .string t390, .slice none 0 0]) ?_ 2 _ rfl; (with_reducible repeat (first | refine blk_drewN ?_ _ | refine blk_drew ?_ | refine blk_alloc ?_ _)); refine blk_put (cs := #[.int .u8 t389, .string (⟨#[]⟩ : ByteArray), .slice none 0 0]) ?_ 1 _ rfl; (with_reducible repeat (first | refine blk_drewN ?_ _ | refine blk_drew ?_ | refine blk_alloc ?_ _)); refine blk_put (cs := #[.int .u8 0, .string (⟨#[]⟩ : ByteArray), .slice none 0 0]) ?_ 0 _ rfl; (with_reducible repeat (first | refine blk_drewN ?_ _ | refine blk_drew ?_ | refine blk_alloc ?_ _)); refine blk_far ?_ NB387_398.out _; (with_reducible repeat (first | refine blk_drewN ?_ _ | refine blk_drew ?_ | refine blk_alloc ?_ _)); refine blk_far ?_ NB387_398.out _; (with_reducible repeat (first | refine blk_drewN ?_ _ | refine blk_drew ?_ | refine blk_alloc ?_ _)); refine blk_far ?_ NB387_398.out _; (with_reducible repeat (first | refine blk_drewN ?_ _ | refine blk_drew ?_ | refine blk_alloc ?_ _)); exact BK387.out) : p := h
theorem impl_readTest.a10_ {p : Prop} (h : p := by repeat (first | (with_reducible first | exact HB.out | apply below_alloc | apply pw_below_drewN | apply below_drew1 | refine below_set ?_ (IsS142.ge HI388.out) | refine below_set ?_ GE387.out | refine below_set ?_ GE398.out) | exact HB.out)) : p := h
theorem impl_readTest.a11_ {p : Prop} (h : p := by (with_reducible repeat (first | apply Kd.V_alloc | apply Kd.V_drewN | apply Kd.V_drew)); exact (Kd.V_mono (Kd.V_far (p := ⟨gb398, 2, none⟩) (Kd.V_far (p := ⟨gb398, 1, none⟩) (Kd.V_far (p := ⟨gb398, 0, none⟩) (Kd.V_mono HO393.out (fun k_ hk => (⟨hk, hk.2⟩ : _ ∧ k_ ≠ gb398))) (fun _ hk => hk.2) (.int .u8 t389)) (fun _ hk => hk.2) (.string t390)) (fun _ hk => hk.2) (.slice Ao28 t391.length co28)) (fun _ h_ => h_.1))) : p := h
theorem impl_readTest.a12_ {p : Prop} (h : p := by (with_reducible repeat (first | refine blk_drewN ?_ _ | refine blk_drew ?_ | refine blk_alloc ?_ _)); refine blk_far ?_ NB387_398.out _; (with_reducible repeat (first | refine blk_drewN ?_ _ | refine blk_drew ?_ | refine blk_alloc ?_ _)); refine blk_far ?_ NB387_398.out _; (with_reducible repeat (first | refine blk_drewN ?_ _ | refine blk_drew ?_ | refine blk_alloc ?_ _)); refine blk_far ?_ NB387_398.out _; (with_reducible repeat (first | refine blk_drewN ?_ _ | refine blk_drew ?_ | refine blk_alloc ?_ _)); exact BK387.out) : p := h
theorem impl_readTest.a13_ {p : Prop} (h : p := by repeat (first | (with_reducible first | exact HI388.out | apply IsS142.alloc | apply IsS142.drewN | apply IsS142.drew | apply IsS142.set_0 | apply IsS142.set_1 | apply IsS142.set_2 | apply IsS142.set_3 | apply IsS142.far (p := ⟨gb387, _, none⟩) (hne := NB388_387.out) | apply IsS142.far (p := ⟨gb398, _, none⟩) (hne := NB388_398.out)) | exact HI388.out)) : p := h
theorem impl_readTest.a14_ {p : Prop} (h : p := by (with_reducible repeat (first | refine blk_drewN ?_ _ | refine blk_drew ?_ | refine blk_alloc ?_ _)); refine blk_put (cs := #[.int .u8 t389, .string t390, .slice none 0 0]) ?_ 2 _ rfl; (with_reducible repeat (first | refine blk_drewN ?_ _ | refine blk_drew ?_ | refine blk_alloc ?_ _)); refine blk_put (cs := #[.int .u8 t389, .string (⟨#[]⟩ : ByteArray), .slice none 0 0]) ?_ 1 _ rfl; (with_reducible repeat (first | refine blk_drewN ?_ _ | refine blk_drew ?_ | refine blk_alloc ?_ _)); refine blk_put (cs := #[.int .u8 0, .string (⟨#[]⟩ : ByteArray), .slice none 0 0]) ?_ 0 _ rfl; (with_reducible repeat (first | refine blk_drewN ?_ _ | refine blk_drew ?_ | refine blk_alloc ?_ _)); exact BK398.out) : p := h
theorem impl_readTest.a15_ {p : Prop} (h : p := by (with_reducible repeat (first | refine blk_drewN ?_ _ | refine blk_drew ?_ | refine blk_alloc ?_ _)); refine blk_put (cs := #[.int .u8 t389, .string t390, .slice none 0 0]) ?_ 2 _ rfl; (with_reducible repeat (first | refine blk_drewN ?_ _ | refine blk_drew ?_ | refine blk_alloc ?_ _)); refine blk_put (cs := #[.int .u8 t389, .string (⟨#[]⟩ : ByteArray), .slice none 0 0]) ?_ 1 _ rfl; (with_reducible repeat (first | refine blk_drewN ?_ _ | refine blk_drew ?_ | refine blk_alloc ?_ _)); refine blk_put (cs := #[.int .u8 0, .string (⟨#[]⟩ : ByteArray), .slice none 0 0]) ?_ 0 _ rfl; (with_reducible repeat (first | refine blk_drewN ?_ _ | refine blk_drew ?_ | refine blk_alloc ?_ _)); exact BK387.out) : p := h
theorem impl_readTest.a16_ {p : Prop} (h : p := by (with_reducible repeat (first | apply Kd.V_alloc | apply Kd.V_drewN | apply Kd.V_drew)); exact (Kd.V_mono (Kd.V_far (p := ⟨gb398, 2, none⟩) (Kd.V_far (p := ⟨gb398, 1, none⟩) (Kd.V_far (p := ⟨gb398, 0, none⟩) (Kd.V_mono HO393.out (fun k_ hk => (⟨hk, hk.2⟩ : _ ∧ k_ ≠ gb398))) (fun _ hk => hk.2) (.int .u8 t389)) (fun _ hk => hk.2) (.string t390)) (fun _ hk => hk.2) (.slice Ao41 t391.length co41)) (fun _ h_ => h_.1))) : p := h
set_option maxHeartbeats 8000000 in
set_option maxRecDepth 100000 in
theorem impl_readTest.calls (k : Nat) (a0 : ByteArray) (r1 : Int) (r2 : ByteArray) (r3 : List (S133)) (r4 : Bool) (w : World) (h : impl_readTest.f k a0 = some (r1, r2, r3, r4)) :
  Calls Try.prog 90 #[.string a0] w fun e w' => ∃ v2_ : Value, e = .returned (.tuple #[.agg #[.int .u8 r1, .string r2, v2_], .bool r4]) ∧ Kd.V k133 133 w' w.heap.size (fun k_ => (w.heap.size ≤ k_)) v2_ r3 ∧ Below w.heap.size w w' := by
 have hu133 := Try.underlying133
 have hu142 := Try.underlying142
 have HB := Aside0.mk (Below.refl w.heap.size w)
 have H : (if (a0.size : Int) > 200 then (some (0, (⟨#[]⟩ : ByteArray), ([] : List (S133)), false)) else ((impl_testReader_or2.f k a0 0 0 false).bind fun bt389 => (if bt389.2.2.2.2.2.2 = true then (some (bt389.1, bt389.2.1, bt389.2.2.1, false)) else (if bt389.2.2.2.2.1 = (a0.size : Int) then ((impl_test_show2.f k bt389.1 bt389.2.1 bt389.2.2.1).bind fun t399 => (if t399.toList = a0.toList then (some (bt389.1, bt389.2.1, bt389.2.2.1, true)) else (some (bt389.1, bt389.2.1, bt389.2.2.1, false)))) else (some (bt389.1, bt389.2.1, bt389.2.2.1, false)))))) = some (r1, r2, r3, r4) := h
 clear h
 by_cases c2 : (a0.size : Int) > 200
 ·rw [if_pos c2] at H
  have c2b0 : decide (200 < (a0.size : Int)) = true := decide_eq_true c2
  have c2b1 : decide (200 < a0.size) = true := decide_eq_true (by omega)
  clear c2
  simp only [Option.some.injEq, Prod.mk.injEq] at H
  obtain ⟨rfl, rfl, rfl, rfl⟩ := H
  go_enter Try.func90, Try.ntmps90
  go_wp2_with (first | ((with_reducible refine gate_dst (N := 2) rfl ?_); (try (refine gate_guard (by rfl) ?_; dsimp only)); refine box_event ?hg (N := 2) ?hd (cs := #[.int .u8 0, .string (⟨#[]⟩ : ByteArray), .slice none 0 0]) (t := 133) ?hr ?_; (case hd => rfl); (case hg => rfl); (case hr => first | (go_simp; done) | (go_simp; rfl)); intro gb387 hg w3 hbox hb; have n_ := c4_ (below_step (a1_) hb) (hbox) ((by rw [hg]; exact (below_size (a1_)) : w.heap.size ≤ gb387)) ((by rw [hg]; exact (below_size (a1_)) : w.heap.size ≤ gb387)); clear HB; obtain ⟨HB, BK387, GW387, GE387⟩ := n_; clear hb hbox hg; obtain ⟨hcz4_0, hcz4_1, hcz4_2, hfz4_0, hfz4_1, hfz4_2⟩ := cf3_ BK387.out))
  refine bodyPost_ret (results_ct rfl _ _ gb387 133 #[.int .u8 0, .string (⟨#[]⟩ : ByteArray), .slice none 0 0] (0, 0) _ rfl (by (with_reducible repeat (first | refine blk_drewN ?_ _ | refine blk_drew ?_ | refine blk_alloc ?_ _)); refine blk_put (cs := #[.int .u8 0, .string (⟨#[]⟩ : ByteArray), .slice none 0 0]) ?_ 2 _ rfl; (with_reducible repeat (first | refine blk_drewN ?_ _ | refine blk_drew ?_ | refine blk_alloc ?_ _)); refine blk_put (cs := #[.int .u8 0, .string (⟨#[]⟩ : ByteArray), .slice none 0 0]) ?_ 1 _ rfl; (with_reducible repeat (first | refine blk_drewN ?_ _ | refine blk_drew ?_ | refine blk_alloc ?_ _)); refine blk_put (cs := #[.int .u8 0, .string (⟨#[]⟩ : ByteArray), .slice none 0 0]) ?_ 0 _ rfl; (with_reducible repeat (first | refine blk_drewN ?_ _ | refine blk_drew ?_ | refine blk_alloc ?_ _)); exact BK387.out) Try.underlying133 rfl (by kernel_rfl)) rfl ?_
  exact ⟨_, a2_, by first | exact Kd.V_nil _ _ _ _ _, a3_⟩
 ·rw [if_neg c2] at H
  have c2b0 : decide (200 < (a0.size : Int)) = false := decide_eq_false c2
  have c2b1 : decide (200 < a0.size) = false := decide_eq_false (by omega)
  clear c2
  replace H := Option.bind_eq_some_iff.mp H
  obtain ⟨⟨t389, t390, t391, t394, t395, t396, t397⟩, A50, H⟩ := H
  try dsimp only at H
  have A5 := Aside0.mk A50
  clear A50
  by_cases c6 : t397 = true
  ·subst c6
   rw [if_pos rfl] at H
   try dsimp only at H
   simp only [Option.some.injEq, Prod.mk.injEq] at H
   obtain ⟨rfl, rfl, rfl, rfl⟩ := H
   go_enter Try.func90, Try.ntmps90
   go_wp2_with (first | ((with_reducible refine gate_dst (N := 2) rfl ?_); (try (refine gate_guard (by rfl) ?_; dsimp only)); refine box_event ?hg (N := 2) ?hd (cs := #[.int .u8 0, .string (⟨#[]⟩ : ByteArray), .slice none 0 0]) (t := 133) ?hr ?_; (case hd => rfl); (case hg => rfl); (case hr => first | (go_simp; done) | (go_simp; rfl)); intro gb387 hg w7 hbox hb; have n_ := c4_ (below_step (a1_) hb) (hbox) ((by rw [hg]; exact (below_size (a1_)) : w.heap.size ≤ gb387)) ((by rw [hg]; exact (below_size (a1_)) : w.heap.size ≤ gb387)); clear HB; obtain ⟨HB, BK387, GW387, GE387⟩ := n_; clear hb hbox hg) | ((with_reducible refine gate_dst (N := 12) rfl ?_); (try (refine gate_guard (by rfl) ?_; dsimp only)); refine box_event ?hg (N := 12) ?hd (cs := #[.string a0, .int .i64 0, .int .i64 0, .bool false]) (t := 142) ?hr ?_; (case hd => rfl); (case hg => rfl); (case hr => first | (go_simp; done) | (go_simp; rfl)); intro gb388 hg w8 hbox hb; have n_ := c7_ (blk_below (g := gb387) (o := .cells #[.int .u8 0, .string (⟨#[]⟩ : ByteArray), .slice none 0 0] 133 (0, 0)) (a4_) hb) (below_step (a3_) hb) ((by rw [hg]; exact (below_size (a3_)) : w.heap.size ≤ gb388)) ((by rw [hg]; exact (below_size (a3_)) : w.heap.size ≤ gb388)) ((by rw [hg]; exact Nat.ne_of_lt (blk_lt (g := gb387) (o := .cells #[.int .u8 0, .string (⟨#[]⟩ : ByteArray), .slice none 0 0] 133 (0, 0)) (a4_)) : gb387 ≠ gb388)) ((by rw [hg]; exact Nat.ne_of_gt (blk_lt (g := gb387) (o := .cells #[.int .u8 0, .string (⟨#[]⟩ : ByteArray), .slice none 0 0] 133 (0, 0)) (a4_)) : gb388 ≠ gb387)) ((show IsS142 w w8 gb388 a0 0 0 false from ⟨hbox, (by rw [hg]; exact (below_size (a3_)) : w.heap.size ≤ gb388)⟩)); clear BK387 HB; obtain ⟨BK387, HB, GW388, GE388, NB387_388, NB388_387, HI388⟩ := n_; clear hb hbox hg) | ((with_reducible refine gate_callee (f := 98) rfl ?_); refine goesL_ (some 14) rfl rfl Try.func98 (by kernel_rfl) rfl #[.pointer (some ⟨gb388, 0, none⟩)] rfl (a5_) ?_; (with_reducible refine (impl_testReader_or2.calls k gb388 a0 0 0 false t389 t390 t391 t394 t395 t396 true w _ ?side1 ?side2 A5.out).mono ?_); (case side1 => exact a6_); (case side2 => exact a7_); rintro e w9 ⟨v392, rfl, ho0, hi, hb, hk⟩; refine ⟨_, rfl, ?_⟩; have n_ := c4_ (KeepBut.blk hk (g' := gb387) (o := .cells #[.int .u8 0, .string (⟨#[]⟩ : ByteArray), .slice none 0 0] 133 (0, 0)) (a4_) NB387_388.out (by simp)) (Kd.V_lower (Kd.V_mono (ok' := fun k_ => (w.heap.size ≤ k_) ∧ k_ ≠ gb387 ∧ k_ ≠ gb388) ho0 (fun k_ hk_ => ⟨(Nat.le_trans (below_size (a7_)) hk_), (Kd.freshB (g := gb387) (o := .cells #[.int .u8 0, .string (⟨#[]⟩ : ByteArray), .slice none 0 0] 133 (0, 0)) (a4_) k_ hk_), (IsS142.fresh (a6_) k_ hk_)⟩)) (below_size (a7_))) (hb) (hi); clear BK387 HB HI388; obtain ⟨BK387, HO393, HB, HI388⟩ := n_; (try clear hb); (try clear hb2); (try clear hk); (try clear hi); (try clear ho0)) | ((with_reducible refine gate_dst (N := 5) rfl ?_); (try (refine gate_guard (by rfl) ?_; dsimp only)); refine box_event ?hg (N := 5) ?hd (cs := #[.int .u8 0, .string (⟨#[]⟩ : ByteArray), .slice none 0 0]) (t := 133) ?hr ?_; (case hd => rfl); (case hg => rfl); (case hr => first | (go_simp; done) | (go_simp; rfl)); intro gb398 hg w10 hbox hb; have n_ := c11_ (Kd.V_below (Kd.V_elderB (a8_) gb398 (Nat.le_of_eq hg.symm)) hb) (blk_below (g := gb387) (o := .cells #[.int .u8 0, .string (⟨#[]⟩ : ByteArray), .slice none 0 0] 133 (0, 0)) (a4_) hb) (IsS142.below (a6_) hb) (below_step (a7_) hb) (hbox) ((by rw [hg]; exact (below_size (a7_)) : w.heap.size ≤ gb398)) ((by rw [hg]; exact (below_size (a7_)) : w.heap.size ≤ gb398)) ((by rw [hg]; exact Nat.ne_of_lt (blk_lt (g := gb387) (o := .cells #[.int .u8 0, .string (⟨#[]⟩ : ByteArray), .slice none 0 0] 133 (0, 0)) (a4_)) : gb387 ≠ gb398)) ((by rw [hg]; exact Nat.ne_of_gt (blk_lt (g := gb387) (o := .cells #[.int .u8 0, .string (⟨#[]⟩ : ByteArray), .slice none 0 0] 133 (0, 0)) (a4_)) : gb398 ≠ gb387)) ((by rw [hg]; exact Nat.ne_of_lt (IsS142.lt (show IsS142 w _ gb388 t394 t395 t396 true from a6_)) : gb388 ≠ gb398)) ((by rw [hg]; exact Nat.ne_of_gt (IsS142.lt (show IsS142 w _ gb388 t394 t395 t396 true from a6_)) : gb398 ≠ gb388)); clear HO393 BK387 HI388 HB; obtain ⟨HO393, BK387, HI388, HB, BK398, GW398, GE398, NB387_398, NB398_387, NB388_398, NB398_388⟩ := n_; clear hb hbox hg; have hnb11 := NB398_387.out; have hnc11 := NB387_398.out; have hnb12 := NB398_388.out; have hnc12 := NB388_398.out; obtain ⟨hcz13_0, hcz13_1, hcz13_2, hfz13_0, hfz13_1, hfz13_2⟩ := cf3_ BK398.out; obtain ⟨Ao14, co14, eo14⟩ := Kd.V_slice HO393.out; subst eo14; obtain ⟨HGz15, hgz15⟩ := HI388.out; have hcz15_0 := cellS142_0 HGz15; have hcz15_1 := cellS142_1 HGz15; have hcz15_2 := cellS142_2 HGz15; have hcz15_3 := cellS142_3 HGz15; have hfz15_0 := blk_frozen HGz15 0; have hfz15_1 := blk_frozen HGz15 1; have hfz15_2 := blk_frozen HGz15 2; have hfz15_3 := blk_frozen HGz15 3; clear HGz15 hgz15; have hnb16 := NB387_388.out; have hnc16 := NB388_387.out; obtain ⟨hcz17_0, hcz17_1, hcz17_2, hfz17_0, hfz17_1, hfz17_2⟩ := cf3_ BK387.out))
   refine bodyPost_ret (results_ct rfl _ _ gb387 133 #[.int .u8 t389, .string t390, .slice Ao14 t391.length co14] (0, 0) _ rfl (a9_) Try.underlying133 rfl (by kernel_rfl)) rfl ?_
   exact ⟨_, a2_, by (with_reducible repeat (first | apply Kd.V_alloc | apply Kd.V_drewN | apply Kd.V_drew)); exact Kd.V_mono (Kd.V_far (p := ⟨gb387, 2, none⟩) (Kd.V_far (p := ⟨gb387, 1, none⟩) (Kd.V_far (p := ⟨gb387, 0, none⟩) (Kd.V_far (p := ⟨gb398, 2, none⟩) (Kd.V_far (p := ⟨gb398, 1, none⟩) (Kd.V_far (p := ⟨gb398, 0, none⟩) (Kd.V_mono (Kd.V_mono HO393.out (fun k_ hk => (⟨hk, hk.2⟩ : _ ∧ k_ ≠ gb398))) (fun k_ hk => (⟨hk, hk.1.1.2.1⟩ : _ ∧ k_ ≠ gb387))) (fun _ hk => hk.1.2) (.int .u8 t389)) (fun _ hk => hk.1.2) (.string t390)) (fun _ hk => hk.1.2) (.slice Ao14 t391.length co14)) (fun _ hk => hk.2) (.int .u8 t389)) (fun _ hk => hk.2) (.string t390)) (fun _ hk => hk.2) (.slice Ao14 t391.length co14)) (fun _ hk => hk.1.1.1.1), a10_⟩
  ·replace c6 := Bool.eq_false_iff.mpr c6
   subst c6
   rw [if_neg (show ¬ (false = true) by decide)] at H
   try dsimp only at H
   by_cases c18 : t395 = (a0.size : Int)
   ·rw [if_pos c18] at H
    have c18b0 : (t395 == (a0.size : Int)) = true := beq_iff_eq.mpr c18
    have c18b1 : (t395 != (a0.size : Int)) = false := bne_eq_false_iff_eq.mpr c18
    clear c18
    replace H := Option.bind_eq_some_iff.mp H
    obtain ⟨t399, A190, H⟩ := H
    try dsimp only at H
    have A19 := Aside0.mk A190
    clear A190
    by_cases c20 : t399.toList = a0.toList
    ·rw [if_pos c20] at H
     have c20b0 : (t399.toList == a0.toList) = true := beq_iff_eq.mpr c20
     have c20b1 : (t399.toList != a0.toList) = false := bne_eq_false_iff_eq.mpr c20
     clear c20
     simp only [Option.some.injEq, Prod.mk.injEq] at H
     obtain ⟨rfl, rfl, rfl, rfl⟩ := H
     go_enter Try.func90, Try.ntmps90
     go_wp2_with (first | ((with_reducible refine gate_dst (N := 2) rfl ?_); (try (refine gate_guard (by rfl) ?_; dsimp only)); refine box_event ?hg (N := 2) ?hd (cs := #[.int .u8 0, .string (⟨#[]⟩ : ByteArray), .slice none 0 0]) (t := 133) ?hr ?_; (case hd => rfl); (case hg => rfl); (case hr => first | (go_simp; done) | (go_simp; rfl)); intro gb387 hg w21 hbox hb; have n_ := c4_ (below_step (a1_) hb) (hbox) ((by rw [hg]; exact (below_size (a1_)) : w.heap.size ≤ gb387)) ((by rw [hg]; exact (below_size (a1_)) : w.heap.size ≤ gb387)); clear HB; obtain ⟨HB, BK387, GW387, GE387⟩ := n_; clear hb hbox hg) | ((with_reducible refine gate_dst (N := 12) rfl ?_); (try (refine gate_guard (by rfl) ?_; dsimp only)); refine box_event ?hg (N := 12) ?hd (cs := #[.string a0, .int .i64 0, .int .i64 0, .bool false]) (t := 142) ?hr ?_; (case hd => rfl); (case hg => rfl); (case hr => first | (go_simp; done) | (go_simp; rfl)); intro gb388 hg w22 hbox hb; have n_ := c7_ (blk_below (g := gb387) (o := .cells #[.int .u8 0, .string (⟨#[]⟩ : ByteArray), .slice none 0 0] 133 (0, 0)) (a4_) hb) (below_step (a3_) hb) ((by rw [hg]; exact (below_size (a3_)) : w.heap.size ≤ gb388)) ((by rw [hg]; exact (below_size (a3_)) : w.heap.size ≤ gb388)) ((by rw [hg]; exact Nat.ne_of_lt (blk_lt (g := gb387) (o := .cells #[.int .u8 0, .string (⟨#[]⟩ : ByteArray), .slice none 0 0] 133 (0, 0)) (a4_)) : gb387 ≠ gb388)) ((by rw [hg]; exact Nat.ne_of_gt (blk_lt (g := gb387) (o := .cells #[.int .u8 0, .string (⟨#[]⟩ : ByteArray), .slice none 0 0] 133 (0, 0)) (a4_)) : gb388 ≠ gb387)) ((show IsS142 w w22 gb388 a0 0 0 false from ⟨hbox, (by rw [hg]; exact (below_size (a3_)) : w.heap.size ≤ gb388)⟩)); clear BK387 HB; obtain ⟨BK387, HB, GW388, GE388, NB387_388, NB388_387, HI388⟩ := n_; clear hb hbox hg) | ((with_reducible refine gate_callee (f := 98) rfl ?_); refine goesL_ (some 14) rfl rfl Try.func98 (by kernel_rfl) rfl #[.pointer (some ⟨gb388, 0, none⟩)] rfl (a5_) ?_; (with_reducible refine (impl_testReader_or2.calls k gb388 a0 0 0 false t389 t390 t391 t394 t395 t396 false w _ ?side1 ?side2 A5.out).mono ?_); (case side1 => exact a6_); (case side2 => exact a7_); rintro e w23 ⟨v392, rfl, ho0, hi, hb, hk⟩; refine ⟨_, rfl, ?_⟩; have n_ := c4_ (KeepBut.blk hk (g' := gb387) (o := .cells #[.int .u8 0, .string (⟨#[]⟩ : ByteArray), .slice none 0 0] 133 (0, 0)) (a4_) NB387_388.out (by simp)) (Kd.V_lower (Kd.V_mono (ok' := fun k_ => (w.heap.size ≤ k_) ∧ k_ ≠ gb387 ∧ k_ ≠ gb388) ho0 (fun k_ hk_ => ⟨(Nat.le_trans (below_size (a7_)) hk_), (Kd.freshB (g := gb387) (o := .cells #[.int .u8 0, .string (⟨#[]⟩ : ByteArray), .slice none 0 0] 133 (0, 0)) (a4_) k_ hk_), (IsS142.fresh (a6_) k_ hk_)⟩)) (below_size (a7_))) (hb) (hi); clear BK387 HB HI388; obtain ⟨BK387, HO393, HB, HI388⟩ := n_; (try clear hb); (try clear hb2); (try clear hk); (try clear hi); (try clear ho0)) | ((with_reducible refine gate_dst (N := 5) rfl ?_); (try (refine gate_guard (by rfl) ?_; dsimp only)); refine box_event ?hg (N := 5) ?hd (cs := #[.int .u8 0, .string (⟨#[]⟩ : ByteArray), .slice none 0 0]) (t := 133) ?hr ?_; (case hd => rfl); (case hg => rfl); (case hr => first | (go_simp; done) | (go_simp; rfl)); intro gb398 hg w24 hbox hb; have n_ := c11_ (Kd.V_below (Kd.V_elderB (a8_) gb398 (Nat.le_of_eq hg.symm)) hb) (blk_below (g := gb387) (o := .cells #[.int .u8 0, .string (⟨#[]⟩ : ByteArray), .slice none 0 0] 133 (0, 0)) (a4_) hb) (IsS142.below (a6_) hb) (below_step (a7_) hb) (hbox) ((by rw [hg]; exact (below_size (a7_)) : w.heap.size ≤ gb398)) ((by rw [hg]; exact (below_size (a7_)) : w.heap.size ≤ gb398)) ((by rw [hg]; exact Nat.ne_of_lt (blk_lt (g := gb387) (o := .cells #[.int .u8 0, .string (⟨#[]⟩ : ByteArray), .slice none 0 0] 133 (0, 0)) (a4_)) : gb387 ≠ gb398)) ((by rw [hg]; exact Nat.ne_of_gt (blk_lt (g := gb387) (o := .cells #[.int .u8 0, .string (⟨#[]⟩ : ByteArray), .slice none 0 0] 133 (0, 0)) (a4_)) : gb398 ≠ gb387)) ((by rw [hg]; exact Nat.ne_of_lt (IsS142.lt (show IsS142 w _ gb388 t394 t395 t396 false from a6_)) : gb388 ≠ gb398)) ((by rw [hg]; exact Nat.ne_of_gt (IsS142.lt (show IsS142 w _ gb388 t394 t395 t396 false from a6_)) : gb398 ≠ gb388)); clear HO393 BK387 HI388 HB; obtain ⟨HO393, BK387, HI388, HB, BK398, GW398, GE398, NB387_398, NB398_387, NB388_398, NB398_388⟩ := n_; clear hb hbox hg; have hnb25 := NB398_387.out; have hnc25 := NB387_398.out; have hnb26 := NB398_388.out; have hnc26 := NB388_398.out; obtain ⟨hcz27_0, hcz27_1, hcz27_2, hfz27_0, hfz27_1, hfz27_2⟩ := cf3_ BK398.out; obtain ⟨Ao28, co28, eo28⟩ := Kd.V_slice HO393.out; subst eo28; obtain ⟨HGz29, hgz29⟩ := HI388.out; have hcz29_0 := cellS142_0 HGz29; have hcz29_1 := cellS142_1 HGz29; have hcz29_2 := cellS142_2 HGz29; have hcz29_3 := cellS142_3 HGz29; have hfz29_0 := blk_frozen HGz29 0; have hfz29_1 := blk_frozen HGz29 1; have hfz29_2 := blk_frozen HGz29 2; have hfz29_3 := blk_frozen HGz29 3; clear HGz29 hgz29) | (go_at_call 99; (with_reducible refine (impl_test_show2.calls k t389 t390 _ _ t391 t399 _ ?side1 ?side2 A19.out).mono ?_); (case side1 => refine (Kd.V_reads' (e := 133) (base := w.heap.size) (ok := fun k_ => (((w.heap.size ≤ k_) ∧ (k_ ≠ gb387 ∧ k_ ≠ gb388)) ∧ k_ ≠ gb398)) (n := t391.length) (c := co28) ?_).2.2; exact (a11_)); (case side2 => exact (Kd.V_reads' HO393.out).2.1); rintro e w30 ⟨rfl, hb⟩; have n_ := c5_ (Kd.V_below (a11_) hb) (blk_below (g := gb387) (o := .cells #[.int .u8 0, .string (⟨#[]⟩ : ByteArray), .slice none 0 0] 133 (0, 0)) (a12_) hb) (IsS142.below (show IsS142 w (((w24.setCell ⟨gb398, 0, none⟩ (.int .u8 t389)).setCell ⟨gb398, 1, none⟩ (.string t390)).setCell ⟨gb398, 2, none⟩ (.slice Ao28 t391.length co28)) gb388 t394 t395 t396 false from a13_) hb) (blk_below (g := gb398) (o := .cells #[.int .u8 t389, .string t390, .slice Ao28 t391.length co28] 133 (0, 0)) (a14_) hb) (below_step (a10_) hb); clear HO393 BK387 HI388 BK398 HB; obtain ⟨HO393, BK387, HI388, BK398, HB⟩ := n_; (try clear hb); (try clear hb2); (try clear hk); (try clear hi); obtain ⟨hcz31_0, hcz31_1, hcz31_2, hfz31_0, hfz31_1, hfz31_2⟩ := cf3_ BK398.out; have hnb32 := NB387_388.out; have hnc32 := NB388_387.out; obtain ⟨hcz33_0, hcz33_1, hcz33_2, hfz33_0, hfz33_1, hfz33_2⟩ := cf3_ BK387.out))
     refine bodyPost_ret (results_ct rfl _ _ gb387 133 #[.int .u8 t389, .string t390, .slice Ao28 t391.length co28] (0, 0) _ rfl (a15_) Try.underlying133 rfl (by kernel_rfl)) rfl ?_
     exact ⟨_, a2_, by (with_reducible repeat (first | apply Kd.V_alloc | apply Kd.V_drewN | apply Kd.V_drew)); exact Kd.V_mono (Kd.V_far (p := ⟨gb387, 2, none⟩) (Kd.V_far (p := ⟨gb387, 1, none⟩) (Kd.V_far (p := ⟨gb387, 0, none⟩) (Kd.V_mono HO393.out (fun k_ hk => (⟨hk, hk.1.2.1⟩ : _ ∧ k_ ≠ gb387))) (fun _ hk => hk.2) (.int .u8 t389)) (fun _ hk => hk.2) (.string t390)) (fun _ hk => hk.2) (.slice Ao28 t391.length co28)) (fun _ hk => hk.1.1.1), a10_⟩
    ·rw [if_neg c20] at H
     have c20b0 : (t399.toList == a0.toList) = false := beq_eq_false_iff_ne.mpr c20
     have c20b1 : (t399.toList != a0.toList) = true := bne_iff_ne.mpr c20
     simp only [Option.some.injEq, Prod.mk.injEq] at H
     obtain ⟨rfl, rfl, rfl, rfl⟩ := H
     go_enter Try.func90, Try.ntmps90
     go_wp2_with (first | ((with_reducible refine gate_dst (N := 2) rfl ?_); (try (refine gate_guard (by rfl) ?_; dsimp only)); refine box_event ?hg (N := 2) ?hd (cs := #[.int .u8 0, .string (⟨#[]⟩ : ByteArray), .slice none 0 0]) (t := 133) ?hr ?_; (case hd => rfl); (case hg => rfl); (case hr => first | (go_simp; done) | (go_simp; rfl)); intro gb387 hg w34 hbox hb; have n_ := c4_ (below_step (a1_) hb) (hbox) ((by rw [hg]; exact (below_size (a1_)) : w.heap.size ≤ gb387)) ((by rw [hg]; exact (below_size (a1_)) : w.heap.size ≤ gb387)); clear HB; obtain ⟨HB, BK387, GW387, GE387⟩ := n_; clear hb hbox hg) | ((with_reducible refine gate_dst (N := 12) rfl ?_); (try (refine gate_guard (by rfl) ?_; dsimp only)); refine box_event ?hg (N := 12) ?hd (cs := #[.string a0, .int .i64 0, .int .i64 0, .bool false]) (t := 142) ?hr ?_; (case hd => rfl); (case hg => rfl); (case hr => first | (go_simp; done) | (go_simp; rfl)); intro gb388 hg w35 hbox hb; have n_ := c7_ (blk_below (g := gb387) (o := .cells #[.int .u8 0, .string (⟨#[]⟩ : ByteArray), .slice none 0 0] 133 (0, 0)) (a4_) hb) (below_step (a3_) hb) ((by rw [hg]; exact (below_size (a3_)) : w.heap.size ≤ gb388)) ((by rw [hg]; exact (below_size (a3_)) : w.heap.size ≤ gb388)) ((by rw [hg]; exact Nat.ne_of_lt (blk_lt (g := gb387) (o := .cells #[.int .u8 0, .string (⟨#[]⟩ : ByteArray), .slice none 0 0] 133 (0, 0)) (a4_)) : gb387 ≠ gb388)) ((by rw [hg]; exact Nat.ne_of_gt (blk_lt (g := gb387) (o := .cells #[.int .u8 0, .string (⟨#[]⟩ : ByteArray), .slice none 0 0] 133 (0, 0)) (a4_)) : gb388 ≠ gb387)) ((show IsS142 w w35 gb388 a0 0 0 false from ⟨hbox, (by rw [hg]; exact (below_size (a3_)) : w.heap.size ≤ gb388)⟩)); clear BK387 HB; obtain ⟨BK387, HB, GW388, GE388, NB387_388, NB388_387, HI388⟩ := n_; clear hb hbox hg) | ((with_reducible refine gate_callee (f := 98) rfl ?_); refine goesL_ (some 14) rfl rfl Try.func98 (by kernel_rfl) rfl #[.pointer (some ⟨gb388, 0, none⟩)] rfl (a5_) ?_; (with_reducible refine (impl_testReader_or2.calls k gb388 a0 0 0 false t389 t390 t391 t394 t395 t396 false w _ ?side1 ?side2 A5.out).mono ?_); (case side1 => exact a6_); (case side2 => exact a7_); rintro e w36 ⟨v392, rfl, ho0, hi, hb, hk⟩; refine ⟨_, rfl, ?_⟩; have n_ := c4_ (KeepBut.blk hk (g' := gb387) (o := .cells #[.int .u8 0, .string (⟨#[]⟩ : ByteArray), .slice none 0 0] 133 (0, 0)) (a4_) NB387_388.out (by simp)) (Kd.V_lower (Kd.V_mono (ok' := fun k_ => (w.heap.size ≤ k_) ∧ k_ ≠ gb387 ∧ k_ ≠ gb388) ho0 (fun k_ hk_ => ⟨(Nat.le_trans (below_size (a7_)) hk_), (Kd.freshB (g := gb387) (o := .cells #[.int .u8 0, .string (⟨#[]⟩ : ByteArray), .slice none 0 0] 133 (0, 0)) (a4_) k_ hk_), (IsS142.fresh (a6_) k_ hk_)⟩)) (below_size (a7_))) (hb) (hi); clear BK387 HB HI388; obtain ⟨BK387, HO393, HB, HI388⟩ := n_; (try clear hb); (try clear hb2); (try clear hk); (try clear hi); (try clear ho0)) | ((with_reducible refine gate_dst (N := 5) rfl ?_); (try (refine gate_guard (by rfl) ?_; dsimp only)); refine box_event ?hg (N := 5) ?hd (cs := #[.int .u8 0, .string (⟨#[]⟩ : ByteArray), .slice none 0 0]) (t := 133) ?hr ?_; (case hd => rfl); (case hg => rfl); (case hr => first | (go_simp; done) | (go_simp; rfl)); intro gb398 hg w37 hbox hb; have n_ := c11_ (Kd.V_below (Kd.V_elderB (a8_) gb398 (Nat.le_of_eq hg.symm)) hb) (blk_below (g := gb387) (o := .cells #[.int .u8 0, .string (⟨#[]⟩ : ByteArray), .slice none 0 0] 133 (0, 0)) (a4_) hb) (IsS142.below (a6_) hb) (below_step (a7_) hb) (hbox) ((by rw [hg]; exact (below_size (a7_)) : w.heap.size ≤ gb398)) ((by rw [hg]; exact (below_size (a7_)) : w.heap.size ≤ gb398)) ((by rw [hg]; exact Nat.ne_of_lt (blk_lt (g := gb387) (o := .cells #[.int .u8 0, .string (⟨#[]⟩ : ByteArray), .slice none 0 0] 133 (0, 0)) (a4_)) : gb387 ≠ gb398)) ((by rw [hg]; exact Nat.ne_of_gt (blk_lt (g := gb387) (o := .cells #[.int .u8 0, .string (⟨#[]⟩ : ByteArray), .slice none 0 0] 133 (0, 0)) (a4_)) : gb398 ≠ gb387)) ((by rw [hg]; exact Nat.ne_of_lt (IsS142.lt (show IsS142 w _ gb388 t394 t395 t396 false from a6_)) : gb388 ≠ gb398)) ((by rw [hg]; exact Nat.ne_of_gt (IsS142.lt (show IsS142 w _ gb388 t394 t395 t396 false from a6_)) : gb398 ≠ gb388)); clear HO393 BK387 HI388 HB; obtain ⟨HO393, BK387, HI388, HB, BK398, GW398, GE398, NB387_398, NB398_387, NB388_398, NB398_388⟩ := n_; clear hb hbox hg; have hnb38 := NB398_387.out; have hnc38 := NB387_398.out; have hnb39 := NB398_388.out; have hnc39 := NB388_398.out; obtain ⟨hcz40_0, hcz40_1, hcz40_2, hfz40_0, hfz40_1, hfz40_2⟩ := cf3_ BK398.out; obtain ⟨Ao41, co41, eo41⟩ := Kd.V_slice HO393.out; subst eo41; obtain ⟨HGz42, hgz42⟩ := HI388.out; have hcz42_0 := cellS142_0 HGz42; have hcz42_1 := cellS142_1 HGz42; have hcz42_2 := cellS142_2 HGz42; have hcz42_3 := cellS142_3 HGz42; have hfz42_0 := blk_frozen HGz42 0; have hfz42_1 := blk_frozen HGz42 1; have hfz42_2 := blk_frozen HGz42 2; have hfz42_3 := blk_frozen HGz42 3; clear HGz42 hgz42) | (go_at_call 99; (with_reducible refine (impl_test_show2.calls k t389 t390 _ _ t391 t399 _ ?side1 ?side2 A19.out).mono ?_); (case side1 => refine (Kd.V_reads' (e := 133) (base := w.heap.size) (ok := fun k_ => (((w.heap.size ≤ k_) ∧ (k_ ≠ gb387 ∧ k_ ≠ gb388)) ∧ k_ ≠ gb398)) (n := t391.length) (c := co41) ?_).2.2; exact (a16_)); (case side2 => exact (Kd.V_reads' HO393.out).2.1); rintro e w43 ⟨rfl, hb⟩; have n_ := c5_ (Kd.V_below (a16_) hb) (blk_below (g := gb387) (o := .cells #[.int .u8 0, .string (⟨#[]⟩ : ByteArray), .slice none 0 0] 133 (0, 0)) (a12_) hb) (IsS142.below (show IsS142 w (((w37.setCell ⟨gb398, 0, none⟩ (.int .u8 t389)).setCell ⟨gb398, 1, none⟩ (.string t390)).setCell ⟨gb398, 2, none⟩ (.slice Ao41 t391.length co41)) gb388 t394 t395 t396 false from a13_) hb) (blk_below (g := gb398) (o := .cells #[.int .u8 t389, .string t390, .slice Ao41 t391.length co41] 133 (0, 0)) (a14_) hb) (below_step (a10_) hb); clear HO393 BK387 HI388 BK398 HB; obtain ⟨HO393, BK387, HI388, BK398, HB⟩ := n_; (try clear hb); (try clear hb2); (try clear hk); (try clear hi); obtain ⟨hcz44_0, hcz44_1, hcz44_2, hfz44_0, hfz44_1, hfz44_2⟩ := cf3_ BK398.out; have hnb45 := NB387_388.out; have hnc45 := NB388_387.out; obtain ⟨hcz46_0, hcz46_1, hcz46_2, hfz46_0, hfz46_1, hfz46_2⟩ := cf3_ BK387.out))
     refine bodyPost_ret (results_ct rfl _ _ gb387 133 #[.int .u8 t389, .string t390, .slice Ao41 t391.length co41] (0, 0) _ rfl (a15_) Try.underlying133 rfl (by kernel_rfl)) rfl ?_
     exact ⟨_, a2_, by (with_reducible repeat (first | apply Kd.V_alloc | apply Kd.V_drewN | apply Kd.V_drew)); exact Kd.V_mono (Kd.V_far (p := ⟨gb387, 2, none⟩) (Kd.V_far (p := ⟨gb387, 1, none⟩) (Kd.V_far (p := ⟨gb387, 0, none⟩) (Kd.V_mono HO393.out (fun k_ hk => (⟨hk, hk.1.2.1⟩ : _ ∧ k_ ≠ gb387))) (fun _ hk => hk.2) (.int .u8 t389)) (fun _ hk => hk.2) (.string t390)) (fun _ hk => hk.2) (.slice Ao41 t391.length co41)) (fun _ hk => hk.1.1.1), a10_⟩
   ·rw [if_neg c18] at H
    have c18b0 : (t395 == (a0.size : Int)) = false := beq_eq_false_iff_ne.mpr c18
    have c18b1 : (t395 != (a0.size : Int)) = true := bne_iff_ne.mpr c18
    simp only [Option.some.injEq, Prod.mk.injEq] at H
    obtain ⟨rfl, rfl, rfl, rfl⟩ := H
    go_enter Try.func90, Try.ntmps90
    go_wp2_with (first | ((with_reducible refine gate_dst (N := 2) rfl ?_); (try (refine gate_guard (by rfl) ?_; dsimp only)); refine box_event ?hg (N := 2) ?hd (cs := #[.int .u8 0, .string (⟨#[]⟩ : ByteArray), .slice none 0 0]) (t := 133) ?hr ?_; (case hd => rfl); (case hg => rfl); (case hr => first | (go_simp; done) | (go_simp; rfl)); intro gb387 hg w47 hbox hb; have n_ := c4_ (below_step (a1_) hb) (hbox) ((by rw [hg]; exact (below_size (a1_)) : w.heap.size ≤ gb387)) ((by rw [hg]; exact (below_size (a1_)) : w.heap.size ≤ gb387)); clear HB; obtain ⟨HB, BK387, GW387, GE387⟩ := n_; clear hb hbox hg) | ((with_reducible refine gate_dst (N := 12) rfl ?_); (try (refine gate_guard (by rfl) ?_; dsimp only)); refine box_event ?hg (N := 12) ?hd (cs := #[.string a0, .int .i64 0, .int .i64 0, .bool false]) (t := 142) ?hr ?_; (case hd => rfl); (case hg => rfl); (case hr => first | (go_simp; done) | (go_simp; rfl)); intro gb388 hg w48 hbox hb; have n_ := c7_ (blk_below (g := gb387) (o := .cells #[.int .u8 0, .string (⟨#[]⟩ : ByteArray), .slice none 0 0] 133 (0, 0)) (a4_) hb) (below_step (a3_) hb) ((by rw [hg]; exact (below_size (a3_)) : w.heap.size ≤ gb388)) ((by rw [hg]; exact (below_size (a3_)) : w.heap.size ≤ gb388)) ((by rw [hg]; exact Nat.ne_of_lt (blk_lt (g := gb387) (o := .cells #[.int .u8 0, .string (⟨#[]⟩ : ByteArray), .slice none 0 0] 133 (0, 0)) (a4_)) : gb387 ≠ gb388)) ((by rw [hg]; exact Nat.ne_of_gt (blk_lt (g := gb387) (o := .cells #[.int .u8 0, .string (⟨#[]⟩ : ByteArray), .slice none 0 0] 133 (0, 0)) (a4_)) : gb388 ≠ gb387)) ((show IsS142 w w48 gb388 a0 0 0 false from ⟨hbox, (by rw [hg]; exact (below_size (a3_)) : w.heap.size ≤ gb388)⟩)); clear BK387 HB; obtain ⟨BK387, HB, GW388, GE388, NB387_388, NB388_387, HI388⟩ := n_; clear hb hbox hg) | ((with_reducible refine gate_callee (f := 98) rfl ?_); refine goesL_ (some 14) rfl rfl Try.func98 (by kernel_rfl) rfl #[.pointer (some ⟨gb388, 0, none⟩)] rfl (a5_) ?_; (with_reducible refine (impl_testReader_or2.calls k gb388 a0 0 0 false t389 t390 t391 t394 t395 t396 false w _ ?side1 ?side2 A5.out).mono ?_); (case side1 => exact a6_); (case side2 => exact a7_); rintro e w49 ⟨v392, rfl, ho0, hi, hb, hk⟩; refine ⟨_, rfl, ?_⟩; have n_ := c4_ (KeepBut.blk hk (g' := gb387) (o := .cells #[.int .u8 0, .string (⟨#[]⟩ : ByteArray), .slice none 0 0] 133 (0, 0)) (a4_) NB387_388.out (by simp)) (Kd.V_lower (Kd.V_mono (ok' := fun k_ => (w.heap.size ≤ k_) ∧ k_ ≠ gb387 ∧ k_ ≠ gb388) ho0 (fun k_ hk_ => ⟨(Nat.le_trans (below_size (a7_)) hk_), (Kd.freshB (g := gb387) (o := .cells #[.int .u8 0, .string (⟨#[]⟩ : ByteArray), .slice none 0 0] 133 (0, 0)) (a4_) k_ hk_), (IsS142.fresh (a6_) k_ hk_)⟩)) (below_size (a7_))) (hb) (hi); clear BK387 HB HI388; obtain ⟨BK387, HO393, HB, HI388⟩ := n_; (try clear hb); (try clear hb2); (try clear hk); (try clear hi); (try clear ho0)) | ((with_reducible refine gate_dst (N := 5) rfl ?_); (try (refine gate_guard (by rfl) ?_; dsimp only)); refine box_event ?hg (N := 5) ?hd (cs := #[.int .u8 0, .string (⟨#[]⟩ : ByteArray), .slice none 0 0]) (t := 133) ?hr ?_; (case hd => rfl); (case hg => rfl); (case hr => first | (go_simp; done) | (go_simp; rfl)); intro gb398 hg w50 hbox hb; have n_ := c11_ (Kd.V_below (Kd.V_elderB (a8_) gb398 (Nat.le_of_eq hg.symm)) hb) (blk_below (g := gb387) (o := .cells #[.int .u8 0, .string (⟨#[]⟩ : ByteArray), .slice none 0 0] 133 (0, 0)) (a4_) hb) (IsS142.below (a6_) hb) (below_step (a7_) hb) (hbox) ((by rw [hg]; exact (below_size (a7_)) : w.heap.size ≤ gb398)) ((by rw [hg]; exact (below_size (a7_)) : w.heap.size ≤ gb398)) ((by rw [hg]; exact Nat.ne_of_lt (blk_lt (g := gb387) (o := .cells #[.int .u8 0, .string (⟨#[]⟩ : ByteArray), .slice none 0 0] 133 (0, 0)) (a4_)) : gb387 ≠ gb398)) ((by rw [hg]; exact Nat.ne_of_gt (blk_lt (g := gb387) (o := .cells #[.int .u8 0, .string (⟨#[]⟩ : ByteArray), .slice none 0 0] 133 (0, 0)) (a4_)) : gb398 ≠ gb387)) ((by rw [hg]; exact Nat.ne_of_lt (IsS142.lt (show IsS142 w _ gb388 t394 t395 t396 false from a6_)) : gb388 ≠ gb398)) ((by rw [hg]; exact Nat.ne_of_gt (IsS142.lt (show IsS142 w _ gb388 t394 t395 t396 false from a6_)) : gb398 ≠ gb388)); clear HO393 BK387 HI388 HB; obtain ⟨HO393, BK387, HI388, HB, BK398, GW398, GE398, NB387_398, NB398_387, NB388_398, NB398_388⟩ := n_; clear hb hbox hg; have hnb51 := NB398_387.out; have hnc51 := NB387_398.out; have hnb52 := NB398_388.out; have hnc52 := NB388_398.out; obtain ⟨hcz53_0, hcz53_1, hcz53_2, hfz53_0, hfz53_1, hfz53_2⟩ := cf3_ BK398.out; obtain ⟨Ao54, co54, eo54⟩ := Kd.V_slice HO393.out; subst eo54; obtain ⟨HGz55, hgz55⟩ := HI388.out; have hcz55_0 := cellS142_0 HGz55; have hcz55_1 := cellS142_1 HGz55; have hcz55_2 := cellS142_2 HGz55; have hcz55_3 := cellS142_3 HGz55; have hfz55_0 := blk_frozen HGz55 0; have hfz55_1 := blk_frozen HGz55 1; have hfz55_2 := blk_frozen HGz55 2; have hfz55_3 := blk_frozen HGz55 3; clear HGz55 hgz55; have hnb56 := NB387_388.out; have hnc56 := NB388_387.out; obtain ⟨hcz57_0, hcz57_1, hcz57_2, hfz57_0, hfz57_1, hfz57_2⟩ := cf3_ BK387.out))
    refine bodyPost_ret (results_ct rfl _ _ gb387 133 #[.int .u8 t389, .string t390, .slice Ao54 t391.length co54] (0, 0) _ rfl (a9_) Try.underlying133 rfl (by kernel_rfl)) rfl ?_
    exact ⟨_, a2_, by (with_reducible repeat (first | apply Kd.V_alloc | apply Kd.V_drewN | apply Kd.V_drew)); exact Kd.V_mono (Kd.V_far (p := ⟨gb387, 2, none⟩) (Kd.V_far (p := ⟨gb387, 1, none⟩) (Kd.V_far (p := ⟨gb387, 0, none⟩) (Kd.V_far (p := ⟨gb398, 2, none⟩) (Kd.V_far (p := ⟨gb398, 1, none⟩) (Kd.V_far (p := ⟨gb398, 0, none⟩) (Kd.V_mono (Kd.V_mono HO393.out (fun k_ hk => (⟨hk, hk.2⟩ : _ ∧ k_ ≠ gb398))) (fun k_ hk => (⟨hk, hk.1.1.2.1⟩ : _ ∧ k_ ≠ gb387))) (fun _ hk => hk.1.2) (.int .u8 t389)) (fun _ hk => hk.1.2) (.string t390)) (fun _ hk => hk.1.2) (.slice Ao54 t391.length co54)) (fun _ hk => hk.2) (.int .u8 t389)) (fun _ hk => hk.2) (.string t390)) (fun _ hk => hk.2) (.slice Ao54 t391.length co54)) (fun _ hk => hk.1.1.1.1), a10_⟩

/-! ### impl_LabelsFault: function 79 -/
def impl_LabelsFault.f (k : Nat) (a0 : ByteArray) : Option (Int) := (impl_readTest.f k a0).bind fun bt400 => (if bt400.2.2.2 = true then (some 0) else (some 1))
theorem impl_LabelsFault.a1_ {p : Prop} (h : p := by repeat (first | (with_reducible first | exact HB.out | apply below_alloc | apply pw_below_drewN | apply below_drew1) | exact HB.out)) : p := h
set_option maxHeartbeats 8000000 in
set_option maxRecDepth 100000 in
theorem impl_LabelsFault.calls (k : Nat) (a0 : ByteArray) (r : Int) (w : World) (h : impl_LabelsFault.f k a0 = some r) :
  Calls Try.prog 79 #[.string a0] w fun e w' => e = .returned (.int .i64 r) ∧ Below w.heap.size w w' := by
 have hu133 := Try.underlying133
 have HB := Aside0.mk (Below.refl w.heap.size w)
 have H : ((impl_readTest.f k a0).bind fun bt400 => (if bt400.2.2.2 = true then (some 0) else (some 1))) = some r := h
 clear h
 replace H := Option.bind_eq_some_iff.mp H
 obtain ⟨⟨t400, t401, t402, t405⟩, A20, H⟩ := H
 try dsimp only at H
 have A2 := Aside0.mk A20
 clear A20
 by_cases c3 : t405 = true
 ·subst c3
  rw [if_pos rfl] at H
  try dsimp only at H
  obtain rfl := Option.some.inj H
  go_enter Try.func79, Try.ntmps79
  go_wp2_with (first | ((with_reducible refine gate_callee (f := 90) rfl ?_); refine goesL_ (some 7) rfl rfl Try.func90 (by kernel_rfl) rfl #[.string a0] rfl (by (try simp only [List.map_toArray, List.map_cons, List.map_nil]); first | done | rfl | (simp only [List.length_drop, List.length_take]; rfl)) ?_; (with_reducible refine (impl_readTest.calls k a0 t400 t401 t402 true _ A2.out).mono ?_); rintro e w4 ⟨v403, rfl, ho0, hb⟩; refine ⟨_, rfl, ?_⟩; have n_ := c2_ (Kd.V_lower (Kd.V_mono (ok' := fun k_ => True) ho0 (fun k_ hk_ => trivial)) (below_size (a1_))) (below_step (a1_) hb); clear HB; obtain ⟨HO404, HB⟩ := n_; (try clear hb); (try clear hb2); (try clear hk); (try clear hi); (try clear ho0)) | ((with_reducible refine gate_dst (N := 3) rfl ?_); refine box_event ?hg (N := 3) ?hd (cs := #[.int .u8 0, .string (⟨#[]⟩ : ByteArray), .slice none 0 0]) (t := 133) ?hr ?_; (case hd => rfl); (case hg => rfl); (case hr => first | (go_simp; done) | (go_simp; rfl)); intro gb406 hg w5 hbox hb; have n_ := c5_ (Kd.V_below (Kd.V_elderB (by (with_reducible repeat (first | apply Kd.V_alloc | apply Kd.V_drewN | apply Kd.V_drew)); exact HO404.out) gb406 (Nat.le_of_eq hg.symm)) hb) (below_step (a1_) hb) (hbox) ((by rw [hg]; exact (below_size (a1_)) : w.heap.size ≤ gb406)) ((by rw [hg]; exact (below_size (a1_)) : w.heap.size ≤ gb406)); clear HO404 HB; obtain ⟨HO404, HB, BK406, GW406, GE406⟩ := n_; clear hb hbox hg; obtain ⟨hcz6_0, hcz6_1, hcz6_2, hfz6_0, hfz6_1, hfz6_2⟩ := cf3_ BK406.out; obtain ⟨Ao7, co7, eo7⟩ := Kd.V_slice HO404.out; subst eo7))
  go_ret
  exact ⟨by first | rfl | (simp [errW_none, errW_some] <;> rfl) | (simp [*, errW_none, errW_some] <;> rfl), by repeat (first | (with_reducible first | exact HB.out | apply below_alloc | apply pw_below_drewN | apply below_drew1 | refine below_set ?_ GE406.out) | exact HB.out)⟩
 ·replace c3 := Bool.eq_false_iff.mpr c3
  subst c3
  rw [if_neg (show ¬ (false = true) by decide)] at H
  try dsimp only at H
  obtain rfl := Option.some.inj H
  go_enter Try.func79, Try.ntmps79
  go_wp2_with (first | ((with_reducible refine gate_callee (f := 90) rfl ?_); refine goesL_ (some 7) rfl rfl Try.func90 (by kernel_rfl) rfl #[.string a0] rfl (by (try simp only [List.map_toArray, List.map_cons, List.map_nil]); first | done | rfl | (simp only [List.length_drop, List.length_take]; rfl)) ?_; (with_reducible refine (impl_readTest.calls k a0 t400 t401 t402 false _ A2.out).mono ?_); rintro e w8 ⟨v403, rfl, ho0, hb⟩; refine ⟨_, rfl, ?_⟩; have n_ := c2_ (Kd.V_lower (Kd.V_mono (ok' := fun k_ => True) ho0 (fun k_ hk_ => trivial)) (below_size (a1_))) (below_step (a1_) hb); clear HB; obtain ⟨HO404, HB⟩ := n_; (try clear hb); (try clear hb2); (try clear hk); (try clear hi); (try clear ho0)) | ((with_reducible refine gate_dst (N := 3) rfl ?_); refine box_event ?hg (N := 3) ?hd (cs := #[.int .u8 0, .string (⟨#[]⟩ : ByteArray), .slice none 0 0]) (t := 133) ?hr ?_; (case hd => rfl); (case hg => rfl); (case hr => first | (go_simp; done) | (go_simp; rfl)); intro gb406 hg w9 hbox hb; have n_ := c5_ (Kd.V_below (Kd.V_elderB (by (with_reducible repeat (first | apply Kd.V_alloc | apply Kd.V_drewN | apply Kd.V_drew)); exact HO404.out) gb406 (Nat.le_of_eq hg.symm)) hb) (below_step (a1_) hb) (hbox) ((by rw [hg]; exact (below_size (a1_)) : w.heap.size ≤ gb406)) ((by rw [hg]; exact (below_size (a1_)) : w.heap.size ≤ gb406)); clear HO404 HB; obtain ⟨HO404, HB, BK406, GW406, GE406⟩ := n_; clear hb hbox hg; obtain ⟨hcz10_0, hcz10_1, hcz10_2, hfz10_0, hfz10_1, hfz10_2⟩ := cf3_ BK406.out; obtain ⟨Ao11, co11, eo11⟩ := Kd.V_slice HO404.out; subst eo11))
  go_ret
  exact ⟨by first | rfl | (simp [errW_none, errW_some] <;> rfl) | (simp [*, errW_none, errW_some] <;> rfl), by repeat (first | (with_reducible first | exact HB.out | apply below_alloc | apply pw_below_drewN | apply below_drew1 | refine below_set ?_ GE406.out) | exact HB.out)⟩

end Go.Proofs.Ytmecapnpgedcnaa.PFnExactShowSteps
