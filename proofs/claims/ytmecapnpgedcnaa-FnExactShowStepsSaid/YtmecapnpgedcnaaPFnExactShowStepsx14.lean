/- Walks of Go functions, written by program out of the print of the translation, with contracts of our own where the print has none. -/
import Derived.Test.YtmecapnpgedcnaaPFnExactShowStepsx0
import Derived.Test.YtmecapnpgedcnaaPFnExactShowStepsx1
import Derived.Test.YtmecapnpgedcnaaPFnExactShowStepsx7
import Derived.Test.YtmecapnpgedcnaaPFnExactShowStepsx13
namespace Go.Proofs.Ytmecapnpgedcnaa.PFnExactShowSteps
open Go.RowKit Go.Proofs.YtmecapnpgedcnaaW.PrintWords Go.Proofs.YtmecapnpgedcnaaW.PrintLast Go.Proofs.YtmecapnpgedcnaaW.PrintMore
attribute [local go_sem] max2_int min2_int max_two min_two max_three min_three max_four min_four   -- for this text's walks alone
set_option linter.unusedVariables false
set_option linter.unusedSimpArgs false

/-! ### impl_walkTree_show1: function 45 -/
def impl_walkTree_show1.T7 : Bool × List (List Nat × List Nat) := (true, [([], []), ([0], [0]), ([1], [1]), ([2], [2]), ([3], [3]), ([4], [4]), ([], []), ([6], [6]), ([7], [7]), ([8], [8]), ([9, 4], [9]), ([5, 10], [5, 10]), ([11, 10, 0, 1, 2, 3, 4, 5, 6, 7, 8, 9, 10, 11], [11])])
def impl_walkTree_show1.B7 : List Nat := [0, 1, 3, 7, 15, 31, 0, 64, 192, 448, 991, 2047, 4095]
theorem impl_walkTree_show1.tab7 : rtab .any (opsOf Try.f45 7) = impl_walkTree_show1.T7 := by kernel_rfl
theorem impl_walkTree_show1.bits7 : waitsOk impl_walkTree_show1.T7.2 impl_walkTree_show1.B7 = true := by kernel_rfl
def impl_walkTree_show1.T9 : Bool × List (List Nat × List Nat) := (true, [([], []), ([0], [0]), ([1], [1]), ([2], [2]), ([3], [3]), ([4], [4]), ([], []), ([6], [6]), ([7], [7]), ([8], [8]), ([9, 4], [9]), ([5, 10], [5, 10]), ([11, 10, 0, 1, 2, 3, 4, 5, 6, 7, 8, 9, 10, 11], [11])])
def impl_walkTree_show1.B9 : List Nat := [0, 1, 3, 7, 15, 31, 0, 64, 192, 448, 991, 2047, 4095]
theorem impl_walkTree_show1.tab9 : rtab .any (opsOf Try.f45 9) = impl_walkTree_show1.T9 := by kernel_rfl
theorem impl_walkTree_show1.bits9 : waitsOk impl_walkTree_show1.T9.2 impl_walkTree_show1.B9 = true := by kernel_rfl
theorem impl_walkTree_show1.a1_ {p : Prop} (h : p := by repeat (first | (with_reducible first | exact HB.out | apply below_alloc | apply pw_below_drewN | apply below_drew1) | exact HB.out)) : p := h
theorem impl_walkTree_show1.a2_ {p : Prop} (h : p := by first | rfl | (simp [errW_none, errW_some] <;> rfl) | (simp [*, errW_none, errW_some] <;> rfl)) : p := h
theorem impl_walkTree_show1.a3_ {p : Prop} (h : p := by repeat (first | (with_reducible first | exact HB.out | apply below_alloc | apply pw_below_drewN | apply below_drew1 | refine below_set ?_ GE429.out) | exact HB.out)) : p := h
theorem impl_walkTree_show1.a4_ {p : Prop} (h : p := by rintro w' ⟨s0, s1, s2, s3, s4, s5, s6, s7, s8, s9, s10, s11⟩; go_simp; with_reducible rfl) : p := h
theorem impl_walkTree_show1.a5_ {p : Prop} (h : p := by (try simp only [List.map_toArray, List.map_cons, List.map_nil]); first | done | rfl | (simp only [List.length_drop, List.length_take]; rfl)) : p := h
theorem impl_walkTree_show1.a6_ {p : Prop} (h : p := by (with_reducible repeat (first | refine blk_drewN ?_ _ | refine blk_drew ?_ | refine blk_alloc ?_ _)); exact BK429.out) : p := h
section
variable [impl_walkTree_show.C]
def impl_walkTree_show1.f (a0_0 : Int) (a0_1 : ByteArray) (a0_2 : Int) (l0_3 : List (S70)) : Option (ByteArray) := if a0_0 = 2 then (if 1 + a0_1.size ≤ 9223372036854775807 then (some ((⟨#[94]⟩ : ByteArray) ++ a0_1)) else (none)) else (if a0_0 = 3 then (if 1 + a0_1.size ≤ 9223372036854775807 then (if ((⟨#[91]⟩ : ByteArray) ++ a0_1).size + 1 ≤ 9223372036854775807 then (some (((⟨#[91]⟩ : ByteArray) ++ a0_1) ++ (⟨#[93]⟩ : ByteArray))) else (none)) else (none)) else (if a0_0 = 4 then (if 0 < (l0_3.length : Int) then ((impl_walkTree_within.f ((rd_T70 l0_3 0).f0.f0) ((rd_T70 l0_3 0).f0.f1) ((rd_T70 l0_3 0).f0.f2) ((rd_T70 l0_3 0).f1) 2).bind fun t431 => (if t431.size + 1 ≤ 9223372036854775807 then (if 1 < (l0_3.length : Int) then ((impl_walkTree_within.f ((rd_T70 l0_3 1).f0.f0) ((rd_T70 l0_3 1).f0.f1) ((rd_T70 l0_3 1).f0.f2) ((rd_T70 l0_3 1).f1) 3).bind fun t433 => (if (t431 ++ (⟨#[47]⟩ : ByteArray)).size + t433.size ≤ 9223372036854775807 then (some ((t431 ++ (⟨#[47]⟩ : ByteArray)) ++ t433)) else (none))) else (none)) else (none))) else (none)) else (if a0_0 = 5 then (if 0 < (l0_3.length : Int) then ((impl_walkTree_within.f ((rd_T70 l0_3 0).f0.f0) ((rd_T70 l0_3 0).f0.f1) ((rd_T70 l0_3 0).f0.f2) ((rd_T70 l0_3 0).f1) 1).bind fun t435 => (if t435.size + 1 ≤ 9223372036854775807 then (if 1 < (l0_3.length : Int) then ((impl_walkTree_within.f ((rd_T70 l0_3 1).f0.f0) ((rd_T70 l0_3 1).f0.f1) ((rd_T70 l0_3 1).f0.f2) ((rd_T70 l0_3 1).f1) 2).bind fun t437 => (if (t435 ++ (⟨#[124]⟩ : ByteArray)).size + t437.size ≤ 9223372036854775807 then (some ((t435 ++ (⟨#[124]⟩ : ByteArray)) ++ t437)) else (none))) else (none)) else (none))) else (none)) else (if a0_0 = 6 then (if 0 < (l0_3.length : Int) then ((impl_walkTree_within.f ((rd_T70 l0_3 0).f0.f0) ((rd_T70 l0_3 0).f0.f1) ((rd_T70 l0_3 0).f0.f2) ((rd_T70 l0_3 0).f1) 3).bind fun t439 => (if t439.size + 1 ≤ 9223372036854775807 then (some (t439 ++ (⟨#[42]⟩ : ByteArray))) else (none))) else (none)) else (if a0_0 = 7 then (if 0 < (l0_3.length : Int) then ((impl_walkTree_within.f ((rd_T70 l0_3 0).f0.f0) ((rd_T70 l0_3 0).f0.f1) ((rd_T70 l0_3 0).f0.f2) ((rd_T70 l0_3 0).f1) 3).bind fun t441 => (if t441.size + 1 ≤ 9223372036854775807 then (some (t441 ++ (⟨#[43]⟩ : ByteArray))) else (none))) else (none)) else (if a0_0 = 8 then (if 0 < (l0_3.length : Int) then ((impl_walkTree_within.f ((rd_T70 l0_3 0).f0.f0) ((rd_T70 l0_3 0).f0.f1) ((rd_T70 l0_3 0).f0.f2) ((rd_T70 l0_3 0).f1) 3).bind fun t443 => (if t443.size + 1 ≤ 9223372036854775807 then (some (t443 ++ (⟨#[63]⟩ : ByteArray))) else (none))) else (none)) else (some a0_1)))))))
set_option maxHeartbeats 8000000 in
set_option maxRecDepth 100000 in
theorem impl_walkTree_show1.calls (a0_0 : Int) (a0_1 : ByteArray) (a0_2 : Int) (A0_3 : Option Addr) (c0_3 : Nat) (l0_3 : List (S70)) (r : ByteArray) (w : World) (hr0_3 : Kd.C k70 w A0_3 l0_3.length l0_3) (hc0_3 : l0_3.length ≤ c0_3) (h : impl_walkTree_show1.f a0_0 a0_1 a0_2 l0_3 = some r) :
  Calls Try.prog 45 #[.agg #[.int .i64 a0_0, .string a0_1, .int .i64 a0_2, .slice A0_3 l0_3.length c0_3]] w fun e w' => e = .returned (.string r) ∧ Below w.heap.size w w' := by
 have hu70 := Try.underlying70
 have HR0_3 := Aside0.mk hr0_3
 have HC0_3 := Aside0.mk hc0_3
 clear hr0_3 hc0_3
 have HB := Aside0.mk (Below.refl w.heap.size w)
 have H : (if a0_0 = 2 then (if 1 + a0_1.size ≤ 9223372036854775807 then (some ((⟨#[94]⟩ : ByteArray) ++ a0_1)) else (none)) else (if a0_0 = 3 then (if 1 + a0_1.size ≤ 9223372036854775807 then (if ((⟨#[91]⟩ : ByteArray) ++ a0_1).size + 1 ≤ 9223372036854775807 then (some (((⟨#[91]⟩ : ByteArray) ++ a0_1) ++ (⟨#[93]⟩ : ByteArray))) else (none)) else (none)) else (if a0_0 = 4 then (if 0 < (l0_3.length : Int) then ((impl_walkTree_within.f ((rd_T70 l0_3 0).f0.f0) ((rd_T70 l0_3 0).f0.f1) ((rd_T70 l0_3 0).f0.f2) ((rd_T70 l0_3 0).f1) 2).bind fun t431 => (if t431.size + 1 ≤ 9223372036854775807 then (if 1 < (l0_3.length : Int) then ((impl_walkTree_within.f ((rd_T70 l0_3 1).f0.f0) ((rd_T70 l0_3 1).f0.f1) ((rd_T70 l0_3 1).f0.f2) ((rd_T70 l0_3 1).f1) 3).bind fun t433 => (if (t431 ++ (⟨#[47]⟩ : ByteArray)).size + t433.size ≤ 9223372036854775807 then (some ((t431 ++ (⟨#[47]⟩ : ByteArray)) ++ t433)) else (none))) else (none)) else (none))) else (none)) else (if a0_0 = 5 then (if 0 < (l0_3.length : Int) then ((impl_walkTree_within.f ((rd_T70 l0_3 0).f0.f0) ((rd_T70 l0_3 0).f0.f1) ((rd_T70 l0_3 0).f0.f2) ((rd_T70 l0_3 0).f1) 1).bind fun t435 => (if t435.size + 1 ≤ 9223372036854775807 then (if 1 < (l0_3.length : Int) then ((impl_walkTree_within.f ((rd_T70 l0_3 1).f0.f0) ((rd_T70 l0_3 1).f0.f1) ((rd_T70 l0_3 1).f0.f2) ((rd_T70 l0_3 1).f1) 2).bind fun t437 => (if (t435 ++ (⟨#[124]⟩ : ByteArray)).size + t437.size ≤ 9223372036854775807 then (some ((t435 ++ (⟨#[124]⟩ : ByteArray)) ++ t437)) else (none))) else (none)) else (none))) else (none)) else (if a0_0 = 6 then (if 0 < (l0_3.length : Int) then ((impl_walkTree_within.f ((rd_T70 l0_3 0).f0.f0) ((rd_T70 l0_3 0).f0.f1) ((rd_T70 l0_3 0).f0.f2) ((rd_T70 l0_3 0).f1) 3).bind fun t439 => (if t439.size + 1 ≤ 9223372036854775807 then (some (t439 ++ (⟨#[42]⟩ : ByteArray))) else (none))) else (none)) else (if a0_0 = 7 then (if 0 < (l0_3.length : Int) then ((impl_walkTree_within.f ((rd_T70 l0_3 0).f0.f0) ((rd_T70 l0_3 0).f0.f1) ((rd_T70 l0_3 0).f0.f2) ((rd_T70 l0_3 0).f1) 3).bind fun t441 => (if t441.size + 1 ≤ 9223372036854775807 then (some (t441 ++ (⟨#[43]⟩ : ByteArray))) else (none))) else (none)) else (if a0_0 = 8 then (if 0 < (l0_3.length : Int) then ((impl_walkTree_within.f ((rd_T70 l0_3 0).f0.f0) ((rd_T70 l0_3 0).f0.f1) ((rd_T70 l0_3 0).f0.f2) ((rd_T70 l0_3 0).f1) 3).bind fun t443 => (if t443.size + 1 ≤ 9223372036854775807 then (some (t443 ++ (⟨#[63]⟩ : ByteArray))) else (none))) else (none)) else (some a0_1)))))))) = some r := h
 clear h
 by_cases c2 : a0_0 = 2
 ·rw [if_pos c2] at H
  have c2b0 : (a0_0 == 2) = true := beq_iff_eq.mpr c2
  have c2b1 : (a0_0 != 2) = false := bne_eq_false_iff_eq.mpr c2
  clear c2
  by_cases c3 : 1 + a0_1.size ≤ 9223372036854775807
  ·rw [if_pos c3] at H
   have c3b0 := eq_true c3
   have c3b1 : decide (1 + a0_1.size ≤ 9223372036854775807) = true := decide_eq_true c3
   try have c3b2 : (9223372036854775807 < 1 + a0_1.size) = False := eq_false (Nat.not_lt.2 c3)
   obtain rfl := Option.some.inj H
   go_enter Try.func45, Try.ntmps45
   go_wp2_with (first | ((with_reducible refine gate_dst (N := 1) rfl ?_); refine box_event ?hg (N := 1) ?hd (cs := #[.int .i64 a0_0, .string a0_1, .int .i64 a0_2, .slice A0_3 l0_3.length c0_3]) (t := 70) ?hr ?_; (case hd => rfl); (case hg => rfl); (case hr => first | (go_simp; done) | (go_simp; rfl)); intro gb429 hg w4 hbox hb; have n_ := c4_ (below_step (a1_) hb) (hbox) ((by rw [hg]; exact (below_size (a1_)) : w.heap.size ≤ gb429)) ((by rw [hg]; exact (below_size (a1_)) : w.heap.size ≤ gb429)); clear HB; obtain ⟨HB, BK429, GW429, GE429⟩ := n_; clear hb hbox hg; obtain ⟨hcz5_0, hcz5_1, hcz5_2, hcz5_3, hfz5_0, hfz5_1, hfz5_2, hfz5_3⟩ := cf4_ BK429.out))
   go_ret
   exact ⟨a2_, a3_⟩
  ·rw [if_neg c3] at H
   exact absurd H (by simp)
 ·rw [if_neg c2] at H
  have c2b0 : (a0_0 == 2) = false := beq_eq_false_iff_ne.mpr c2
  have c2b1 : (a0_0 != 2) = true := bne_iff_ne.mpr c2
  by_cases c6 : a0_0 = 3
  ·rw [if_pos c6] at H
   have c6b0 : (a0_0 == 3) = true := beq_iff_eq.mpr c6
   have c6b1 : (a0_0 != 3) = false := bne_eq_false_iff_eq.mpr c6
   clear c6
   by_cases c7 : 1 + a0_1.size ≤ 9223372036854775807
   ·rw [if_pos c7] at H
    have c7b0 := eq_true c7
    have c7b1 : decide (1 + a0_1.size ≤ 9223372036854775807) = true := decide_eq_true c7
    try have c7b2 : (9223372036854775807 < 1 + a0_1.size) = False := eq_false (Nat.not_lt.2 c7)
    by_cases c8 : ((⟨#[91]⟩ : ByteArray) ++ a0_1).size + 1 ≤ 9223372036854775807
    ·rw [if_pos c8] at H
     have c8b0 := eq_true c8
     have c8s : (1 + (a0_1).size) + 1 ≤ 9223372036854775807 := by (have h_ := c8; (try simp only [ByteArray.size_append] at h_); first | exact h_ | omega)
     try have c8t : (9223372036854775807 < (1 + (a0_1).size) + 1) = False := eq_false (Nat.not_lt.2 c8s)
     have c8b1 : decide (((⟨#[91]⟩ : ByteArray) ++ a0_1).size + 1 ≤ 9223372036854775807) = true := decide_eq_true c8
     try have c8b2 : (9223372036854775807 < ((⟨#[91]⟩ : ByteArray) ++ a0_1).size + 1) = False := eq_false (Nat.not_lt.2 c8)
     obtain rfl := Option.some.inj H
     go_enter Try.func45, Try.ntmps45
     go_wp2_with (first | ((with_reducible refine gate_dst (N := 1) rfl ?_); refine box_event ?hg (N := 1) ?hd (cs := #[.int .i64 a0_0, .string a0_1, .int .i64 a0_2, .slice A0_3 l0_3.length c0_3]) (t := 70) ?hr ?_; (case hd => rfl); (case hg => rfl); (case hr => first | (go_simp; done) | (go_simp; rfl)); intro gb429 hg w9 hbox hb; have n_ := c4_ (below_step (a1_) hb) (hbox) ((by rw [hg]; exact (below_size (a1_)) : w.heap.size ≤ gb429)) ((by rw [hg]; exact (below_size (a1_)) : w.heap.size ≤ gb429)); clear HB; obtain ⟨HB, BK429, GW429, GE429⟩ := n_; clear hb hbox hg; obtain ⟨hcz10_0, hcz10_1, hcz10_2, hcz10_3, hfz10_0, hfz10_1, hfz10_2, hfz10_3⟩ := cf4_ BK429.out))
     go_ret
     exact ⟨a2_, a3_⟩
    ·rw [if_neg c8] at H
     exact absurd H (by simp)
   ·rw [if_neg c7] at H
    exact absurd H (by simp)
  ·rw [if_neg c6] at H
   have c6b0 : (a0_0 == 3) = false := beq_eq_false_iff_ne.mpr c6
   have c6b1 : (a0_0 != 3) = true := bne_iff_ne.mpr c6
   by_cases c11 : a0_0 = 4
   ·rw [if_pos c11] at H
    have c11b0 : (a0_0 == 4) = true := beq_iff_eq.mpr c11
    have c11b1 : (a0_0 != 4) = false := bne_eq_false_iff_eq.mpr c11
    clear c11
    by_cases c12 : 0 < (l0_3.length : Int)
    ·rw [if_pos c12] at H
     have c12b0 : decide (0 < (l0_3.length : Int)) = true := decide_eq_true c12
     have c12b1 : decide (0 < l0_3.length) = true := decide_eq_true (by omega)
     clear c12
     replace H := Option.bind_eq_some_iff.mp H
     obtain ⟨t431, A130, H⟩ := H
     try dsimp only at H
     have A13 := Aside0.mk A130
     clear A130
     by_cases c14 : t431.size + 1 ≤ 9223372036854775807
     ·rw [if_pos c14] at H
      have c14b0 := eq_true c14
      have c14b1 : decide (t431.size + 1 ≤ 9223372036854775807) = true := decide_eq_true c14
      try have c14b2 : (9223372036854775807 < t431.size + 1) = False := eq_false (Nat.not_lt.2 c14)
      by_cases c15 : 1 < (l0_3.length : Int)
      ·rw [if_pos c15] at H
       have c15b0 : decide (1 < (l0_3.length : Int)) = true := decide_eq_true c15
       have c15b1 : decide (1 < l0_3.length) = true := decide_eq_true (by omega)
       clear c15
       replace H := Option.bind_eq_some_iff.mp H
       obtain ⟨t433, A160, H⟩ := H
       try dsimp only at H
       have A16 := Aside0.mk A160
       clear A160
       by_cases c17 : (t431 ++ (⟨#[47]⟩ : ByteArray)).size + t433.size ≤ 9223372036854775807
       ·rw [if_pos c17] at H
        have c17b0 := eq_true c17
        have c17s : ((t431).size + 1) + ((t433).size) ≤ 9223372036854775807 := by (have h_ := c17; (try simp only [ByteArray.size_append] at h_); first | exact h_ | omega)
        try have c17t : (9223372036854775807 < ((t431).size + 1) + ((t433).size)) = False := eq_false (Nat.not_lt.2 c17s)
        have c17b1 : decide ((t431 ++ (⟨#[47]⟩ : ByteArray)).size + t433.size ≤ 9223372036854775807) = true := decide_eq_true c17
        try have c17b2 : (9223372036854775807 < (t431 ++ (⟨#[47]⟩ : ByteArray)).size + t433.size) = False := eq_false (Nat.not_lt.2 c17)
        obtain rfl := Option.some.inj H
        go_enter Try.func45, Try.ntmps45
        try go_wp2_with (first | ((with_reducible refine gate_dst (N := 1) rfl ?_); refine box_event ?hg (N := 1) ?hd (cs := #[.int .i64 a0_0, .string a0_1, .int .i64 a0_2, .slice A0_3 l0_3.length c0_3]) (t := 70) ?hr ?_; (case hd => rfl); (case hg => rfl); (case hr => first | (go_simp; done) | (go_simp; rfl)); intro gb429 hg w18 hbox hb; have n_ := c4_ (below_step (a1_) hb) (hbox) ((by rw [hg]; exact (below_size (a1_)) : w.heap.size ≤ gb429)) ((by rw [hg]; exact (below_size (a1_)) : w.heap.size ≤ gb429)); clear HB; obtain ⟨HB, BK429, GW429, GE429⟩ := n_; clear hb hbox hg; obtain ⟨hcz19_0, hcz19_1, hcz19_2, hcz19_3, hfz19_0, hfz19_1, hfz19_2, hfz19_3⟩ := cf4_ BK429.out))
        have n_ := c2_ (blk_drew BK429.out) (below_drew1 HB.out)
        clear BK429 HB
        obtain ⟨BK429, HB⟩ := n_
        have p430 : 0 ≤ (0 : Int) := (by omega)
        have q430 : 0 < (l0_3.length : Int) := of_decide_eq_true (by first | (with_reducible assumption) | assumption)
        obtain ⟨ad430, A430_3, c430_3, e430, hx430_0, hx430_1, hx430_2, hx430_3, hl430_3, hi430_3⟩ := at_T70 HR0_3.out 0 p430 q430
        have hw430_3 := hx430_3
        (try rw [show ((0 : Int)).toNat = 0 from rfl] at hw430_3)
        (try rw [show 0 * 4 = 0 from rfl] at hw430_3)
        (try rw [Addr.add_zero'] at hw430_3)
        have hw430_2 := hx430_2
        (try rw [show ((0 : Int)).toNat = 0 from rfl] at hw430_2)
        (try rw [show 0 * 4 = 0 from rfl] at hw430_2)
        (try rw [Addr.add_zero'] at hw430_2)
        have hw430_1 := hx430_1
        (try rw [show ((0 : Int)).toNat = 0 from rfl] at hw430_1)
        (try rw [show 0 * 4 = 0 from rfl] at hw430_1)
        (try rw [Addr.add_zero'] at hw430_1)
        have hw430_0 := hx430_0
        (try rw [show ((0 : Int)).toNat = 0 from rfl] at hw430_0)
        (try rw [show 0 * 4 = 0 from rfl] at hw430_0)
        (try rw [Addr.add_zero'] at hw430_0)
        cases e430
        have qi430 : (0 < l0_3.length) = True := eq_true (by omega)
        (try rw [show ((0 : Int)).toNat = 0 from rfl] at hx430_0)
        (try rw [show 0 * 4 = 0 from rfl] at hx430_0)
        (try rw [Addr.add_zero'] at hx430_0)
        (try rw [show ((0 : Int)).toNat = 0 from rfl] at hx430_1)
        (try rw [show 0 * 4 = 0 from rfl] at hx430_1)
        (try rw [Addr.add_zero'] at hx430_1)
        (try rw [show ((0 : Int)).toNat = 0 from rfl] at hx430_2)
        (try rw [show 0 * 4 = 0 from rfl] at hx430_2)
        (try rw [Addr.add_zero'] at hx430_2)
        (try rw [show ((0 : Int)).toNat = 0 from rfl] at hx430_3)
        (try rw [show 0 * 4 = 0 from rfl] at hx430_3)
        (try rw [Addr.add_zero'] at hx430_3)
        replace hx430_0 := (HB.out.cell (World.block_lt_of_cell? w _ hx430_0)).trans hx430_0
        replace hx430_1 := (HB.out.cell (World.block_lt_of_cell? w _ hx430_1)).trans hx430_1
        replace hx430_2 := (HB.out.cell (World.block_lt_of_cell? w _ hx430_2)).trans hx430_2
        replace hx430_3 := (HB.out.cell (World.block_lt_of_cell? w _ hx430_3)).trans hx430_3
        have HR430_3 := Aside0.mk hi430_3
        have HC430_3 := Aside0.mk hl430_3
        clear hi430_3 hl430_3
        replace p430 := eq_true p430
        replace q430 := eq_true q430
        have p432 : 0 ≤ (1 : Int) := (by omega)
        have q432 : 1 < (l0_3.length : Int) := of_decide_eq_true (by first | (with_reducible assumption) | assumption)
        obtain ⟨ad432, A432_3, c432_3, e432, hx432_0, hx432_1, hx432_2, hx432_3, hl432_3, hi432_3⟩ := at_T70 HR0_3.out 1 p432 q432
        have hw432_3 := hx432_3
        (try rw [show ((1 : Int)).toNat = 1 from rfl] at hw432_3)
        (try rw [show 1 * 4 = 4 from rfl] at hw432_3)
        (try simp only [Nat.reduceMul, Nat.reduceEqDiff, Go.Addr.add, ↓reduceIte] at hw432_3)
        have hw432_2 := hx432_2
        (try rw [show ((1 : Int)).toNat = 1 from rfl] at hw432_2)
        (try rw [show 1 * 4 = 4 from rfl] at hw432_2)
        (try simp only [Nat.reduceMul, Nat.reduceEqDiff, Go.Addr.add, ↓reduceIte] at hw432_2)
        have hw432_1 := hx432_1
        (try rw [show ((1 : Int)).toNat = 1 from rfl] at hw432_1)
        (try rw [show 1 * 4 = 4 from rfl] at hw432_1)
        (try simp only [Nat.reduceMul, Nat.reduceEqDiff, Go.Addr.add, ↓reduceIte] at hw432_1)
        have hw432_0 := hx432_0
        (try rw [show ((1 : Int)).toNat = 1 from rfl] at hw432_0)
        (try rw [show 1 * 4 = 4 from rfl] at hw432_0)
        (try simp only [Nat.reduceMul, Nat.reduceEqDiff, Go.Addr.add, ↓reduceIte] at hw432_0)
        obtain rfl : ad430 = ad432 := (by injection e432)
        (try simp only [show (1 : Int).toNat = 1 from rfl, Nat.reduceMul, Nat.reduceEqDiff, Go.Addr.add, ↓reduceIte] at hx432_0)
        (try simp only [show (1 : Int).toNat = 1 from rfl, Nat.reduceMul, Nat.reduceEqDiff, Go.Addr.add, ↓reduceIte] at hx432_1)
        (try simp only [show (1 : Int).toNat = 1 from rfl, Nat.reduceMul, Nat.reduceEqDiff, Go.Addr.add, ↓reduceIte] at hx432_2)
        (try simp only [show (1 : Int).toNat = 1 from rfl, Nat.reduceMul, Nat.reduceEqDiff, Go.Addr.add, ↓reduceIte] at hx432_3)
        have qi432 : (1 < l0_3.length) = True := eq_true (by omega)
        (try rw [show ((1 : Int)).toNat = 1 from rfl] at hx432_0)
        (try rw [show 1 * 4 = 4 from rfl] at hx432_0)
        (try rw [show ((1 : Int)).toNat = 1 from rfl] at hx432_1)
        (try rw [show 1 * 4 = 4 from rfl] at hx432_1)
        (try rw [show ((1 : Int)).toNat = 1 from rfl] at hx432_2)
        (try rw [show 1 * 4 = 4 from rfl] at hx432_2)
        (try rw [show ((1 : Int)).toNat = 1 from rfl] at hx432_3)
        (try rw [show 1 * 4 = 4 from rfl] at hx432_3)
        replace hx432_0 := (HB.out.cell (World.block_lt_of_cell? w _ hx432_0)).trans hx432_0
        replace hx432_1 := (HB.out.cell (World.block_lt_of_cell? w _ hx432_1)).trans hx432_1
        replace hx432_2 := (HB.out.cell (World.block_lt_of_cell? w _ hx432_2)).trans hx432_2
        replace hx432_3 := (HB.out.cell (World.block_lt_of_cell? w _ hx432_3)).trans hx432_3
        have HR432_3 := Aside0.mk hi432_3
        have HC432_3 := Aside0.mk hl432_3
        clear hi432_3 hl432_3
        replace p432 := eq_true p432
        replace q432 := eq_true q432
        refine start_ (n := 13) (S := fun w' => w'.cell? ⟨gb429, 0, none⟩ = some (.int .i64 a0_0) ∧ w'.cell? ⟨gb429, 1, none⟩ = some (.string a0_1) ∧ w'.cell? ⟨gb429, 2, none⟩ = some (.int .i64 a0_2) ∧ w'.cell? ⟨gb429, 3, none⟩ = some (.slice (some ad430) l0_3.length c0_3) ∧ w'.cell? ad430 = some (.int .i64 ((rd_T70 l0_3 0).f0.f0)) ∧ w'.cell? ⟨ad430.block, ad430.off + 1, none⟩ = some (.string ((rd_T70 l0_3 0).f0.f1)) ∧ w'.cell? ⟨ad430.block, ad430.off + 2, none⟩ = some (.int .i64 ((rd_T70 l0_3 0).f0.f2)) ∧ w'.cell? ⟨ad430.block, ad430.off + 3, none⟩ = some (.slice A430_3 ((rd_T70 l0_3 0).f1).length c430_3) ∧ w'.cell? ⟨ad430.block, ad430.off + 4, none⟩ = some (.int .i64 ((rd_T70 l0_3 1).f0.f0)) ∧ w'.cell? ⟨ad430.block, ad430.off + 4 + 1, none⟩ = some (.string ((rd_T70 l0_3 1).f0.f1)) ∧ w'.cell? ⟨ad430.block, ad430.off + 4 + 2, none⟩ = some (.int .i64 ((rd_T70 l0_3 1).f0.f2)) ∧ w'.cell? ⟨ad430.block, ad430.off + 4 + 3, none⟩ = some (.slice A432_3 ((rd_T70 l0_3 1).f1).length c432_3)) (ds := []) (bs_ 13 0) (by kernel_rfl) (by kernel_rfl) (by kernel_rfl) ⟨(blk_cell BK429.out 0).trans rfl, (blk_cell BK429.out 1).trans rfl, (blk_cell BK429.out 2).trans rfl, (blk_cell BK429.out 3).trans rfl, ((HB.out.cell (World.block_lt_of_cell? w _ hw430_0)).trans hw430_0), ((HB.out.cell (World.block_lt_of_cell? w _ hw430_1)).trans hw430_1), ((HB.out.cell (World.block_lt_of_cell? w _ hw430_2)).trans hw430_2), ((HB.out.cell (World.block_lt_of_cell? w _ hw430_3)).trans hw430_3), ((HB.out.cell (World.block_lt_of_cell? w _ hw432_0)).trans hw432_0), ((HB.out.cell (World.block_lt_of_cell? w _ hw432_1)).trans hw432_1), ((HB.out.cell (World.block_lt_of_cell? w _ hw432_2)).trans hw432_2), ((HB.out.cell (World.block_lt_of_cell? w _ hw432_3)).trans hw432_3)⟩ (fun hHeld => ?_); refine with_tabW impl_walkTree_show1.tab7 impl_walkTree_show1.bits7 (fun HT_ HW_ => ?_)
        generalize w18.drew = w20 at BK429 HB HR430_3 HR432_3 hx430_0 hx430_1 hx430_2 hx430_3 hx432_0 hx432_1 hx432_2 hx432_3 hHeld ⊢
        refine pu_ (i := 0) (N := some 21) 1 rfl rfl HT_ (Or.inl ⟨by rfl, by intro w'; go_simp; with_reducible rfl⟩) (by simp only [pt_]; rfl) ?_
        refine pu_ (i := 6) (N := some 27) 65 rfl rfl HT_ (Or.inl ⟨by rfl, by intro w'; go_simp; with_reducible rfl⟩) (by simp only [pt_]; rfl) ?_
        refine tk_ (i := 1) (N := some 22) 67 rfl rfl HT_ HW_ (Or.inl ⟨by rfl, a4_⟩) hHeld (by simp only [pt_]; rfl) ?_
        refine pu_ (i := 2) (N := some 23) 71 rfl rfl HT_ (Or.inl ⟨by rfl, by intro w'; go_simp; with_reducible rfl⟩) (by simp only [pt_]; rfl) ?_
        refine tk_ (i := 3) (N := some 24) 79 rfl rfl HT_ HW_ (Or.inl ⟨by rfl, a4_⟩) hHeld (by simp only [pt_]; rfl) ?_
        refine tk_ (i := 7) (N := some 28) 207 rfl rfl HT_ HW_ (Or.inl ⟨by rfl, a4_⟩) hHeld (by simp only [pt_]; rfl) ?_
        refine pu_ (i := 8) (N := some 29) 463 rfl rfl HT_ (Or.inl ⟨by rfl, by intro w'; go_simp; with_reducible rfl⟩) (by simp only [pt_]; rfl) ?_
        refine tk_ (i := 9) (N := some 30) 975 rfl rfl HT_ HW_ (Or.inl ⟨by rfl, a4_⟩) hHeld (by simp only [pt_]; rfl) ?_
        refine one_ (i := 4) (N := some 25) (bs_ 13 991) rfl rfl (one_of HT_.out (by kernel_rfl)) (by decide) (fun K hK => ?_)
        refine goes_ Try.func69 (by kernel_rfl) rfl #[.agg #[.int .i64 ((rd_T70 l0_3 0).f0.f0), .string ((rd_T70 l0_3 0).f0.f1), .int .i64 ((rd_T70 l0_3 0).f0.f2), .slice A430_3 ((rd_T70 l0_3 0).f1).length c430_3], .int .i64 2] (by rfl) rfl rfl (a5_) ?_
        with_reducible refine (impl_walkTree_within.calls ((rd_T70 l0_3 0).f0.f0) ((rd_T70 l0_3 0).f0.f1) ((rd_T70 l0_3 0).f0.f2) _ _ ((rd_T70 l0_3 0).f1) 2 t431 _ ?side1 ?side2 A13.out).mono ?_
        (case side1 => exact by repeat (first | exact (Kd.C_below HR430_3.out HB.out) | (with_reducible refine Kd.C_alloc ?_ _) | (with_reducible refine Kd.C_drewN ?_ _) | (with_reducible refine Kd.C_drew ?_)))
        (case side2 => exact HC430_3.out)
        rintro e w21 ⟨rfl, hb⟩
        refine ⟨_, rfl, ?_⟩
        have n_ := c2_ (blk_below (g := gb429) (o := .cells #[.int .i64 a0_0, .string a0_1, .int .i64 a0_2, .slice (some ad430) l0_3.length c0_3] 70 (0, 0)) (a6_) hb) (below_step (a3_) hb)
        clear BK429 HB
        obtain ⟨BK429, HB⟩ := n_
        (try clear hb)
        (try clear hb2)
        (try clear hk)
        (try clear hi)
        refine hK.out _ _ ⟨(blk_cell BK429.out 0).trans rfl, (blk_cell BK429.out 1).trans rfl, (blk_cell BK429.out 2).trans rfl, (blk_cell BK429.out 3).trans rfl, ((HB.out.cell (World.block_lt_of_cell? w _ hw430_0)).trans hw430_0), ((HB.out.cell (World.block_lt_of_cell? w _ hw430_1)).trans hw430_1), ((HB.out.cell (World.block_lt_of_cell? w _ hw430_2)).trans hw430_2), ((HB.out.cell (World.block_lt_of_cell? w _ hw430_3)).trans hw430_3), ((HB.out.cell (World.block_lt_of_cell? w _ hw432_0)).trans hw432_0), ((HB.out.cell (World.block_lt_of_cell? w _ hw432_1)).trans hw432_1), ((HB.out.cell (World.block_lt_of_cell? w _ hw432_2)).trans hw432_2), ((HB.out.cell (World.block_lt_of_cell? w _ hw432_3)).trans hw432_3)⟩ (fun hHeld => ?_)
        clear hK K
        refine norm_ (a' := ?_) ?_ ?_
        rotate_left
        ·show Act.put _ (some 25) _ = _
         simp only [pt_]
         rfl
        refine pu_ (i := 5) (N := some 26) 1023 rfl rfl HT_ (Or.inl ⟨by rfl, by intro w'; go_simp; with_reducible rfl⟩) (by simp only [pt_]; rfl) ?_
        refine one_ (i := 10) (N := some 31) (bs_ 13 2047) rfl rfl (one_of HT_.out (by kernel_rfl)) (by decide) (fun K hK => ?_)
        refine goes_ Try.func69 (by kernel_rfl) rfl #[.agg #[.int .i64 ((rd_T70 l0_3 1).f0.f0), .string ((rd_T70 l0_3 1).f0.f1), .int .i64 ((rd_T70 l0_3 1).f0.f2), .slice A432_3 ((rd_T70 l0_3 1).f1).length c432_3], .int .i64 3] (by rfl) rfl rfl (a5_) ?_
        with_reducible refine (impl_walkTree_within.calls ((rd_T70 l0_3 1).f0.f0) ((rd_T70 l0_3 1).f0.f1) ((rd_T70 l0_3 1).f0.f2) _ _ ((rd_T70 l0_3 1).f1) 3 t433 _ ?side1 ?side2 A16.out).mono ?_
        (case side1 => exact by repeat (first | exact (Kd.C_below HR432_3.out HB.out) | (with_reducible refine Kd.C_alloc ?_ _) | (with_reducible refine Kd.C_drewN ?_ _) | (with_reducible refine Kd.C_drew ?_)))
        (case side2 => exact HC432_3.out)
        rintro e w22 ⟨rfl, hb⟩
        refine ⟨_, rfl, ?_⟩
        have n_ := c2_ (blk_below (g := gb429) (o := .cells #[.int .i64 a0_0, .string a0_1, .int .i64 a0_2, .slice (some ad430) l0_3.length c0_3] 70 (0, 0)) (a6_) hb) (below_step (a3_) hb)
        clear BK429 HB
        obtain ⟨BK429, HB⟩ := n_
        (try clear hb)
        (try clear hb2)
        (try clear hk)
        (try clear hi)
        refine hK.out _ _ ⟨(blk_cell BK429.out 0).trans rfl, (blk_cell BK429.out 1).trans rfl, (blk_cell BK429.out 2).trans rfl, (blk_cell BK429.out 3).trans rfl, ((HB.out.cell (World.block_lt_of_cell? w _ hw430_0)).trans hw430_0), ((HB.out.cell (World.block_lt_of_cell? w _ hw430_1)).trans hw430_1), ((HB.out.cell (World.block_lt_of_cell? w _ hw430_2)).trans hw430_2), ((HB.out.cell (World.block_lt_of_cell? w _ hw430_3)).trans hw430_3), ((HB.out.cell (World.block_lt_of_cell? w _ hw432_0)).trans hw432_0), ((HB.out.cell (World.block_lt_of_cell? w _ hw432_1)).trans hw432_1), ((HB.out.cell (World.block_lt_of_cell? w _ hw432_2)).trans hw432_2), ((HB.out.cell (World.block_lt_of_cell? w _ hw432_3)).trans hw432_3)⟩ (fun hHeld => ?_)
        clear hK K
        refine norm_ (a' := ?_) ?_ ?_
        rotate_left
        ·show Act.put _ (some 31) _ = _
         simp only [pt_]
         rfl
        refine pu_ (i := 11) (N := some 32) 4095 rfl rfl HT_ (Or.inl ⟨by rfl, by intro w'; go_simp; with_reducible rfl⟩) (by simp only [pt_]; rfl) ?_
        refine pu_ (i := 12) (N := some 2) 8191 rfl rfl HT_ (Or.inl ⟨by rfl, by intro w'; go_simp; with_reducible rfl⟩) (by simp only [pt_]; rfl) ?_
        refine done_ (done_of HT_.out (by kernel_rfl)) ?_
        try go_wp2
        go_ret
        exact ⟨a2_, a3_⟩
       ·rw [if_neg c17] at H
        exact absurd H (by simp)
      ·rw [if_neg c15] at H
       exact absurd H (by simp)
     ·rw [if_neg c14] at H
      exact absurd H (by simp)
    ·rw [if_neg c12] at H
     exact absurd H (by simp)
   ·rw [if_neg c11] at H
    have c11b0 : (a0_0 == 4) = false := beq_eq_false_iff_ne.mpr c11
    have c11b1 : (a0_0 != 4) = true := bne_iff_ne.mpr c11
    by_cases c23 : a0_0 = 5
    ·rw [if_pos c23] at H
     have c23b0 : (a0_0 == 5) = true := beq_iff_eq.mpr c23
     have c23b1 : (a0_0 != 5) = false := bne_eq_false_iff_eq.mpr c23
     clear c23
     by_cases c24 : 0 < (l0_3.length : Int)
     ·rw [if_pos c24] at H
      have c24b0 : decide (0 < (l0_3.length : Int)) = true := decide_eq_true c24
      have c24b1 : decide (0 < l0_3.length) = true := decide_eq_true (by omega)
      clear c24
      replace H := Option.bind_eq_some_iff.mp H
      obtain ⟨t435, A250, H⟩ := H
      try dsimp only at H
      have A25 := Aside0.mk A250
      clear A250
      by_cases c26 : t435.size + 1 ≤ 9223372036854775807
      ·rw [if_pos c26] at H
       have c26b0 := eq_true c26
       have c26b1 : decide (t435.size + 1 ≤ 9223372036854775807) = true := decide_eq_true c26
       try have c26b2 : (9223372036854775807 < t435.size + 1) = False := eq_false (Nat.not_lt.2 c26)
       by_cases c27 : 1 < (l0_3.length : Int)
       ·rw [if_pos c27] at H
        have c27b0 : decide (1 < (l0_3.length : Int)) = true := decide_eq_true c27
        have c27b1 : decide (1 < l0_3.length) = true := decide_eq_true (by omega)
        clear c27
        replace H := Option.bind_eq_some_iff.mp H
        obtain ⟨t437, A280, H⟩ := H
        try dsimp only at H
        have A28 := Aside0.mk A280
        clear A280
        by_cases c29 : (t435 ++ (⟨#[124]⟩ : ByteArray)).size + t437.size ≤ 9223372036854775807
        ·rw [if_pos c29] at H
         have c29b0 := eq_true c29
         have c29s : ((t435).size + 1) + ((t437).size) ≤ 9223372036854775807 := by (have h_ := c29; (try simp only [ByteArray.size_append] at h_); first | exact h_ | omega)
         try have c29t : (9223372036854775807 < ((t435).size + 1) + ((t437).size)) = False := eq_false (Nat.not_lt.2 c29s)
         have c29b1 : decide ((t435 ++ (⟨#[124]⟩ : ByteArray)).size + t437.size ≤ 9223372036854775807) = true := decide_eq_true c29
         try have c29b2 : (9223372036854775807 < (t435 ++ (⟨#[124]⟩ : ByteArray)).size + t437.size) = False := eq_false (Nat.not_lt.2 c29)
         obtain rfl := Option.some.inj H
         go_enter Try.func45, Try.ntmps45
         try go_wp2_with (first | ((with_reducible refine gate_dst (N := 1) rfl ?_); refine box_event ?hg (N := 1) ?hd (cs := #[.int .i64 a0_0, .string a0_1, .int .i64 a0_2, .slice A0_3 l0_3.length c0_3]) (t := 70) ?hr ?_; (case hd => rfl); (case hg => rfl); (case hr => first | (go_simp; done) | (go_simp; rfl)); intro gb429 hg w30 hbox hb; have n_ := c4_ (below_step (a1_) hb) (hbox) ((by rw [hg]; exact (below_size (a1_)) : w.heap.size ≤ gb429)) ((by rw [hg]; exact (below_size (a1_)) : w.heap.size ≤ gb429)); clear HB; obtain ⟨HB, BK429, GW429, GE429⟩ := n_; clear hb hbox hg; obtain ⟨hcz31_0, hcz31_1, hcz31_2, hcz31_3, hfz31_0, hfz31_1, hfz31_2, hfz31_3⟩ := cf4_ BK429.out))
         have n_ := c2_ (blk_drew BK429.out) (below_drew1 HB.out)
         clear BK429 HB
         obtain ⟨BK429, HB⟩ := n_
         have p434 : 0 ≤ (0 : Int) := (by omega)
         have q434 : 0 < (l0_3.length : Int) := of_decide_eq_true (by first | (with_reducible assumption) | assumption)
         obtain ⟨ad434, A434_3, c434_3, e434, hx434_0, hx434_1, hx434_2, hx434_3, hl434_3, hi434_3⟩ := at_T70 HR0_3.out 0 p434 q434
         have hw434_3 := hx434_3
         (try rw [show ((0 : Int)).toNat = 0 from rfl] at hw434_3)
         (try rw [show 0 * 4 = 0 from rfl] at hw434_3)
         (try rw [Addr.add_zero'] at hw434_3)
         have hw434_2 := hx434_2
         (try rw [show ((0 : Int)).toNat = 0 from rfl] at hw434_2)
         (try rw [show 0 * 4 = 0 from rfl] at hw434_2)
         (try rw [Addr.add_zero'] at hw434_2)
         have hw434_1 := hx434_1
         (try rw [show ((0 : Int)).toNat = 0 from rfl] at hw434_1)
         (try rw [show 0 * 4 = 0 from rfl] at hw434_1)
         (try rw [Addr.add_zero'] at hw434_1)
         have hw434_0 := hx434_0
         (try rw [show ((0 : Int)).toNat = 0 from rfl] at hw434_0)
         (try rw [show 0 * 4 = 0 from rfl] at hw434_0)
         (try rw [Addr.add_zero'] at hw434_0)
         cases e434
         have qi434 : (0 < l0_3.length) = True := eq_true (by omega)
         (try rw [show ((0 : Int)).toNat = 0 from rfl] at hx434_0)
         (try rw [show 0 * 4 = 0 from rfl] at hx434_0)
         (try rw [Addr.add_zero'] at hx434_0)
         (try rw [show ((0 : Int)).toNat = 0 from rfl] at hx434_1)
         (try rw [show 0 * 4 = 0 from rfl] at hx434_1)
         (try rw [Addr.add_zero'] at hx434_1)
         (try rw [show ((0 : Int)).toNat = 0 from rfl] at hx434_2)
         (try rw [show 0 * 4 = 0 from rfl] at hx434_2)
         (try rw [Addr.add_zero'] at hx434_2)
         (try rw [show ((0 : Int)).toNat = 0 from rfl] at hx434_3)
         (try rw [show 0 * 4 = 0 from rfl] at hx434_3)
         (try rw [Addr.add_zero'] at hx434_3)
         replace hx434_0 := (HB.out.cell (World.block_lt_of_cell? w _ hx434_0)).trans hx434_0
         replace hx434_1 := (HB.out.cell (World.block_lt_of_cell? w _ hx434_1)).trans hx434_1
         replace hx434_2 := (HB.out.cell (World.block_lt_of_cell? w _ hx434_2)).trans hx434_2
         replace hx434_3 := (HB.out.cell (World.block_lt_of_cell? w _ hx434_3)).trans hx434_3
         have HR434_3 := Aside0.mk hi434_3
         have HC434_3 := Aside0.mk hl434_3
         clear hi434_3 hl434_3
         replace p434 := eq_true p434
         replace q434 := eq_true q434
         have p436 : 0 ≤ (1 : Int) := (by omega)
         have q436 : 1 < (l0_3.length : Int) := of_decide_eq_true (by first | (with_reducible assumption) | assumption)
         obtain ⟨ad436, A436_3, c436_3, e436, hx436_0, hx436_1, hx436_2, hx436_3, hl436_3, hi436_3⟩ := at_T70 HR0_3.out 1 p436 q436
         have hw436_3 := hx436_3
         (try rw [show ((1 : Int)).toNat = 1 from rfl] at hw436_3)
         (try rw [show 1 * 4 = 4 from rfl] at hw436_3)
         (try simp only [Nat.reduceMul, Nat.reduceEqDiff, Go.Addr.add, ↓reduceIte] at hw436_3)
         have hw436_2 := hx436_2
         (try rw [show ((1 : Int)).toNat = 1 from rfl] at hw436_2)
         (try rw [show 1 * 4 = 4 from rfl] at hw436_2)
         (try simp only [Nat.reduceMul, Nat.reduceEqDiff, Go.Addr.add, ↓reduceIte] at hw436_2)
         have hw436_1 := hx436_1
         (try rw [show ((1 : Int)).toNat = 1 from rfl] at hw436_1)
         (try rw [show 1 * 4 = 4 from rfl] at hw436_1)
         (try simp only [Nat.reduceMul, Nat.reduceEqDiff, Go.Addr.add, ↓reduceIte] at hw436_1)
         have hw436_0 := hx436_0
         (try rw [show ((1 : Int)).toNat = 1 from rfl] at hw436_0)
         (try rw [show 1 * 4 = 4 from rfl] at hw436_0)
         (try simp only [Nat.reduceMul, Nat.reduceEqDiff, Go.Addr.add, ↓reduceIte] at hw436_0)
         obtain rfl : ad434 = ad436 := (by injection e436)
         (try simp only [show (1 : Int).toNat = 1 from rfl, Nat.reduceMul, Nat.reduceEqDiff, Go.Addr.add, ↓reduceIte] at hx436_0)
         (try simp only [show (1 : Int).toNat = 1 from rfl, Nat.reduceMul, Nat.reduceEqDiff, Go.Addr.add, ↓reduceIte] at hx436_1)
         (try simp only [show (1 : Int).toNat = 1 from rfl, Nat.reduceMul, Nat.reduceEqDiff, Go.Addr.add, ↓reduceIte] at hx436_2)
         (try simp only [show (1 : Int).toNat = 1 from rfl, Nat.reduceMul, Nat.reduceEqDiff, Go.Addr.add, ↓reduceIte] at hx436_3)
         have qi436 : (1 < l0_3.length) = True := eq_true (by omega)
         (try rw [show ((1 : Int)).toNat = 1 from rfl] at hx436_0)
         (try rw [show 1 * 4 = 4 from rfl] at hx436_0)
         (try rw [show ((1 : Int)).toNat = 1 from rfl] at hx436_1)
         (try rw [show 1 * 4 = 4 from rfl] at hx436_1)
         (try rw [show ((1 : Int)).toNat = 1 from rfl] at hx436_2)
         (try rw [show 1 * 4 = 4 from rfl] at hx436_2)
         (try rw [show ((1 : Int)).toNat = 1 from rfl] at hx436_3)
         (try rw [show 1 * 4 = 4 from rfl] at hx436_3)
         replace hx436_0 := (HB.out.cell (World.block_lt_of_cell? w _ hx436_0)).trans hx436_0
         replace hx436_1 := (HB.out.cell (World.block_lt_of_cell? w _ hx436_1)).trans hx436_1
         replace hx436_2 := (HB.out.cell (World.block_lt_of_cell? w _ hx436_2)).trans hx436_2
         replace hx436_3 := (HB.out.cell (World.block_lt_of_cell? w _ hx436_3)).trans hx436_3
         have HR436_3 := Aside0.mk hi436_3
         have HC436_3 := Aside0.mk hl436_3
         clear hi436_3 hl436_3
         replace p436 := eq_true p436
         replace q436 := eq_true q436
         refine start_ (n := 13) (S := fun w' => w'.cell? ⟨gb429, 0, none⟩ = some (.int .i64 a0_0) ∧ w'.cell? ⟨gb429, 1, none⟩ = some (.string a0_1) ∧ w'.cell? ⟨gb429, 2, none⟩ = some (.int .i64 a0_2) ∧ w'.cell? ⟨gb429, 3, none⟩ = some (.slice (some ad434) l0_3.length c0_3) ∧ w'.cell? ad434 = some (.int .i64 ((rd_T70 l0_3 0).f0.f0)) ∧ w'.cell? ⟨ad434.block, ad434.off + 1, none⟩ = some (.string ((rd_T70 l0_3 0).f0.f1)) ∧ w'.cell? ⟨ad434.block, ad434.off + 2, none⟩ = some (.int .i64 ((rd_T70 l0_3 0).f0.f2)) ∧ w'.cell? ⟨ad434.block, ad434.off + 3, none⟩ = some (.slice A434_3 ((rd_T70 l0_3 0).f1).length c434_3) ∧ w'.cell? ⟨ad434.block, ad434.off + 4, none⟩ = some (.int .i64 ((rd_T70 l0_3 1).f0.f0)) ∧ w'.cell? ⟨ad434.block, ad434.off + 4 + 1, none⟩ = some (.string ((rd_T70 l0_3 1).f0.f1)) ∧ w'.cell? ⟨ad434.block, ad434.off + 4 + 2, none⟩ = some (.int .i64 ((rd_T70 l0_3 1).f0.f2)) ∧ w'.cell? ⟨ad434.block, ad434.off + 4 + 3, none⟩ = some (.slice A436_3 ((rd_T70 l0_3 1).f1).length c436_3)) (ds := []) (bs_ 13 0) (by kernel_rfl) (by kernel_rfl) (by kernel_rfl) ⟨(blk_cell BK429.out 0).trans rfl, (blk_cell BK429.out 1).trans rfl, (blk_cell BK429.out 2).trans rfl, (blk_cell BK429.out 3).trans rfl, ((HB.out.cell (World.block_lt_of_cell? w _ hw434_0)).trans hw434_0), ((HB.out.cell (World.block_lt_of_cell? w _ hw434_1)).trans hw434_1), ((HB.out.cell (World.block_lt_of_cell? w _ hw434_2)).trans hw434_2), ((HB.out.cell (World.block_lt_of_cell? w _ hw434_3)).trans hw434_3), ((HB.out.cell (World.block_lt_of_cell? w _ hw436_0)).trans hw436_0), ((HB.out.cell (World.block_lt_of_cell? w _ hw436_1)).trans hw436_1), ((HB.out.cell (World.block_lt_of_cell? w _ hw436_2)).trans hw436_2), ((HB.out.cell (World.block_lt_of_cell? w _ hw436_3)).trans hw436_3)⟩ (fun hHeld => ?_); refine with_tabW impl_walkTree_show1.tab9 impl_walkTree_show1.bits9 (fun HT_ HW_ => ?_)
         generalize w30.drew = w32 at BK429 HB HR434_3 HR436_3 hx434_0 hx434_1 hx434_2 hx434_3 hx436_0 hx436_1 hx436_2 hx436_3 hHeld ⊢
         refine pu_ (i := 0) (N := some 35) 1 rfl rfl HT_ (Or.inl ⟨by rfl, by intro w'; go_simp; with_reducible rfl⟩) (by simp only [pt_]; rfl) ?_
         refine pu_ (i := 6) (N := some 41) 65 rfl rfl HT_ (Or.inl ⟨by rfl, by intro w'; go_simp; with_reducible rfl⟩) (by simp only [pt_]; rfl) ?_
         refine tk_ (i := 1) (N := some 36) 67 rfl rfl HT_ HW_ (Or.inl ⟨by rfl, a4_⟩) hHeld (by simp only [pt_]; rfl) ?_
         refine pu_ (i := 2) (N := some 37) 71 rfl rfl HT_ (Or.inl ⟨by rfl, by intro w'; go_simp; with_reducible rfl⟩) (by simp only [pt_]; rfl) ?_
         refine tk_ (i := 3) (N := some 38) 79 rfl rfl HT_ HW_ (Or.inl ⟨by rfl, a4_⟩) hHeld (by simp only [pt_]; rfl) ?_
         refine tk_ (i := 7) (N := some 42) 207 rfl rfl HT_ HW_ (Or.inl ⟨by rfl, a4_⟩) hHeld (by simp only [pt_]; rfl) ?_
         refine pu_ (i := 8) (N := some 43) 463 rfl rfl HT_ (Or.inl ⟨by rfl, by intro w'; go_simp; with_reducible rfl⟩) (by simp only [pt_]; rfl) ?_
         refine tk_ (i := 9) (N := some 44) 975 rfl rfl HT_ HW_ (Or.inl ⟨by rfl, a4_⟩) hHeld (by simp only [pt_]; rfl) ?_
         refine one_ (i := 4) (N := some 39) (bs_ 13 991) rfl rfl (one_of HT_.out (by kernel_rfl)) (by decide) (fun K hK => ?_)
         refine goes_ Try.func69 (by kernel_rfl) rfl #[.agg #[.int .i64 ((rd_T70 l0_3 0).f0.f0), .string ((rd_T70 l0_3 0).f0.f1), .int .i64 ((rd_T70 l0_3 0).f0.f2), .slice A434_3 ((rd_T70 l0_3 0).f1).length c434_3], .int .i64 1] (by rfl) rfl rfl (a5_) ?_
         with_reducible refine (impl_walkTree_within.calls ((rd_T70 l0_3 0).f0.f0) ((rd_T70 l0_3 0).f0.f1) ((rd_T70 l0_3 0).f0.f2) _ _ ((rd_T70 l0_3 0).f1) 1 t435 _ ?side1 ?side2 A25.out).mono ?_
         (case side1 => exact by repeat (first | exact (Kd.C_below HR434_3.out HB.out) | (with_reducible refine Kd.C_alloc ?_ _) | (with_reducible refine Kd.C_drewN ?_ _) | (with_reducible refine Kd.C_drew ?_)))
         (case side2 => exact HC434_3.out)
         rintro e w33 ⟨rfl, hb⟩
         refine ⟨_, rfl, ?_⟩
         have n_ := c2_ (blk_below (g := gb429) (o := .cells #[.int .i64 a0_0, .string a0_1, .int .i64 a0_2, .slice (some ad434) l0_3.length c0_3] 70 (0, 0)) (a6_) hb) (below_step (a3_) hb)
         clear BK429 HB
         obtain ⟨BK429, HB⟩ := n_
         (try clear hb)
         (try clear hb2)
         (try clear hk)
         (try clear hi)
         refine hK.out _ _ ⟨(blk_cell BK429.out 0).trans rfl, (blk_cell BK429.out 1).trans rfl, (blk_cell BK429.out 2).trans rfl, (blk_cell BK429.out 3).trans rfl, ((HB.out.cell (World.block_lt_of_cell? w _ hw434_0)).trans hw434_0), ((HB.out.cell (World.block_lt_of_cell? w _ hw434_1)).trans hw434_1), ((HB.out.cell (World.block_lt_of_cell? w _ hw434_2)).trans hw434_2), ((HB.out.cell (World.block_lt_of_cell? w _ hw434_3)).trans hw434_3), ((HB.out.cell (World.block_lt_of_cell? w _ hw436_0)).trans hw436_0), ((HB.out.cell (World.block_lt_of_cell? w _ hw436_1)).trans hw436_1), ((HB.out.cell (World.block_lt_of_cell? w _ hw436_2)).trans hw436_2), ((HB.out.cell (World.block_lt_of_cell? w _ hw436_3)).trans hw436_3)⟩ (fun hHeld => ?_)
         clear hK K
         refine norm_ (a' := ?_) ?_ ?_
         rotate_left
         ·show Act.put _ (some 39) _ = _
          simp only [pt_]
          rfl
         refine pu_ (i := 5) (N := some 40) 1023 rfl rfl HT_ (Or.inl ⟨by rfl, by intro w'; go_simp; with_reducible rfl⟩) (by simp only [pt_]; rfl) ?_
         refine one_ (i := 10) (N := some 45) (bs_ 13 2047) rfl rfl (one_of HT_.out (by kernel_rfl)) (by decide) (fun K hK => ?_)
         refine goes_ Try.func69 (by kernel_rfl) rfl #[.agg #[.int .i64 ((rd_T70 l0_3 1).f0.f0), .string ((rd_T70 l0_3 1).f0.f1), .int .i64 ((rd_T70 l0_3 1).f0.f2), .slice A436_3 ((rd_T70 l0_3 1).f1).length c436_3], .int .i64 2] (by rfl) rfl rfl (a5_) ?_
         with_reducible refine (impl_walkTree_within.calls ((rd_T70 l0_3 1).f0.f0) ((rd_T70 l0_3 1).f0.f1) ((rd_T70 l0_3 1).f0.f2) _ _ ((rd_T70 l0_3 1).f1) 2 t437 _ ?side1 ?side2 A28.out).mono ?_
         (case side1 => exact by repeat (first | exact (Kd.C_below HR436_3.out HB.out) | (with_reducible refine Kd.C_alloc ?_ _) | (with_reducible refine Kd.C_drewN ?_ _) | (with_reducible refine Kd.C_drew ?_)))
         (case side2 => exact HC436_3.out)
         rintro e w34 ⟨rfl, hb⟩
         refine ⟨_, rfl, ?_⟩
         have n_ := c2_ (blk_below (g := gb429) (o := .cells #[.int .i64 a0_0, .string a0_1, .int .i64 a0_2, .slice (some ad434) l0_3.length c0_3] 70 (0, 0)) (a6_) hb) (below_step (a3_) hb)
         clear BK429 HB
         obtain ⟨BK429, HB⟩ := n_
         (try clear hb)
         (try clear hb2)
         (try clear hk)
         (try clear hi)
         refine hK.out _ _ ⟨(blk_cell BK429.out 0).trans rfl, (blk_cell BK429.out 1).trans rfl, (blk_cell BK429.out 2).trans rfl, (blk_cell BK429.out 3).trans rfl, ((HB.out.cell (World.block_lt_of_cell? w _ hw434_0)).trans hw434_0), ((HB.out.cell (World.block_lt_of_cell? w _ hw434_1)).trans hw434_1), ((HB.out.cell (World.block_lt_of_cell? w _ hw434_2)).trans hw434_2), ((HB.out.cell (World.block_lt_of_cell? w _ hw434_3)).trans hw434_3), ((HB.out.cell (World.block_lt_of_cell? w _ hw436_0)).trans hw436_0), ((HB.out.cell (World.block_lt_of_cell? w _ hw436_1)).trans hw436_1), ((HB.out.cell (World.block_lt_of_cell? w _ hw436_2)).trans hw436_2), ((HB.out.cell (World.block_lt_of_cell? w _ hw436_3)).trans hw436_3)⟩ (fun hHeld => ?_)
         clear hK K
         refine norm_ (a' := ?_) ?_ ?_
         rotate_left
         ·show Act.put _ (some 45) _ = _
          simp only [pt_]
          rfl
         refine pu_ (i := 11) (N := some 46) 4095 rfl rfl HT_ (Or.inl ⟨by rfl, by intro w'; go_simp; with_reducible rfl⟩) (by simp only [pt_]; rfl) ?_
         refine pu_ (i := 12) (N := some 2) 8191 rfl rfl HT_ (Or.inl ⟨by rfl, by intro w'; go_simp; with_reducible rfl⟩) (by simp only [pt_]; rfl) ?_
         refine done_ (done_of HT_.out (by kernel_rfl)) ?_
         try go_wp2
         go_ret
         exact ⟨a2_, a3_⟩
        ·rw [if_neg c29] at H
         exact absurd H (by simp)
       ·rw [if_neg c27] at H
        exact absurd H (by simp)
      ·rw [if_neg c26] at H
       exact absurd H (by simp)
     ·rw [if_neg c24] at H
      exact absurd H (by simp)
    ·rw [if_neg c23] at H
     have c23b0 : (a0_0 == 5) = false := beq_eq_false_iff_ne.mpr c23
     have c23b1 : (a0_0 != 5) = true := bne_iff_ne.mpr c23
     by_cases c35 : a0_0 = 6
     ·rw [if_pos c35] at H
      have c35b0 : (a0_0 == 6) = true := beq_iff_eq.mpr c35
      have c35b1 : (a0_0 != 6) = false := bne_eq_false_iff_eq.mpr c35
      clear c35
      by_cases c36 : 0 < (l0_3.length : Int)
      ·rw [if_pos c36] at H
       have c36b0 : decide (0 < (l0_3.length : Int)) = true := decide_eq_true c36
       have c36b1 : decide (0 < l0_3.length) = true := decide_eq_true (by omega)
       clear c36
       replace H := Option.bind_eq_some_iff.mp H
       obtain ⟨t439, A370, H⟩ := H
       try dsimp only at H
       have A37 := Aside0.mk A370
       clear A370
       by_cases c38 : t439.size + 1 ≤ 9223372036854775807
       ·rw [if_pos c38] at H
        have c38b0 := eq_true c38
        have c38b1 : decide (t439.size + 1 ≤ 9223372036854775807) = true := decide_eq_true c38
        try have c38b2 : (9223372036854775807 < t439.size + 1) = False := eq_false (Nat.not_lt.2 c38)
        obtain rfl := Option.some.inj H
        go_enter Try.func45, Try.ntmps45
        go_wp2_with (first | ((with_reducible refine gate_dst (N := 1) rfl ?_); refine box_event ?hg (N := 1) ?hd (cs := #[.int .i64 a0_0, .string a0_1, .int .i64 a0_2, .slice A0_3 l0_3.length c0_3]) (t := 70) ?hr ?_; (case hd => rfl); (case hg => rfl); (case hr => first | (go_simp; done) | (go_simp; rfl)); intro gb429 hg w39 hbox hb; have n_ := c4_ (below_step (a1_) hb) (hbox) ((by rw [hg]; exact (below_size (a1_)) : w.heap.size ≤ gb429)) ((by rw [hg]; exact (below_size (a1_)) : w.heap.size ≤ gb429)); clear HB; obtain ⟨HB, BK429, GW429, GE429⟩ := n_; clear hb hbox hg; obtain ⟨hcz40_0, hcz40_1, hcz40_2, hcz40_3, hfz40_0, hfz40_1, hfz40_2, hfz40_3⟩ := cf4_ BK429.out; have p438 : 0 ≤ (0 : Int) := (by omega); have q438 : 0 < (l0_3.length : Int) := of_decide_eq_true (by first | (with_reducible assumption) | assumption); obtain ⟨ad438, A438_3, c438_3, e438, hx438_0, hx438_1, hx438_2, hx438_3, hl438_3, hi438_3⟩ := at_T70 HR0_3.out 0 p438 q438; cases e438; have qi438 : (0 < l0_3.length) = True := eq_true (by omega); (try rw [show ((0 : Int)).toNat = 0 from rfl] at hx438_0); (try rw [show 0 * 4 = 0 from rfl] at hx438_0); (try rw [Addr.add_zero'] at hx438_0); (try rw [show ((0 : Int)).toNat = 0 from rfl] at hx438_1); (try rw [show 0 * 4 = 0 from rfl] at hx438_1); (try rw [Addr.add_zero'] at hx438_1); (try rw [show ((0 : Int)).toNat = 0 from rfl] at hx438_2); (try rw [show 0 * 4 = 0 from rfl] at hx438_2); (try rw [Addr.add_zero'] at hx438_2); (try rw [show ((0 : Int)).toNat = 0 from rfl] at hx438_3); (try rw [show 0 * 4 = 0 from rfl] at hx438_3); (try rw [Addr.add_zero'] at hx438_3); replace hx438_0 := (HB.out.cell (World.block_lt_of_cell? w _ hx438_0)).trans hx438_0; replace hx438_1 := (HB.out.cell (World.block_lt_of_cell? w _ hx438_1)).trans hx438_1; replace hx438_2 := (HB.out.cell (World.block_lt_of_cell? w _ hx438_2)).trans hx438_2; replace hx438_3 := (HB.out.cell (World.block_lt_of_cell? w _ hx438_3)).trans hx438_3; have HR438_3 := Aside0.mk hi438_3; have HC438_3 := Aside0.mk hl438_3; clear hi438_3 hl438_3; replace p438 := eq_true p438; replace q438 := eq_true q438) | ((with_reducible refine gate_callee (f := 69) rfl ?_); refine goesL_ (some 53) rfl rfl Try.func69 (by kernel_rfl) rfl #[.agg #[.int .i64 ((rd_T70 l0_3 0).f0.f0), .string ((rd_T70 l0_3 0).f0.f1), .int .i64 ((rd_T70 l0_3 0).f0.f2), .slice A438_3 ((rd_T70 l0_3 0).f1).length c438_3], .int .i64 3] rfl (a5_) ?_; (with_reducible refine (impl_walkTree_within.calls ((rd_T70 l0_3 0).f0.f0) ((rd_T70 l0_3 0).f0.f1) ((rd_T70 l0_3 0).f0.f2) _ _ ((rd_T70 l0_3 0).f1) 3 t439 _ ?side1 ?side2 A37.out).mono ?_); (case side1 => exact by repeat (first | exact (Kd.C_below HR438_3.out HB.out) | (with_reducible refine Kd.C_alloc ?_ _) | (with_reducible refine Kd.C_drewN ?_ _) | (with_reducible refine Kd.C_drew ?_))); (case side2 => exact HC438_3.out); rintro e w41 ⟨rfl, hb⟩; refine ⟨_, rfl, ?_⟩; have n_ := c2_ (blk_below (g := gb429) (o := .cells #[.int .i64 a0_0, .string a0_1, .int .i64 a0_2, .slice (some ad438) l0_3.length c0_3] 70 (0, 0)) (a6_) hb) (below_step (a3_) hb); clear BK429 HB; obtain ⟨BK429, HB⟩ := n_; (try clear hb); (try clear hb2); (try clear hk); (try clear hi)))
        go_ret
        exact ⟨a2_, a3_⟩
       ·rw [if_neg c38] at H
        exact absurd H (by simp)
      ·rw [if_neg c36] at H
       exact absurd H (by simp)
     ·rw [if_neg c35] at H
      have c35b0 : (a0_0 == 6) = false := beq_eq_false_iff_ne.mpr c35
      have c35b1 : (a0_0 != 6) = true := bne_iff_ne.mpr c35
      by_cases c42 : a0_0 = 7
      ·rw [if_pos c42] at H
       have c42b0 : (a0_0 == 7) = true := beq_iff_eq.mpr c42
       have c42b1 : (a0_0 != 7) = false := bne_eq_false_iff_eq.mpr c42
       clear c42
       by_cases c43 : 0 < (l0_3.length : Int)
       ·rw [if_pos c43] at H
        have c43b0 : decide (0 < (l0_3.length : Int)) = true := decide_eq_true c43
        have c43b1 : decide (0 < l0_3.length) = true := decide_eq_true (by omega)
        clear c43
        replace H := Option.bind_eq_some_iff.mp H
        obtain ⟨t441, A440, H⟩ := H
        try dsimp only at H
        have A44 := Aside0.mk A440
        clear A440
        by_cases c45 : t441.size + 1 ≤ 9223372036854775807
        ·rw [if_pos c45] at H
         have c45b0 := eq_true c45
         have c45b1 : decide (t441.size + 1 ≤ 9223372036854775807) = true := decide_eq_true c45
         try have c45b2 : (9223372036854775807 < t441.size + 1) = False := eq_false (Nat.not_lt.2 c45)
         obtain rfl := Option.some.inj H
         go_enter Try.func45, Try.ntmps45
         go_wp2_with (first | ((with_reducible refine gate_dst (N := 1) rfl ?_); refine box_event ?hg (N := 1) ?hd (cs := #[.int .i64 a0_0, .string a0_1, .int .i64 a0_2, .slice A0_3 l0_3.length c0_3]) (t := 70) ?hr ?_; (case hd => rfl); (case hg => rfl); (case hr => first | (go_simp; done) | (go_simp; rfl)); intro gb429 hg w46 hbox hb; have n_ := c4_ (below_step (a1_) hb) (hbox) ((by rw [hg]; exact (below_size (a1_)) : w.heap.size ≤ gb429)) ((by rw [hg]; exact (below_size (a1_)) : w.heap.size ≤ gb429)); clear HB; obtain ⟨HB, BK429, GW429, GE429⟩ := n_; clear hb hbox hg; obtain ⟨hcz47_0, hcz47_1, hcz47_2, hcz47_3, hfz47_0, hfz47_1, hfz47_2, hfz47_3⟩ := cf4_ BK429.out; have p440 : 0 ≤ (0 : Int) := (by omega); have q440 : 0 < (l0_3.length : Int) := of_decide_eq_true (by first | (with_reducible assumption) | assumption); obtain ⟨ad440, A440_3, c440_3, e440, hx440_0, hx440_1, hx440_2, hx440_3, hl440_3, hi440_3⟩ := at_T70 HR0_3.out 0 p440 q440; cases e440; have qi440 : (0 < l0_3.length) = True := eq_true (by omega); (try rw [show ((0 : Int)).toNat = 0 from rfl] at hx440_0); (try rw [show 0 * 4 = 0 from rfl] at hx440_0); (try rw [Addr.add_zero'] at hx440_0); (try rw [show ((0 : Int)).toNat = 0 from rfl] at hx440_1); (try rw [show 0 * 4 = 0 from rfl] at hx440_1); (try rw [Addr.add_zero'] at hx440_1); (try rw [show ((0 : Int)).toNat = 0 from rfl] at hx440_2); (try rw [show 0 * 4 = 0 from rfl] at hx440_2); (try rw [Addr.add_zero'] at hx440_2); (try rw [show ((0 : Int)).toNat = 0 from rfl] at hx440_3); (try rw [show 0 * 4 = 0 from rfl] at hx440_3); (try rw [Addr.add_zero'] at hx440_3); replace hx440_0 := (HB.out.cell (World.block_lt_of_cell? w _ hx440_0)).trans hx440_0; replace hx440_1 := (HB.out.cell (World.block_lt_of_cell? w _ hx440_1)).trans hx440_1; replace hx440_2 := (HB.out.cell (World.block_lt_of_cell? w _ hx440_2)).trans hx440_2; replace hx440_3 := (HB.out.cell (World.block_lt_of_cell? w _ hx440_3)).trans hx440_3; have HR440_3 := Aside0.mk hi440_3; have HC440_3 := Aside0.mk hl440_3; clear hi440_3 hl440_3; replace p440 := eq_true p440; replace q440 := eq_true q440) | ((with_reducible refine gate_callee (f := 69) rfl ?_); refine goesL_ (some 61) rfl rfl Try.func69 (by kernel_rfl) rfl #[.agg #[.int .i64 ((rd_T70 l0_3 0).f0.f0), .string ((rd_T70 l0_3 0).f0.f1), .int .i64 ((rd_T70 l0_3 0).f0.f2), .slice A440_3 ((rd_T70 l0_3 0).f1).length c440_3], .int .i64 3] rfl (a5_) ?_; (with_reducible refine (impl_walkTree_within.calls ((rd_T70 l0_3 0).f0.f0) ((rd_T70 l0_3 0).f0.f1) ((rd_T70 l0_3 0).f0.f2) _ _ ((rd_T70 l0_3 0).f1) 3 t441 _ ?side1 ?side2 A44.out).mono ?_); (case side1 => exact by repeat (first | exact (Kd.C_below HR440_3.out HB.out) | (with_reducible refine Kd.C_alloc ?_ _) | (with_reducible refine Kd.C_drewN ?_ _) | (with_reducible refine Kd.C_drew ?_))); (case side2 => exact HC440_3.out); rintro e w48 ⟨rfl, hb⟩; refine ⟨_, rfl, ?_⟩; have n_ := c2_ (blk_below (g := gb429) (o := .cells #[.int .i64 a0_0, .string a0_1, .int .i64 a0_2, .slice (some ad440) l0_3.length c0_3] 70 (0, 0)) (a6_) hb) (below_step (a3_) hb); clear BK429 HB; obtain ⟨BK429, HB⟩ := n_; (try clear hb); (try clear hb2); (try clear hk); (try clear hi)))
         go_ret
         exact ⟨a2_, a3_⟩
        ·rw [if_neg c45] at H
         exact absurd H (by simp)
       ·rw [if_neg c43] at H
        exact absurd H (by simp)
      ·rw [if_neg c42] at H
       have c42b0 : (a0_0 == 7) = false := beq_eq_false_iff_ne.mpr c42
       have c42b1 : (a0_0 != 7) = true := bne_iff_ne.mpr c42
       by_cases c49 : a0_0 = 8
       ·rw [if_pos c49] at H
        have c49b0 : (a0_0 == 8) = true := beq_iff_eq.mpr c49
        have c49b1 : (a0_0 != 8) = false := bne_eq_false_iff_eq.mpr c49
        clear c49
        by_cases c50 : 0 < (l0_3.length : Int)
        ·rw [if_pos c50] at H
         have c50b0 : decide (0 < (l0_3.length : Int)) = true := decide_eq_true c50
         have c50b1 : decide (0 < l0_3.length) = true := decide_eq_true (by omega)
         clear c50
         replace H := Option.bind_eq_some_iff.mp H
         obtain ⟨t443, A510, H⟩ := H
         try dsimp only at H
         have A51 := Aside0.mk A510
         clear A510
         by_cases c52 : t443.size + 1 ≤ 9223372036854775807
         ·rw [if_pos c52] at H
          have c52b0 := eq_true c52
          have c52b1 : decide (t443.size + 1 ≤ 9223372036854775807) = true := decide_eq_true c52
          try have c52b2 : (9223372036854775807 < t443.size + 1) = False := eq_false (Nat.not_lt.2 c52)
          obtain rfl := Option.some.inj H
          go_enter Try.func45, Try.ntmps45
          go_wp2_with (first | ((with_reducible refine gate_dst (N := 1) rfl ?_); refine box_event ?hg (N := 1) ?hd (cs := #[.int .i64 a0_0, .string a0_1, .int .i64 a0_2, .slice A0_3 l0_3.length c0_3]) (t := 70) ?hr ?_; (case hd => rfl); (case hg => rfl); (case hr => first | (go_simp; done) | (go_simp; rfl)); intro gb429 hg w53 hbox hb; have n_ := c4_ (below_step (a1_) hb) (hbox) ((by rw [hg]; exact (below_size (a1_)) : w.heap.size ≤ gb429)) ((by rw [hg]; exact (below_size (a1_)) : w.heap.size ≤ gb429)); clear HB; obtain ⟨HB, BK429, GW429, GE429⟩ := n_; clear hb hbox hg; obtain ⟨hcz54_0, hcz54_1, hcz54_2, hcz54_3, hfz54_0, hfz54_1, hfz54_2, hfz54_3⟩ := cf4_ BK429.out; have p442 : 0 ≤ (0 : Int) := (by omega); have q442 : 0 < (l0_3.length : Int) := of_decide_eq_true (by first | (with_reducible assumption) | assumption); obtain ⟨ad442, A442_3, c442_3, e442, hx442_0, hx442_1, hx442_2, hx442_3, hl442_3, hi442_3⟩ := at_T70 HR0_3.out 0 p442 q442; cases e442; have qi442 : (0 < l0_3.length) = True := eq_true (by omega); (try rw [show ((0 : Int)).toNat = 0 from rfl] at hx442_0); (try rw [show 0 * 4 = 0 from rfl] at hx442_0); (try rw [Addr.add_zero'] at hx442_0); (try rw [show ((0 : Int)).toNat = 0 from rfl] at hx442_1); (try rw [show 0 * 4 = 0 from rfl] at hx442_1); (try rw [Addr.add_zero'] at hx442_1); (try rw [show ((0 : Int)).toNat = 0 from rfl] at hx442_2); (try rw [show 0 * 4 = 0 from rfl] at hx442_2); (try rw [Addr.add_zero'] at hx442_2); (try rw [show ((0 : Int)).toNat = 0 from rfl] at hx442_3); (try rw [show 0 * 4 = 0 from rfl] at hx442_3); (try rw [Addr.add_zero'] at hx442_3); replace hx442_0 := (HB.out.cell (World.block_lt_of_cell? w _ hx442_0)).trans hx442_0; replace hx442_1 := (HB.out.cell (World.block_lt_of_cell? w _ hx442_1)).trans hx442_1; replace hx442_2 := (HB.out.cell (World.block_lt_of_cell? w _ hx442_2)).trans hx442_2; replace hx442_3 := (HB.out.cell (World.block_lt_of_cell? w _ hx442_3)).trans hx442_3; have HR442_3 := Aside0.mk hi442_3; have HC442_3 := Aside0.mk hl442_3; clear hi442_3 hl442_3; replace p442 := eq_true p442; replace q442 := eq_true q442) | ((with_reducible refine gate_callee (f := 69) rfl ?_); refine goesL_ (some 69) rfl rfl Try.func69 (by kernel_rfl) rfl #[.agg #[.int .i64 ((rd_T70 l0_3 0).f0.f0), .string ((rd_T70 l0_3 0).f0.f1), .int .i64 ((rd_T70 l0_3 0).f0.f2), .slice A442_3 ((rd_T70 l0_3 0).f1).length c442_3], .int .i64 3] rfl (a5_) ?_; (with_reducible refine (impl_walkTree_within.calls ((rd_T70 l0_3 0).f0.f0) ((rd_T70 l0_3 0).f0.f1) ((rd_T70 l0_3 0).f0.f2) _ _ ((rd_T70 l0_3 0).f1) 3 t443 _ ?side1 ?side2 A51.out).mono ?_); (case side1 => exact by repeat (first | exact (Kd.C_below HR442_3.out HB.out) | (with_reducible refine Kd.C_alloc ?_ _) | (with_reducible refine Kd.C_drewN ?_ _) | (with_reducible refine Kd.C_drew ?_))); (case side2 => exact HC442_3.out); rintro e w55 ⟨rfl, hb⟩; refine ⟨_, rfl, ?_⟩; have n_ := c2_ (blk_below (g := gb429) (o := .cells #[.int .i64 a0_0, .string a0_1, .int .i64 a0_2, .slice (some ad442) l0_3.length c0_3] 70 (0, 0)) (a6_) hb) (below_step (a3_) hb); clear BK429 HB; obtain ⟨BK429, HB⟩ := n_; (try clear hb); (try clear hb2); (try clear hk); (try clear hi)))
          go_ret
          exact ⟨a2_, a3_⟩
         ·rw [if_neg c52] at H
          exact absurd H (by simp)
        ·rw [if_neg c50] at H
         exact absurd H (by simp)
       ·rw [if_neg c49] at H
        have c49b0 : (a0_0 == 8) = false := beq_eq_false_iff_ne.mpr c49
        have c49b1 : (a0_0 != 8) = true := bne_iff_ne.mpr c49
        obtain rfl := Option.some.inj H
        go_enter Try.func45, Try.ntmps45
        go_wp2_with (first | ((with_reducible refine gate_dst (N := 1) rfl ?_); refine box_event ?hg (N := 1) ?hd (cs := #[.int .i64 a0_0, .string a0_1, .int .i64 a0_2, .slice A0_3 l0_3.length c0_3]) (t := 70) ?hr ?_; (case hd => rfl); (case hg => rfl); (case hr => first | (go_simp; done) | (go_simp; rfl)); intro gb429 hg w56 hbox hb; have n_ := c4_ (below_step (a1_) hb) (hbox) ((by rw [hg]; exact (below_size (a1_)) : w.heap.size ≤ gb429)) ((by rw [hg]; exact (below_size (a1_)) : w.heap.size ≤ gb429)); clear HB; obtain ⟨HB, BK429, GW429, GE429⟩ := n_; clear hb hbox hg; obtain ⟨hcz57_0, hcz57_1, hcz57_2, hcz57_3, hfz57_0, hfz57_1, hfz57_2, hfz57_3⟩ := cf4_ BK429.out))
        go_ret
        exact ⟨a2_, a3_⟩
end

/-! ### impl_walkTree_show2: function 45 -/
structure impl_walkTree_show2.B where
 c : impl_walkTree_show.C
def impl_walkTree_show2.I : Nat → impl_walkTree_show2.B
 | 0 => ⟨⟨fun _ _ _ _ => none, fun a0_0 a0_1 a0_2 A0_3 c0_3 l0_3 r w hr0_3 hc0_3 h => by cases h⟩⟩
 | k + 1 => ⟨⟨fun a0_0 a0_1 a0_2 l0_3 => @impl_walkTree_show1.f (impl_walkTree_show2.I k).c a0_0 a0_1 a0_2 l0_3, fun a0_0 a0_1 a0_2 A0_3 c0_3 l0_3 r w hr0_3 hc0_3 h => @impl_walkTree_show1.calls (impl_walkTree_show2.I k).c a0_0 a0_1 a0_2 A0_3 c0_3 l0_3 r w hr0_3 hc0_3 h⟩⟩
def impl_walkTree_show2.f (k : Nat) (a0_0 : Int) (a0_1 : ByteArray) (a0_2 : Int) (l0_3 : List (S70)) : Option (ByteArray) := (impl_walkTree_show2.I k).c.f a0_0 a0_1 a0_2 l0_3
theorem impl_walkTree_show2.calls (k : Nat) (a0_0 : Int) (a0_1 : ByteArray) (a0_2 : Int) (A0_3 : Option Addr) (c0_3 : Nat) (l0_3 : List (S70)) (r : ByteArray) (w : World) (hr0_3 : Kd.C k70 w A0_3 l0_3.length l0_3) (hc0_3 : l0_3.length ≤ c0_3) (h : impl_walkTree_show2.f k a0_0 a0_1 a0_2 l0_3 = some r) : Calls Try.prog 45 #[.agg #[.int .i64 a0_0, .string a0_1, .int .i64 a0_2, .slice A0_3 l0_3.length c0_3]] w fun e w' => e = .returned (.string r) ∧ Below w.heap.size w w' := (impl_walkTree_show2.I k).c.calls a0_0 a0_1 a0_2 A0_3 c0_3 l0_3 r w hr0_3 hc0_3 h

/-! ### impl_ShowSteps: function 23 -/
def impl_ShowSteps.f (k : Nat) (l0 : List (S66)) : Option (ByteArray) := (impl_stepsTree.f k l0).bind fun bt444 => (if bt444.2.2.2.2 = true then ((impl_walkTree_show2.f k bt444.1 bt444.2.1 bt444.2.2.1 bt444.2.2.2.1).bind fun t452 => (if (t452.size : Int) > 500 then (some (⟨#[]⟩ : ByteArray)) else (some t452))) else (some (⟨#[]⟩ : ByteArray)))
theorem impl_ShowSteps.a1_ {p : Prop} (h : p := by (try simp only [List.map_toArray, List.map_cons, List.map_nil]); first | done | rfl | (simp only [List.length_drop, List.length_take]; rfl)) : p := h
theorem impl_ShowSteps.a2_ {p : Prop} (h : p := by repeat (first | exact HR0.out | (with_reducible refine Kd.C_alloc ?_ _) | (with_reducible refine Kd.C_drewN ?_ _) | (with_reducible refine Kd.C_drew ?_))) : p := h
theorem impl_ShowSteps.a3_ {p : Prop} (h : p := by repeat (first | (with_reducible first | exact HB.out | apply below_alloc | apply pw_below_drewN | apply below_drew1) | exact HB.out)) : p := h
theorem impl_ShowSteps.a4_ {p : Prop} (h : p := by (with_reducible repeat (first | apply Kd.R_alloc | apply Kd.R_drewN | apply Kd.R_drew)); exact (Kd.R_mono (Kd.R_far (p := ⟨gb451, 3, none⟩) (Kd.R_far (p := ⟨gb451, 2, none⟩) (Kd.R_far (p := ⟨gb451, 1, none⟩) (Kd.R_far (p := ⟨gb451, 0, none⟩) (Kd.R_mono HO449.out (fun k_ hk => (⟨hk, hk.2⟩ : _ ∧ k_ ≠ gb451))) (fun _ hk => hk.2) (.int .i64 t444)) (fun _ hk => hk.2) (.string t445)) (fun _ hk => hk.2) (.int .i64 t446)) (fun _ hk => hk.2) (.slice Ao9 t447.length co9)) (fun _ h_ => h_.1))) : p := h
theorem impl_ShowSteps.a5_ {p : Prop} (h : p := by (with_reducible repeat (first | refine blk_drewN ?_ _ | refine blk_drew ?_ | refine blk_alloc ?_ _)); refine blk_put (cs := #[.int .i64 t444, .string t445, .int .i64 t446, .slice none 0 0]) ?_ 3 _ rfl; (with_reducible repeat (first | refine blk_drewN ?_ _ | refine blk_drew ?_ | refine blk_alloc ?_ _)); refine blk_put (cs := #[.int .i64 t444, .string t445, .int .i64 0, .slice none 0 0]) ?_ 2 _ rfl; (with_reducible repeat (first | refine blk_drewN ?_ _ | refine blk_drew ?_ | refine blk_alloc ?_ _)); refine blk_put (cs := #[.int .i64 t444, .string (⟨#[]⟩ : ByteArray), .int .i64 0, .slice none 0 0]) ?_ 1 _ rfl; (with_reducible repeat (first | refine blk_drewN ?_ _ | refine blk_drew ?_ | refine blk_alloc ?_ _)); refine blk_put (cs := #[.int .i64 0, .string (⟨#[]⟩ : ByteArray), .int .i64 0, .slice none 0 0]) ?_ 0 _ rfl; (with_reducible repeat (first | refine blk_drewN ?_ _ | refine blk_drew ?_ | refine blk_alloc ?_ _)); exact BK451.out) : p := h
theorem impl_ShowSteps.a6_ {p : Prop} (h : p := by repeat (first | (with_reducible first | exact HB.out | apply below_alloc | apply pw_below_drewN | apply below_drew1 | refine below_set ?_ GE451.out) | exact HB.out)) : p := h
theorem impl_ShowSteps.a7_ {p : Prop} (h : p := by (with_reducible repeat (first | apply Kd.R_alloc | apply Kd.R_drewN | apply Kd.R_drew)); exact (Kd.R_mono (Kd.R_far (p := ⟨gb451, 3, none⟩) (Kd.R_far (p := ⟨gb451, 2, none⟩) (Kd.R_far (p := ⟨gb451, 1, none⟩) (Kd.R_far (p := ⟨gb451, 0, none⟩) (Kd.R_mono HO449.out (fun k_ hk => (⟨hk, hk.2⟩ : _ ∧ k_ ≠ gb451))) (fun _ hk => hk.2) (.int .i64 t444)) (fun _ hk => hk.2) (.string t445)) (fun _ hk => hk.2) (.int .i64 t446)) (fun _ hk => hk.2) (.slice Ao14 t447.length co14)) (fun _ h_ => h_.1))) : p := h
set_option maxHeartbeats 8000000 in
set_option maxRecDepth 100000 in
theorem impl_ShowSteps.calls (k : Nat) (A0 : Option Addr) (c0 : Nat) (l0 : List (S66)) (r : ByteArray) (w : World) (hr0 : Kd.C k66 w A0 l0.length l0) (hc0 : l0.length ≤ c0) (h : impl_ShowSteps.f k l0 = some r) :
  Calls Try.prog 23 #[.slice A0 l0.length c0] w fun e w' => e = .returned (.string r) ∧ Below w.heap.size w w' := by
 have hu70 := Try.underlying70
 have HR0 := Aside0.mk hr0
 have HC0 := Aside0.mk hc0
 clear hr0 hc0
 have HB := Aside0.mk (Below.refl w.heap.size w)
 have H : ((impl_stepsTree.f k l0).bind fun bt444 => (if bt444.2.2.2.2 = true then ((impl_walkTree_show2.f k bt444.1 bt444.2.1 bt444.2.2.1 bt444.2.2.2.1).bind fun t452 => (if (t452.size : Int) > 500 then (some (⟨#[]⟩ : ByteArray)) else (some t452))) else (some (⟨#[]⟩ : ByteArray)))) = some r := h
 clear h
 replace H := Option.bind_eq_some_iff.mp H
 obtain ⟨⟨t444, t445, t446, t447, t450⟩, A20, H⟩ := H
 try dsimp only at H
 have A2 := Aside0.mk A20
 clear A20
 by_cases c3 : t450 = true
 ·subst c3
  rw [if_pos rfl] at H
  try dsimp only at H
  replace H := Option.bind_eq_some_iff.mp H
  obtain ⟨t452, A40, H⟩ := H
  try dsimp only at H
  have A4 := Aside0.mk A40
  clear A40
  by_cases c5 : (t452.size : Int) > 500
  ·rw [if_pos c5] at H
   have c5b0 : decide (500 < (t452.size : Int)) = true := decide_eq_true c5
   have c5b1 : decide (500 < t452.size) = true := decide_eq_true (by omega)
   clear c5
   obtain rfl := Option.some.inj H
   go_enter Try.func23, Try.ntmps23
   go_wp2_with (first | ((with_reducible refine gate_callee (f := 39) rfl ?_); refine goesL_ (some 8) rfl rfl Try.func39 (by kernel_rfl) rfl #[.slice A0 l0.length c0] rfl (a1_) ?_; (with_reducible refine (impl_stepsTree.calls k _ _ l0 t444 t445 t446 t447 true _ ?side1 ?side2 A2.out).mono ?_); (case side1 => exact a2_); (case side2 => exact HC0.out); rintro e w6 ⟨v448, rfl, ho0, hb⟩; refine ⟨_, rfl, ?_⟩; have n_ := c2_ (Kd.R_lower ho0 (below_size (a3_))) (below_step (a3_) hb); clear HB; obtain ⟨HO449, HB⟩ := n_; (try clear hb); (try clear hb2); (try clear hk); (try clear hi); (try clear ho0)) | ((with_reducible refine gate_dst (N := 3) rfl ?_); refine box_event ?hg (N := 3) ?hd (cs := #[.int .i64 0, .string (⟨#[]⟩ : ByteArray), .int .i64 0, .slice none 0 0]) (t := 70) ?hr ?_; (case hd => rfl); (case hg => rfl); (case hr => first | (go_simp; done) | (go_simp; rfl)); intro gb451 hg w7 hbox hb; have n_ := c5_ (Kd.R_below (Kd.R_elderB (by (with_reducible repeat (first | apply Kd.R_alloc | apply Kd.R_drewN | apply Kd.R_drew)); exact HO449.out) gb451 (Nat.le_of_eq hg.symm)) hb) (below_step (a3_) hb) (hbox) ((by rw [hg]; exact (below_size (a3_)) : w.heap.size ≤ gb451)) ((by rw [hg]; exact (below_size (a3_)) : w.heap.size ≤ gb451)); clear HO449 HB; obtain ⟨HO449, HB, BK451, GW451, GE451⟩ := n_; clear hb hbox hg; obtain ⟨hcz8_0, hcz8_1, hcz8_2, hcz8_3, hfz8_0, hfz8_1, hfz8_2, hfz8_3⟩ := cf4_ BK451.out; obtain ⟨Ao9, co9, eo9⟩ := Kd.R_slice HO449.out; subst eo9) | ((with_reducible refine gate_callee (f := 45) rfl ?_); refine goesL_ (some 14) rfl rfl Try.func45 (by kernel_rfl) rfl #[.agg #[.int .i64 t444, .string t445, .int .i64 t446, .slice Ao9 t447.length co9]] rfl (a1_) ?_; (with_reducible refine (impl_walkTree_show2.calls k t444 t445 t446 _ _ t447 t452 _ ?side1 ?side2 A4.out).mono ?_); (case side1 => refine (Kd.R_reads' (e := 70) (base := w.heap.size) (ok := fun k_ => (True ∧ k_ ≠ gb451)) (n := t447.length) (c := co9) ?_).2.2; exact (a4_)); (case side2 => exact (Kd.R_reads' HO449.out).2.1); rintro e w10 ⟨rfl, hb⟩; refine ⟨_, rfl, ?_⟩; have n_ := c3_ (Kd.R_below (a4_) hb) (blk_below (g := gb451) (o := .cells #[.int .i64 t444, .string t445, .int .i64 t446, .slice Ao9 t447.length co9] 70 (0, 0)) (a5_) hb) (below_step (a6_) hb); clear HO449 BK451 HB; obtain ⟨HO449, BK451, HB⟩ := n_; (try clear hb); (try clear hb2); (try clear hk); (try clear hi)))
   go_ret
   exact ⟨by first | rfl | (simp [errW_none, errW_some] <;> rfl) | (simp [*, errW_none, errW_some] <;> rfl), a6_⟩
  ·rw [if_neg c5] at H
   have c5b0 : decide (500 < (t452.size : Int)) = false := decide_eq_false c5
   have c5b1 : decide (500 < t452.size) = false := decide_eq_false (by omega)
   clear c5
   obtain rfl := Option.some.inj H
   go_enter Try.func23, Try.ntmps23
   go_wp2_with (first | ((with_reducible refine gate_callee (f := 39) rfl ?_); refine goesL_ (some 8) rfl rfl Try.func39 (by kernel_rfl) rfl #[.slice A0 l0.length c0] rfl (a1_) ?_; (with_reducible refine (impl_stepsTree.calls k _ _ l0 t444 t445 t446 t447 true _ ?side1 ?side2 A2.out).mono ?_); (case side1 => exact a2_); (case side2 => exact HC0.out); rintro e w11 ⟨v448, rfl, ho0, hb⟩; refine ⟨_, rfl, ?_⟩; have n_ := c2_ (Kd.R_lower ho0 (below_size (a3_))) (below_step (a3_) hb); clear HB; obtain ⟨HO449, HB⟩ := n_; (try clear hb); (try clear hb2); (try clear hk); (try clear hi); (try clear ho0)) | ((with_reducible refine gate_dst (N := 3) rfl ?_); refine box_event ?hg (N := 3) ?hd (cs := #[.int .i64 0, .string (⟨#[]⟩ : ByteArray), .int .i64 0, .slice none 0 0]) (t := 70) ?hr ?_; (case hd => rfl); (case hg => rfl); (case hr => first | (go_simp; done) | (go_simp; rfl)); intro gb451 hg w12 hbox hb; have n_ := c5_ (Kd.R_below (Kd.R_elderB (by (with_reducible repeat (first | apply Kd.R_alloc | apply Kd.R_drewN | apply Kd.R_drew)); exact HO449.out) gb451 (Nat.le_of_eq hg.symm)) hb) (below_step (a3_) hb) (hbox) ((by rw [hg]; exact (below_size (a3_)) : w.heap.size ≤ gb451)) ((by rw [hg]; exact (below_size (a3_)) : w.heap.size ≤ gb451)); clear HO449 HB; obtain ⟨HO449, HB, BK451, GW451, GE451⟩ := n_; clear hb hbox hg; obtain ⟨hcz13_0, hcz13_1, hcz13_2, hcz13_3, hfz13_0, hfz13_1, hfz13_2, hfz13_3⟩ := cf4_ BK451.out; obtain ⟨Ao14, co14, eo14⟩ := Kd.R_slice HO449.out; subst eo14) | ((with_reducible refine gate_callee (f := 45) rfl ?_); refine goesL_ (some 14) rfl rfl Try.func45 (by kernel_rfl) rfl #[.agg #[.int .i64 t444, .string t445, .int .i64 t446, .slice Ao14 t447.length co14]] rfl (a1_) ?_; (with_reducible refine (impl_walkTree_show2.calls k t444 t445 t446 _ _ t447 t452 _ ?side1 ?side2 A4.out).mono ?_); (case side1 => refine (Kd.R_reads' (e := 70) (base := w.heap.size) (ok := fun k_ => (True ∧ k_ ≠ gb451)) (n := t447.length) (c := co14) ?_).2.2; exact (a7_)); (case side2 => exact (Kd.R_reads' HO449.out).2.1); rintro e w15 ⟨rfl, hb⟩; refine ⟨_, rfl, ?_⟩; have n_ := c3_ (Kd.R_below (a7_) hb) (blk_below (g := gb451) (o := .cells #[.int .i64 t444, .string t445, .int .i64 t446, .slice Ao14 t447.length co14] 70 (0, 0)) (a5_) hb) (below_step (a6_) hb); clear HO449 BK451 HB; obtain ⟨HO449, BK451, HB⟩ := n_; (try clear hb); (try clear hb2); (try clear hk); (try clear hi)))
   go_ret
   exact ⟨by first | rfl | (simp [errW_none, errW_some] <;> rfl) | (simp [*, errW_none, errW_some] <;> rfl), a6_⟩
 ·replace c3 := Bool.eq_false_iff.mpr c3
  subst c3
  rw [if_neg (show ¬ (false = true) by decide)] at H
  try dsimp only at H
  obtain rfl := Option.some.inj H
  go_enter Try.func23, Try.ntmps23
  go_wp2_with (first | ((with_reducible refine gate_callee (f := 39) rfl ?_); refine goesL_ (some 8) rfl rfl Try.func39 (by kernel_rfl) rfl #[.slice A0 l0.length c0] rfl (a1_) ?_; (with_reducible refine (impl_stepsTree.calls k _ _ l0 t444 t445 t446 t447 false _ ?side1 ?side2 A2.out).mono ?_); (case side1 => exact a2_); (case side2 => exact HC0.out); rintro e w16 ⟨v448, rfl, ho0, hb⟩; refine ⟨_, rfl, ?_⟩; have n_ := c2_ (Kd.R_lower ho0 (below_size (a3_))) (below_step (a3_) hb); clear HB; obtain ⟨HO449, HB⟩ := n_; (try clear hb); (try clear hb2); (try clear hk); (try clear hi); (try clear ho0)) | ((with_reducible refine gate_dst (N := 3) rfl ?_); refine box_event ?hg (N := 3) ?hd (cs := #[.int .i64 0, .string (⟨#[]⟩ : ByteArray), .int .i64 0, .slice none 0 0]) (t := 70) ?hr ?_; (case hd => rfl); (case hg => rfl); (case hr => first | (go_simp; done) | (go_simp; rfl)); intro gb451 hg w17 hbox hb; have n_ := c5_ (Kd.R_below (Kd.R_elderB (by (with_reducible repeat (first | apply Kd.R_alloc | apply Kd.R_drewN | apply Kd.R_drew)); exact HO449.out) gb451 (Nat.le_of_eq hg.symm)) hb) (below_step (a3_) hb) (hbox) ((by rw [hg]; exact (below_size (a3_)) : w.heap.size ≤ gb451)) ((by rw [hg]; exact (below_size (a3_)) : w.heap.size ≤ gb451)); clear HO449 HB; obtain ⟨HO449, HB, BK451, GW451, GE451⟩ := n_; clear hb hbox hg; obtain ⟨hcz18_0, hcz18_1, hcz18_2, hcz18_3, hfz18_0, hfz18_1, hfz18_2, hfz18_3⟩ := cf4_ BK451.out; obtain ⟨Ao19, co19, eo19⟩ := Kd.R_slice HO449.out; subst eo19))
  go_ret
  exact ⟨by first | rfl | (simp [errW_none, errW_some] <;> rfl) | (simp [*, errW_none, errW_some] <;> rfl), a6_⟩

/-! ### laws_FnExactShowSteps: function 6 -/
def laws_FnExactShowSteps.f (k : Nat) (l0 : List (S64)) : Option (Bool) := (laws_szPathStepS.f k l0 1048576).bind fun t453 => (if t453 < 0 then (some true) else ((laws_toPathStepS.f k l0).bind fun t454 => ((spec_ShowSteps.f k t454).bind fun t457 => ((laws_toPathStepS.f k l0).bind fun t458 => ((impl_ShowSteps.f k t458).bind fun t461 => (if t461.toList = t457.toList then ((laws_toPathStepS.f k l0).bind fun t462 => ((laws_eqPathStepS.f k t458 t462).bind fun t465 => (if t465 = true then (some true) else (some false)))) else (some false)))))))
theorem laws_FnExactShowSteps.a1_ {p : Prop} (h : p := by (try simp only [List.map_toArray, List.map_cons, List.map_nil]); first | done | rfl | (simp only [List.length_drop, List.length_take]; rfl)) : p := h
theorem laws_FnExactShowSteps.a2_ {p : Prop} (h : p := by repeat (first | exact HR0.out | (with_reducible refine Kd.C_alloc ?_ _) | (with_reducible refine Kd.C_drewN ?_ _) | (with_reducible refine Kd.C_drew ?_))) : p := h
theorem laws_FnExactShowSteps.a3_ {p : Prop} (h : p := by repeat (first | (with_reducible first | exact HB.out | apply below_alloc | apply pw_below_drewN | apply below_drew1) | exact HB.out)) : p := h
theorem laws_FnExactShowSteps.a4_ {p : Prop} (h : p := by first | rfl | (simp [errW_none, errW_some] <;> rfl) | (simp [*, errW_none, errW_some] <;> rfl)) : p := h
theorem laws_FnExactShowSteps.a5_ {p : Prop} (h : p := by repeat (first | exact (Kd.C_below HR0.out HB.out) | (with_reducible refine Kd.C_alloc ?_ _) | (with_reducible refine Kd.C_drewN ?_ _) | (with_reducible refine Kd.C_drew ?_))) : p := h
theorem laws_FnExactShowSteps.a6_ {p : Prop} (h : p := by repeat (first | exact (Kd.R_reads' HO456.out).2.2 | (with_reducible refine Kd.C_alloc ?_ _) | (with_reducible refine Kd.C_drewN ?_ _) | (with_reducible refine Kd.C_drew ?_))) : p := h
theorem laws_FnExactShowSteps.a7_ {p : Prop} (h : p := by (with_reducible repeat (first | apply Kd.R_alloc | apply Kd.R_drewN | apply Kd.R_drew)); exact HO456.out) : p := h
theorem laws_FnExactShowSteps.a8_ {p : Prop} (h : p := by repeat (first | exact (Kd.R_reads' HO460.out).2.2 | (with_reducible refine Kd.C_alloc ?_ _) | (with_reducible refine Kd.C_drewN ?_ _) | (with_reducible refine Kd.C_drew ?_))) : p := h
theorem laws_FnExactShowSteps.a9_ {p : Prop} (h : p := by (with_reducible repeat (first | apply Kd.R_alloc | apply Kd.R_drewN | apply Kd.R_drew)); exact HO460.out) : p := h
set_option maxHeartbeats 8000000 in
set_option maxRecDepth 100000 in
theorem laws_FnExactShowSteps.calls (k : Nat) (A0 : Option Addr) (c0 : Nat) (l0 : List (S64)) (r : Bool) (w : World) (hr0 : Kd.C k64 w A0 l0.length l0) (hc0 : l0.length ≤ c0) (h : laws_FnExactShowSteps.f k l0 = some r) :
  Calls Try.prog 6 #[.slice A0 l0.length c0] w fun e w' => e = .returned (.bool r) ∧ Below w.heap.size w w' := by
 have HR0 := Aside0.mk hr0
 have HC0 := Aside0.mk hc0
 clear hr0 hc0
 have HB := Aside0.mk (Below.refl w.heap.size w)
 have H : ((laws_szPathStepS.f k l0 1048576).bind fun t453 => (if t453 < 0 then (some true) else ((laws_toPathStepS.f k l0).bind fun t454 => ((spec_ShowSteps.f k t454).bind fun t457 => ((laws_toPathStepS.f k l0).bind fun t458 => ((impl_ShowSteps.f k t458).bind fun t461 => (if t461.toList = t457.toList then ((laws_toPathStepS.f k l0).bind fun t462 => ((laws_eqPathStepS.f k t458 t462).bind fun t465 => (if t465 = true then (some true) else (some false)))) else (some false)))))))) = some r := h
 clear h
 replace H := Option.bind_eq_some_iff.mp H
 obtain ⟨t453, A20, H⟩ := H
 try dsimp only at H
 have A2 := Aside0.mk A20
 clear A20
 by_cases c3 : t453 < 0
 ·rw [if_pos c3] at H
  have c3b0 : decide (t453 < 0) = true := decide_eq_true c3
  clear c3
  obtain rfl := Option.some.inj H
  go_enter Try.func6, Try.ntmps6
  go_wp2_with (first | ((with_reducible refine gate_callee (f := 13) rfl ?_); refine goesL_ (some 9) rfl rfl Try.func13 (by kernel_rfl) rfl #[.slice A0 l0.length c0, .int .i64 1048576] rfl (a1_) ?_; (with_reducible refine (laws_szPathStepS.calls k _ _ l0 1048576 t453 _ ?side1 ?side2 A2.out).mono ?_); (case side1 => exact a2_); (case side2 => exact HC0.out); rintro e w4 ⟨rfl, hb⟩; refine ⟨_, rfl, ?_⟩; have n0_ := Aside0.mk (below_step (a3_) hb); clear HB; have HB := n0_; clear n0_; (try clear hb); (try clear hb2); (try clear hk); (try clear hi)))
  go_ret
  exact ⟨a4_, a3_⟩
 ·rw [if_neg c3] at H
  have c3b0 : decide (t453 < 0) = false := decide_eq_false c3
  clear c3
  replace H := Option.bind_eq_some_iff.mp H
  obtain ⟨t454, A50, H⟩ := H
  try dsimp only at H
  have A5 := Aside0.mk A50
  clear A50
  replace H := Option.bind_eq_some_iff.mp H
  obtain ⟨t457, A60, H⟩ := H
  try dsimp only at H
  have A6 := Aside0.mk A60
  clear A60
  replace H := Option.bind_eq_some_iff.mp H
  obtain ⟨t458, A70, H⟩ := H
  try dsimp only at H
  have A7 := Aside0.mk A70
  clear A70
  replace H := Option.bind_eq_some_iff.mp H
  obtain ⟨t461, A80, H⟩ := H
  try dsimp only at H
  have A8 := Aside0.mk A80
  clear A80
  by_cases c9 : t461.toList = t457.toList
  ·rw [if_pos c9] at H
   have c9b0 : (t461.toList == t457.toList) = true := beq_iff_eq.mpr c9
   have c9b1 : (t461.toList != t457.toList) = false := bne_eq_false_iff_eq.mpr c9
   clear c9
   replace H := Option.bind_eq_some_iff.mp H
   obtain ⟨t462, A100, H⟩ := H
   try dsimp only at H
   have A10 := Aside0.mk A100
   clear A100
   replace H := Option.bind_eq_some_iff.mp H
   obtain ⟨t465, A110, H⟩ := H
   try dsimp only at H
   have A11 := Aside0.mk A110
   clear A110
   by_cases c12 : t465 = true
   ·subst c12
    rw [if_pos rfl] at H
    try dsimp only at H
    obtain rfl := Option.some.inj H
    go_enter Try.func6, Try.ntmps6
    go_wp2_with (first | ((with_reducible refine gate_callee (f := 13) rfl ?_); refine goesL_ (some 9) rfl rfl Try.func13 (by kernel_rfl) rfl #[.slice A0 l0.length c0, .int .i64 1048576] rfl (a1_) ?_; (with_reducible refine (laws_szPathStepS.calls k _ _ l0 1048576 t453 _ ?side1 ?side2 A2.out).mono ?_); (case side1 => exact a2_); (case side2 => exact HC0.out); rintro e w13 ⟨rfl, hb⟩; refine ⟨_, rfl, ?_⟩; have n0_ := Aside0.mk (below_step (a3_) hb); clear HB; have HB := n0_; clear n0_; (try clear hb); (try clear hb2); (try clear hk); (try clear hi)) | ((with_reducible refine gate_callee (f := 15) rfl ?_); refine goesL_ (some 13) rfl rfl Try.func15 (by kernel_rfl) rfl #[.slice A0 l0.length c0] rfl (a1_) ?_; (with_reducible refine (laws_toPathStepS.calls k _ _ l0 t454 _ ?side1 ?side2 A5.out).mono ?_); (case side1 => exact a5_); (case side2 => exact HC0.out); rintro e w14 ⟨v455, rfl, ho0, hb⟩; refine ⟨_, rfl, ?_⟩; have n_ := c2_ (Kd.R_lower ho0 (below_size (a3_))) (below_step (a3_) hb); clear HB; obtain ⟨HO456, HB⟩ := n_; (try clear hb); (try clear hb2); (try clear hk); (try clear hi); (try clear ho0); obtain ⟨Ao15, co15, eo15⟩ := Kd.R_slice HO456.out; subst eo15) | ((with_reducible refine gate_callee (f := 22) rfl ?_); refine goesL_ (some 14) rfl rfl Try.func22 (by kernel_rfl) rfl #[.slice Ao15 t454.length co15] rfl (a1_) ?_; (with_reducible refine (spec_ShowSteps.calls k _ _ t454 t457 _ ?side1 ?side2 A6.out).mono ?_); (case side1 => exact a6_); (case side2 => exact (Kd.R_reads' HO456.out).2.1); rintro e w16 ⟨rfl, hb⟩; refine ⟨_, rfl, ?_⟩; have n_ := c2_ (Kd.R_below (a7_) hb) (below_step (a3_) hb); clear HO456 HB; obtain ⟨HO456, HB⟩ := n_; (try clear hb); (try clear hb2); (try clear hk); (try clear hi)) | ((with_reducible refine gate_callee (f := 15) rfl ?_); refine goesL_ (some 16) rfl rfl Try.func15 (by kernel_rfl) rfl #[.slice A0 l0.length c0] rfl (a1_) ?_; (with_reducible refine (laws_toPathStepS.calls k _ _ l0 t458 _ ?side1 ?side2 A7.out).mono ?_); (case side1 => exact a5_); (case side2 => exact HC0.out); rintro e w17 ⟨v459, rfl, ho0, hb⟩; refine ⟨_, rfl, ?_⟩; have n_ := c3_ (Kd.R_elder' (a7_) (Kd.R_base ho0) hb) (Kd.R_lower (Kd.R_new' ho0 (Kd.R_lt (a7_))) (below_size (a3_))) (below_step (a3_) hb); clear HO456 HB; obtain ⟨HO456, HO460, HB⟩ := n_; (try clear hb); (try clear hb2); (try clear hk); (try clear hi); (try clear ho0); obtain ⟨Ao18, co18, eo18⟩ := Kd.R_slice HO460.out; subst eo18) | ((with_reducible refine gate_callee (f := 23) rfl ?_); refine goesL_ (some 18) rfl rfl Try.func23 (by kernel_rfl) rfl #[.slice Ao18 t458.length co18] rfl (a1_) ?_; (with_reducible refine (impl_ShowSteps.calls k _ _ t458 t461 _ ?side1 ?side2 A8.out).mono ?_); (case side1 => exact a8_); (case side2 => exact (Kd.R_reads' HO460.out).2.1); rintro e w19 ⟨rfl, hb⟩; refine ⟨_, rfl, ?_⟩; have n_ := c3_ (Kd.R_below (a7_) hb) (Kd.R_below (a9_) hb) (below_step (a3_) hb); clear HO456 HO460 HB; obtain ⟨HO456, HO460, HB⟩ := n_; (try clear hb); (try clear hb2); (try clear hk); (try clear hi)) | ((with_reducible refine gate_callee (f := 15) rfl ?_); refine goesL_ (some 24) rfl rfl Try.func15 (by kernel_rfl) rfl #[.slice A0 l0.length c0] rfl (a1_) ?_; (with_reducible refine (laws_toPathStepS.calls k _ _ l0 t462 _ ?side1 ?side2 A10.out).mono ?_); (case side1 => exact a5_); (case side2 => exact HC0.out); rintro e w20 ⟨v463, rfl, ho0, hb⟩; refine ⟨_, rfl, ?_⟩; have n_ := c4_ (Kd.R_elder' (a7_) (Kd.R_base ho0) hb) (Kd.R_elder' (a9_) (Kd.R_base ho0) hb) (Kd.R_lower (Kd.R_new' (Kd.R_new' ho0 (Kd.R_lt (a7_))) (Kd.R_lt (a9_))) (below_size (a3_))) (below_step (a3_) hb); clear HO456 HO460 HB; obtain ⟨HO456, HO460, HO464, HB⟩ := n_; (try clear hb); (try clear hb2); (try clear hk); (try clear hi); (try clear ho0); obtain ⟨Ao21, co21, eo21⟩ := Kd.R_slice HO464.out; subst eo21) | ((with_reducible refine gate_callee (f := 17) rfl ?_); refine goesL_ (some 25) rfl rfl Try.func17 (by kernel_rfl) rfl #[.slice Ao18 t458.length co18, .slice Ao21 t462.length co21] rfl (a1_) ?_; (with_reducible refine (laws_eqPathStepS.calls k _ _ t458 _ _ t462 true _ ?side1 ?side2 ?side3 ?side4 A11.out).mono ?_); (case side1 => exact a8_); (case side2 => exact (Kd.R_reads' HO460.out).2.1); (case side3 => exact by repeat (first | exact (Kd.R_reads' HO464.out).2.2 | (with_reducible refine Kd.C_alloc ?_ _) | (with_reducible refine Kd.C_drewN ?_ _) | (with_reducible refine Kd.C_drew ?_))); (case side4 => exact (Kd.R_reads' HO464.out).2.1); rintro e w22 ⟨rfl, hb⟩; refine ⟨_, rfl, ?_⟩; have n_ := c4_ (Kd.R_below (a7_) hb) (Kd.R_below (a9_) hb) (Kd.R_below (by (with_reducible repeat (first | apply Kd.R_alloc | apply Kd.R_drewN | apply Kd.R_drew)); exact HO464.out) hb) (below_step (a3_) hb); clear HO456 HO460 HO464 HB; obtain ⟨HO456, HO460, HO464, HB⟩ := n_; (try clear hb); (try clear hb2); (try clear hk); (try clear hi)))
    go_ret
    exact ⟨a4_, a3_⟩
   ·replace c12 := Bool.eq_false_iff.mpr c12
    subst c12
    rw [if_neg (show ¬ (false = true) by decide)] at H
    try dsimp only at H
    obtain rfl := Option.some.inj H
    go_enter Try.func6, Try.ntmps6
    go_wp2_with (first | ((with_reducible refine gate_callee (f := 13) rfl ?_); refine goesL_ (some 9) rfl rfl Try.func13 (by kernel_rfl) rfl #[.slice A0 l0.length c0, .int .i64 1048576] rfl (a1_) ?_; (with_reducible refine (laws_szPathStepS.calls k _ _ l0 1048576 t453 _ ?side1 ?side2 A2.out).mono ?_); (case side1 => exact a2_); (case side2 => exact HC0.out); rintro e w23 ⟨rfl, hb⟩; refine ⟨_, rfl, ?_⟩; have n0_ := Aside0.mk (below_step (a3_) hb); clear HB; have HB := n0_; clear n0_; (try clear hb); (try clear hb2); (try clear hk); (try clear hi)) | ((with_reducible refine gate_callee (f := 15) rfl ?_); refine goesL_ (some 13) rfl rfl Try.func15 (by kernel_rfl) rfl #[.slice A0 l0.length c0] rfl (a1_) ?_; (with_reducible refine (laws_toPathStepS.calls k _ _ l0 t454 _ ?side1 ?side2 A5.out).mono ?_); (case side1 => exact a5_); (case side2 => exact HC0.out); rintro e w24 ⟨v455, rfl, ho0, hb⟩; refine ⟨_, rfl, ?_⟩; have n_ := c2_ (Kd.R_lower ho0 (below_size (a3_))) (below_step (a3_) hb); clear HB; obtain ⟨HO456, HB⟩ := n_; (try clear hb); (try clear hb2); (try clear hk); (try clear hi); (try clear ho0); obtain ⟨Ao25, co25, eo25⟩ := Kd.R_slice HO456.out; subst eo25) | ((with_reducible refine gate_callee (f := 22) rfl ?_); refine goesL_ (some 14) rfl rfl Try.func22 (by kernel_rfl) rfl #[.slice Ao25 t454.length co25] rfl (a1_) ?_; (with_reducible refine (spec_ShowSteps.calls k _ _ t454 t457 _ ?side1 ?side2 A6.out).mono ?_); (case side1 => exact a6_); (case side2 => exact (Kd.R_reads' HO456.out).2.1); rintro e w26 ⟨rfl, hb⟩; refine ⟨_, rfl, ?_⟩; have n_ := c2_ (Kd.R_below (a7_) hb) (below_step (a3_) hb); clear HO456 HB; obtain ⟨HO456, HB⟩ := n_; (try clear hb); (try clear hb2); (try clear hk); (try clear hi)) | ((with_reducible refine gate_callee (f := 15) rfl ?_); refine goesL_ (some 16) rfl rfl Try.func15 (by kernel_rfl) rfl #[.slice A0 l0.length c0] rfl (a1_) ?_; (with_reducible refine (laws_toPathStepS.calls k _ _ l0 t458 _ ?side1 ?side2 A7.out).mono ?_); (case side1 => exact a5_); (case side2 => exact HC0.out); rintro e w27 ⟨v459, rfl, ho0, hb⟩; refine ⟨_, rfl, ?_⟩; have n_ := c3_ (Kd.R_elder' (a7_) (Kd.R_base ho0) hb) (Kd.R_lower (Kd.R_new' ho0 (Kd.R_lt (a7_))) (below_size (a3_))) (below_step (a3_) hb); clear HO456 HB; obtain ⟨HO456, HO460, HB⟩ := n_; (try clear hb); (try clear hb2); (try clear hk); (try clear hi); (try clear ho0); obtain ⟨Ao28, co28, eo28⟩ := Kd.R_slice HO460.out; subst eo28) | ((with_reducible refine gate_callee (f := 23) rfl ?_); refine goesL_ (some 18) rfl rfl Try.func23 (by kernel_rfl) rfl #[.slice Ao28 t458.length co28] rfl (a1_) ?_; (with_reducible refine (impl_ShowSteps.calls k _ _ t458 t461 _ ?side1 ?side2 A8.out).mono ?_); (case side1 => exact a8_); (case side2 => exact (Kd.R_reads' HO460.out).2.1); rintro e w29 ⟨rfl, hb⟩; refine ⟨_, rfl, ?_⟩; have n_ := c3_ (Kd.R_below (a7_) hb) (Kd.R_below (a9_) hb) (below_step (a3_) hb); clear HO456 HO460 HB; obtain ⟨HO456, HO460, HB⟩ := n_; (try clear hb); (try clear hb2); (try clear hk); (try clear hi)) | ((with_reducible refine gate_callee (f := 15) rfl ?_); refine goesL_ (some 24) rfl rfl Try.func15 (by kernel_rfl) rfl #[.slice A0 l0.length c0] rfl (a1_) ?_; (with_reducible refine (laws_toPathStepS.calls k _ _ l0 t462 _ ?side1 ?side2 A10.out).mono ?_); (case side1 => exact a5_); (case side2 => exact HC0.out); rintro e w30 ⟨v463, rfl, ho0, hb⟩; refine ⟨_, rfl, ?_⟩; have n_ := c4_ (Kd.R_elder' (a7_) (Kd.R_base ho0) hb) (Kd.R_elder' (a9_) (Kd.R_base ho0) hb) (Kd.R_lower (Kd.R_new' (Kd.R_new' ho0 (Kd.R_lt (a7_))) (Kd.R_lt (a9_))) (below_size (a3_))) (below_step (a3_) hb); clear HO456 HO460 HB; obtain ⟨HO456, HO460, HO464, HB⟩ := n_; (try clear hb); (try clear hb2); (try clear hk); (try clear hi); (try clear ho0); obtain ⟨Ao31, co31, eo31⟩ := Kd.R_slice HO464.out; subst eo31) | ((with_reducible refine gate_callee (f := 17) rfl ?_); refine goesL_ (some 25) rfl rfl Try.func17 (by kernel_rfl) rfl #[.slice Ao28 t458.length co28, .slice Ao31 t462.length co31] rfl (a1_) ?_; (with_reducible refine (laws_eqPathStepS.calls k _ _ t458 _ _ t462 false _ ?side1 ?side2 ?side3 ?side4 A11.out).mono ?_); (case side1 => exact a8_); (case side2 => exact (Kd.R_reads' HO460.out).2.1); (case side3 => exact by repeat (first | exact (Kd.R_reads' HO464.out).2.2 | (with_reducible refine Kd.C_alloc ?_ _) | (with_reducible refine Kd.C_drewN ?_ _) | (with_reducible refine Kd.C_drew ?_))); (case side4 => exact (Kd.R_reads' HO464.out).2.1); rintro e w32 ⟨rfl, hb⟩; refine ⟨_, rfl, ?_⟩; have n_ := c4_ (Kd.R_below (a7_) hb) (Kd.R_below (a9_) hb) (Kd.R_below (by (with_reducible repeat (first | apply Kd.R_alloc | apply Kd.R_drewN | apply Kd.R_drew)); exact HO464.out) hb) (below_step (a3_) hb); clear HO456 HO460 HO464 HB; obtain ⟨HO456, HO460, HO464, HB⟩ := n_; (try clear hb); (try clear hb2); (try clear hk); (try clear hi)))
    go_ret
    exact ⟨a4_, a3_⟩
  ·rw [if_neg c9] at H
   have c9b0 : (t461.toList == t457.toList) = false := beq_eq_false_iff_ne.mpr c9
   have c9b1 : (t461.toList != t457.toList) = true := bne_iff_ne.mpr c9
   obtain rfl := Option.some.inj H
   go_enter Try.func6, Try.ntmps6
   go_wp2_with (first | ((with_reducible refine gate_callee (f := 13) rfl ?_); refine goesL_ (some 9) rfl rfl Try.func13 (by kernel_rfl) rfl #[.slice A0 l0.length c0, .int .i64 1048576] rfl (a1_) ?_; (with_reducible refine (laws_szPathStepS.calls k _ _ l0 1048576 t453 _ ?side1 ?side2 A2.out).mono ?_); (case side1 => exact a2_); (case side2 => exact HC0.out); rintro e w33 ⟨rfl, hb⟩; refine ⟨_, rfl, ?_⟩; have n0_ := Aside0.mk (below_step (a3_) hb); clear HB; have HB := n0_; clear n0_; (try clear hb); (try clear hb2); (try clear hk); (try clear hi)) | ((with_reducible refine gate_callee (f := 15) rfl ?_); refine goesL_ (some 13) rfl rfl Try.func15 (by kernel_rfl) rfl #[.slice A0 l0.length c0] rfl (a1_) ?_; (with_reducible refine (laws_toPathStepS.calls k _ _ l0 t454 _ ?side1 ?side2 A5.out).mono ?_); (case side1 => exact a5_); (case side2 => exact HC0.out); rintro e w34 ⟨v455, rfl, ho0, hb⟩; refine ⟨_, rfl, ?_⟩; have n_ := c2_ (Kd.R_lower ho0 (below_size (a3_))) (below_step (a3_) hb); clear HB; obtain ⟨HO456, HB⟩ := n_; (try clear hb); (try clear hb2); (try clear hk); (try clear hi); (try clear ho0); obtain ⟨Ao35, co35, eo35⟩ := Kd.R_slice HO456.out; subst eo35) | ((with_reducible refine gate_callee (f := 22) rfl ?_); refine goesL_ (some 14) rfl rfl Try.func22 (by kernel_rfl) rfl #[.slice Ao35 t454.length co35] rfl (a1_) ?_; (with_reducible refine (spec_ShowSteps.calls k _ _ t454 t457 _ ?side1 ?side2 A6.out).mono ?_); (case side1 => exact a6_); (case side2 => exact (Kd.R_reads' HO456.out).2.1); rintro e w36 ⟨rfl, hb⟩; refine ⟨_, rfl, ?_⟩; have n_ := c2_ (Kd.R_below (a7_) hb) (below_step (a3_) hb); clear HO456 HB; obtain ⟨HO456, HB⟩ := n_; (try clear hb); (try clear hb2); (try clear hk); (try clear hi)) | ((with_reducible refine gate_callee (f := 15) rfl ?_); refine goesL_ (some 16) rfl rfl Try.func15 (by kernel_rfl) rfl #[.slice A0 l0.length c0] rfl (a1_) ?_; (with_reducible refine (laws_toPathStepS.calls k _ _ l0 t458 _ ?side1 ?side2 A7.out).mono ?_); (case side1 => exact a5_); (case side2 => exact HC0.out); rintro e w37 ⟨v459, rfl, ho0, hb⟩; refine ⟨_, rfl, ?_⟩; have n_ := c3_ (Kd.R_elder' (a7_) (Kd.R_base ho0) hb) (Kd.R_lower (Kd.R_new' ho0 (Kd.R_lt (a7_))) (below_size (a3_))) (below_step (a3_) hb); clear HO456 HB; obtain ⟨HO456, HO460, HB⟩ := n_; (try clear hb); (try clear hb2); (try clear hk); (try clear hi); (try clear ho0); obtain ⟨Ao38, co38, eo38⟩ := Kd.R_slice HO460.out; subst eo38) | ((with_reducible refine gate_callee (f := 23) rfl ?_); refine goesL_ (some 18) rfl rfl Try.func23 (by kernel_rfl) rfl #[.slice Ao38 t458.length co38] rfl (a1_) ?_; (with_reducible refine (impl_ShowSteps.calls k _ _ t458 t461 _ ?side1 ?side2 A8.out).mono ?_); (case side1 => exact a8_); (case side2 => exact (Kd.R_reads' HO460.out).2.1); rintro e w39 ⟨rfl, hb⟩; refine ⟨_, rfl, ?_⟩; have n_ := c3_ (Kd.R_below (a7_) hb) (Kd.R_below (a9_) hb) (below_step (a3_) hb); clear HO456 HO460 HB; obtain ⟨HO456, HO460, HB⟩ := n_; (try clear hb); (try clear hb2); (try clear hk); (try clear hi)))
   go_ret
   exact ⟨a4_, a3_⟩

end Go.Proofs.Ytmecapnpgedcnaa.PFnExactShowSteps
