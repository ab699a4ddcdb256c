/- Walks of Go functions, written by program out of the print of the translation, with contracts of our own where the print has none. -/
import Derived.Test.YtmecapnpgedcnaaPFnExactStepsFaultx0
import Derived.Test.YtmecapnpgedcnaaPFnExactStepsFaultx8
import Derived.Test.YtmecapnpgedcnaaPFnExactStepsFaultx11
namespace Go.Proofs.Ytmecapnpgedcnaa.PFnExactStepsFault
open Go.RowKit Go.Proofs.YtmecapnpgedcnaaW.PrintWords Go.Proofs.YtmecapnpgedcnaaW.PrintLast Go.Proofs.YtmecapnpgedcnaaW.PrintMore
attribute [local go_sem] max2_int min2_int max_two min_two max_three min_three max_four min_four   -- for this text's walks alone
set_option linter.unusedVariables false
set_option linter.unusedSimpArgs false

/-! ### impl_walkTree_ok: function 65 -/
mutual
def impl_walkTree_ok.l0 : Nat → List (S70) → Int → Int → Int → ByteArray → Int → List (S70) → Option (Bool)
 | 0, _, _, _, _, _, _, _ => none
 | k + 1, x7, x8, x9, x383000, x383001, x383002, x383003 => if x9 < x8 then (if 0 ≤ x9 then (if x9 < (x7.length : Int) then ((impl_walkTree_ok.f k ((rd_T70 x7 x9).f0.f0) ((rd_T70 x7 x9).f0.f1) ((rd_T70 x7 x9).f0.f2) ((rd_T70 x7 x9).f1)).bind fun t385 => (if t385 = true then (impl_walkTree_ok.l0 k x7 x8 (wrap64 (x9 + 1)) x383000 x383001 x383002 x383003) else (some false))) else (none)) else (none)) else (if x383000 = 1 then (impl_walkTree_ok.j1 k (x383003.length : Int) x383000 (x383000 == 1) x383000 x383001 x383002 x383003) else (impl_walkTree_ok.j1 k (x383003.length : Int) x383000 (x383000 == 2) x383000 x383001 x383002 x383003))
def impl_walkTree_ok.j1 : Nat → Int → Int → Bool → Int → ByteArray → Int → List (S70) → Option (Bool)
 | 0, _, _, _, _, _, _, _ => none
 | k + 1, x5, x22, x23, x383000, x383001, x383002, x383003 => if x23 = true then (if x5 = 0 then ((impl_isName.f k x383001).bind fun t386 => (some t386)) else (some false)) else (if x22 = 3 then (if x5 = 0 then ((impl_LabelsFault.f k x383001).bind fun t387 => (some (t387 == 0))) else (some false)) else (if x22 = 4 then (impl_walkTree_ok.j2 k x5 x22 (x22 == 4) x383000 x383001 x383002 x383003) else (impl_walkTree_ok.j2 k x5 x22 (x22 == 5) x383000 x383001 x383002 x383003)))
def impl_walkTree_ok.j2 : Nat → Int → Int → Bool → Int → ByteArray → Int → List (S70) → Option (Bool)
 | 0, _, _, _, _, _, _, _ => none
 | k + 1, x5, x22, x45, x383000, x383001, x383002, x383003 => if x45 = true then (if x5 = 2 then (some (x383001.toList == ([] : List UInt8))) else (some false)) else (if x22 = 6 then (if x5 = 1 then (some (x383001.toList == ([] : List UInt8))) else (some false)) else (if x22 = 7 then (if x5 = 1 then (some (x383001.toList == ([] : List UInt8))) else (some false)) else (if x22 = 8 then (if x5 = 1 then (some (x383001.toList == ([] : List UInt8))) else (some false)) else (some false))))
def impl_walkTree_ok.f : Nat → Int → ByteArray → Int → List (S70) → Option (Bool)
 | 0, _, _, _, _ => none
 | k + 1, a0_0, a0_1, a0_2, l0_3 => impl_walkTree_ok.l0 k l0_3 (l0_3.length : Int) 0 a0_0 a0_1 a0_2 l0_3
end
theorem impl_walkTree_ok.a1_ {p : Prop} (h : p := by repeat (first | (with_reducible first | exact HB.out | apply below_alloc | apply pw_below_drewN | apply below_drew1) | exact HB.out)) : p := h
theorem impl_walkTree_ok.a2_ {p : Prop} (h : p := by (with_reducible repeat (first | refine blk_drewN ?_ _ | refine blk_drew ?_ | refine blk_alloc ?_ _)); exact BK382.out) : p := h
theorem impl_walkTree_ok.a3_ {p : Prop} (h : p := by repeat (first | (with_reducible first | exact HB.out | apply below_alloc | apply pw_below_drewN | apply below_drew1 | refine below_set ?_ GE382.out) | exact HB.out)) : p := h
theorem impl_walkTree_ok.a4_ {p : Prop} (h : p := by repeat (first | (with_reducible first | exact HB.out | apply below_alloc | apply pw_below_drewN | apply below_drew1 | refine below_set ?_ GE382.out | refine below_set ?_ GE384.out) | exact HB.out)) : p := h
theorem impl_walkTree_ok.a5_ {p : Prop} (h : p := by (with_reducible repeat (first | refine blk_drewN ?_ _ | refine blk_drew ?_ | refine blk_alloc ?_ _)); refine blk_far ?_ NB382_384.out _; (with_reducible repeat (first | refine blk_drewN ?_ _ | refine blk_drew ?_ | refine blk_alloc ?_ _)); refine blk_far ?_ NB382_384.out _; (with_reducible repeat (first | refine blk_drewN ?_ _ | refine blk_drew ?_ | refine blk_alloc ?_ _)); refine blk_far ?_ NB382_384.out _; (with_reducible repeat (first | refine blk_drewN ?_ _ | refine blk_drew ?_ | refine blk_alloc ?_ _)); refine blk_far ?_ NB382_384.out _; (with_reducible repeat (first | refine blk_drewN ?_ _ | refine blk_drew ?_ | refine blk_alloc ?_ _)); exact BK382.out) : p := h
theorem impl_walkTree_ok.a6_ {p : Prop} (h : p := by (with_reducible repeat (first | refine blk_drewN ?_ _ | refine blk_drew ?_ | refine blk_alloc ?_ _)); refine blk_put (cs := #[.int .i64 ((rd_T70 l0_3 x9_1).f0.f0), .string ((rd_T70 l0_3 x9_1).f0.f1), .int .i64 ((rd_T70 l0_3 x9_1).f0.f2), .slice none 0 0]) ?_ 3 _ rfl; (with_reducible repeat (first | refine blk_drewN ?_ _ | refine blk_drew ?_ | refine blk_alloc ?_ _)); refine blk_put (cs := #[.int .i64 ((rd_T70 l0_3 x9_1).f0.f0), .string ((rd_T70 l0_3 x9_1).f0.f1), .int .i64 0, .slice none 0 0]) ?_ 2 _ rfl; (with_reducible repeat (first | refine blk_drewN ?_ _ | refine blk_drew ?_ | refine blk_alloc ?_ _)); refine blk_put (cs := #[.int .i64 ((rd_T70 l0_3 x9_1).f0.f0), .string (⟨#[]⟩ : ByteArray), .int .i64 0, .slice none 0 0]) ?_ 1 _ rfl; (with_reducible repeat (first | refine blk_drewN ?_ _ | refine blk_drew ?_ | refine blk_alloc ?_ _)); refine blk_put (cs := #[.int .i64 0, .string (⟨#[]⟩ : ByteArray), .int .i64 0, .slice none 0 0]) ?_ 0 _ rfl; (with_reducible repeat (first | refine blk_drewN ?_ _ | refine blk_drew ?_ | refine blk_alloc ?_ _)); exact BK384.out) : p := h
theorem impl_walkTree_ok.a7_ {p : Prop} (h : p := by first | rfl | (simp [errW_none, errW_some] <;> rfl) | (simp [*, errW_none, errW_some] <;> rfl)) : p := h
set_option maxHeartbeats 8000000 in
set_option maxRecDepth 100000 in
theorem impl_walkTree_ok.calls (k : Nat) : ∀ (a0_0 : Int) (a0_1 : ByteArray) (a0_2 : Int) (A0_3 : Option Addr) (c0_3 : Nat) (l0_3 : List (S70)) (r : Bool) (w : World) (hr0_3 : Kd.C k70 w A0_3 l0_3.length l0_3) (hc0_3 : l0_3.length ≤ c0_3) (h : impl_walkTree_ok.f k a0_0 a0_1 a0_2 l0_3 = some r),
  Calls Try.prog 65 #[.agg #[.int .i64 a0_0, .string a0_1, .int .i64 a0_2, .slice A0_3 l0_3.length c0_3]] w fun e w' => e = .returned (.bool r) ∧ Below w.heap.size w w' := by
 induction k using Nat.strongRecOn with
 | _ k ih =>
 intro a0_0 a0_1 a0_2 A0_3 c0_3 l0_3 r w hr0_3 hc0_3 h
 cases k with
 | zero => exact absurd h (by simp [impl_walkTree_ok.f])
 | succ k =>
 simp only [impl_walkTree_ok.f] at h
 have hu70 := Try.underlying70
 have HR0_3 := Aside0.mk hr0_3
 have HC0_3 := Aside0.mk hc0_3
 clear hr0_3 hc0_3
 have HB := Aside0.mk (Below.refl w.heap.size w)
 have H : (impl_walkTree_ok.l0 k l0_3 (l0_3.length : Int) 0 a0_0 a0_1 a0_2 l0_3) = some r := h
 clear h
 have H' := Aside0.mk H
 clear H
 go_enter Try.func65, Try.ntmps65
 go_wp2_with (first | ((with_reducible refine gate_dst (N := 1) rfl ?_); refine box_event ?hg (N := 1) ?hd (cs := #[.int .i64 a0_0, .string a0_1, .int .i64 a0_2, .slice A0_3 l0_3.length c0_3]) (t := 70) ?hr ?_; (case hd => rfl); (case hg => rfl); (case hr => first | (go_simp; done) | (go_simp; rfl)); intro gb382 hg w2 hbox hb; have n_ := c4_ (below_step (a1_) hb) (hbox) ((by rw [hg]; exact (below_size (a1_)) : w.heap.size ≤ gb382)) ((by rw [hg]; exact (below_size (a1_)) : w.heap.size ≤ gb382)); clear HB; obtain ⟨HB, BK382, GW382, GE382⟩ := n_; clear hb hbox hg; have hcz3_0 : w2.cell? ⟨gb382, 0, none⟩ = some (.int .i64 a0_0) := (blk_cell BK382.out 0).trans rfl; have hcz3_1 : w2.cell? ⟨gb382, 1, none⟩ = some (.string a0_1) := (blk_cell BK382.out 1).trans rfl; have hcz3_2 : w2.cell? ⟨gb382, 2, none⟩ = some (.int .i64 a0_2) := (blk_cell BK382.out 2).trans rfl; have hcz3_3 : w2.cell? ⟨gb382, 3, none⟩ = some (.slice A0_3 l0_3.length c0_3) := (blk_cell BK382.out 3).trans rfl; have hfz3_0 := blk_frozen BK382.out 0; have hfz3_1 := blk_frozen BK382.out 1; have hfz3_2 := blk_frozen BK382.out 2; have hfz3_3 := blk_frozen BK382.out 3))
 go_loopg [9] k (fun kq v9 w' => ∃ (x9_1 : Int), v9 = .int .i64 x9_1 ∧ Aside0 (impl_walkTree_ok.l0 kq l0_3 (l0_3.length : Int) x9_1 a0_0 a0_1 a0_2 l0_3 = some r) ∧ Aside0 (kq ≤ k) ∧ Aside0 (w'.heap[gb382]? = some (.cells #[.int .i64 a0_0, .string a0_1, .int .i64 a0_2, (.slice A0_3 l0_3.length c0_3)] 70 (0, 0))) ∧ Aside0 (Below w.heap.size w w'))
 case atStart => exact ⟨(0), (by first | rfl | (simp; done) | (simp [*]; done)), H', ⟨Nat.le_refl _⟩, ⟨a2_⟩, ⟨a3_⟩⟩
 case round =>
  clear H'
  try clear p2
  try clear hcz3_0
  try clear hcz3_1
  try clear hcz3_2
  try clear hcz3_3
  try clear hfz3_0
  try clear hfz3_1
  try clear hfz3_2
  try clear hfz3_3
  obtain ⟨x9_1, rfl, HA, HK1, BK382, HB⟩ := hrel
  cases gk with
  | zero => exact absurd HA.out (by simp [impl_walkTree_ok.l0])
  | succ k1 =>
   have H := HA.out
   clear HA
   simp only [impl_walkTree_ok.l0] at H
   by_cases c4 : x9_1 < (l0_3.length : Int)
   ·rw [if_pos c4] at H
    have c4b0 : decide (x9_1 < (l0_3.length : Int)) = true := decide_eq_true c4
    clear c4
    by_cases c5 : 0 ≤ x9_1
    ·rw [if_pos c5] at H
     have c5b0 : decide (0 ≤ x9_1) = true := decide_eq_true c5
     clear c5
     by_cases c6 : x9_1 < (l0_3.length : Int)
     ·rw [if_pos c6] at H
      have c6b0 : decide (x9_1 < (l0_3.length : Int)) = true := decide_eq_true c6
      clear c6
      replace H := Option.bind_eq_some_iff.mp H
      obtain ⟨t385, A70, H⟩ := H
      replace H : (if t385 = true then (impl_walkTree_ok.l0 k1 l0_3 (l0_3.length : Int) (wrap64 (x9_1 + 1)) a0_0 a0_1 a0_2 l0_3) else (some false)) = some r := H
      have A7 := Aside0.mk A70
      clear A70
      by_cases c8 : t385 = true
      ·subst c8
       have H1 : (impl_walkTree_ok.l0 k1 l0_3 (l0_3.length : Int) (wrap64 (x9_1 + 1)) a0_0 a0_1 a0_2 l0_3) = some r := by rw [if_pos rfl] at H; exact H
       clear H
       have H := H1
       clear H1
       have H' := Aside0.mk H
       clear H
       have p383 : 0 ≤ (x9_1 : Int) := of_decide_eq_true (by first | (with_reducible assumption) | assumption)
       have q383 : x9_1 < (l0_3.length : Int) := of_decide_eq_true (by first | (with_reducible assumption) | assumption)
       obtain ⟨ad383, A383_3, c383_3, e383, hx383_0, hx383_1, hx383_2, hx383_3, hl383_3, hi383_3⟩ := at_T70 HR0_3.out x9_1 p383 q383
       cases e383
       replace hx383_0 := (HB.out.cell (World.block_lt_of_cell? w _ hx383_0)).trans hx383_0
       replace hx383_1 := (HB.out.cell (World.block_lt_of_cell? w _ hx383_1)).trans hx383_1
       replace hx383_2 := (HB.out.cell (World.block_lt_of_cell? w _ hx383_2)).trans hx383_2
       replace hx383_3 := (HB.out.cell (World.block_lt_of_cell? w _ hx383_3)).trans hx383_3
       have HR383_3 := Aside0.mk hi383_3
       have HC383_3 := Aside0.mk hl383_3
       clear hi383_3 hl383_3
       replace p383 := eq_true p383
       replace q383 := eq_true q383
       go_wp2_with (first | ((with_reducible refine gate_dst (N := 4) rfl ?_); refine box_event ?hg (N := 4) ?hd (cs := #[.int .i64 0, .string (⟨#[]⟩ : ByteArray), .int .i64 0, .slice none 0 0]) (t := 70) ?hr ?_; (case hd => rfl); (case hg => rfl); (case hr => first | (go_simp; done) | (go_simp; rfl)); intro gb384 hg w9 hbox hb; have n_ := c7_ (blk_below (g := gb382) (o := .cells #[.int .i64 a0_0, .string a0_1, .int .i64 a0_2, .slice (some ad383) l0_3.length c0_3] 70 (0, 0)) (a2_) hb) (below_step (a3_) hb) (hbox) ((by rw [hg]; exact (below_size (a3_)) : w.heap.size ≤ gb384)) ((by rw [hg]; exact (below_size (a3_)) : w.heap.size ≤ gb384)) ((by rw [hg]; exact Nat.ne_of_lt (blk_lt (g := gb382) (o := .cells #[.int .i64 a0_0, .string a0_1, .int .i64 a0_2, .slice (some ad383) l0_3.length c0_3] 70 (0, 0)) (a2_)) : gb382 ≠ gb384)) ((by rw [hg]; exact Nat.ne_of_gt (blk_lt (g := gb382) (o := .cells #[.int .i64 a0_0, .string a0_1, .int .i64 a0_2, .slice (some ad383) l0_3.length c0_3] 70 (0, 0)) (a2_)) : gb384 ≠ gb382)); clear BK382 HB; obtain ⟨BK382, HB, BK384, GW384, GE384, NB382_384, NB384_382⟩ := n_; clear hb hbox hg; have hnb10 := NB384_382.out; have hnc10 := NB382_384.out; have hcz11_0 : w9.cell? ⟨gb384, 0, none⟩ = some (.int .i64 0) := (blk_cell BK384.out 0).trans rfl; have hcz11_1 : w9.cell? ⟨gb384, 1, none⟩ = some (.string (⟨#[]⟩ : ByteArray)) := (blk_cell BK384.out 1).trans rfl; have hcz11_2 : w9.cell? ⟨gb384, 2, none⟩ = some (.int .i64 0) := (blk_cell BK384.out 2).trans rfl; have hcz11_3 : w9.cell? ⟨gb384, 3, none⟩ = some (.slice none 0 0) := (blk_cell BK384.out 3).trans rfl; have hfz11_0 := blk_frozen BK384.out 0; have hfz11_1 := blk_frozen BK384.out 1; have hfz11_2 := blk_frozen BK384.out 2; have hfz11_3 := blk_frozen BK384.out 3) | ((with_reducible refine gate_callee (f := 65) rfl ?_); refine goesL_ (some 14) rfl rfl Try.func65 (by kernel_rfl) rfl #[.agg #[.int .i64 ((rd_T70 l0_3 x9_1).f0.f0), .string ((rd_T70 l0_3 x9_1).f0.f1), .int .i64 ((rd_T70 l0_3 x9_1).f0.f2), .slice A383_3 ((rd_T70 l0_3 x9_1).f1).length c383_3]] rfl (by (try simp only [List.map_toArray, List.map_cons, List.map_nil]); first | done | rfl | (simp only [List.length_drop, List.length_take]; rfl)) ?_; (with_reducible refine (ih k1 (by have := HK1.out; omega) ((rd_T70 l0_3 x9_1).f0.f0) ((rd_T70 l0_3 x9_1).f0.f1) ((rd_T70 l0_3 x9_1).f0.f2) _ _ ((rd_T70 l0_3 x9_1).f1) true _ ?side1 ?side2 A7.out).mono ?_); (case side1 => exact Kd.C_below HR383_3.out (a4_)); (case side2 => exact HC383_3.out); rintro e w12 ⟨rfl, hb⟩; refine ⟨_, rfl, ?_⟩; have n_ := c3_ (blk_below (g := gb382) (o := .cells #[.int .i64 a0_0, .string a0_1, .int .i64 a0_2, .slice (some ad383) l0_3.length c0_3] 70 (0, 0)) (a5_) hb) (blk_below (g := gb384) (o := .cells #[.int .i64 ((rd_T70 l0_3 x9_1).f0.f0), .string ((rd_T70 l0_3 x9_1).f0.f1), .int .i64 ((rd_T70 l0_3 x9_1).f0.f2), .slice A383_3 ((rd_T70 l0_3 x9_1).f1).length c383_3] 70 (0, 0)) (a6_) hb) (below_step (a4_) hb); clear BK382 BK384 HB; obtain ⟨BK382, BK384, HB⟩ := n_; (try clear hb); (try clear hb2); (try clear hk); (try clear hi)))
       go_roundg k1
       case measure => have := HK1.out; omega
       case rel => exact ⟨(wrap64 (x9_1 + 1)), (by first | rfl | (simp; done) | (simp [*]; done)), H', ⟨by have := HK1.out; omega⟩, ⟨a2_⟩, ⟨a4_⟩⟩
      ·replace c8 := Bool.eq_false_iff.mpr c8
       subst c8
       have H1 : (some false) = some r := by rw [if_neg (show ¬ (false = true) by decide)] at H; exact H
       clear H
       have H := H1
       clear H1
       obtain rfl := Option.some.inj H
       have p383 : 0 ≤ (x9_1 : Int) := of_decide_eq_true (by first | (with_reducible assumption) | assumption)
       have q383 : x9_1 < (l0_3.length : Int) := of_decide_eq_true (by first | (with_reducible assumption) | assumption)
       obtain ⟨ad383, A383_3, c383_3, e383, hx383_0, hx383_1, hx383_2, hx383_3, hl383_3, hi383_3⟩ := at_T70 HR0_3.out x9_1 p383 q383
       cases e383
       replace hx383_0 := (HB.out.cell (World.block_lt_of_cell? w _ hx383_0)).trans hx383_0
       replace hx383_1 := (HB.out.cell (World.block_lt_of_cell? w _ hx383_1)).trans hx383_1
       replace hx383_2 := (HB.out.cell (World.block_lt_of_cell? w _ hx383_2)).trans hx383_2
       replace hx383_3 := (HB.out.cell (World.block_lt_of_cell? w _ hx383_3)).trans hx383_3
       have HR383_3 := Aside0.mk hi383_3
       have HC383_3 := Aside0.mk hl383_3
       clear hi383_3 hl383_3
       replace p383 := eq_true p383
       replace q383 := eq_true q383
       go_wp2_with (first | ((with_reducible refine gate_dst (N := 4) rfl ?_); refine box_event ?hg (N := 4) ?hd (cs := #[.int .i64 0, .string (⟨#[]⟩ : ByteArray), .int .i64 0, .slice none 0 0]) (t := 70) ?hr ?_; (case hd => rfl); (case hg => rfl); (case hr => first | (go_simp; done) | (go_simp; rfl)); intro gb384 hg w13 hbox hb; have n_ := c7_ (blk_below (g := gb382) (o := .cells #[.int .i64 a0_0, .string a0_1, .int .i64 a0_2, .slice (some ad383) l0_3.length c0_3] 70 (0, 0)) (a2_) hb) (below_step (a3_) hb) (hbox) ((by rw [hg]; exact (below_size (a3_)) : w.heap.size ≤ gb384)) ((by rw [hg]; exact (below_size (a3_)) : w.heap.size ≤ gb384)) ((by rw [hg]; exact Nat.ne_of_lt (blk_lt (g := gb382) (o := .cells #[.int .i64 a0_0, .string a0_1, .int .i64 a0_2, .slice (some ad383) l0_3.length c0_3] 70 (0, 0)) (a2_)) : gb382 ≠ gb384)) ((by rw [hg]; exact Nat.ne_of_gt (blk_lt (g := gb382) (o := .cells #[.int .i64 a0_0, .string a0_1, .int .i64 a0_2, .slice (some ad383) l0_3.length c0_3] 70 (0, 0)) (a2_)) : gb384 ≠ gb382)); clear BK382 HB; obtain ⟨BK382, HB, BK384, GW384, GE384, NB382_384, NB384_382⟩ := n_; clear hb hbox hg; have hnb14 := NB384_382.out; have hnc14 := NB382_384.out; have hcz15_0 : w13.cell? ⟨gb384, 0, none⟩ = some (.int .i64 0) := (blk_cell BK384.out 0).trans rfl; have hcz15_1 : w13.cell? ⟨gb384, 1, none⟩ = some (.string (⟨#[]⟩ : ByteArray)) := (blk_cell BK384.out 1).trans rfl; have hcz15_2 : w13.cell? ⟨gb384, 2, none⟩ = some (.int .i64 0) := (blk_cell BK384.out 2).trans rfl; have hcz15_3 : w13.cell? ⟨gb384, 3, none⟩ = some (.slice none 0 0) := (blk_cell BK384.out 3).trans rfl; have hfz15_0 := blk_frozen BK384.out 0; have hfz15_1 := blk_frozen BK384.out 1; have hfz15_2 := blk_frozen BK384.out 2; have hfz15_3 := blk_frozen BK384.out 3) | ((with_reducible refine gate_callee (f := 65) rfl ?_); refine goesL_ (some 14) rfl rfl Try.func65 (by kernel_rfl) rfl #[.agg #[.int .i64 ((rd_T70 l0_3 x9_1).f0.f0), .string ((rd_T70 l0_3 x9_1).f0.f1), .int .i64 ((rd_T70 l0_3 x9_1).f0.f2), .slice A383_3 ((rd_T70 l0_3 x9_1).f1).length c383_3]] rfl (by (try simp only [List.map_toArray, List.map_cons, List.map_nil]); first | done | rfl | (simp only [List.length_drop, List.length_take]; rfl)) ?_; (with_reducible refine (ih k1 (by have := HK1.out; omega) ((rd_T70 l0_3 x9_1).f0.f0) ((rd_T70 l0_3 x9_1).f0.f1) ((rd_T70 l0_3 x9_1).f0.f2) _ _ ((rd_T70 l0_3 x9_1).f1) false _ ?side1 ?side2 A7.out).mono ?_); (case side1 => exact Kd.C_below HR383_3.out (a4_)); (case side2 => exact HC383_3.out); rintro e w16 ⟨rfl, hb⟩; refine ⟨_, rfl, ?_⟩; have n_ := c3_ (blk_below (g := gb382) (o := .cells #[.int .i64 a0_0, .string a0_1, .int .i64 a0_2, .slice (some ad383) l0_3.length c0_3] 70 (0, 0)) (a5_) hb) (blk_below (g := gb384) (o := .cells #[.int .i64 ((rd_T70 l0_3 x9_1).f0.f0), .string ((rd_T70 l0_3 x9_1).f0.f1), .int .i64 ((rd_T70 l0_3 x9_1).f0.f2), .slice A383_3 ((rd_T70 l0_3 x9_1).f1).length c383_3] 70 (0, 0)) (a6_) hb) (below_step (a4_) hb); clear BK382 BK384 HB; obtain ⟨BK382, BK384, HB⟩ := n_; (try clear hb); (try clear hb2); (try clear hk); (try clear hi)))
       go_ret
       exact ⟨a7_, a4_⟩
     ·rw [if_neg c6] at H
      exact absurd H (by simp)
    ·rw [if_neg c5] at H
     exact absurd H (by simp)
   ·rw [if_neg c4] at H
    have c4b0 : decide (x9_1 < (l0_3.length : Int)) = false := decide_eq_false c4
    clear c4
    have HC17 := Aside0.mk H
    clear H
    have hcz18_0 : wr.cell? ⟨gb382, 0, none⟩ = some (.int .i64 a0_0) := (blk_cell BK382.out 0).trans rfl
    have hcz18_1 : wr.cell? ⟨gb382, 1, none⟩ = some (.string a0_1) := (blk_cell BK382.out 1).trans rfl
    have hcz18_2 : wr.cell? ⟨gb382, 2, none⟩ = some (.int .i64 a0_2) := (blk_cell BK382.out 2).trans rfl
    have hcz18_3 : wr.cell? ⟨gb382, 3, none⟩ = some (.slice A0_3 l0_3.length c0_3) := (blk_cell BK382.out 3).trans rfl
    have hfz18_0 := blk_frozen BK382.out 0
    have hfz18_1 := blk_frozen BK382.out 1
    have hfz18_2 := blk_frozen BK382.out 2
    have hfz18_3 := blk_frozen BK382.out 3
    go_upto_if 23 with (fail)
    go_cut [23] (fun v23 wc => ∃ (kq : Nat) (x23_16 : Bool), v23 = .bool x23_16 ∧ Aside0 (impl_walkTree_ok.j1 kq (l0_3.length : Int) a0_0 x23_16 a0_0 a0_1 a0_2 l0_3 = some r) ∧ Aside0 (kq ≤ k1) ∧ Aside0 (wc.heap[gb382]? = some (.cells #[.int .i64 a0_0, .string a0_1, .int .i64 a0_2, (.slice A0_3 l0_3.length c0_3)] 70 (0, 0))) ∧ Aside0 (Below w.heap.size w wc))
    case first =>
     have H := HC17.out
     clear HC17
     by_cases c19 : a0_0 = 1
     ·rw [if_pos c19] at H
      have c19b0 : (a0_0 == 1) = true := beq_iff_eq.mpr c19
      have c19b1 : (a0_0 != 1) = false := bne_eq_false_iff_eq.mpr c19
      clear c19
      (first | rw [c19b0] | (simp only [i64_w, i32_w]; rw [c19b0]) | skip)
      have H' := Aside0.mk H
      clear H
      go_wp2
      go_meet
      case rel => exact ⟨_, ((a0_0 == 1)), (by first | rfl | (simp; done) | (simp [*]; done)), H', ⟨by have := HK1.out; first | omega | exact Nat.le_refl _⟩, ⟨a2_⟩, ⟨a3_⟩⟩
     ·rw [if_neg c19] at H
      have c19b0 : (a0_0 == 1) = false := beq_eq_false_iff_ne.mpr c19
      have c19b1 : (a0_0 != 1) = true := bne_iff_ne.mpr c19
      (first | rw [c19b0] | (simp only [i64_w, i32_w]; rw [c19b0]) | skip)
      have H' := Aside0.mk H
      clear H
      go_wp2
      go_meet
      case rel => exact ⟨_, ((a0_0 == 2)), (by first | rfl | (simp; done) | (simp [*]; done)), H', ⟨by have := HK1.out; first | omega | exact Nat.le_refl _⟩, ⟨a2_⟩, ⟨a3_⟩⟩
    case rest =>
     clear HC17
     try clear c1
     try clear p2
     try clear c3
     try clear p3
     try clear q3
     try clear hx3
     try clear c4
     try clear c4b0
     try clear c5
     try clear c5b0
     try clear c6
     try clear c6b0
     try clear p6
     try clear c8
     try clear c10
     try clear c14
     try clear c19
     try clear c19b0
     try clear c19b1
     try clear hcz11_0
     try clear hcz11_1
     try clear hcz11_2
     try clear hcz11_3
     try clear hcz15_0
     try clear hcz15_1
     try clear hcz15_2
     try clear hcz15_3
     try clear hcz18_0
     try clear hcz18_1
     try clear hcz18_2
     try clear hcz18_3
     try clear hcz3_0
     try clear hcz3_1
     try clear hcz3_2
     try clear hcz3_3
     try clear hfz11_0
     try clear hfz11_1
     try clear hfz11_2
     try clear hfz11_3
     try clear hfz15_0
     try clear hfz15_1
     try clear hfz15_2
     try clear hfz15_3
     try clear hfz18_0
     try clear hfz18_1
     try clear hfz18_2
     try clear hfz18_3
     try clear hfz3_0
     try clear hfz3_1
     try clear hfz3_2
     try clear hfz3_3
     try clear hx383_0
     try clear hx383_1
     try clear hx383_2
     try clear hx383_3
     try clear p2
     try clear p383
     try clear q383
     obtain ⟨kq, x23_16, rfl, HA, HJ16, BK382, HB⟩ := hcut
     cases kq with
     | zero => exact absurd HA.out (by simp [impl_walkTree_ok.j1])
     | succ kj16 =>
      have H := HA.out
      clear HA
      simp only [impl_walkTree_ok.j1] at H
      by_cases c20 : x23_16 = true
      ·subst c20
       have H1 : (if (l0_3.length : Int) = 0 then ((impl_isName.f kj16 a0_1).bind fun t386 => (some t386)) else (some false)) = some r := by rw [if_pos rfl] at H; exact H
       clear H
       have H := H1
       clear H1
       by_cases c21 : (l0_3.length : Int) = 0
       ·rw [if_pos c21] at H
        have c21b0 : ((l0_3.length : Int) == 0) = true := beq_iff_eq.mpr c21
        have c21b1 : ((l0_3.length : Int) != 0) = false := bne_eq_false_iff_eq.mpr c21
        clear c21
        replace H := Option.bind_eq_some_iff.mp H
        obtain ⟨t386, A220, H⟩ := H
        replace H : (some t386) = some r := H
        have A22 := Aside0.mk A220
        clear A220
        obtain rfl := Option.some.inj H
        have hcz23_0 : wc.cell? ⟨gb382, 0, none⟩ = some (.int .i64 a0_0) := (blk_cell BK382.out 0).trans rfl
        have hcz23_1 : wc.cell? ⟨gb382, 1, none⟩ = some (.string a0_1) := (blk_cell BK382.out 1).trans rfl
        have hcz23_2 : wc.cell? ⟨gb382, 2, none⟩ = some (.int .i64 a0_2) := (blk_cell BK382.out 2).trans rfl
        have hcz23_3 : wc.cell? ⟨gb382, 3, none⟩ = some (.slice A0_3 l0_3.length c0_3) := (blk_cell BK382.out 3).trans rfl
        have hfz23_0 := blk_frozen BK382.out 0
        have hfz23_1 := blk_frozen BK382.out 1
        have hfz23_2 := blk_frozen BK382.out 2
        have hfz23_3 := blk_frozen BK382.out 3
        go_wp2_with (first | (go_at_call 84; (with_reducible refine (impl_isName.calls kj16 a0_1 t386 _ A22.out).mono ?_); rintro e w' ⟨rfl, ⟨nd, rfl⟩⟩))
        go_ret
        exact ⟨a7_, a3_⟩
       ·rw [if_neg c21] at H
        have c21b0 : ((l0_3.length : Int) == 0) = false := beq_eq_false_iff_ne.mpr c21
        have c21b1 : ((l0_3.length : Int) != 0) = true := bne_iff_ne.mpr c21
        have c21b2 : ¬ (l0_3 = []) := fun h_ => c21 (by rw [h_]; rfl)
        obtain rfl := Option.some.inj H
        go_wp2
        go_ret
        exact ⟨a7_, a3_⟩
      ·replace c20 := Bool.eq_false_iff.mpr c20
       subst c20
       have H1 : (if a0_0 = 3 then (if (l0_3.length : Int) = 0 then ((impl_LabelsFault.f kj16 a0_1).bind fun t387 => (some (t387 == 0))) else (some false)) else (if a0_0 = 4 then (impl_walkTree_ok.j2 kj16 (l0_3.length : Int) a0_0 (a0_0 == 4) a0_0 a0_1 a0_2 l0_3) else (impl_walkTree_ok.j2 kj16 (l0_3.length : Int) a0_0 (a0_0 == 5) a0_0 a0_1 a0_2 l0_3))) = some r := by rw [if_neg (show ¬ (false = true) by decide)] at H; exact H
       clear H
       have H := H1
       clear H1
       by_cases c24 : a0_0 = 3
       ·rw [if_pos c24] at H
        have c24b0 : (a0_0 == 3) = true := beq_iff_eq.mpr c24
        have c24b1 : (a0_0 != 3) = false := bne_eq_false_iff_eq.mpr c24
        clear c24
        by_cases c25 : (l0_3.length : Int) = 0
        ·rw [if_pos c25] at H
         have c25b0 : ((l0_3.length : Int) == 0) = true := beq_iff_eq.mpr c25
         have c25b1 : ((l0_3.length : Int) != 0) = false := bne_eq_false_iff_eq.mpr c25
         clear c25
         replace H := Option.bind_eq_some_iff.mp H
         obtain ⟨t387, A260, H⟩ := H
         replace H : (some (t387 == 0)) = some r := H
         have A26 := Aside0.mk A260
         clear A260
         obtain rfl := Option.some.inj H
         have hcz27_0 : wc.cell? ⟨gb382, 0, none⟩ = some (.int .i64 a0_0) := (blk_cell BK382.out 0).trans rfl
         have hcz27_1 : wc.cell? ⟨gb382, 1, none⟩ = some (.string a0_1) := (blk_cell BK382.out 1).trans rfl
         have hcz27_2 : wc.cell? ⟨gb382, 2, none⟩ = some (.int .i64 a0_2) := (blk_cell BK382.out 2).trans rfl
         have hcz27_3 : wc.cell? ⟨gb382, 3, none⟩ = some (.slice A0_3 l0_3.length c0_3) := (blk_cell BK382.out 3).trans rfl
         have hfz27_0 := blk_frozen BK382.out 0
         have hfz27_1 := blk_frozen BK382.out 1
         have hfz27_2 := blk_frozen BK382.out 2
         have hfz27_3 := blk_frozen BK382.out 3
         go_wp2_with (first | (go_at_call 79; (with_reducible refine (impl_LabelsFault.calls kj16 a0_1 t387 _ A26.out).mono ?_); rintro e w28 ⟨rfl, hb⟩; have n_ := c2_ (blk_below (g := gb382) (o := .cells #[.int .i64 a0_0, .string a0_1, .int .i64 a0_2, .slice A0_3 l0_3.length c0_3] 70 (0, 0)) (a2_) hb) (below_step (a3_) hb); clear BK382 HB; obtain ⟨BK382, HB⟩ := n_; (try clear hb); (try clear hb2); (try clear hk); (try clear hi)))
         go_ret
         exact ⟨a7_, a3_⟩
        ·rw [if_neg c25] at H
         have c25b0 : ((l0_3.length : Int) == 0) = false := beq_eq_false_iff_ne.mpr c25
         have c25b1 : ((l0_3.length : Int) != 0) = true := bne_iff_ne.mpr c25
         have c25b2 : ¬ (l0_3 = []) := fun h_ => c25 (by rw [h_]; rfl)
         obtain rfl := Option.some.inj H
         go_wp2
         go_ret
         exact ⟨a7_, a3_⟩
       ·rw [if_neg c24] at H
        have c24b0 : (a0_0 == 3) = false := beq_eq_false_iff_ne.mpr c24
        have c24b1 : (a0_0 != 3) = true := bne_iff_ne.mpr c24
        have HC29 := Aside0.mk H
        clear H
        go_upto_if 45 with (fail)
        go_cut [45] (fun v45 wc => ∃ (kq : Nat) (x45_28 : Bool), v45 = .bool x45_28 ∧ Aside0 (impl_walkTree_ok.j2 kq (l0_3.length : Int) a0_0 x45_28 a0_0 a0_1 a0_2 l0_3 = some r) ∧ Aside0 (kq ≤ kj16) ∧ Aside0 (wc.heap[gb382]? = some (.cells #[.int .i64 a0_0, .string a0_1, .int .i64 a0_2, (.slice A0_3 l0_3.length c0_3)] 70 (0, 0))) ∧ Aside0 (Below w.heap.size w wc))
        case first =>
         have H := HC29.out
         clear HC29
         by_cases c30 : a0_0 = 4
         ·rw [if_pos c30] at H
          have c30b0 : (a0_0 == 4) = true := beq_iff_eq.mpr c30
          have c30b1 : (a0_0 != 4) = false := bne_eq_false_iff_eq.mpr c30
          clear c30
          (first | rw [c30b0] | (simp only [i64_w, i32_w]; rw [c30b0]) | skip)
          have H' := Aside0.mk H
          clear H
          go_wp2
          go_meet
          case rel => exact ⟨_, ((a0_0 == 4)), (by first | rfl | (simp; done) | (simp [*]; done)), H', ⟨by have := HK1.out; have := HJ16.out; first | omega | exact Nat.le_refl _⟩, ⟨a2_⟩, ⟨a3_⟩⟩
         ·rw [if_neg c30] at H
          have c30b0 : (a0_0 == 4) = false := beq_eq_false_iff_ne.mpr c30
          have c30b1 : (a0_0 != 4) = true := bne_iff_ne.mpr c30
          (first | rw [c30b0] | (simp only [i64_w, i32_w]; rw [c30b0]) | skip)
          have H' := Aside0.mk H
          clear H
          go_wp2
          go_meet
          case rel => exact ⟨_, ((a0_0 == 5)), (by first | rfl | (simp; done) | (simp [*]; done)), H', ⟨by have := HK1.out; have := HJ16.out; first | omega | exact Nat.le_refl _⟩, ⟨a2_⟩, ⟨a3_⟩⟩
        case rest =>
         clear HC29
         try clear c1
         try clear c2
         try clear p2
         try clear c3
         try clear p3
         try clear q3
         try clear hx3
         try clear c4
         try clear c4b0
         try clear c5
         try clear c5b0
         try clear c6
         try clear c6b0
         try clear p6
         try clear c8
         try clear c10
         try clear c14
         try clear c19
         try clear c19b0
         try clear c19b1
         try clear c20
         try clear c21
         try clear c21b0
         try clear c21b1
         try clear c21b2
         try clear c24
         try clear c24b0
         try clear c24b1
         try clear c25
         try clear c25b0
         try clear c25b1
         try clear c25b2
         try clear c30
         try clear c30b0
         try clear c30b1
         try clear hcz11_0
         try clear hcz11_1
         try clear hcz11_2
         try clear hcz11_3
         try clear hcz15_0
         try clear hcz15_1
         try clear hcz15_2
         try clear hcz15_3
         try clear hcz18_0
         try clear hcz18_1
         try clear hcz18_2
         try clear hcz18_3
         try clear hcz23_0
         try clear hcz23_1
         try clear hcz23_2
         try clear hcz23_3
         try clear hcz27_0
         try clear hcz27_1
         try clear hcz27_2
         try clear hcz27_3
         try clear hcz3_0
         try clear hcz3_1
         try clear hcz3_2
         try clear hcz3_3
         try clear hfz11_0
         try clear hfz11_1
         try clear hfz11_2
         try clear hfz11_3
         try clear hfz15_0
         try clear hfz15_1
         try clear hfz15_2
         try clear hfz15_3
         try clear hfz18_0
         try clear hfz18_1
         try clear hfz18_2
         try clear hfz18_3
         try clear hfz23_0
         try clear hfz23_1
         try clear hfz23_2
         try clear hfz23_3
         try clear hfz27_0
         try clear hfz27_1
         try clear hfz27_2
         try clear hfz27_3
         try clear hfz3_0
         try clear hfz3_1
         try clear hfz3_2
         try clear hfz3_3
         try clear hx383_0
         try clear hx383_1
         try clear hx383_2
         try clear hx383_3
         try clear p2
         try clear p3
         try clear p383
         try clear p6
         try clear q3
         try clear q383
         obtain ⟨kq, x45_28, rfl, HA, HJ28, BK382, HB⟩ := hcut
         cases kq with
         | zero => exact absurd HA.out (by simp [impl_walkTree_ok.j2])
         | succ kj28 =>
          have H := HA.out
          clear HA
          simp only [impl_walkTree_ok.j2] at H
          by_cases c31 : x45_28 = true
          ·subst c31
           have H1 : (if (l0_3.length : Int) = 2 then (some (a0_1.toList == ([] : List UInt8))) else (some false)) = some r := by rw [if_pos rfl] at H; exact H
           clear H
           have H := H1
           clear H1
           by_cases c32 : (l0_3.length : Int) = 2
           ·rw [if_pos c32] at H
            have c32b0 : ((l0_3.length : Int) == 2) = true := beq_iff_eq.mpr c32
            have c32b1 : ((l0_3.length : Int) != 2) = false := bne_eq_false_iff_eq.mpr c32
            clear c32
            obtain rfl := Option.some.inj H
            have hcz33_0 : wc.cell? ⟨gb382, 0, none⟩ = some (.int .i64 a0_0) := (blk_cell BK382.out 0).trans rfl
            have hcz33_1 : wc.cell? ⟨gb382, 1, none⟩ = some (.string a0_1) := (blk_cell BK382.out 1).trans rfl
            have hcz33_2 : wc.cell? ⟨gb382, 2, none⟩ = some (.int .i64 a0_2) := (blk_cell BK382.out 2).trans rfl
            have hcz33_3 : wc.cell? ⟨gb382, 3, none⟩ = some (.slice A0_3 l0_3.length c0_3) := (blk_cell BK382.out 3).trans rfl
            have hfz33_0 := blk_frozen BK382.out 0
            have hfz33_1 := blk_frozen BK382.out 1
            have hfz33_2 := blk_frozen BK382.out 2
            have hfz33_3 := blk_frozen BK382.out 3
            go_wp2
            go_ret
            exact ⟨a7_, a3_⟩
           ·rw [if_neg c32] at H
            have c32b0 : ((l0_3.length : Int) == 2) = false := beq_eq_false_iff_ne.mpr c32
            have c32b1 : ((l0_3.length : Int) != 2) = true := bne_iff_ne.mpr c32
            obtain rfl := Option.some.inj H
            go_wp2
            go_ret
            exact ⟨a7_, a3_⟩
          ·replace c31 := Bool.eq_false_iff.mpr c31
           subst c31
           have H1 : (if a0_0 = 6 then (if (l0_3.length : Int) = 1 then (some (a0_1.toList == ([] : List UInt8))) else (some false)) else (if a0_0 = 7 then (if (l0_3.length : Int) = 1 then (some (a0_1.toList == ([] : List UInt8))) else (some false)) else (if a0_0 = 8 then (if (l0_3.length : Int) = 1 then (some (a0_1.toList == ([] : List UInt8))) else (some false)) else (some false)))) = some r := by rw [if_neg (show ¬ (false = true) by decide)] at H; exact H
           clear H
           have H := H1
           clear H1
           by_cases c34 : a0_0 = 6
           ·rw [if_pos c34] at H
            have c34b0 : (a0_0 == 6) = true := beq_iff_eq.mpr c34
            have c34b1 : (a0_0 != 6) = false := bne_eq_false_iff_eq.mpr c34
            clear c34
            by_cases c35 : (l0_3.length : Int) = 1
            ·rw [if_pos c35] at H
             have c35b0 : ((l0_3.length : Int) == 1) = true := beq_iff_eq.mpr c35
             have c35b1 : ((l0_3.length : Int) != 1) = false := bne_eq_false_iff_eq.mpr c35
             clear c35
             obtain rfl := Option.some.inj H
             have hcz36_0 : wc.cell? ⟨gb382, 0, none⟩ = some (.int .i64 a0_0) := (blk_cell BK382.out 0).trans rfl
             have hcz36_1 : wc.cell? ⟨gb382, 1, none⟩ = some (.string a0_1) := (blk_cell BK382.out 1).trans rfl
             have hcz36_2 : wc.cell? ⟨gb382, 2, none⟩ = some (.int .i64 a0_2) := (blk_cell BK382.out 2).trans rfl
             have hcz36_3 : wc.cell? ⟨gb382, 3, none⟩ = some (.slice A0_3 l0_3.length c0_3) := (blk_cell BK382.out 3).trans rfl
             have hfz36_0 := blk_frozen BK382.out 0
             have hfz36_1 := blk_frozen BK382.out 1
             have hfz36_2 := blk_frozen BK382.out 2
             have hfz36_3 := blk_frozen BK382.out 3
             go_wp2
             go_ret
             exact ⟨a7_, a3_⟩
            ·rw [if_neg c35] at H
             have c35b0 : ((l0_3.length : Int) == 1) = false := beq_eq_false_iff_ne.mpr c35
             have c35b1 : ((l0_3.length : Int) != 1) = true := bne_iff_ne.mpr c35
             obtain rfl := Option.some.inj H
             go_wp2
             go_ret
             exact ⟨a7_, a3_⟩
           ·rw [if_neg c34] at H
            have c34b0 : (a0_0 == 6) = false := beq_eq_false_iff_ne.mpr c34
            have c34b1 : (a0_0 != 6) = true := bne_iff_ne.mpr c34
            by_cases c37 : a0_0 = 7
            ·rw [if_pos c37] at H
             have c37b0 : (a0_0 == 7) = true := beq_iff_eq.mpr c37
             have c37b1 : (a0_0 != 7) = false := bne_eq_false_iff_eq.mpr c37
             clear c37
             by_cases c38 : (l0_3.length : Int) = 1
             ·rw [if_pos c38] at H
              have c38b0 : ((l0_3.length : Int) == 1) = true := beq_iff_eq.mpr c38
              have c38b1 : ((l0_3.length : Int) != 1) = false := bne_eq_false_iff_eq.mpr c38
              clear c38
              obtain rfl := Option.some.inj H
              have hcz39_0 : wc.cell? ⟨gb382, 0, none⟩ = some (.int .i64 a0_0) := (blk_cell BK382.out 0).trans rfl
              have hcz39_1 : wc.cell? ⟨gb382, 1, none⟩ = some (.string a0_1) := (blk_cell BK382.out 1).trans rfl
              have hcz39_2 : wc.cell? ⟨gb382, 2, none⟩ = some (.int .i64 a0_2) := (blk_cell BK382.out 2).trans rfl
              have hcz39_3 : wc.cell? ⟨gb382, 3, none⟩ = some (.slice A0_3 l0_3.length c0_3) := (blk_cell BK382.out 3).trans rfl
              have hfz39_0 := blk_frozen BK382.out 0
              have hfz39_1 := blk_frozen BK382.out 1
              have hfz39_2 := blk_frozen BK382.out 2
              have hfz39_3 := blk_frozen BK382.out 3
              go_wp2
              go_ret
              exact ⟨a7_, a3_⟩
             ·rw [if_neg c38] at H
              have c38b0 : ((l0_3.length : Int) == 1) = false := beq_eq_false_iff_ne.mpr c38
              have c38b1 : ((l0_3.length : Int) != 1) = true := bne_iff_ne.mpr c38
              obtain rfl := Option.some.inj H
              go_wp2
              go_ret
              exact ⟨a7_, a3_⟩
            ·rw [if_neg c37] at H
             have c37b0 : (a0_0 == 7) = false := beq_eq_false_iff_ne.mpr c37
             have c37b1 : (a0_0 != 7) = true := bne_iff_ne.mpr c37
             by_cases c40 : a0_0 = 8
             ·rw [if_pos c40] at H
              have c40b0 : (a0_0 == 8) = true := beq_iff_eq.mpr c40
              have c40b1 : (a0_0 != 8) = false := bne_eq_false_iff_eq.mpr c40
              clear c40
              by_cases c41 : (l0_3.length : Int) = 1
              ·rw [if_pos c41] at H
               have c41b0 : ((l0_3.length : Int) == 1) = true := beq_iff_eq.mpr c41
               have c41b1 : ((l0_3.length : Int) != 1) = false := bne_eq_false_iff_eq.mpr c41
               clear c41
               obtain rfl := Option.some.inj H
               have hcz42_0 : wc.cell? ⟨gb382, 0, none⟩ = some (.int .i64 a0_0) := (blk_cell BK382.out 0).trans rfl
               have hcz42_1 : wc.cell? ⟨gb382, 1, none⟩ = some (.string a0_1) := (blk_cell BK382.out 1).trans rfl
               have hcz42_2 : wc.cell? ⟨gb382, 2, none⟩ = some (.int .i64 a0_2) := (blk_cell BK382.out 2).trans rfl
               have hcz42_3 : wc.cell? ⟨gb382, 3, none⟩ = some (.slice A0_3 l0_3.length c0_3) := (blk_cell BK382.out 3).trans rfl
               have hfz42_0 := blk_frozen BK382.out 0
               have hfz42_1 := blk_frozen BK382.out 1
               have hfz42_2 := blk_frozen BK382.out 2
               have hfz42_3 := blk_frozen BK382.out 3
               go_wp2
               go_ret
               exact ⟨a7_, a3_⟩
              ·rw [if_neg c41] at H
               have c41b0 : ((l0_3.length : Int) == 1) = false := beq_eq_false_iff_ne.mpr c41
               have c41b1 : ((l0_3.length : Int) != 1) = true := bne_iff_ne.mpr c41
               obtain rfl := Option.some.inj H
               go_wp2
               go_ret
               exact ⟨a7_, a3_⟩
             ·rw [if_neg c40] at H
              have c40b0 : (a0_0 == 8) = false := beq_eq_false_iff_ne.mpr c40
              have c40b1 : (a0_0 != 8) = true := bne_iff_ne.mpr c40
              obtain rfl := Option.some.inj H
              go_wp2
              go_ret
              exact ⟨a7_, a3_⟩

end Go.Proofs.Ytmecapnpgedcnaa.PFnExactStepsFault
