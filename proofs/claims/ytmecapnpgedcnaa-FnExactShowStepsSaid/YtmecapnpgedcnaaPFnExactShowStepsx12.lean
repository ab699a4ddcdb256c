/- Walks of Go functions, written by program out of the print of the translation, with contracts of our own where the print has none. -/
import Derived.Test.YtmecapnpgedcnaaPFnExactShowStepsx0
import Derived.Test.YtmecapnpgedcnaaPFnExactShowStepsx8
import Derived.Test.YtmecapnpgedcnaaPFnExactShowStepsx11
namespace Go.Proofs.Ytmecapnpgedcnaa.PFnExactShowSteps
open Go.RowKit Go.Proofs.YtmecapnpgedcnaaW.PrintWords Go.Proofs.YtmecapnpgedcnaaW.PrintLast Go.Proofs.YtmecapnpgedcnaaW.PrintMore
attribute [local go_sem] max2_int min2_int max_two min_two max_three min_three max_four min_four   -- for this text's walks alone
set_option linter.unusedVariables false
set_option linter.unusedSimpArgs false

/-! ### impl_walkTree_ok: function 65 -/
mutual
def impl_walkTree_ok.l0 : Nat → List (S70) → Int → Int → Int → ByteArray → Int → List (S70) → Option (Bool)
 | 0, _, _, _, _, _, _, _ => none
 | k + 1, x7, x8, x9, x408000, x408001, x408002, x408003 => if x9 < x8 then (if 0 ≤ x9 then (if x9 < (x7.length : Int) then ((impl_walkTree_ok.f k ((rd_T70 x7 x9).f0.f0) ((rd_T70 x7 x9).f0.f1) ((rd_T70 x7 x9).f0.f2) ((rd_T70 x7 x9).f1)).bind fun t410 => (if t410 = true then (impl_walkTree_ok.l0 k x7 x8 (wrap64 (x9 + 1)) x408000 x408001 x408002 x408003) else (some false))) else (none)) else (none)) else (if x408000 = 1 then (impl_walkTree_ok.j1 k (x408003.length : Int) x408000 (x408000 == 1) x408000 x408001 x408002 x408003) else (impl_walkTree_ok.j1 k (x408003.length : Int) x408000 (x408000 == 2) x408000 x408001 x408002 x408003))
def impl_walkTree_ok.j1 : Nat → Int → Int → Bool → Int → ByteArray → Int → List (S70) → Option (Bool)
 | 0, _, _, _, _, _, _, _ => none
 | k + 1, x5, x22, x23, x408000, x408001, x408002, x408003 => if x23 = true then (if x5 = 0 then ((impl_isName.f k x408001).bind fun t411 => (some t411)) else (some false)) else (if x22 = 3 then (if x5 = 0 then ((impl_LabelsFault.f k x408001).bind fun t412 => (some (t412 == 0))) else (some false)) else (if x22 = 4 then (impl_walkTree_ok.j2 k x5 x22 (x22 == 4) x408000 x408001 x408002 x408003) else (impl_walkTree_ok.j2 k x5 x22 (x22 == 5) x408000 x408001 x408002 x408003)))
def impl_walkTree_ok.j2 : Nat → Int → Int → Bool → Int → ByteArray → Int → List (S70) → Option (Bool)
 | 0, _, _, _, _, _, _, _ => none
 | k + 1, x5, x22, x45, x408000, x408001, x408002, x408003 => if x45 = true then (if x5 = 2 then (some (x408001.toList == ([] : List UInt8))) else (some false)) else (if x22 = 6 then (if x5 = 1 then (some (x408001.toList == ([] : List UInt8))) else (some false)) else (if x22 = 7 then (if x5 = 1 then (some (x408001.toList == ([] : List UInt8))) else (some false)) else (if x22 = 8 then (if x5 = 1 then (some (x408001.toList == ([] : List UInt8))) else (some false)) else (some false))))
def impl_walkTree_ok.f : Nat → Int → ByteArray → Int → List (S70) → Option (Bool)
 | 0, _, _, _, _ => none
 | k + 1, a0_0, a0_1, a0_2, l0_3 => impl_walkTree_ok.l0 k l0_3 (l0_3.length : Int) 0 a0_0 a0_1 a0_2 l0_3
end
theorem impl_walkTree_ok.a1_ {p : Prop} (h : p := by repeat (first | (with_reducible first | exact HB.out | apply below_alloc | apply pw_below_drewN | apply below_drew1) | exact HB.out)) : p := h
theorem impl_walkTree_ok.a2_ {p : Prop} (h : p := by (with_reducible repeat (first | refine blk_drewN ?_ _ | refine blk_drew ?_ | refine blk_alloc ?_ _)); exact BK407.out) : p := h
theorem impl_walkTree_ok.a3_ {p : Prop} (h : p := by repeat (first | (with_reducible first | exact HB.out | apply below_alloc | apply pw_below_drewN | apply below_drew1 | refine below_set ?_ GE407.out) | exact HB.out)) : p := h
theorem impl_walkTree_ok.a4_ {p : Prop} (h : p := by repeat (first | (with_reducible first | exact HB.out | apply below_alloc | apply pw_below_drewN | apply below_drew1 | refine below_set ?_ GE407.out | refine below_set ?_ GE409.out) | exact HB.out)) : p := h
theorem impl_walkTree_ok.a5_ {p : Prop} (h : p := by (with_reducible repeat (first | refine blk_drewN ?_ _ | refine blk_drew ?_ | refine blk_alloc ?_ _)); refine blk_far ?_ NB407_409.out _; (with_reducible repeat (first | refine blk_drewN ?_ _ | refine blk_drew ?_ | refine blk_alloc ?_ _)); refine blk_far ?_ NB407_409.out _; (with_reducible repeat (first | refine blk_drewN ?_ _ | refine blk_drew ?_ | refine blk_alloc ?_ _)); refine blk_far ?_ NB407_409.out _; (with_reducible repeat (first | refine blk_drewN ?_ _ | refine blk_drew ?_ | refine blk_alloc ?_ _)); refine blk_far ?_ NB407_409.out _; (with_reducible repeat (first | refine blk_drewN ?_ _ | refine blk_drew ?_ | refine blk_alloc ?_ _)); exact BK407.out) : p := h
theorem impl_walkTree_ok.a6_ {p : Prop} (h : p := by (with_reducible repeat (first | refine blk_drewN ?_ _ | refine blk_drew ?_ | refine blk_alloc ?_ _)); refine blk_put (cs := #[.int .i64 ((rd_T70 l0_3 x9_1).f0.f0), .string ((rd_T70 l0_3 x9_1).f0.f1), .int .i64 ((rd_T70 l0_3 x9_1).f0.f2), .slice none 0 0]) ?_ 3 _ rfl; (with_reducible repeat (first | refine blk_drewN ?_ _ | refine blk_drew ?_ | refine blk_alloc ?_ _)); refine blk_put (cs := #[.int .i64 ((rd_T70 l0_3 x9_1).f0.f0), .string ((rd_T70 l0_3 x9_1).f0.f1), .int .i64 0, .slice none 0 0]) ?_ 2 _ rfl; (with_reducible repeat (first | refine blk_drewN ?_ _ | refine blk_drew ?_ | refine blk_alloc ?_ _)); refine blk_put (cs := #[.int .i64 ((rd_T70 l0_3 x9_1).f0.f0), .string (⟨#[]⟩ : ByteArray), .int .i64 0, .slice none 0 0]) ?_ 1 _ rfl; (with_reducible repeat (first | refine blk_drewN ?_ _ | refine blk_drew ?_ | refine blk_alloc ?_ _)); refine blk_put (cs := #[.int .i64 0, .string (⟨#[]⟩ : ByteArray), .int .i64 0, .slice none 0 0]) ?_ 0 _ rfl; (with_reducible repeat (first | refine blk_drewN ?_ _ | refine blk_drew ?_ | refine blk_alloc ?_ _)); exact BK409.out) : p := h
theorem impl_walkTree_ok.a7_ {p : Prop} (h : p := by first | rfl | (simp [errW_none, errW_some] <;> rfl) | (simp [*, errW_none, errW_some] <;> rfl)) : p := h
set_option maxHeartbeats 8000000 in
set_option maxRecDepth 100000 in
theorem impl_walkTree_ok.calls (k : Nat) : ∀ (a0_0 : Int) (a0_1 : ByteArray) (a0_2 : Int) (A0_3 : Option Addr) (c0_3 : Nat) (l0_3 : List (S70)) (r : Bool) (w : World) (hr0_3 : Kd.C k70 w A0_3 l0_3.length l0_3) (hc0_3 : l0_3.length ≤ c0_3) (h : impl_walkTree_ok.f k a0_0 a0_1 a0_2 l0_3 = some r),
  Calls Try.prog 65 #[.agg #[.int .i64 a0_0, .string a0_1, .int .i64 a0_2, .slice A0_3 l0_3.length c0_3]] w fun e w' => e = .returned (.bool r) ∧ Below w.heap.size w w' := by
 induction k using Nat.strongRecOn with
 | _ k ih =>
 intro a0_0 a0_1 a0_2 A0_3 c0_3 l0_3 r w hr0_3 hc0_3 h
 cases k with
 | zero => exact absurd h (by simp [impl_walkTree_ok.f])
 | succ k =>
 simp only [impl_walkTree_ok.f] at h
 have hu70 := Try.underlying70
 have HR0_3 := Aside0.mk hr0_3
 have HC0_3 := Aside0.mk hc0_3
 clear hr0_3 hc0_3
 have HB := Aside0.mk (Below.refl w.heap.size w)
 have H : (impl_walkTree_ok.l0 k l0_3 (l0_3.length : Int) 0 a0_0 a0_1 a0_2 l0_3) = some r := h
 clear h
 have H' := Aside0.mk H
 clear H
 go_enter Try.func65, Try.ntmps65
 go_wp2_with (first | ((with_reducible refine gate_dst (N := 1) rfl ?_); refine box_event ?hg (N := 1) ?hd (cs := #[.int .i64 a0_0, .string a0_1, .int .i64 a0_2, .slice A0_3 l0_3.length c0_3]) (t := 70) ?hr ?_; (case hd => rfl); (case hg => rfl); (case hr => first | (go_simp; done) | (go_simp; rfl)); intro gb407 hg w2 hbox hb; have n_ := c4_ (below_step (a1_) hb) (hbox) ((by rw [hg]; exact (below_size (a1_)) : w.heap.size ≤ gb407)) ((by rw [hg]; exact (below_size (a1_)) : w.heap.size ≤ gb407)); clear HB; obtain ⟨HB, BK407, GW407, GE407⟩ := n_; clear hb hbox hg; obtain ⟨hcz3_0, hcz3_1, hcz3_2, hcz3_3, hfz3_0, hfz3_1, hfz3_2, hfz3_3⟩ := cf4_ BK407.out))
 go_loopg [9] k (fun kq v9 w' => ∃ (x9_1 : Int), v9 = .int .i64 x9_1 ∧ Aside0 (impl_walkTree_ok.l0 kq l0_3 (l0_3.length : Int) x9_1 a0_0 a0_1 a0_2 l0_3 = some r) ∧ Aside0 (kq ≤ k) ∧ Aside0 (w'.heap[gb407]? = some (.cells #[.int .i64 a0_0, .string a0_1, .int .i64 a0_2, (.slice A0_3 l0_3.length c0_3)] 70 (0, 0))) ∧ Aside0 (Below w.heap.size w w'))
 case atStart => exact ⟨(0), (by first | rfl | (simp; done) | (simp [*]; done)), H', ⟨Nat.le_refl _⟩, ⟨a2_⟩, ⟨a3_⟩⟩
 case round =>
  clear H'
  try clear p2
  try clear hcz3_0
  try clear hcz3_1
  try clear hcz3_2
  try clear hcz3_3
  try clear hfz3_0
  try clear hfz3_1
  try clear hfz3_2
  try clear hfz3_3
  obtain ⟨x9_1, rfl, HA, HK1, BK407, HB⟩ := hrel
  cases gk with
  | zero => exact absurd HA.out (by simp [impl_walkTree_ok.l0])
  | succ k1 =>
   have H := HA.out
   clear HA
   simp only [impl_walkTree_ok.l0] at H
   by_cases c4 : x9_1 < (l0_3.length : Int)
   ·rw [if_pos c4] at H
    have c4b0 : decide (x9_1 < (l0_3.length : Int)) = true := decide_eq_true c4
    clear c4
    by_cases c5 : 0 ≤ x9_1
    ·rw [if_pos c5] at H
     have c5b0 : decide (0 ≤ x9_1) = true := decide_eq_true c5
     clear c5
     by_cases c6 : x9_1 < (l0_3.length : Int)
     ·rw [if_pos c6] at H
      have c6b0 : decide (x9_1 < (l0_3.length : Int)) = true := decide_eq_true c6
      clear c6
      replace H := Option.bind_eq_some_iff.mp H
      obtain ⟨t410, A70, H⟩ := H
      try dsimp only at H
      have A7 := Aside0.mk A70
      clear A70
      by_cases c8 : t410 = true
      ·subst c8
       rw [if_pos rfl] at H
       try dsimp only at H
       have H' := Aside0.mk H
       clear H
       have p408 : 0 ≤ (x9_1 : Int) := of_decide_eq_true (by first | (with_reducible assumption) | assumption)
       have q408 : x9_1 < (l0_3.length : Int) := of_decide_eq_true (by first | (with_reducible assumption) | assumption)
       obtain ⟨ad408, A408_3, c408_3, e408, hx408_0, hx408_1, hx408_2, hx408_3, hl408_3, hi408_3⟩ := at_T70 HR0_3.out x9_1 p408 q408
       cases e408
       replace hx408_0 := (HB.out.cell (World.block_lt_of_cell? w _ hx408_0)).trans hx408_0
       replace hx408_1 := (HB.out.cell (World.block_lt_of_cell? w _ hx408_1)).trans hx408_1
       replace hx408_2 := (HB.out.cell (World.block_lt_of_cell? w _ hx408_2)).trans hx408_2
       replace hx408_3 := (HB.out.cell (World.block_lt_of_cell? w _ hx408_3)).trans hx408_3
       have HR408_3 := Aside0.mk hi408_3
       have HC408_3 := Aside0.mk hl408_3
       clear hi408_3 hl408_3
       replace p408 := eq_true p408
       replace q408 := eq_true q408
       go_wp2_with (first | ((with_reducible refine gate_dst (N := 4) rfl ?_); refine box_event ?hg (N := 4) ?hd (cs := #[.int .i64 0, .string (⟨#[]⟩ : ByteArray), .int .i64 0, .slice none 0 0]) (t := 70) ?hr ?_; (case hd => rfl); (case hg => rfl); (case hr => first | (go_simp; done) | (go_simp; rfl)); intro gb409 hg w9 hbox hb; have n_ := c7_ (blk_below (g := gb407) (o := .cells #[.int .i64 a0_0, .string a0_1, .int .i64 a0_2, .slice (some ad408) l0_3.length c0_3] 70 (0, 0)) (a2_) hb) (below_step (a3_) hb) (hbox) ((by rw [hg]; exact (below_size (a3_)) : w.heap.size ≤ gb409)) ((by rw [hg]; exact (below_size (a3_)) : w.heap.size ≤ gb409)) ((by rw [hg]; exact Nat.ne_of_lt (blk_lt (g := gb407) (o := .cells #[.int .i64 a0_0, .string a0_1, .int .i64 a0_2, .slice (some ad408) l0_3.length c0_3] 70 (0, 0)) (a2_)) : gb407 ≠ gb409)) ((by rw [hg]; exact Nat.ne_of_gt (blk_lt (g := gb407) (o := .cells #[.int .i64 a0_0, .string a0_1, .int .i64 a0_2, .slice (some ad408) l0_3.length c0_3] 70 (0, 0)) (a2_)) : gb409 ≠ gb407)); clear BK407 HB; obtain ⟨BK407, HB, BK409, GW409, GE409, NB407_409, NB409_407⟩ := n_; clear hb hbox hg; have hnb10 := NB409_407.out; have hnc10 := NB407_409.out; obtain ⟨hcz11_0, hcz11_1, hcz11_2, hcz11_3, hfz11_0, hfz11_1, hfz11_2, hfz11_3⟩ := cf4_ BK409.out) | ((with_reducible refine gate_callee (f := 65) rfl ?_); refine goesL_ (some 14) rfl rfl Try.func65 (by kernel_rfl) rfl #[.agg #[.int .i64 ((rd_T70 l0_3 x9_1).f0.f0), .string ((rd_T70 l0_3 x9_1).f0.f1), .int .i64 ((rd_T70 l0_3 x9_1).f0.f2), .slice A408_3 ((rd_T70 l0_3 x9_1).f1).length c408_3]] rfl (by (try simp only [List.map_toArray, List.map_cons, List.map_nil]); first | done | rfl | (simp only [List.length_drop, List.length_take]; rfl)) ?_; (with_reducible refine (ih k1 (by have := HK1.out; omega) ((rd_T70 l0_3 x9_1).f0.f0) ((rd_T70 l0_3 x9_1).f0.f1) ((rd_T70 l0_3 x9_1).f0.f2) _ _ ((rd_T70 l0_3 x9_1).f1) true _ ?side1 ?side2 A7.out).mono ?_); (case side1 => exact Kd.C_below HR408_3.out (a4_)); (case side2 => exact HC408_3.out); rintro e w12 ⟨rfl, hb⟩; refine ⟨_, rfl, ?_⟩; have n_ := c3_ (blk_below (g := gb407) (o := .cells #[.int .i64 a0_0, .string a0_1, .int .i64 a0_2, .slice (some ad408) l0_3.length c0_3] 70 (0, 0)) (a5_) hb) (blk_below (g := gb409) (o := .cells #[.int .i64 ((rd_T70 l0_3 x9_1).f0.f0), .string ((rd_T70 l0_3 x9_1).f0.f1), .int .i64 ((rd_T70 l0_3 x9_1).f0.f2), .slice A408_3 ((rd_T70 l0_3 x9_1).f1).length c408_3] 70 (0, 0)) (a6_) hb) (below_step (a4_) hb); clear BK407 BK409 HB; obtain ⟨BK407, BK409, HB⟩ := n_; (try clear hb); (try clear hb2); (try clear hk); (try clear hi)))
       go_roundg k1
       case measure => have := HK1.out; omega
       case rel => exact ⟨(wrap64 (x9_1 + 1)), (by first | rfl | (simp; done) | (simp [*]; done)), H', ⟨by have := HK1.out; omega⟩, ⟨a2_⟩, ⟨a4_⟩⟩
      ·replace c8 := Bool.eq_false_iff.mpr c8
       subst c8
       rw [if_neg (show ¬ (false = true) by decide)] at H
       try dsimp only at H
       obtain rfl := Option.some.inj H
       have p408 : 0 ≤ (x9_1 : Int) := of_decide_eq_true (by first | (with_reducible assumption) | assumption)
       have q408 : x9_1 < (l0_3.length : Int) := of_decide_eq_true (by first | (with_reducible assumption) | assumption)
       obtain ⟨ad408, A408_3, c408_3, e408, hx408_0, hx408_1, hx408_2, hx408_3, hl408_3, hi408_3⟩ := at_T70 HR0_3.out x9_1 p408 q408
       cases e408
       replace hx408_0 := (HB.out.cell (World.block_lt_of_cell? w _ hx408_0)).trans hx408_0
       replace hx408_1 := (HB.out.cell (World.block_lt_of_cell? w _ hx408_1)).trans hx408_1
       replace hx408_2 := (HB.out.cell (World.block_lt_of_cell? w _ hx408_2)).trans hx408_2
       replace hx408_3 := (HB.out.cell (World.block_lt_of_cell? w _ hx408_3)).trans hx408_3
       have HR408_3 := Aside0.mk hi408_3
       have HC408_3 := Aside0.mk hl408_3
       clear hi408_3 hl408_3
       replace p408 := eq_true p408
       replace q408 := eq_true q408
       go_wp2_with (first | ((with_reducible refine gate_dst (N := 4) rfl ?_); refine box_event ?hg (N := 4) ?hd (cs := #[.int .i64 0, .string (⟨#[]⟩ : ByteArray), .int .i64 0, .slice none 0 0]) (t := 70) ?hr ?_; (case hd => rfl); (case hg => rfl); (case hr => first | (go_simp; done) | (go_simp; rfl)); intro gb409 hg w13 hbox hb; have n_ := c7_ (blk_below (g := gb407) (o := .cells #[.int .i64 a0_0, .string a0_1, .int .i64 a0_2, .slice (some ad408) l0_3.length c0_3] 70 (0, 0)) (a2_) hb) (below_step (a3_) hb) (hbox) ((by rw [hg]; exact (below_size (a3_)) : w.heap.size ≤ gb409)) ((by rw [hg]; exact (below_size (a3_)) : w.heap.size ≤ gb409)) ((by rw [hg]; exact Nat.ne_of_lt (blk_lt (g := gb407) (o := .cells #[.int .i64 a0_0, .string a0_1, .int .i64 a0_2, .slice (some ad408) l0_3.length c0_3] 70 (0, 0)) (a2_)) : gb407 ≠ gb409)) ((by rw [hg]; exact Nat.ne_of_gt (blk_lt (g := gb407) (o := .cells #[.int .i64 a0_0, .string a0_1, .int .i64 a0_2, .slice (some ad408) l0_3.length c0_3] 70 (0, 0)) (a2_)) : gb409 ≠ gb407)); clear BK407 HB; obtain ⟨BK407, HB, BK409, GW409, GE409, NB407_409, NB409_407⟩ := n_; clear hb hbox hg; have hnb14 := NB409_407.out; have hnc14 := NB407_409.out; obtain ⟨hcz15_0, hcz15_1, hcz15_2, hcz15_3, hfz15_0, hfz15_1, hfz15_2, hfz15_3⟩ := cf4_ BK409.out) | ((with_reducible refine gate_callee (f := 65) rfl ?_); refine goesL_ (some 14) rfl rfl Try.func65 (by kernel_rfl) rfl #[.agg #[.int .i64 ((rd_T70 l0_3 x9_1).f0.f0), .string ((rd_T70 l0_3 x9_1).f0.f1), .int .i64 ((rd_T70 l0_3 x9_1).f0.f2), .slice A408_3 ((rd_T70 l0_3 x9_1).f1).length c408_3]] rfl (by (try simp only [List.map_toArray, List.map_cons, List.map_nil]); first | done | rfl | (simp only [List.length_drop, List.length_take]; rfl)) ?_; (with_reducible refine (ih k1 (by have := HK1.out; omega) ((rd_T70 l0_3 x9_1).f0.f0) ((rd_T70 l0_3 x9_1).f0.f1) ((rd_T70 l0_3 x9_1).f0.f2) _ _ ((rd_T70 l0_3 x9_1).f1) false _ ?side1 ?side2 A7.out).mono ?_); (case side1 => exact Kd.C_below HR408_3.out (a4_)); (case side2 => exact HC408_3.out); rintro e w16 ⟨rfl, hb⟩; refine ⟨_, rfl, ?_⟩; have n_ := c3_ (blk_below (g := gb407) (o := .cells #[.int .i64 a0_0, .string a0_1, .int .i64 a0_2, .slice (some ad408) l0_3.length c0_3] 70 (0, 0)) (a5_) hb) (blk_below (g := gb409) (o := .cells #[.int .i64 ((rd_T70 l0_3 x9_1).f0.f0), .string ((rd_T70 l0_3 x9_1).f0.f1), .int .i64 ((rd_T70 l0_3 x9_1).f0.f2), .slice A408_3 ((rd_T70 l0_3 x9_1).f1).length c408_3] 70 (0, 0)) (a6_) hb) (below_step (a4_) hb); clear BK407 BK409 HB; obtain ⟨BK407, BK409, HB⟩ := n_; (try clear hb); (try clear hb2); (try clear hk); (try clear hi)))
       go_ret
       exact ⟨a7_, a4_⟩
     ·rw [if_neg c6] at H
      exact absurd H (by simp)
    ·rw [if_neg c5] at H
     exact absurd H (by simp)
   ·rw [if_neg c4] at H
    have c4b0 : decide (x9_1 < (l0_3.length : Int)) = false := decide_eq_false c4
    clear c4
    have HC17 := Aside0.mk H
    clear H
    obtain ⟨hcz18_0, hcz18_1, hcz18_2, hcz18_3, hfz18_0, hfz18_1, hfz18_2, hfz18_3⟩ := cf4_ BK407.out
    go_upto_if 23 with (fail)
    go_cut [23] (fun v23 wc => ∃ (kq : Nat) (x23_16 : Bool), v23 = .bool x23_16 ∧ Aside0 (impl_walkTree_ok.j1 kq (l0_3.length : Int) a0_0 x23_16 a0_0 a0_1 a0_2 l0_3 = some r) ∧ Aside0 (kq ≤ k1) ∧ Aside0 (wc.heap[gb407]? = some (.cells #[.int .i64 a0_0, .string a0_1, .int .i64 a0_2, (.slice A0_3 l0_3.length c0_3)] 70 (0, 0))) ∧ Aside0 (Below w.heap.size w wc))
    case first =>
     have H := HC17.out
     clear HC17
     by_cases c19 : a0_0 = 1
     ·rw [if_pos c19] at H
      have c19b0 : (a0_0 == 1) = true := beq_iff_eq.mpr c19
      have c19b1 : (a0_0 != 1) = false := bne_eq_false_iff_eq.mpr c19
      clear c19
      (first | rw [c19b0] | (simp only [i64_w, i32_w]; rw [c19b0]) | skip)
      have H' := Aside0.mk H
      clear H
      go_wp2
      go_meet
      case rel => exact ⟨_, ((a0_0 == 1)), (by first | rfl | (simp; done) | (simp [*]; done)), H', ⟨by have := HK1.out; first | omega | exact Nat.le_refl _⟩, ⟨a2_⟩, ⟨a3_⟩⟩
     ·rw [if_neg c19] at H
      have c19b0 : (a0_0 == 1) = false := beq_eq_false_iff_ne.mpr c19
      have c19b1 : (a0_0 != 1) = true := bne_iff_ne.mpr c19
      (first | rw [c19b0] | (simp only [i64_w, i32_w]; rw [c19b0]) | skip)
      have H' := Aside0.mk H
      clear H
      go_wp2
      go_meet
      case rel => exact ⟨_, ((a0_0 == 2)), (by first | rfl | (simp; done) | (simp [*]; done)), H', ⟨by have := HK1.out; first | omega | exact Nat.le_refl _⟩, ⟨a2_⟩, ⟨a3_⟩⟩
    case rest =>
     clear HC17
     try clear c1
     try clear p2
     try clear c4
     try clear c4b0
     try clear p4
     try clear q4
     try clear hx4
     try clear c5
     try clear c5b0
     try clear c6
     try clear c6b0
     try clear p6
     try clear c8
     try clear c10
     try clear c14
     try clear c19
     try clear c19b0
     try clear c19b1
     try clear hcz11_0
     try clear hcz11_1
     try clear hcz11_2
     try clear hcz11_3
     try clear hcz15_0
     try clear hcz15_1
     try clear hcz15_2
     try clear hcz15_3
     try clear hcz18_0
     try clear hcz18_1
     try clear hcz18_2
     try clear hcz18_3
     try clear hcz3_0
     try clear hcz3_1
     try clear hcz3_2
     try clear hcz3_3
     try clear hfz11_0
     try clear hfz11_1
     try clear hfz11_2
     try clear hfz11_3
     try clear hfz15_0
     try clear hfz15_1
     try clear hfz15_2
     try clear hfz15_3
     try clear hfz18_0
     try clear hfz18_1
     try clear hfz18_2
     try clear hfz18_3
     try clear hfz3_0
     try clear hfz3_1
     try clear hfz3_2
     try clear hfz3_3
     try clear hx408_0
     try clear hx408_1
     try clear hx408_2
     try clear hx408_3
     try clear p2
     try clear p408
     try clear q408
     obtain ⟨kq, x23_16, rfl, HA, HJ16, BK407, HB⟩ := hcut
     cases kq with
     | zero => exact absurd HA.out (by simp [impl_walkTree_ok.j1])
     | succ kj16 =>
      have H := HA.out
      clear HA
      simp only [impl_walkTree_ok.j1] at H
      by_cases c20 : x23_16 = true
      ·subst c20
       rw [if_pos rfl] at H
       try dsimp only at H
       by_cases c21 : (l0_3.length : Int) = 0
       ·rw [if_pos c21] at H
        have c21b0 : ((l0_3.length : Int) == 0) = true := beq_iff_eq.mpr c21
        have c21b1 : ((l0_3.length : Int) != 0) = false := bne_eq_false_iff_eq.mpr c21
        clear c21
        replace H := Option.bind_eq_some_iff.mp H
        obtain ⟨t411, A220, H⟩ := H
        try dsimp only at H
        have A22 := Aside0.mk A220
        clear A220
        obtain rfl := Option.some.inj H
        obtain ⟨hcz23_0, hcz23_1, hcz23_2, hcz23_3, hfz23_0, hfz23_1, hfz23_2, hfz23_3⟩ := cf4_ BK407.out
        go_wp2_with (first | (go_at_call 84; (with_reducible refine (impl_isName.calls kj16 a0_1 t411 _ A22.out).mono ?_); rintro e w' ⟨rfl, ⟨nd, rfl⟩⟩))
        go_ret
        exact ⟨a7_, a3_⟩
       ·rw [if_neg c21] at H
        have c21b0 : ((l0_3.length : Int) == 0) = false := beq_eq_false_iff_ne.mpr c21
        have c21b1 : ((l0_3.length : Int) != 0) = true := bne_iff_ne.mpr c21
        have c21b2 : ¬ (l0_3 = []) := fun h_ => c21 (by rw [h_]; rfl)
        obtain rfl := Option.some.inj H
        go_wp2
        go_ret
        exact ⟨a7_, a3_⟩
      ·replace c20 := Bool.eq_false_iff.mpr c20
       subst c20
       rw [if_neg (show ¬ (false = true) by decide)] at H
       try dsimp only at H
       by_cases c24 : a0_0 = 3
       ·rw [if_pos c24] at H
        have c24b0 : (a0_0 == 3) = true := beq_iff_eq.mpr c24
        have c24b1 : (a0_0 != 3) = false := bne_eq_false_iff_eq.mpr c24
        clear c24
        by_cases c25 : (l0_3.length : Int) = 0
        ·rw [if_pos c25] at H
         have c25b0 : ((l0_3.length : Int) == 0) = true := beq_iff_eq.mpr c25
         have c25b1 : ((l0_3.length : Int) != 0) = false := bne_eq_false_iff_eq.mpr c25
         clear c25
         replace H := Option.bind_eq_some_iff.mp H
         obtain ⟨t412, A260, H⟩ := H
         try dsimp only at H
         have A26 := Aside0.mk A260
         clear A260
         obtain rfl := Option.some.inj H
         obtain ⟨hcz27_0, hcz27_1, hcz27_2, hcz27_3, hfz27_0, hfz27_1, hfz27_2, hfz27_3⟩ := cf4_ BK407.out
         go_wp2_with (first | (go_at_call 79; (with_reducible refine (impl_LabelsFault.calls kj16 a0_1 t412 _ A26.out).mono ?_); rintro e w28 ⟨rfl, hb⟩; have n_ := c2_ (blk_below (g := gb407) (o := .cells #[.int .i64 a0_0, .string a0_1, .int .i64 a0_2, .slice A0_3 l0_3.length c0_3] 70 (0, 0)) (a2_) hb) (below_step (a3_) hb); clear BK407 HB; obtain ⟨BK407, HB⟩ := n_; (try clear hb); (try clear hb2); (try clear hk); (try clear hi)))
         go_ret
         exact ⟨a7_, a3_⟩
        ·rw [if_neg c25] at H
         have c25b0 : ((l0_3.length : Int) == 0) = false := beq_eq_false_iff_ne.mpr c25
         have c25b1 : ((l0_3.length : Int) != 0) = true := bne_iff_ne.mpr c25
         have c25b2 : ¬ (l0_3 = []) := fun h_ => c25 (by rw [h_]; rfl)
         obtain rfl := Option.some.inj H
         go_wp2
         go_ret
         exact ⟨a7_, a3_⟩
       ·rw [if_neg c24] at H
        have c24b0 : (a0_0 == 3) = false := beq_eq_false_iff_ne.mpr c24
        have c24b1 : (a0_0 != 3) = true := bne_iff_ne.mpr c24
        have HC29 := Aside0.mk H
        clear H
        go_upto_if 45 with (fail)
        go_cut [45] (fun v45 wc => ∃ (kq : Nat) (x45_28 : Bool), v45 = .bool x45_28 ∧ Aside0 (impl_walkTree_ok.j2 kq (l0_3.length : Int) a0_0 x45_28 a0_0 a0_1 a0_2 l0_3 = some r) ∧ Aside0 (kq ≤ kj16) ∧ Aside0 (wc.heap[gb407]? = some (.cells #[.int .i64 a0_0, .string a0_1, .int .i64 a0_2, (.slice A0_3 l0_3.length c0_3)] 70 (0, 0))) ∧ Aside0 (Below w.heap.size w wc))
        case first =>
         have H := HC29.out
         clear HC29
         by_cases c30 : a0_0 = 4
         ·rw [if_pos c30] at H
          have c30b0 : (a0_0 == 4) = true := beq_iff_eq.mpr c30
          have c30b1 : (a0_0 != 4) = false := bne_eq_false_iff_eq.mpr c30
          clear c30
          (first | rw [c30b0] | (simp only [i64_w, i32_w]; rw [c30b0]) | skip)
          have H' := Aside0.mk H
          clear H
          go_wp2
          go_meet
          case rel => exact ⟨_, ((a0_0 == 4)), (by first | rfl | (simp; done) | (simp [*]; done)), H', ⟨by have := HK1.out; have := HJ16.out; first | omega | exact Nat.le_refl _⟩, ⟨a2_⟩, ⟨a3_⟩⟩
         ·rw [if_neg c30] at H
          have c30b0 : (a0_0 == 4) = false := beq_eq_false_iff_ne.mpr c30
          have c30b1 : (a0_0 != 4) = true := bne_iff_ne.mpr c30
          (first | rw [c30b0] | (simp only [i64_w, i32_w]; rw [c30b0]) | skip)
          have H' := Aside0.mk H
          clear H
          go_wp2
          go_meet
          case rel => exact ⟨_, ((a0_0 == 5)), (by first | rfl | (simp; done) | (simp [*]; done)), H', ⟨by have := HK1.out; have := HJ16.out; first | omega | exact Nat.le_refl _⟩, ⟨a2_⟩, ⟨a3_⟩⟩
        case rest =>
         clear HC29
         try clear c1
         try clear c2
         try clear p2
         try clear c3
         try clear c4
         try clear c4b0
         try clear p4
         try clear q4
         try clear hx4
         try clear c5
         try clear c5b0
         try clear c6
         try clear c6b0
         try clear p6
         try clear c8
         try clear c10
         try clear c14
         try clear c19
         try clear c19b0
         try clear c19b1
         try clear c20
         try clear c21
         try clear c21b0
         try clear c21b1
         try clear c21b2
         try clear c24
         try clear c24b0
         try clear c24b1
         try clear c25
         try clear c25b0
         try clear c25b1
         try clear c25b2
         try clear c30
         try clear c30b0
         try clear c30b1
         try clear hcz11_0
         try clear hcz11_1
         try clear hcz11_2
         try clear hcz11_3
         try clear hcz15_0
         try clear hcz15_1
         try clear hcz15_2
         try clear hcz15_3
         try clear hcz18_0
         try clear hcz18_1
         try clear hcz18_2
         try clear hcz18_3
         try clear hcz23_0
         try clear hcz23_1
         try clear hcz23_2
         try clear hcz23_3
         try clear hcz27_0
         try clear hcz27_1
         try clear hcz27_2
         try clear hcz27_3
         try clear hcz3_0
         try clear hcz3_1
         try clear hcz3_2
         try clear hcz3_3
         try clear hfz11_0
         try clear hfz11_1
         try clear hfz11_2
         try clear hfz11_3
         try clear hfz15_0
         try clear hfz15_1
         try clear hfz15_2
         try clear hfz15_3
         try clear hfz18_0
         try clear hfz18_1
         try clear hfz18_2
         try clear hfz18_3
         try clear hfz23_0
         try clear hfz23_1
         try clear hfz23_2
         try clear hfz23_3
         try clear hfz27_0
         try clear hfz27_1
         try clear hfz27_2
         try clear hfz27_3
         try clear hfz3_0
         try clear hfz3_1
         try clear hfz3_2
         try clear hfz3_3
         try clear hx408_0
         try clear hx408_1
         try clear hx408_2
         try clear hx408_3
         try clear p2
         try clear p4
         try clear p408
         try clear p6
         try clear q4
         try clear q408
         obtain ⟨kq, x45_28, rfl, HA, HJ28, BK407, HB⟩ := hcut
         cases kq with
         | zero => exact absurd HA.out (by simp [impl_walkTree_ok.j2])
         | succ kj28 =>
          have H := HA.out
          clear HA
          simp only [impl_walkTree_ok.j2] at H
          by_cases c31 : x45_28 = true
          ·subst c31
           rw [if_pos rfl] at H
           try dsimp only at H
           by_cases c32 : (l0_3.length : Int) = 2
           ·rw [if_pos c32] at H
            have c32b0 : ((l0_3.length : Int) == 2) = true := beq_iff_eq.mpr c32
            have c32b1 : ((l0_3.length : Int) != 2) = false := bne_eq_false_iff_eq.mpr c32
            clear c32
            obtain rfl := Option.some.inj H
            obtain ⟨hcz33_0, hcz33_1, hcz33_2, hcz33_3, hfz33_0, hfz33_1, hfz33_2, hfz33_3⟩ := cf4_ BK407.out
            go_wp2
            go_ret
            exact ⟨a7_, a3_⟩
           ·rw [if_neg c32] at H
            have c32b0 : ((l0_3.length : Int) == 2) = false := beq_eq_false_iff_ne.mpr c32
            have c32b1 : ((l0_3.length : Int) != 2) = true := bne_iff_ne.mpr c32
            obtain rfl := Option.some.inj H
            go_wp2
            go_ret
            exact ⟨a7_, a3_⟩
          ·replace c31 := Bool.eq_false_iff.mpr c31
           subst c31
           rw [if_neg (show ¬ (false = true) by decide)] at H
           try dsimp only at H
           by_cases c34 : a0_0 = 6
           ·rw [if_pos c34] at H
            have c34b0 : (a0_0 == 6) = true := beq_iff_eq.mpr c34
            have c34b1 : (a0_0 != 6) = false := bne_eq_false_iff_eq.mpr c34
            clear c34
            by_cases c35 : (l0_3.length : Int) = 1
            ·rw [if_pos c35] at H
             have c35b0 : ((l0_3.length : Int) == 1) = true := beq_iff_eq.mpr c35
             have c35b1 : ((l0_3.length : Int) != 1) = false := bne_eq_false_iff_eq.mpr c35
             clear c35
             obtain rfl := Option.some.inj H
             obtain ⟨hcz36_0, hcz36_1, hcz36_2, hcz36_3, hfz36_0, hfz36_1, hfz36_2, hfz36_3⟩ := cf4_ BK407.out
             go_wp2
             go_ret
             exact ⟨a7_, a3_⟩
            ·rw [if_neg c35] at H
             have c35b0 : ((l0_3.length : Int) == 1) = false := beq_eq_false_iff_ne.mpr c35
             have c35b1 : ((l0_3.length : Int) != 1) = true := bne_iff_ne.mpr c35
             obtain rfl := Option.some.inj H
             go_wp2
             go_ret
             exact ⟨a7_, a3_⟩
           ·rw [if_neg c34] at H
            have c34b0 : (a0_0 == 6) = false := beq_eq_false_iff_ne.mpr c34
            have c34b1 : (a0_0 != 6) = true := bne_iff_ne.mpr c34
            by_cases c37 : a0_0 = 7
            ·rw [if_pos c37] at H
             have c37b0 : (a0_0 == 7) = true := beq_iff_eq.mpr c37
             have c37b1 : (a0_0 != 7) = false := bne_eq_false_iff_eq.mpr c37
             clear c37
             by_cases c38 : (l0_3.length : Int) = 1
             ·rw [if_pos c38] at H
              have c38b0 : ((l0_3.length : Int) == 1) = true := beq_iff_eq.mpr c38
              have c38b1 : ((l0_3.length : Int) != 1) = false := bne_eq_false_iff_eq.mpr c38
              clear c38
              obtain rfl := Option.some.inj H
              obtain ⟨hcz39_0, hcz39_1, hcz39_2, hcz39_3, hfz39_0, hfz39_1, hfz39_2, hfz39_3⟩ := cf4_ BK407.out
              go_wp2
              go_ret
              exact ⟨a7_, a3_⟩
             ·rw [if_neg c38] at H
              have c38b0 : ((l0_3.length : Int) == 1) = false := beq_eq_false_iff_ne.mpr c38
              have c38b1 : ((l0_3.length : Int) != 1) = true := bne_iff_ne.mpr c38
              obtain rfl := Option.some.inj H
              go_wp2
              go_ret
              exact ⟨a7_, a3_⟩
            ·rw [if_neg c37] at H
             have c37b0 : (a0_0 == 7) = false := beq_eq_false_iff_ne.mpr c37
             have c37b1 : (a0_0 != 7) = true := bne_iff_ne.mpr c37
             by_cases c40 : a0_0 = 8
             ·rw [if_pos c40] at H
              have c40b0 : (a0_0 == 8) = true := beq_iff_eq.mpr c40
              have c40b1 : (a0_0 != 8) = false := bne_eq_false_iff_eq.mpr c40
              clear c40
              by_cases c41 : (l0_3.length : Int) = 1
              ·rw [if_pos c41] at H
               have c41b0 : ((l0_3.length : Int) == 1) = true := beq_iff_eq.mpr c41
               have c41b1 : ((l0_3.length : Int) != 1) = false := bne_eq_false_iff_eq.mpr c41
               clear c41
               obtain rfl := Option.some.inj H
               obtain ⟨hcz42_0, hcz42_1, hcz42_2, hcz42_3, hfz42_0, hfz42_1, hfz42_2, hfz42_3⟩ := cf4_ BK407.out
               go_wp2
               go_ret
               exact ⟨a7_, a3_⟩
              ·rw [if_neg c41] at H
               have c41b0 : ((l0_3.length : Int) == 1) = false := beq_eq_false_iff_ne.mpr c41
               have c41b1 : ((l0_3.length : Int) != 1) = true := bne_iff_ne.mpr c41
               obtain rfl := Option.some.inj H
               go_wp2
               go_ret
               exact ⟨a7_, a3_⟩
             ·rw [if_neg c40] at H
              have c40b0 : (a0_0 == 8) = false := beq_eq_false_iff_ne.mpr c40
              have c40b1 : (a0_0 != 8) = true := bne_iff_ne.mpr c40
              obtain rfl := Option.some.inj H
              go_wp2
              go_ret
              exact ⟨a7_, a3_⟩

end Go.Proofs.Ytmecapnpgedcnaa.PFnExactShowSteps
