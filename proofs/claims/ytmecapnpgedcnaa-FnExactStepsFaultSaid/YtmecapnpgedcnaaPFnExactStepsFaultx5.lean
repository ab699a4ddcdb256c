/- Walks of Go functions, written by program out of the print of the translation, with contracts of our own where the print has none. -/
import Derived.Test.YtmecapnpgedcnaaPFnExactStepsFaultx4
import Derived.Test.YtmecapnpgedcnaaPFnExactStepsFaultx2
import Derived.Test.YtmecapnpgedcnaaPFnExactStepsFaultx0
import Derived.Test.YtmecapnpgedcnaaPFnExactStepsFaultx1
namespace Go.Proofs.Ytmecapnpgedcnaa.PFnExactStepsFault
open Go.RowKit Go.Proofs.YtmecapnpgedcnaaW.PrintWords Go.Proofs.YtmecapnpgedcnaaW.PrintLast Go.Proofs.YtmecapnpgedcnaaW.PrintMore
attribute [local go_sem] max2_int min2_int max_two min_two max_three min_three max_four min_four   -- for this text's walks alone
set_option linter.unusedVariables false
set_option linter.unusedSimpArgs false

/-! ### spec_l08Test_read2: function 82 -/
structure spec_l08Test_read2.B where
 c : spec_l08Test_read.C
def spec_l08Test_read2.I : Nat → spec_l08Test_read2.B
 | 0 => ⟨⟨fun _ _ _ _ _ _ => none, fun g s0_0 s0_1 s0_2 s0_3 a1 A2 c2 l2 r1 r2 r3 r4 r5 r6 r7 w0 w hI hB hr2 hc2 hf2 h => by cases h⟩⟩
 | k + 1 => ⟨⟨fun s0_0 s0_1 s0_2 s0_3 a1 l2 => @spec_l08Test_read1.f (spec_l08Test_read2.I k).c k s0_0 s0_1 s0_2 s0_3 a1 l2, fun g s0_0 s0_1 s0_2 s0_3 a1 A2 c2 l2 r1 r2 r3 r4 r5 r6 r7 w0 w hI hB hr2 hc2 hf2 h => @spec_l08Test_read1.calls (spec_l08Test_read2.I k).c k g s0_0 s0_1 s0_2 s0_3 a1 A2 c2 l2 r1 r2 r3 r4 r5 r6 r7 w0 w hI hB hr2 hc2 hf2 h⟩⟩
def spec_l08Test_read2.f (k : Nat) (s0_0 : ByteArray) (s0_1 : Int) (s0_2 : Int) (s0_3 : Bool) (a1 : Int) (l2 : List ByteArray) : Option (ByteArray × Int × Bool × ByteArray × Int × Int × Bool) := (spec_l08Test_read2.I k).c.f s0_0 s0_1 s0_2 s0_3 a1 l2
theorem spec_l08Test_read2.calls (k : Nat) (g : Nat) (s0_0 : ByteArray) (s0_1 : Int) (s0_2 : Int) (s0_3 : Bool) (a1 : Int) (A2 : Option Addr) (c2 : Nat) (l2 : List ByteArray) (r1 : ByteArray) (r2 : Int) (r3 : Bool) (r4 : ByteArray) (r5 : Int) (r6 : Int) (r7 : Bool) (w0 w : World) (hI : IsS123 w0 w g s0_0 s0_1 s0_2 s0_3) (hB : Below w0.heap.size w0 w) (hr2 : Kd.C Kd.string w A2 l2.length l2) (hc2 : l2.length ≤ c2) (hf2 : ∀ ad, A2 = some ad → 0 < l2.length → ad.block ≠ g) (h : spec_l08Test_read2.f k s0_0 s0_1 s0_2 s0_3 a1 l2 = some (r1, r2, r3, r4, r5, r6, r7)) : Calls Try.prog 82 #[.pointer (some ⟨g, 0, none⟩), .int .i64 a1, .slice A2 l2.length c2] w fun e w' => e = .returned (.agg #[.string r1, .int .i64 r2, .bool r3]) ∧ IsS123 w0 w' g r4 r5 r6 r7 ∧ Below w0.heap.size w0 w' ∧ KeepBut w w' g none := (spec_l08Test_read2.I k).c.calls g s0_0 s0_1 s0_2 s0_3 a1 A2 c2 l2 r1 r2 r3 r4 r5 r6 r7 w0 w hI hB hr2 hc2 hf2 h

/-! ### spec_l08Labels: function 59 -/
def spec_l08Labels.f (k : Nat) (a0 : ByteArray) (a1 : Int) (l2 : List ByteArray) : Option (ByteArray × Int × Bool × Int × Bool) := (spec_l08Test_read2.f k a0 a1 0 false 1 l2).bind fun bt200 => (if bt200.2.2.2.2.2.2 = true then (some (bt200.1, bt200.2.1, bt200.2.2.1, bt200.2.2.2.2.1, false)) else (if 0 ≤ a1 then (if a1 ≤ bt200.2.2.2.2.1 then (if bt200.2.2.2.2.1 ≤ (a0.size : Int) then (if bt200.1.toList = (a0.extract (a1 : Int).toNat (bt200.2.2.2.2.1 : Int).toNat).toList then (some (bt200.1, bt200.2.1, bt200.2.2.1, bt200.2.2.2.2.1, decide ((bt200.1.size : Int) ≤ 200))) else (some (bt200.1, bt200.2.1, bt200.2.2.1, bt200.2.2.2.2.1, false))) else (none)) else (none)) else (none)))
def spec_l08Labels.T3 : Bool × List (List Nat × List Nat) := (true, [([], []), ([], []), ([1], [1]), ([2], [2]), ([3], [3]), ([], []), ([5], [5]), ([6], [6]), ([7], [7]), ([8], [8]), ([9], [9]), ([10], [10]), ([11, 10], [10, 11]), ([10], [10]), ([10], [10]), ([10], [10]), ([15, 10], [10, 15]), ([16, 10], [10, 16]), ([17, 10], [10, 17]), ([13, 14, 18, 10], [10, 13, 14, 18]), ([12, 19, 10], [10, 12, 19]), ([10, 20], [10, 20]), ([21, 10], [21]), ([22], [22]), ([23, 22], [22, 23]), ([24, 22], [22, 24]), ([25, 22], [22, 25]), ([22, 26], [22, 26]), ([0, 22, 0], [0]), ([4, 28, 0, 1, 2, 3, 4, 28], [4]), ([27, 29, 0, 1, 2, 3, 4, 5, 6, 7, 8, 9, 10, 11, 12, 13, 14, 15, 16, 17, 18, 19, 20, 21, 22, 23, 24, 25, 26, 27, 28, 29], [27])])
def spec_l08Labels.B3 : List Nat := [0, 0, 2, 6, 14, 0, 32, 96, 224, 480, 992, 2016, 4064, 2016, 2016, 2016, 34784, 100320, 231392, 518112, 1048544, 2097120, 4194272, 8388576, 16777184, 33554400, 67108832, 134217696, 8388577, 276824063, 1073741823]
theorem spec_l08Labels.tab3 : rtab .any (opsOf Try.f59 3) = spec_l08Labels.T3 := by kernel_rfl
theorem spec_l08Labels.bits3 : waitsOk spec_l08Labels.T3.2 spec_l08Labels.B3 = true := by kernel_rfl
theorem spec_l08Labels.a1_ {p : Prop} (h : p := by repeat (first | (with_reducible first | exact HB.out | apply below_alloc | apply pw_below_drewN | apply below_drew1) | exact HB.out)) : p := h
theorem spec_l08Labels.a2_ {p : Prop} (h : p := by (with_reducible repeat (first | refine blk_drewN ?_ _ | refine blk_drew ?_ | refine blk_alloc ?_ _)); exact BK198.out) : p := h
theorem spec_l08Labels.a3_ {p : Prop} (h : p := by repeat (first | (with_reducible first | exact HB.out | apply below_alloc | apply pw_below_drewN | apply below_drew1 | refine below_set ?_ GE198.out) | exact HB.out)) : p := h
theorem spec_l08Labels.a4_ {p : Prop} (h : p := by (try simp only [List.map_toArray, List.map_cons, List.map_nil]); first | done | rfl | (simp only [List.length_drop, List.length_take]; rfl)) : p := h
theorem spec_l08Labels.a5_ {p : Prop} (h : p := by repeat (first | (with_reducible first | exact HI199.out | apply IsS123.alloc | apply IsS123.drewN | apply IsS123.drew | apply IsS123.set_0 | apply IsS123.set_1 | apply IsS123.set_2 | apply IsS123.set_3 | apply IsS123.far (p := ⟨gb198, _, none⟩) (hne := NB199_198.out)) | exact HI199.out)) : p := h
theorem spec_l08Labels.a6_ {p : Prop} (h : p := by repeat (first | (with_reducible first | exact HB.out | apply below_alloc | apply pw_below_drewN | apply below_drew1 | refine below_set ?_ (IsS123.ge HI199.out) | refine below_set ?_ GE198.out) | exact HB.out)) : p := h
theorem spec_l08Labels.a7_ {p : Prop} (h : p := by repeat (first | exact (Kd.C_below HR2.out HB.out) | (with_reducible refine Kd.C_alloc ?_ _) | (with_reducible refine Kd.C_drewN ?_ _) | (with_reducible refine Kd.C_drew ?_))) : p := h
theorem spec_l08Labels.a8_ {p : Prop} (h : p := by (with_reducible repeat (first | refine blk_drewN ?_ _ | refine blk_drew ?_ | refine blk_alloc ?_ _)); refine blk_far ?_ NB198_207.out _; (with_reducible repeat (first | refine blk_drewN ?_ _ | refine blk_drew ?_ | refine blk_alloc ?_ _)); refine blk_far ?_ NB198_207.out _; (with_reducible repeat (first | refine blk_drewN ?_ _ | refine blk_drew ?_ | refine blk_alloc ?_ _)); refine blk_far ?_ NB198_207.out _; (with_reducible repeat (first | refine blk_drewN ?_ _ | refine blk_drew ?_ | refine blk_alloc ?_ _)); exact BK198.out) : p := h
theorem spec_l08Labels.a9_ {p : Prop} (h : p := by (with_reducible repeat (first | refine blk_drewN ?_ _ | refine blk_drew ?_ | refine blk_alloc ?_ _)); refine blk_put (cs := #[.string t200, .int .i64 t201, .bool false]) ?_ 2 _ rfl; (with_reducible repeat (first | refine blk_drewN ?_ _ | refine blk_drew ?_ | refine blk_alloc ?_ _)); refine blk_put (cs := #[.string t200, .int .i64 0, .bool false]) ?_ 1 _ rfl; (with_reducible repeat (first | refine blk_drewN ?_ _ | refine blk_drew ?_ | refine blk_alloc ?_ _)); refine blk_put (cs := #[.string (⟨#[]⟩ : ByteArray), .int .i64 0, .bool false]) ?_ 0 _ rfl; (with_reducible repeat (first | refine blk_drewN ?_ _ | refine blk_drew ?_ | refine blk_alloc ?_ _)); exact BK207.out) : p := h
theorem spec_l08Labels.a10_ {p : Prop} (h : p := by repeat (first | (with_reducible first | exact HI199.out | apply IsS123.alloc | apply IsS123.drewN | apply IsS123.drew | apply IsS123.set_0 | apply IsS123.set_1 | apply IsS123.set_2 | apply IsS123.set_3 | apply IsS123.far (p := ⟨gb198, _, none⟩) (hne := NB199_198.out) | apply IsS123.far (p := ⟨gb207, _, none⟩) (hne := NB199_207.out)) | exact HI199.out)) : p := h
theorem spec_l08Labels.a11_ {p : Prop} (h : p := by repeat (first | (with_reducible first | exact HB.out | apply below_alloc | apply pw_below_drewN | apply below_drew1 | refine below_set ?_ (IsS123.ge HI199.out) | refine below_set ?_ GE198.out | refine below_set ?_ GE207.out) | exact HB.out)) : p := h
theorem spec_l08Labels.a12_ {p : Prop} (h : p := by (with_reducible repeat (first | refine blk_drewN ?_ _ | refine blk_drew ?_ | refine blk_alloc ?_ _)); refine blk_put (cs := #[.string t200, .int .i64 t201, .bool false]) ?_ 2 _ rfl; (with_reducible repeat (first | refine blk_drewN ?_ _ | refine blk_drew ?_ | refine blk_alloc ?_ _)); refine blk_put (cs := #[.string t200, .int .i64 0, .bool false]) ?_ 1 _ rfl; (with_reducible repeat (first | refine blk_drewN ?_ _ | refine blk_drew ?_ | refine blk_alloc ?_ _)); refine blk_put (cs := #[.string (⟨#[]⟩ : ByteArray), .int .i64 0, .bool false]) ?_ 0 _ rfl; (with_reducible repeat (first | refine blk_drewN ?_ _ | refine blk_drew ?_ | refine blk_alloc ?_ _)); exact BK198.out) : p := h
set_option maxHeartbeats 8000000 in
set_option maxRecDepth 100000 in
theorem spec_l08Labels.calls (k : Nat) (a0 : ByteArray) (a1 : Int) (A2 : Option Addr) (c2 : Nat) (l2 : List ByteArray) (r1 : ByteArray) (r2 : Int) (r3 : Bool) (r4 : Int) (r5 : Bool) (w : World) (hr2 : Kd.C Kd.string w A2 l2.length l2) (hc2 : l2.length ≤ c2) (h : spec_l08Labels.f k a0 a1 l2 = some (r1, r2, r3, r4, r5)) :
  Calls Try.prog 59 #[.string a0, .int .i64 a1, .slice A2 l2.length c2] w fun e w' => e = .returned (.tuple #[.agg #[.string r1, .int .i64 r2, .bool r3], .int .i64 r4, .bool r5]) ∧ Below w.heap.size w w' := by
 have hu97 := Try.underlying97
 have hu123 := Try.underlying123
 have HR2 := Aside0.mk hr2
 have HC2 := Aside0.mk hc2
 clear hr2 hc2
 have HB := Aside0.mk (Below.refl w.heap.size w)
 have H : ((spec_l08Test_read2.f k a0 a1 0 false 1 l2).bind fun bt200 => (if bt200.2.2.2.2.2.2 = true then (some (bt200.1, bt200.2.1, bt200.2.2.1, bt200.2.2.2.2.1, false)) else (if 0 ≤ a1 then (if a1 ≤ bt200.2.2.2.2.1 then (if bt200.2.2.2.2.1 ≤ (a0.size : Int) then (if bt200.1.toList = (a0.extract (a1 : Int).toNat (bt200.2.2.2.2.1 : Int).toNat).toList then (some (bt200.1, bt200.2.1, bt200.2.2.1, bt200.2.2.2.2.1, decide ((bt200.1.size : Int) ≤ 200))) else (some (bt200.1, bt200.2.1, bt200.2.2.1, bt200.2.2.2.2.1, false))) else (none)) else (none)) else (none)))) = some (r1, r2, r3, r4, r5) := h
 clear h
 replace H := Option.bind_eq_some_iff.mp H
 obtain ⟨⟨t200, t201, t202, t203, t204, t205, t206⟩, A40, H⟩ := H
 replace H : (if t206 = true then (some (t200, t201, t202, t204, false)) else (if 0 ≤ a1 then (if a1 ≤ t204 then (if t204 ≤ (a0.size : Int) then (if t200.toList = (a0.extract (a1 : Int).toNat (t204 : Int).toNat).toList then (some (t200, t201, t202, t204, decide ((t200.size : Int) ≤ 200))) else (some (t200, t201, t202, t204, false))) else (none)) else (none)) else (none))) = some (r1, r2, r3, r4, r5) := H
 have A4 := Aside0.mk A40
 clear A40
 by_cases c5 : t206 = true
 ·subst c5
  have H1 : (some (t200, t201, t202, t204, false)) = some (r1, r2, r3, r4, r5) := by rw [if_pos rfl] at H; exact H
  clear H
  have H := H1
  clear H1
  simp only [Option.some.injEq, Prod.mk.injEq] at H
  obtain ⟨rfl, rfl, rfl, rfl, rfl⟩ := H
  go_enter Try.func59, Try.ntmps59
  try go_wp2_with (first | ((with_reducible refine gate_dst (N := 6) rfl ?_); (try (refine gate_guard (by rfl) ?_; dsimp only)); refine box_event ?hg (N := 6) ?hd (cs := #[.string (⟨#[]⟩ : ByteArray), .int .i64 0, .bool false]) (t := 97) ?hr ?_; (case hd => rfl); (case hg => rfl); (case hr => first | (go_simp; done) | (go_simp; rfl)); intro gb198 hg w6 hbox hb; have n_ := c4_ (below_step (a1_) hb) (hbox) ((by rw [hg]; exact (below_size (a1_)) : w.heap.size ≤ gb198)) ((by rw [hg]; exact (below_size (a1_)) : w.heap.size ≤ gb198)); clear HB; obtain ⟨HB, BK198, GW198, GE198⟩ := n_; clear hb hbox hg) | ((with_reducible refine gate_dst (N := 14) rfl ?_); (try (refine gate_guard (by rfl) ?_; dsimp only)); refine box_event ?hg (N := 14) ?hd (cs := #[.string a0, .int .i64 a1, .int .i64 0, .bool false]) (t := 123) ?hr ?_; (case hd => rfl); (case hg => rfl); (case hr => first | (go_simp; done) | (go_simp; rfl)); intro gb199 hg w7 hbox hb; have n_ := c7_ (blk_below (g := gb198) (o := .cells #[.string (⟨#[]⟩ : ByteArray), .int .i64 0, .bool false] 97 (0, 0)) (a2_) hb) (below_step (a3_) hb) ((by rw [hg]; exact (below_size (a3_)) : w.heap.size ≤ gb199)) ((by rw [hg]; exact (below_size (a3_)) : w.heap.size ≤ gb199)) ((by rw [hg]; exact Nat.ne_of_lt (blk_lt (g := gb198) (o := .cells #[.string (⟨#[]⟩ : ByteArray), .int .i64 0, .bool false] 97 (0, 0)) (a2_)) : gb198 ≠ gb199)) ((by rw [hg]; exact Nat.ne_of_gt (blk_lt (g := gb198) (o := .cells #[.string (⟨#[]⟩ : ByteArray), .int .i64 0, .bool false] 97 (0, 0)) (a2_)) : gb199 ≠ gb198)) ((show IsS123 w w7 gb199 a0 a1 0 false from ⟨hbox, (by rw [hg]; exact (below_size (a3_)) : w.heap.size ≤ gb199)⟩)); clear BK198 HB; obtain ⟨BK198, HB, GW199, GE199, NB198_199, NB199_198, HI199⟩ := n_; clear hb hbox hg) | ((with_reducible refine gate_callee (f := 82) rfl ?_); refine goesL_ (some 17) rfl rfl Try.func82 (by kernel_rfl) rfl #[.pointer (some ⟨gb199, 0, none⟩), .int .i64 1, .slice A2 l2.length c2] rfl (a4_) ?_; (with_reducible refine (spec_l08Test_read2.calls k gb199 a0 a1 0 false 1 _ _ l2 t200 t201 t202 t203 t204 t205 true w _ ?side1 ?side2 ?side3 ?side4 ?side5 A4.out).mono ?_); (case side1 => exact a5_); (case side2 => exact a6_); (case side3 => exact a7_); (case side4 => exact HC2.out); (case side5 => exact Kd.far_C (⟨#[]⟩ : ByteArray) HR2.out (IsS123.ge HI199.out)); rintro e w8 ⟨rfl, hi, hb, hk⟩; refine ⟨_, rfl, ?_⟩; have n_ := c3_ (KeepBut.blk hk (g' := gb198) (o := .cells #[.string (⟨#[]⟩ : ByteArray), .int .i64 0, .bool false] 97 (0, 0)) (a2_) NB198_199.out (by simp)) (hb) (hi); clear BK198 HB HI199; obtain ⟨BK198, HB, HI199⟩ := n_; (try clear hb); (try clear hb2); (try clear hk); (try clear hi)) | ((with_reducible refine gate_dst (N := 10) rfl ?_); (try (refine gate_guard (by rfl) ?_; dsimp only)); refine box_event ?hg (N := 10) ?hd (cs := #[.string (⟨#[]⟩ : ByteArray), .int .i64 0, .bool false]) (t := 97) ?hr ?_; (case hd => rfl); (case hg => rfl); (case hr => first | (go_simp; done) | (go_simp; rfl)); intro gb207 hg w9 hbox hb; have n_ := c10_ (blk_below (g := gb198) (o := .cells #[.string (⟨#[]⟩ : ByteArray), .int .i64 0, .bool false] 97 (0, 0)) (a2_) hb) (IsS123.below (a5_) hb) (below_step (a6_) hb) (hbox) ((by rw [hg]; exact (below_size (a6_)) : w.heap.size ≤ gb207)) ((by rw [hg]; exact (below_size (a6_)) : w.heap.size ≤ gb207)) ((by rw [hg]; exact Nat.ne_of_lt (blk_lt (g := gb198) (o := .cells #[.string (⟨#[]⟩ : ByteArray), .int .i64 0, .bool false] 97 (0, 0)) (a2_)) : gb198 ≠ gb207)) ((by rw [hg]; exact Nat.ne_of_gt (blk_lt (g := gb198) (o := .cells #[.string (⟨#[]⟩ : ByteArray), .int .i64 0, .bool false] 97 (0, 0)) (a2_)) : gb207 ≠ gb198)) ((by rw [hg]; exact Nat.ne_of_lt (IsS123.lt (show IsS123 w _ gb199 t203 t204 t205 true from a5_)) : gb199 ≠ gb207)) ((by rw [hg]; exact Nat.ne_of_gt (IsS123.lt (show IsS123 w _ gb199 t203 t204 t205 true from a5_)) : gb207 ≠ gb199)); clear BK198 HI199 HB; obtain ⟨BK198, HI199, HB, BK207, GW207, GE207, NB198_207, NB207_198, NB199_207, NB207_199⟩ := n_; clear hb hbox hg; have hnb10 := NB207_198.out; have hnc10 := NB198_207.out; have hnb11 := NB207_199.out; have hnc11 := NB199_207.out; have hcz12_0 : w9.cell? ⟨gb207, 0, none⟩ = some (.string (⟨#[]⟩ : ByteArray)) := (blk_cell BK207.out 0).trans rfl; have hcz12_1 : w9.cell? ⟨gb207, 1, none⟩ = some (.int .i64 0) := (blk_cell BK207.out 1).trans rfl; have hcz12_2 : w9.cell? ⟨gb207, 2, none⟩ = some (.bool false) := (blk_cell BK207.out 2).trans rfl; have hfz12_0 := blk_frozen BK207.out 0; have hfz12_1 := blk_frozen BK207.out 1; have hfz12_2 := blk_frozen BK207.out 2))
  have n_ := c4_ (show (((w9.setCell ⟨gb207, 0, none⟩ (.string t200)).setCell ⟨gb207, 1, none⟩ (.int .i64 t201)).setCell ⟨gb207, 2, none⟩ (.bool t202)).heap[gb198]? = some (.cells #[.string (⟨#[]⟩ : ByteArray), .int .i64 0, .bool false] 97 (0, 0)) from a8_) (show (((w9.setCell ⟨gb207, 0, none⟩ (.string t200)).setCell ⟨gb207, 1, none⟩ (.int .i64 t201)).setCell ⟨gb207, 2, none⟩ (.bool t202)).heap[gb207]? = some (.cells #[.string t200, .int .i64 t201, .bool t202] 97 (0, 0)) from a9_) (show IsS123 w (((w9.setCell ⟨gb207, 0, none⟩ (.string t200)).setCell ⟨gb207, 1, none⟩ (.int .i64 t201)).setCell ⟨gb207, 2, none⟩ (.bool t202)) gb199 t203 t204 t205 true from a10_) (show Below w.heap.size w (((w9.setCell ⟨gb207, 0, none⟩ (.string t200)).setCell ⟨gb207, 1, none⟩ (.int .i64 t201)).setCell ⟨gb207, 2, none⟩ (.bool t202)) from a11_)
  (try clear BK198)
  (try clear BK207)
  (try clear HI199)
  (try clear HB)
  generalize (((w9.setCell ⟨gb207, 0, none⟩ (.string t200)).setCell ⟨gb207, 1, none⟩ (.int .i64 t201)).setCell ⟨gb207, 2, none⟩ (.bool t202)) = w13 at n_ ⊢
  obtain ⟨BK198, BK207, HI199, HB⟩ := n_
  have n_ := c4_ (blk_drew BK198.out) (blk_drew BK207.out) (IsS123.drew HI199.out) (below_drew1 HB.out)
  clear BK198 BK207 HI199 HB
  obtain ⟨BK198, BK207, HI199, HB⟩ := n_
  refine start_ (n := 31) (S := fun w' => w'.cell? ⟨gb207, 0, none⟩ = some (.string t200) ∧ w'.cell? ⟨gb207, 1, none⟩ = some (.int .i64 t201) ∧ w'.cell? ⟨gb207, 2, none⟩ = some (.bool t202) ∧ w'.cell? ⟨gb199, 0, none⟩ = some (.string t203) ∧ w'.cell? ⟨gb199, 1, none⟩ = some (.int .i64 t204) ∧ w'.cell? ⟨gb199, 2, none⟩ = some (.int .i64 t205) ∧ w'.cell? ⟨gb199, 3, none⟩ = some (.bool true)) (ds := []) (bs_ 31 0) (by kernel_rfl) (by kernel_rfl) (by kernel_rfl) ⟨(blk_cell BK207.out 0).trans rfl, (blk_cell BK207.out 1).trans rfl, (blk_cell BK207.out 2).trans rfl, cellS123_0 HI199.out.1, cellS123_1 HI199.out.1, cellS123_2 HI199.out.1, cellS123_3 HI199.out.1⟩ (fun hHeld => ?_); refine with_tabW spec_l08Labels.tab3 spec_l08Labels.bits3 (fun HT_ HW_ => ?_)
  generalize w13.drew = w14 at BK198 BK207 HI199 HB hHeld ⊢
  refine pu_ (i := 1) (N := some 19) (v := ?_) (a' := ?_) 2 rfl rfl HT_ (Or.inl ⟨by rfl, ?_⟩) ?_ ?_
  rotate_left
  ·intro w'
   go_simp
   with_reducible rfl
  rotate_left
  ·simp only [pt_]
   rfl
  refine pu_ (i := 2) (N := some 20) (v := ?_) (a' := ?_) 6 rfl rfl HT_ (Or.inl ⟨by rfl, ?_⟩) ?_ ?_
  rotate_left
  ·intro w'
   go_simp
   with_reducible rfl
  rotate_left
  ·simp only [pt_]
   rfl
  refine pu_ (i := 3) (N := some 21) (v := ?_) (a' := ?_) 14 rfl rfl HT_ (Or.inl ⟨by rfl, ?_⟩) ?_ ?_
  rotate_left
  ·intro w'
   go_simp
   with_reducible rfl
  rotate_left
  ·simp only [pt_]
   rfl
  refine pu_ (i := 5) (N := some 23) (v := ?_) (a' := ?_) 46 rfl rfl HT_ (Or.inl ⟨by rfl, ?_⟩) ?_ ?_
  rotate_left
  ·intro w'
   go_simp
   with_reducible rfl
  rotate_left
  ·simp only [pt_]
   rfl
  refine pu_ (i := 6) (N := some 24) (v := ?_) (a' := ?_) 110 rfl rfl HT_ (Or.inl ⟨by rfl, ?_⟩) ?_ ?_
  rotate_left
  ·intro w'
   go_simp
   with_reducible rfl
  rotate_left
  ·simp only [pt_]
   rfl
  refine pu_ (i := 7) (N := some 25) (v := ?_) (a' := ?_) 238 rfl rfl HT_ (Or.inl ⟨by rfl, ?_⟩) ?_ ?_
  rotate_left
  ·intro w'
   go_simp
   with_reducible rfl
  rotate_left
  ·simp only [pt_]
   rfl
  refine tk_ (i := 0) (N := some 18) (v := ?_) (a' := ?_) 239 rfl rfl HT_ HW_ (Or.inl ⟨by rfl, ?_⟩) hHeld ?_ ?_
  rotate_left
  ·rintro w' ⟨s0, s1, s2, s3, s4, s5, s6⟩
   go_simp
   with_reducible rfl
  rotate_left
  ·simp only [pt_]
   rfl
  refine tk_ (i := 4) (N := some 22) (v := ?_) (a' := ?_) 255 rfl rfl HT_ HW_ (Or.inl ⟨by rfl, ?_⟩) hHeld ?_ ?_
  rotate_left
  ·rintro w' ⟨s0, s1, s2, s3, s4, s5, s6⟩
   go_simp
   with_reducible rfl
  rotate_left
  ·simp only [pt_]
   rfl
  refine tk_ (i := 8) (N := some 26) (v := ?_) (a' := ?_) 511 rfl rfl HT_ HW_ (Or.inl ⟨by rfl, ?_⟩) hHeld ?_ ?_
  rotate_left
  ·rintro w' ⟨s0, s1, s2, s3, s4, s5, s6⟩
   go_simp
   with_reducible rfl
  rotate_left
  ·simp only [pt_]
   rfl
  refine pu_ (i := 9) (N := some 27) (v := ?_) (a' := ?_) 1023 rfl rfl HT_ (Or.inl ⟨by rfl, ?_⟩) ?_ ?_
  rotate_left
  ·intro w'
   go_simp
   with_reducible rfl
  rotate_left
  ·simp only [pt_]
   rfl
  refine pu_ (i := 10) (N := some 28) (v := ?_) (a' := ?_) 2047 rfl rfl HT_ (Or.inl ⟨by rfl, ?_⟩) ?_ ?_
  rotate_left
  ·intro w'
   go_simp
   with_reducible rfl
  rotate_left
  ·simp only [pt_]
   rfl
  refine pu_ (i := 11) (N := some 29) (v := undef) (a' := ?_) 4095 rfl rfl HT_ (Or.inr ⟨by rfl, rfl⟩) ?_ ?_
  rotate_left
  ·simp only [pt_]
   rfl
  refine pu_ (i := 12) (N := some 30) (v := undef) (a' := ?_) 8191 rfl rfl HT_ (Or.inr ⟨by rfl, rfl⟩) ?_ ?_
  rotate_left
  ·simp only [pt_]
   rfl
  refine pu_ (i := 13) (N := some 31) (v := undef) (a' := ?_) 16383 rfl rfl HT_ (Or.inr ⟨by rfl, rfl⟩) ?_ ?_
  rotate_left
  ·simp only [pt_]
   rfl
  refine pu_ (i := 14) (N := some 32) (v := undef) (a' := ?_) 32767 rfl rfl HT_ (Or.inr ⟨by rfl, rfl⟩) ?_ ?_
  rotate_left
  ·simp only [pt_]
   rfl
  refine pu_ (i := 15) (N := some 33) (v := undef) (a' := ?_) 65535 rfl rfl HT_ (Or.inr ⟨by rfl, rfl⟩) ?_ ?_
  rotate_left
  ·simp only [pt_]
   rfl
  refine pu_ (i := 16) (N := some 34) (v := undef) (a' := ?_) 131071 rfl rfl HT_ (Or.inr ⟨by rfl, rfl⟩) ?_ ?_
  rotate_left
  ·simp only [pt_]
   rfl
  refine pu_ (i := 17) (N := some 35) (v := undef) (a' := ?_) 262143 rfl rfl HT_ (Or.inr ⟨by rfl, rfl⟩) ?_ ?_
  rotate_left
  ·simp only [pt_]
   rfl
  refine pu_ (i := 18) (N := some 36) (v := undef) (a' := ?_) 524287 rfl rfl HT_ (Or.inr ⟨by rfl, rfl⟩) ?_ ?_
  rotate_left
  ·simp only [pt_]
   rfl
  refine pu_ (i := 19) (N := some 37) (v := undef) (a' := ?_) 1048575 rfl rfl HT_ (Or.inr ⟨by rfl, rfl⟩) ?_ ?_
  rotate_left
  ·simp only [pt_]
   rfl
  refine pu_ (i := 20) (N := some 38) (v := undef) (a' := ?_) 2097151 rfl rfl HT_ (Or.inr ⟨by rfl, rfl⟩) ?_ ?_
  rotate_left
  ·simp only [pt_]
   rfl
  refine pu_ (i := 21) (N := some 39) (v := ?_) (a' := ?_) 4194303 rfl rfl HT_ (Or.inl ⟨by rfl, ?_⟩) ?_ ?_
  rotate_left
  ·intro w'
   go_simp
   with_reducible rfl
  rotate_left
  ·simp only [pt_]
   rfl
  refine pu_ (i := 22) (N := some 40) (v := ?_) (a' := ?_) 8388607 rfl rfl HT_ (Or.inl ⟨by rfl, ?_⟩) ?_ ?_
  rotate_left
  ·intro w'
   go_simp
   with_reducible rfl
  rotate_left
  ·simp only [pt_]
   rfl
  refine pu_ (i := 23) (N := some 41) (v := undef) (a' := ?_) 16777215 rfl rfl HT_ (Or.inr ⟨by rfl, rfl⟩) ?_ ?_
  rotate_left
  ·simp only [pt_]
   rfl
  refine pu_ (i := 24) (N := some 42) (v := undef) (a' := ?_) 33554431 rfl rfl HT_ (Or.inr ⟨by rfl, rfl⟩) ?_ ?_
  rotate_left
  ·simp only [pt_]
   rfl
  refine pu_ (i := 25) (N := some 43) (v := undef) (a' := ?_) 67108863 rfl rfl HT_ (Or.inr ⟨by rfl, rfl⟩) ?_ ?_
  rotate_left
  ·simp only [pt_]
   rfl
  refine pu_ (i := 26) (N := some 44) (v := undef) (a' := ?_) 134217727 rfl rfl HT_ (Or.inr ⟨by rfl, rfl⟩) ?_ ?_
  rotate_left
  ·simp only [pt_]
   rfl
  refine pu_ (i := 27) (N := some 45) (v := ?_) (a' := ?_) 268435455 rfl rfl HT_ (Or.inl ⟨by rfl, ?_⟩) ?_ ?_
  rotate_left
  ·intro w'
   go_simp
   with_reducible rfl
  rotate_left
  ·simp only [pt_]
   rfl
  refine one_ (i := 28) (N := none) (bs_ 31 536870911) rfl rfl (one_of HT_.out (by kernel_rfl)) (by decide) (fun K hK => ?_)
  have hs15 : w14.cell? ⟨gb198, 0, none⟩ = some (.string (⟨#[]⟩ : ByteArray)) := (blk_cell BK198.out 0).trans rfl
  have hfs15 := blk_frozen BK198.out 0
  have hns15_1 := NB207_198.out
  have hms15_1 := NB198_207.out
  have hs16 : w14.cell? ⟨gb198, 1, none⟩ = some (.int .i64 0) := (blk_cell BK198.out 1).trans rfl
  have hfs16 := blk_frozen BK198.out 1
  have hns16_1 := NB207_198.out
  have hms16_1 := NB198_207.out
  have hs17 : w14.cell? ⟨gb198, 2, none⟩ = some (.bool false) := (blk_cell BK198.out 2).trans rfl
  have hfs17 := blk_frozen BK198.out 2
  have hns17_1 := NB207_198.out
  have hms17_1 := NB198_207.out
  refine skip_ (w1 := ?_) (by rfl) rfl ?_ ?_
  rotate_left
  ·go_simp
   rfl
  refine hK.out _ _ ⟨((cell_far (p := ⟨gb198, _, none⟩) NB207_198.out _).trans (((cell_far (p := ⟨gb198, _, none⟩) NB207_198.out _).trans (((cell_far (p := ⟨gb198, _, none⟩) NB207_198.out _).trans (hHeld.1)))))), ((cell_far (p := ⟨gb198, _, none⟩) NB207_198.out _).trans (((cell_far (p := ⟨gb198, _, none⟩) NB207_198.out _).trans (((cell_far (p := ⟨gb198, _, none⟩) NB207_198.out _).trans (hHeld.2.1)))))), ((cell_far (p := ⟨gb198, _, none⟩) NB207_198.out _).trans (((cell_far (p := ⟨gb198, _, none⟩) NB207_198.out _).trans (((cell_far (p := ⟨gb198, _, none⟩) NB207_198.out _).trans (hHeld.2.2.1)))))), ((cell_far (p := ⟨gb198, _, none⟩) NB199_198.out _).trans (((cell_far (p := ⟨gb198, _, none⟩) NB199_198.out _).trans (((cell_far (p := ⟨gb198, _, none⟩) NB199_198.out _).trans (hHeld.2.2.2.1)))))), ((cell_far (p := ⟨gb198, _, none⟩) NB199_198.out _).trans (((cell_far (p := ⟨gb198, _, none⟩) NB199_198.out _).trans (((cell_far (p := ⟨gb198, _, none⟩) NB199_198.out _).trans (hHeld.2.2.2.2.1)))))), ((cell_far (p := ⟨gb198, _, none⟩) NB199_198.out _).trans (((cell_far (p := ⟨gb198, _, none⟩) NB199_198.out _).trans (((cell_far (p := ⟨gb198, _, none⟩) NB199_198.out _).trans (hHeld.2.2.2.2.2.1)))))), ((cell_far (p := ⟨gb198, _, none⟩) NB199_198.out _).trans (((cell_far (p := ⟨gb198, _, none⟩) NB199_198.out _).trans (((cell_far (p := ⟨gb198, _, none⟩) NB199_198.out _).trans (hHeld.2.2.2.2.2.2))))))⟩ (fun hHeld => ?_)
  clear hK K
  refine pu_ (i := 29) (N := some 7) (v := ?_) (a' := ?_) 1073741823 rfl rfl HT_ (Or.inl ⟨by rfl, ?_⟩) ?_ ?_
  rotate_left
  ·intro w'
   go_simp
   with_reducible rfl
  rotate_left
  ·simp only [pt_]
   rfl
  refine pu_ (i := 30) (N := some 8) (v := ?_) (a' := ?_) 2147483647 rfl rfl HT_ (Or.inl ⟨by rfl, ?_⟩) ?_ ?_
  rotate_left
  ·intro w'
   go_simp
   with_reducible rfl
  rotate_left
  ·simp only [pt_]
   rfl
  refine done_ (done_of HT_.out (by kernel_rfl)) ?_
  try go_wp2
  refine bodyPost_ret (results_ctt rfl _ _ gb198 97 #[.string t200, .int .i64 t201, .bool t202] (0, 0) _ rfl (a12_) Try.underlying97 rfl (by kernel_rfl)) rfl ?_
  exact ⟨by first | rfl | (simp [errW_none, errW_some] <;> rfl) | (simp [*, errW_none, errW_some] <;> rfl), a11_⟩
 ·replace c5 := Bool.eq_false_iff.mpr c5
  subst c5
  have H1 : (if 0 ≤ a1 then (if a1 ≤ t204 then (if t204 ≤ (a0.size : Int) then (if t200.toList = (a0.extract (a1 : Int).toNat (t204 : Int).toNat).toList then (some (t200, t201, t202, t204, decide ((t200.size : Int) ≤ 200))) else (some (t200, t201, t202, t204, false))) else (none)) else (none)) else (none)) = some (r1, r2, r3, r4, r5) := by rw [if_neg (show ¬ (false = true) by decide)] at H; exact H
  clear H
  have H := H1
  clear H1
  by_cases c18 : 0 ≤ a1
  ·rw [if_pos c18] at H
   have c18b0 := eq_true c18
   have c18b1 : decide (0 ≤ a1) = true := decide_eq_true c18
   clear c18
   by_cases c19 : a1 ≤ t204
   ·rw [if_pos c19] at H
    have c19b0 := eq_true c19
    have c19b1 : decide (a1 ≤ t204) = true := decide_eq_true c19
    clear c19
    by_cases c20 : t204 ≤ (a0.size : Int)
    ·rw [if_pos c20] at H
     have c20b0 := eq_true c20
     have c20b1 : decide (t204 ≤ (a0.size : Int)) = true := decide_eq_true c20
     clear c20
     by_cases c21 : t200.toList = (a0.extract (a1 : Int).toNat (t204 : Int).toNat).toList
     ·rw [if_pos c21] at H
      have c21b0 : (t200.toList == (a0.extract (a1 : Int).toNat (t204 : Int).toNat).toList) = true := beq_iff_eq.mpr c21
      have c21b1 : (t200.toList != (a0.extract (a1 : Int).toNat (t204 : Int).toNat).toList) = false := bne_eq_false_iff_eq.mpr c21
      clear c21
      simp only [Option.some.injEq, Prod.mk.injEq] at H
      obtain ⟨rfl, rfl, rfl, rfl, rfl⟩ := H
      go_enter Try.func59, Try.ntmps59
      try go_wp2_with (first | ((with_reducible refine gate_dst (N := 6) rfl ?_); (try (refine gate_guard (by rfl) ?_; dsimp only)); refine box_event ?hg (N := 6) ?hd (cs := #[.string (⟨#[]⟩ : ByteArray), .int .i64 0, .bool false]) (t := 97) ?hr ?_; (case hd => rfl); (case hg => rfl); (case hr => first | (go_simp; done) | (go_simp; rfl)); intro gb198 hg w22 hbox hb; have n_ := c4_ (below_step (a1_) hb) (hbox) ((by rw [hg]; exact (below_size (a1_)) : w.heap.size ≤ gb198)) ((by rw [hg]; exact (below_size (a1_)) : w.heap.size ≤ gb198)); clear HB; obtain ⟨HB, BK198, GW198, GE198⟩ := n_; clear hb hbox hg) | ((with_reducible refine gate_dst (N := 14) rfl ?_); (try (refine gate_guard (by rfl) ?_; dsimp only)); refine box_event ?hg (N := 14) ?hd (cs := #[.string a0, .int .i64 a1, .int .i64 0, .bool false]) (t := 123) ?hr ?_; (case hd => rfl); (case hg => rfl); (case hr => first | (go_simp; done) | (go_simp; rfl)); intro gb199 hg w23 hbox hb; have n_ := c7_ (blk_below (g := gb198) (o := .cells #[.string (⟨#[]⟩ : ByteArray), .int .i64 0, .bool false] 97 (0, 0)) (a2_) hb) (below_step (a3_) hb) ((by rw [hg]; exact (below_size (a3_)) : w.heap.size ≤ gb199)) ((by rw [hg]; exact (below_size (a3_)) : w.heap.size ≤ gb199)) ((by rw [hg]; exact Nat.ne_of_lt (blk_lt (g := gb198) (o := .cells #[.string (⟨#[]⟩ : ByteArray), .int .i64 0, .bool false] 97 (0, 0)) (a2_)) : gb198 ≠ gb199)) ((by rw [hg]; exact Nat.ne_of_gt (blk_lt (g := gb198) (o := .cells #[.string (⟨#[]⟩ : ByteArray), .int .i64 0, .bool false] 97 (0, 0)) (a2_)) : gb199 ≠ gb198)) ((show IsS123 w w23 gb199 a0 a1 0 false from ⟨hbox, (by rw [hg]; exact (below_size (a3_)) : w.heap.size ≤ gb199)⟩)); clear BK198 HB; obtain ⟨BK198, HB, GW199, GE199, NB198_199, NB199_198, HI199⟩ := n_; clear hb hbox hg) | ((with_reducible refine gate_callee (f := 82) rfl ?_); refine goesL_ (some 17) rfl rfl Try.func82 (by kernel_rfl) rfl #[.pointer (some ⟨gb199, 0, none⟩), .int .i64 1, .slice A2 l2.length c2] rfl (a4_) ?_; (with_reducible refine (spec_l08Test_read2.calls k gb199 a0 a1 0 false 1 _ _ l2 t200 t201 t202 t203 t204 t205 false w _ ?side1 ?side2 ?side3 ?side4 ?side5 A4.out).mono ?_); (case side1 => exact a5_); (case side2 => exact a6_); (case side3 => exact a7_); (case side4 => exact HC2.out); (case side5 => exact Kd.far_C (⟨#[]⟩ : ByteArray) HR2.out (IsS123.ge HI199.out)); rintro e w24 ⟨rfl, hi, hb, hk⟩; refine ⟨_, rfl, ?_⟩; have n_ := c3_ (KeepBut.blk hk (g' := gb198) (o := .cells #[.string (⟨#[]⟩ : ByteArray), .int .i64 0, .bool false] 97 (0, 0)) (a2_) NB198_199.out (by simp)) (hb) (hi); clear BK198 HB HI199; obtain ⟨BK198, HB, HI199⟩ := n_; (try clear hb); (try clear hb2); (try clear hk); (try clear hi)) | ((with_reducible refine gate_dst (N := 10) rfl ?_); (try (refine gate_guard (by rfl) ?_; dsimp only)); refine box_event ?hg (N := 10) ?hd (cs := #[.string (⟨#[]⟩ : ByteArray), .int .i64 0, .bool false]) (t := 97) ?hr ?_; (case hd => rfl); (case hg => rfl); (case hr => first | (go_simp; done) | (go_simp; rfl)); intro gb207 hg w25 hbox hb; have n_ := c10_ (blk_below (g := gb198) (o := .cells #[.string (⟨#[]⟩ : ByteArray), .int .i64 0, .bool false] 97 (0, 0)) (a2_) hb) (IsS123.below (a5_) hb) (below_step (a6_) hb) (hbox) ((by rw [hg]; exact (below_size (a6_)) : w.heap.size ≤ gb207)) ((by rw [hg]; exact (below_size (a6_)) : w.heap.size ≤ gb207)) ((by rw [hg]; exact Nat.ne_of_lt (blk_lt (g := gb198) (o := .cells #[.string (⟨#[]⟩ : ByteArray), .int .i64 0, .bool false] 97 (0, 0)) (a2_)) : gb198 ≠ gb207)) ((by rw [hg]; exact Nat.ne_of_gt (blk_lt (g := gb198) (o := .cells #[.string (⟨#[]⟩ : ByteArray), .int .i64 0, .bool false] 97 (0, 0)) (a2_)) : gb207 ≠ gb198)) ((by rw [hg]; exact Nat.ne_of_lt (IsS123.lt (show IsS123 w _ gb199 t203 t204 t205 false from a5_)) : gb199 ≠ gb207)) ((by rw [hg]; exact Nat.ne_of_gt (IsS123.lt (show IsS123 w _ gb199 t203 t204 t205 false from a5_)) : gb207 ≠ gb199)); clear BK198 HI199 HB; obtain ⟨BK198, HI199, HB, BK207, GW207, GE207, NB198_207, NB207_198, NB199_207, NB207_199⟩ := n_; clear hb hbox hg; have hnb26 := NB207_198.out; have hnc26 := NB198_207.out; have hnb27 := NB207_199.out; have hnc27 := NB199_207.out; have hcz28_0 : w25.cell? ⟨gb207, 0, none⟩ = some (.string (⟨#[]⟩ : ByteArray)) := (blk_cell BK207.out 0).trans rfl; have hcz28_1 : w25.cell? ⟨gb207, 1, none⟩ = some (.int .i64 0) := (blk_cell BK207.out 1).trans rfl; have hcz28_2 : w25.cell? ⟨gb207, 2, none⟩ = some (.bool false) := (blk_cell BK207.out 2).trans rfl; have hfz28_0 := blk_frozen BK207.out 0; have hfz28_1 := blk_frozen BK207.out 1; have hfz28_2 := blk_frozen BK207.out 2))
      have n_ := c4_ (show (((w25.setCell ⟨gb207, 0, none⟩ (.string t200)).setCell ⟨gb207, 1, none⟩ (.int .i64 t201)).setCell ⟨gb207, 2, none⟩ (.bool t202)).heap[gb198]? = some (.cells #[.string (⟨#[]⟩ : ByteArray), .int .i64 0, .bool false] 97 (0, 0)) from a8_) (show (((w25.setCell ⟨gb207, 0, none⟩ (.string t200)).setCell ⟨gb207, 1, none⟩ (.int .i64 t201)).setCell ⟨gb207, 2, none⟩ (.bool t202)).heap[gb207]? = some (.cells #[.string t200, .int .i64 t201, .bool t202] 97 (0, 0)) from a9_) (show IsS123 w (((w25.setCell ⟨gb207, 0, none⟩ (.string t200)).setCell ⟨gb207, 1, none⟩ (.int .i64 t201)).setCell ⟨gb207, 2, none⟩ (.bool t202)) gb199 t203 t204 t205 false from a10_) (show Below w.heap.size w (((w25.setCell ⟨gb207, 0, none⟩ (.string t200)).setCell ⟨gb207, 1, none⟩ (.int .i64 t201)).setCell ⟨gb207, 2, none⟩ (.bool t202)) from a11_)
      (try clear BK198)
      (try clear BK207)
      (try clear HI199)
      (try clear HB)
      generalize (((w25.setCell ⟨gb207, 0, none⟩ (.string t200)).setCell ⟨gb207, 1, none⟩ (.int .i64 t201)).setCell ⟨gb207, 2, none⟩ (.bool t202)) = w29 at n_ ⊢
      obtain ⟨BK198, BK207, HI199, HB⟩ := n_
      have n_ := c4_ (blk_drew BK198.out) (blk_drew BK207.out) (IsS123.drew HI199.out) (below_drew1 HB.out)
      clear BK198 BK207 HI199 HB
      obtain ⟨BK198, BK207, HI199, HB⟩ := n_
      refine start_ (n := 31) (S := fun w' => w'.cell? ⟨gb207, 0, none⟩ = some (.string t200) ∧ w'.cell? ⟨gb207, 1, none⟩ = some (.int .i64 t201) ∧ w'.cell? ⟨gb207, 2, none⟩ = some (.bool t202) ∧ w'.cell? ⟨gb199, 0, none⟩ = some (.string t203) ∧ w'.cell? ⟨gb199, 1, none⟩ = some (.int .i64 t204) ∧ w'.cell? ⟨gb199, 2, none⟩ = some (.int .i64 t205) ∧ w'.cell? ⟨gb199, 3, none⟩ = some (.bool false)) (ds := []) (bs_ 31 0) (by kernel_rfl) (by kernel_rfl) (by kernel_rfl) ⟨(blk_cell BK207.out 0).trans rfl, (blk_cell BK207.out 1).trans rfl, (blk_cell BK207.out 2).trans rfl, cellS123_0 HI199.out.1, cellS123_1 HI199.out.1, cellS123_2 HI199.out.1, cellS123_3 HI199.out.1⟩ (fun hHeld => ?_); refine with_tabW spec_l08Labels.tab3 spec_l08Labels.bits3 (fun HT_ HW_ => ?_)
      generalize w29.drew = w30 at BK198 BK207 HI199 HB hHeld ⊢
      refine pu_ (i := 1) (N := some 19) (v := ?_) (a' := ?_) 2 rfl rfl HT_ (Or.inl ⟨by rfl, ?_⟩) ?_ ?_
      rotate_left
      ·intro w'
       go_simp
       with_reducible rfl
      rotate_left
      ·simp only [pt_]
       rfl
      refine pu_ (i := 2) (N := some 20) (v := ?_) (a' := ?_) 6 rfl rfl HT_ (Or.inl ⟨by rfl, ?_⟩) ?_ ?_
      rotate_left
      ·intro w'
       go_simp
       with_reducible rfl
      rotate_left
      ·simp only [pt_]
       rfl
      refine pu_ (i := 3) (N := some 21) (v := ?_) (a' := ?_) 14 rfl rfl HT_ (Or.inl ⟨by rfl, ?_⟩) ?_ ?_
      rotate_left
      ·intro w'
       go_simp
       with_reducible rfl
      rotate_left
      ·simp only [pt_]
       rfl
      refine pu_ (i := 5) (N := some 23) (v := ?_) (a' := ?_) 46 rfl rfl HT_ (Or.inl ⟨by rfl, ?_⟩) ?_ ?_
      rotate_left
      ·intro w'
       go_simp
       with_reducible rfl
      rotate_left
      ·simp only [pt_]
       rfl
      refine pu_ (i := 6) (N := some 24) (v := ?_) (a' := ?_) 110 rfl rfl HT_ (Or.inl ⟨by rfl, ?_⟩) ?_ ?_
      rotate_left
      ·intro w'
       go_simp
       with_reducible rfl
      rotate_left
      ·simp only [pt_]
       rfl
      refine pu_ (i := 7) (N := some 25) (v := ?_) (a' := ?_) 238 rfl rfl HT_ (Or.inl ⟨by rfl, ?_⟩) ?_ ?_
      rotate_left
      ·intro w'
       go_simp
       with_reducible rfl
      rotate_left
      ·simp only [pt_]
       rfl
      refine tk_ (i := 0) (N := some 18) (v := ?_) (a' := ?_) 239 rfl rfl HT_ HW_ (Or.inl ⟨by rfl, ?_⟩) hHeld ?_ ?_
      rotate_left
      ·rintro w' ⟨s0, s1, s2, s3, s4, s5, s6⟩
       go_simp
       with_reducible rfl
      rotate_left
      ·simp only [pt_]
       rfl
      refine tk_ (i := 4) (N := some 22) (v := ?_) (a' := ?_) 255 rfl rfl HT_ HW_ (Or.inl ⟨by rfl, ?_⟩) hHeld ?_ ?_
      rotate_left
      ·rintro w' ⟨s0, s1, s2, s3, s4, s5, s6⟩
       go_simp
       with_reducible rfl
      rotate_left
      ·simp only [pt_]
       rfl
      refine tk_ (i := 8) (N := some 26) (v := ?_) (a' := ?_) 511 rfl rfl HT_ HW_ (Or.inl ⟨by rfl, ?_⟩) hHeld ?_ ?_
      rotate_left
      ·rintro w' ⟨s0, s1, s2, s3, s4, s5, s6⟩
       go_simp
       with_reducible rfl
      rotate_left
      ·simp only [pt_]
       rfl
      refine pu_ (i := 9) (N := some 27) (v := ?_) (a' := ?_) 1023 rfl rfl HT_ (Or.inl ⟨by rfl, ?_⟩) ?_ ?_
      rotate_left
      ·intro w'
       go_simp
       with_reducible rfl
      rotate_left
      ·simp only [pt_]
       rfl
      refine pu_ (i := 10) (N := some 28) (v := ?_) (a' := ?_) 2047 rfl rfl HT_ (Or.inl ⟨by rfl, ?_⟩) ?_ ?_
      rotate_left
      ·intro w'
       go_simp
       with_reducible rfl
      rotate_left
      ·simp only [pt_]
       rfl
      refine pu_ (i := 11) (N := some 29) (v := ?_) (a' := ?_) 4095 rfl rfl HT_ (Or.inl ⟨by rfl, ?_⟩) ?_ ?_
      rotate_left
      ·intro w'
       go_simp
       with_reducible rfl
      rotate_left
      ·simp only [pt_]
       rfl
      refine pu_ (i := 13) (N := some 31) (v := ?_) (a' := ?_) 12287 rfl rfl HT_ (Or.inl ⟨by rfl, ?_⟩) ?_ ?_
      rotate_left
      ·intro w'
       go_simp
       with_reducible rfl
      rotate_left
      ·simp only [pt_]
       rfl
      refine pu_ (i := 14) (N := some 32) (v := ?_) (a' := ?_) 28671 rfl rfl HT_ (Or.inl ⟨by rfl, ?_⟩) ?_ ?_
      rotate_left
      ·intro w'
       go_simp
       with_reducible rfl
      rotate_left
      ·simp only [pt_]
       rfl
      refine pu_ (i := 15) (N := some 33) (v := ?_) (a' := ?_) 61439 rfl rfl HT_ (Or.inl ⟨by rfl, ?_⟩) ?_ ?_
      rotate_left
      ·intro w'
       go_simp
       with_reducible rfl
      rotate_left
      ·simp only [pt_]
       rfl
      refine pu_ (i := 16) (N := some 34) (v := ?_) (a' := ?_) 126975 rfl rfl HT_ (Or.inl ⟨by rfl, ?_⟩) ?_ ?_
      rotate_left
      ·intro w'
       go_simp
       with_reducible rfl
      rotate_left
      ·simp only [pt_]
       rfl
      refine pu_ (i := 17) (N := some 35) (v := ?_) (a' := ?_) 258047 rfl rfl HT_ (Or.inl ⟨by rfl, ?_⟩) ?_ ?_
      rotate_left
      ·intro w'
       go_simp
       with_reducible rfl
      rotate_left
      ·simp only [pt_]
       rfl
      refine tk_ (i := 12) (N := some 30) (v := ?_) (a' := ?_) 262143 rfl rfl HT_ HW_ (Or.inl ⟨by rfl, ?_⟩) hHeld ?_ ?_
      rotate_left
      ·rintro w' ⟨s0, s1, s2, s3, s4, s5, s6⟩
       go_simp
       with_reducible rfl
      rotate_left
      ·simp only [pt_]
       rfl
      refine tk_ (i := 18) (N := some 36) (v := ?_) (a' := ?_) 524287 rfl rfl HT_ HW_ (Or.inl ⟨by rfl, ?_⟩) hHeld ?_ ?_
      rotate_left
      ·rintro w' ⟨s0, s1, s2, s3, s4, s5, s6⟩
       go_simp
       with_reducible rfl
      rotate_left
      ·simp only [pt_]
       rfl
      refine pu_ (i := 19) (N := some 37) (v := ?_) (a' := ?_) 1048575 rfl rfl HT_ (Or.inl ⟨by rfl, ?_⟩) ?_ ?_
      rotate_left
      ·intro w'
       go_simp
       with_reducible rfl
      rotate_left
      ·simp only [pt_]
       rfl
      refine pu_ (i := 20) (N := some 38) (v := ?_) (a' := ?_) 2097151 rfl rfl HT_ (Or.inl ⟨by rfl, ?_⟩) ?_ ?_
      rotate_left
      ·intro w'
       go_simp
       with_reducible rfl
      rotate_left
      ·simp only [pt_]
       rfl
      refine pu_ (i := 21) (N := some 39) (v := ?_) (a' := ?_) 4194303 rfl rfl HT_ (Or.inl ⟨by rfl, ?_⟩) ?_ ?_
      rotate_left
      ·intro w'
       go_simp
       with_reducible rfl
      rotate_left
      ·simp only [pt_]
       rfl
      refine pu_ (i := 22) (N := some 40) (v := ?_) (a' := ?_) 8388607 rfl rfl HT_ (Or.inl ⟨by rfl, ?_⟩) ?_ ?_
      rotate_left
      ·intro w'
       go_simp
       with_reducible rfl
      rotate_left
      ·simp only [pt_]
       rfl
      refine pu_ (i := 23) (N := some 41) (v := ?_) (a' := ?_) 16777215 rfl rfl HT_ (Or.inl ⟨by rfl, ?_⟩) ?_ ?_
      rotate_left
      ·intro w'
       go_simp
       with_reducible rfl
      rotate_left
      ·simp only [pt_]
       rfl
      refine tk_ (i := 24) (N := some 42) (v := ?_) (a' := ?_) 33554431 rfl rfl HT_ HW_ (Or.inl ⟨by rfl, ?_⟩) hHeld ?_ ?_
      rotate_left
      ·rintro w' ⟨s0, s1, s2, s3, s4, s5, s6⟩
       go_simp
       with_reducible rfl
      rotate_left
      ·simp only [pt_]
       rfl
      refine pu_ (i := 25) (N := some 43) (v := ?_) (a' := ?_) 67108863 rfl rfl HT_ (Or.inl ⟨by rfl, ?_⟩) ?_ ?_
      rotate_left
      ·intro w'
       go_simp
       with_reducible rfl
      rotate_left
      ·simp only [pt_]
       rfl
      refine pu_ (i := 26) (N := some 44) (v := ?_) (a' := ?_) 134217727 rfl rfl HT_ (Or.inl ⟨by rfl, ?_⟩) ?_ ?_
      rotate_left
      ·intro w'
       go_simp
       with_reducible rfl
      rotate_left
      ·simp only [pt_]
       rfl
      refine pu_ (i := 27) (N := some 45) (v := ?_) (a' := ?_) 268435455 rfl rfl HT_ (Or.inl ⟨by rfl, ?_⟩) ?_ ?_
      rotate_left
      ·intro w'
       go_simp
       with_reducible rfl
      rotate_left
      ·simp only [pt_]
       rfl
      refine one_ (i := 28) (N := none) (bs_ 31 536870911) rfl rfl (one_of HT_.out (by kernel_rfl)) (by decide) (fun K hK => ?_)
      have hs31 : w30.cell? ⟨gb198, 0, none⟩ = some (.string (⟨#[]⟩ : ByteArray)) := (blk_cell BK198.out 0).trans rfl
      have hfs31 := blk_frozen BK198.out 0
      have hns31_1 := NB207_198.out
      have hms31_1 := NB198_207.out
      have hs32 : w30.cell? ⟨gb198, 1, none⟩ = some (.int .i64 0) := (blk_cell BK198.out 1).trans rfl
      have hfs32 := blk_frozen BK198.out 1
      have hns32_1 := NB207_198.out
      have hms32_1 := NB198_207.out
      have hs33 : w30.cell? ⟨gb198, 2, none⟩ = some (.bool false) := (blk_cell BK198.out 2).trans rfl
      have hfs33 := blk_frozen BK198.out 2
      have hns33_1 := NB207_198.out
      have hms33_1 := NB198_207.out
      refine skip_ (w1 := ?_) (by rfl) rfl ?_ ?_
      rotate_left
      ·go_simp
       rfl
      refine hK.out _ _ ⟨((cell_far (p := ⟨gb198, _, none⟩) NB207_198.out _).trans (((cell_far (p := ⟨gb198, _, none⟩) NB207_198.out _).trans (((cell_far (p := ⟨gb198, _, none⟩) NB207_198.out _).trans (hHeld.1)))))), ((cell_far (p := ⟨gb198, _, none⟩) NB207_198.out _).trans (((cell_far (p := ⟨gb198, _, none⟩) NB207_198.out _).trans (((cell_far (p := ⟨gb198, _, none⟩) NB207_198.out _).trans (hHeld.2.1)))))), ((cell_far (p := ⟨gb198, _, none⟩) NB207_198.out _).trans (((cell_far (p := ⟨gb198, _, none⟩) NB207_198.out _).trans (((cell_far (p := ⟨gb198, _, none⟩) NB207_198.out _).trans (hHeld.2.2.1)))))), ((cell_far (p := ⟨gb198, _, none⟩) NB199_198.out _).trans (((cell_far (p := ⟨gb198, _, none⟩) NB199_198.out _).trans (((cell_far (p := ⟨gb198, _, none⟩) NB199_198.out _).trans (hHeld.2.2.2.1)))))), ((cell_far (p := ⟨gb198, _, none⟩) NB199_198.out _).trans (((cell_far (p := ⟨gb198, _, none⟩) NB199_198.out _).trans (((cell_far (p := ⟨gb198, _, none⟩) NB199_198.out _).trans (hHeld.2.2.2.2.1)))))), ((cell_far (p := ⟨gb198, _, none⟩) NB199_198.out _).trans (((cell_far (p := ⟨gb198, _, none⟩) NB199_198.out _).trans (((cell_far (p := ⟨gb198, _, none⟩) NB199_198.out _).trans (hHeld.2.2.2.2.2.1)))))), ((cell_far (p := ⟨gb198, _, none⟩) NB199_198.out _).trans (((cell_far (p := ⟨gb198, _, none⟩) NB199_198.out _).trans (((cell_far (p := ⟨gb198, _, none⟩) NB199_198.out _).trans (hHeld.2.2.2.2.2.2))))))⟩ (fun hHeld => ?_)
      clear hK K
      refine pu_ (i := 29) (N := some 7) (v := ?_) (a' := ?_) 1073741823 rfl rfl HT_ (Or.inl ⟨by rfl, ?_⟩) ?_ ?_
      rotate_left
      ·intro w'
       go_simp
       with_reducible rfl
      rotate_left
      ·simp only [pt_]
       rfl
      refine pu_ (i := 30) (N := some 8) (v := ?_) (a' := ?_) 2147483647 rfl rfl HT_ (Or.inl ⟨by rfl, ?_⟩) ?_ ?_
      rotate_left
      ·intro w'
       go_simp
       with_reducible rfl
      rotate_left
      ·simp only [pt_]
       rfl
      refine done_ (done_of HT_.out (by kernel_rfl)) ?_
      try go_wp2
      refine bodyPost_ret (results_ctt rfl _ _ gb198 97 #[.string t200, .int .i64 t201, .bool t202] (0, 0) _ rfl (a12_) Try.underlying97 rfl (by kernel_rfl)) rfl ?_
      exact ⟨by first | rfl | (simp [errW_none, errW_some] <;> rfl) | (simp [*, errW_none, errW_some] <;> rfl), a11_⟩
     ·rw [if_neg c21] at H
      have c21b0 : (t200.toList == (a0.extract (a1 : Int).toNat (t204 : Int).toNat).toList) = false := beq_eq_false_iff_ne.mpr c21
      have c21b1 : (t200.toList != (a0.extract (a1 : Int).toNat (t204 : Int).toNat).toList) = true := bne_iff_ne.mpr c21
      simp only [Option.some.injEq, Prod.mk.injEq] at H
      obtain ⟨rfl, rfl, rfl, rfl, rfl⟩ := H
      go_enter Try.func59, Try.ntmps59
      try go_wp2_with (first | ((with_reducible refine gate_dst (N := 6) rfl ?_); (try (refine gate_guard (by rfl) ?_; dsimp only)); refine box_event ?hg (N := 6) ?hd (cs := #[.string (⟨#[]⟩ : ByteArray), .int .i64 0, .bool false]) (t := 97) ?hr ?_; (case hd => rfl); (case hg => rfl); (case hr => first | (go_simp; done) | (go_simp; rfl)); intro gb198 hg w34 hbox hb; have n_ := c4_ (below_step (a1_) hb) (hbox) ((by rw [hg]; exact (below_size (a1_)) : w.heap.size ≤ gb198)) ((by rw [hg]; exact (below_size (a1_)) : w.heap.size ≤ gb198)); clear HB; obtain ⟨HB, BK198, GW198, GE198⟩ := n_; clear hb hbox hg) | ((with_reducible refine gate_dst (N := 14) rfl ?_); (try (refine gate_guard (by rfl) ?_; dsimp only)); refine box_event ?hg (N := 14) ?hd (cs := #[.string a0, .int .i64 a1, .int .i64 0, .bool false]) (t := 123) ?hr ?_; (case hd => rfl); (case hg => rfl); (case hr => first | (go_simp; done) | (go_simp; rfl)); intro gb199 hg w35 hbox hb; have n_ := c7_ (blk_below (g := gb198) (o := .cells #[.string (⟨#[]⟩ : ByteArray), .int .i64 0, .bool false] 97 (0, 0)) (a2_) hb) (below_step (a3_) hb) ((by rw [hg]; exact (below_size (a3_)) : w.heap.size ≤ gb199)) ((by rw [hg]; exact (below_size (a3_)) : w.heap.size ≤ gb199)) ((by rw [hg]; exact Nat.ne_of_lt (blk_lt (g := gb198) (o := .cells #[.string (⟨#[]⟩ : ByteArray), .int .i64 0, .bool false] 97 (0, 0)) (a2_)) : gb198 ≠ gb199)) ((by rw [hg]; exact Nat.ne_of_gt (blk_lt (g := gb198) (o := .cells #[.string (⟨#[]⟩ : ByteArray), .int .i64 0, .bool false] 97 (0, 0)) (a2_)) : gb199 ≠ gb198)) ((show IsS123 w w35 gb199 a0 a1 0 false from ⟨hbox, (by rw [hg]; exact (below_size (a3_)) : w.heap.size ≤ gb199)⟩)); clear BK198 HB; obtain ⟨BK198, HB, GW199, GE199, NB198_199, NB199_198, HI199⟩ := n_; clear hb hbox hg) | ((with_reducible refine gate_callee (f := 82) rfl ?_); refine goesL_ (some 17) rfl rfl Try.func82 (by kernel_rfl) rfl #[.pointer (some ⟨gb199, 0, none⟩), .int .i64 1, .slice A2 l2.length c2] rfl (a4_) ?_; (with_reducible refine (spec_l08Test_read2.calls k gb199 a0 a1 0 false 1 _ _ l2 t200 t201 t202 t203 t204 t205 false w _ ?side1 ?side2 ?side3 ?side4 ?side5 A4.out).mono ?_); (case side1 => exact a5_); (case side2 => exact a6_); (case side3 => exact a7_); (case side4 => exact HC2.out); (case side5 => exact Kd.far_C (⟨#[]⟩ : ByteArray) HR2.out (IsS123.ge HI199.out)); rintro e w36 ⟨rfl, hi, hb, hk⟩; refine ⟨_, rfl, ?_⟩; have n_ := c3_ (KeepBut.blk hk (g' := gb198) (o := .cells #[.string (⟨#[]⟩ : ByteArray), .int .i64 0, .bool false] 97 (0, 0)) (a2_) NB198_199.out (by simp)) (hb) (hi); clear BK198 HB HI199; obtain ⟨BK198, HB, HI199⟩ := n_; (try clear hb); (try clear hb2); (try clear hk); (try clear hi)) | ((with_reducible refine gate_dst (N := 10) rfl ?_); (try (refine gate_guard (by rfl) ?_; dsimp only)); refine box_event ?hg (N := 10) ?hd (cs := #[.string (⟨#[]⟩ : ByteArray), .int .i64 0, .bool false]) (t := 97) ?hr ?_; (case hd => rfl); (case hg => rfl); (case hr => first | (go_simp; done) | (go_simp; rfl)); intro gb207 hg w37 hbox hb; have n_ := c10_ (blk_below (g := gb198) (o := .cells #[.string (⟨#[]⟩ : ByteArray), .int .i64 0, .bool false] 97 (0, 0)) (a2_) hb) (IsS123.below (a5_) hb) (below_step (a6_) hb) (hbox) ((by rw [hg]; exact (below_size (a6_)) : w.heap.size ≤ gb207)) ((by rw [hg]; exact (below_size (a6_)) : w.heap.size ≤ gb207)) ((by rw [hg]; exact Nat.ne_of_lt (blk_lt (g := gb198) (o := .cells #[.string (⟨#[]⟩ : ByteArray), .int .i64 0, .bool false] 97 (0, 0)) (a2_)) : gb198 ≠ gb207)) ((by rw [hg]; exact Nat.ne_of_gt (blk_lt (g := gb198) (o := .cells #[.string (⟨#[]⟩ : ByteArray), .int .i64 0, .bool false] 97 (0, 0)) (a2_)) : gb207 ≠ gb198)) ((by rw [hg]; exact Nat.ne_of_lt (IsS123.lt (show IsS123 w _ gb199 t203 t204 t205 false from a5_)) : gb199 ≠ gb207)) ((by rw [hg]; exact Nat.ne_of_gt (IsS123.lt (show IsS123 w _ gb199 t203 t204 t205 false from a5_)) : gb207 ≠ gb199)); clear BK198 HI199 HB; obtain ⟨BK198, HI199, HB, BK207, GW207, GE207, NB198_207, NB207_198, NB199_207, NB207_199⟩ := n_; clear hb hbox hg; have hnb38 := NB207_198.out; have hnc38 := NB198_207.out; have hnb39 := NB207_199.out; have hnc39 := NB199_207.out; have hcz40_0 : w37.cell? ⟨gb207, 0, none⟩ = some (.string (⟨#[]⟩ : ByteArray)) := (blk_cell BK207.out 0).trans rfl; have hcz40_1 : w37.cell? ⟨gb207, 1, none⟩ = some (.int .i64 0) := (blk_cell BK207.out 1).trans rfl; have hcz40_2 : w37.cell? ⟨gb207, 2, none⟩ = some (.bool false) := (blk_cell BK207.out 2).trans rfl; have hfz40_0 := blk_frozen BK207.out 0; have hfz40_1 := blk_frozen BK207.out 1; have hfz40_2 := blk_frozen BK207.out 2))
      have n_ := c4_ (show (((w37.setCell ⟨gb207, 0, none⟩ (.string t200)).setCell ⟨gb207, 1, none⟩ (.int .i64 t201)).setCell ⟨gb207, 2, none⟩ (.bool t202)).heap[gb198]? = some (.cells #[.string (⟨#[]⟩ : ByteArray), .int .i64 0, .bool false] 97 (0, 0)) from a8_) (show (((w37.setCell ⟨gb207, 0, none⟩ (.string t200)).setCell ⟨gb207, 1, none⟩ (.int .i64 t201)).setCell ⟨gb207, 2, none⟩ (.bool t202)).heap[gb207]? = some (.cells #[.string t200, .int .i64 t201, .bool t202] 97 (0, 0)) from a9_) (show IsS123 w (((w37.setCell ⟨gb207, 0, none⟩ (.string t200)).setCell ⟨gb207, 1, none⟩ (.int .i64 t201)).setCell ⟨gb207, 2, none⟩ (.bool t202)) gb199 t203 t204 t205 false from a10_) (show Below w.heap.size w (((w37.setCell ⟨gb207, 0, none⟩ (.string t200)).setCell ⟨gb207, 1, none⟩ (.int .i64 t201)).setCell ⟨gb207, 2, none⟩ (.bool t202)) from a11_)
      (try clear BK198)
      (try clear BK207)
      (try clear HI199)
      (try clear HB)
      generalize (((w37.setCell ⟨gb207, 0, none⟩ (.string t200)).setCell ⟨gb207, 1, none⟩ (.int .i64 t201)).setCell ⟨gb207, 2, none⟩ (.bool t202)) = w41 at n_ ⊢
      obtain ⟨BK198, BK207, HI199, HB⟩ := n_
      have n_ := c4_ (blk_drew BK198.out) (blk_drew BK207.out) (IsS123.drew HI199.out) (below_drew1 HB.out)
      clear BK198 BK207 HI199 HB
      obtain ⟨BK198, BK207, HI199, HB⟩ := n_
      refine start_ (n := 31) (S := fun w' => w'.cell? ⟨gb207, 0, none⟩ = some (.string t200) ∧ w'.cell? ⟨gb207, 1, none⟩ = some (.int .i64 t201) ∧ w'.cell? ⟨gb207, 2, none⟩ = some (.bool t202) ∧ w'.cell? ⟨gb199, 0, none⟩ = some (.string t203) ∧ w'.cell? ⟨gb199, 1, none⟩ = some (.int .i64 t204) ∧ w'.cell? ⟨gb199, 2, none⟩ = some (.int .i64 t205) ∧ w'.cell? ⟨gb199, 3, none⟩ = some (.bool false)) (ds := []) (bs_ 31 0) (by kernel_rfl) (by kernel_rfl) (by kernel_rfl) ⟨(blk_cell BK207.out 0).trans rfl, (blk_cell BK207.out 1).trans rfl, (blk_cell BK207.out 2).trans rfl, cellS123_0 HI199.out.1, cellS123_1 HI199.out.1, cellS123_2 HI199.out.1, cellS123_3 HI199.out.1⟩ (fun hHeld => ?_); refine with_tabW spec_l08Labels.tab3 spec_l08Labels.bits3 (fun HT_ HW_ => ?_)
      generalize w41.drew = w42 at BK198 BK207 HI199 HB hHeld ⊢
      refine pu_ (i := 1) (N := some 19) (v := ?_) (a' := ?_) 2 rfl rfl HT_ (Or.inl ⟨by rfl, ?_⟩) ?_ ?_
      rotate_left
      ·intro w'
       go_simp
       with_reducible rfl
      rotate_left
      ·simp only [pt_]
       rfl
      refine pu_ (i := 2) (N := some 20) (v := ?_) (a' := ?_) 6 rfl rfl HT_ (Or.inl ⟨by rfl, ?_⟩) ?_ ?_
      rotate_left
      ·intro w'
       go_simp
       with_reducible rfl
      rotate_left
      ·simp only [pt_]
       rfl
      refine pu_ (i := 3) (N := some 21) (v := ?_) (a' := ?_) 14 rfl rfl HT_ (Or.inl ⟨by rfl, ?_⟩) ?_ ?_
      rotate_left
      ·intro w'
       go_simp
       with_reducible rfl
      rotate_left
      ·simp only [pt_]
       rfl
      refine pu_ (i := 5) (N := some 23) (v := ?_) (a' := ?_) 46 rfl rfl HT_ (Or.inl ⟨by rfl, ?_⟩) ?_ ?_
      rotate_left
      ·intro w'
       go_simp
       with_reducible rfl
      rotate_left
      ·simp only [pt_]
       rfl
      refine pu_ (i := 6) (N := some 24) (v := ?_) (a' := ?_) 110 rfl rfl HT_ (Or.inl ⟨by rfl, ?_⟩) ?_ ?_
      rotate_left
      ·intro w'
       go_simp
       with_reducible rfl
      rotate_left
      ·simp only [pt_]
       rfl
      refine pu_ (i := 7) (N := some 25) (v := ?_) (a' := ?_) 238 rfl rfl HT_ (Or.inl ⟨by rfl, ?_⟩) ?_ ?_
      rotate_left
      ·intro w'
       go_simp
       with_reducible rfl
      rotate_left
      ·simp only [pt_]
       rfl
      refine tk_ (i := 0) (N := some 18) (v := ?_) (a' := ?_) 239 rfl rfl HT_ HW_ (Or.inl ⟨by rfl, ?_⟩) hHeld ?_ ?_
      rotate_left
      ·rintro w' ⟨s0, s1, s2, s3, s4, s5, s6⟩
       go_simp
       with_reducible rfl
      rotate_left
      ·simp only [pt_]
       rfl
      refine tk_ (i := 4) (N := some 22) (v := ?_) (a' := ?_) 255 rfl rfl HT_ HW_ (Or.inl ⟨by rfl, ?_⟩) hHeld ?_ ?_
      rotate_left
      ·rintro w' ⟨s0, s1, s2, s3, s4, s5, s6⟩
       go_simp
       with_reducible rfl
      rotate_left
      ·simp only [pt_]
       rfl
      refine tk_ (i := 8) (N := some 26) (v := ?_) (a' := ?_) 511 rfl rfl HT_ HW_ (Or.inl ⟨by rfl, ?_⟩) hHeld ?_ ?_
      rotate_left
      ·rintro w' ⟨s0, s1, s2, s3, s4, s5, s6⟩
       go_simp
       with_reducible rfl
      rotate_left
      ·simp only [pt_]
       rfl
      refine pu_ (i := 9) (N := some 27) (v := ?_) (a' := ?_) 1023 rfl rfl HT_ (Or.inl ⟨by rfl, ?_⟩) ?_ ?_
      rotate_left
      ·intro w'
       go_simp
       with_reducible rfl
      rotate_left
      ·simp only [pt_]
       rfl
      refine pu_ (i := 10) (N := some 28) (v := ?_) (a' := ?_) 2047 rfl rfl HT_ (Or.inl ⟨by rfl, ?_⟩) ?_ ?_
      rotate_left
      ·intro w'
       go_simp
       with_reducible rfl
      rotate_left
      ·simp only [pt_]
       rfl
      refine pu_ (i := 11) (N := some 29) (v := ?_) (a' := ?_) 4095 rfl rfl HT_ (Or.inl ⟨by rfl, ?_⟩) ?_ ?_
      rotate_left
      ·intro w'
       go_simp
       with_reducible rfl
      rotate_left
      ·simp only [pt_]
       rfl
      refine pu_ (i := 13) (N := some 31) (v := ?_) (a' := ?_) 12287 rfl rfl HT_ (Or.inl ⟨by rfl, ?_⟩) ?_ ?_
      rotate_left
      ·intro w'
       go_simp
       with_reducible rfl
      rotate_left
      ·simp only [pt_]
       rfl
      refine pu_ (i := 14) (N := some 32) (v := ?_) (a' := ?_) 28671 rfl rfl HT_ (Or.inl ⟨by rfl, ?_⟩) ?_ ?_
      rotate_left
      ·intro w'
       go_simp
       with_reducible rfl
      rotate_left
      ·simp only [pt_]
       rfl
      refine pu_ (i := 15) (N := some 33) (v := ?_) (a' := ?_) 61439 rfl rfl HT_ (Or.inl ⟨by rfl, ?_⟩) ?_ ?_
      rotate_left
      ·intro w'
       go_simp
       with_reducible rfl
      rotate_left
      ·simp only [pt_]
       rfl
      refine pu_ (i := 16) (N := some 34) (v := ?_) (a' := ?_) 126975 rfl rfl HT_ (Or.inl ⟨by rfl, ?_⟩) ?_ ?_
      rotate_left
      ·intro w'
       go_simp
       with_reducible rfl
      rotate_left
      ·simp only [pt_]
       rfl
      refine pu_ (i := 17) (N := some 35) (v := ?_) (a' := ?_) 258047 rfl rfl HT_ (Or.inl ⟨by rfl, ?_⟩) ?_ ?_
      rotate_left
      ·intro w'
       go_simp
       with_reducible rfl
      rotate_left
      ·simp only [pt_]
       rfl
      refine tk_ (i := 12) (N := some 30) (v := ?_) (a' := ?_) 262143 rfl rfl HT_ HW_ (Or.inl ⟨by rfl, ?_⟩) hHeld ?_ ?_
      rotate_left
      ·rintro w' ⟨s0, s1, s2, s3, s4, s5, s6⟩
       go_simp
       with_reducible rfl
      rotate_left
      ·simp only [pt_]
       rfl
      refine tk_ (i := 18) (N := some 36) (v := ?_) (a' := ?_) 524287 rfl rfl HT_ HW_ (Or.inl ⟨by rfl, ?_⟩) hHeld ?_ ?_
      rotate_left
      ·rintro w' ⟨s0, s1, s2, s3, s4, s5, s6⟩
       go_simp
       with_reducible rfl
      rotate_left
      ·simp only [pt_]
       rfl
      refine pu_ (i := 19) (N := some 37) (v := ?_) (a' := ?_) 1048575 rfl rfl HT_ (Or.inl ⟨by rfl, ?_⟩) ?_ ?_
      rotate_left
      ·intro w'
       go_simp
       with_reducible rfl
      rotate_left
      ·simp only [pt_]
       rfl
      refine pu_ (i := 20) (N := some 38) (v := ?_) (a' := ?_) 2097151 rfl rfl HT_ (Or.inl ⟨by rfl, ?_⟩) ?_ ?_
      rotate_left
      ·intro w'
       go_simp
       with_reducible rfl
      rotate_left
      ·simp only [pt_]
       rfl
      refine pu_ (i := 21) (N := some 39) (v := ?_) (a' := ?_) 4194303 rfl rfl HT_ (Or.inl ⟨by rfl, ?_⟩) ?_ ?_
      rotate_left
      ·intro w'
       go_simp
       with_reducible rfl
      rotate_left
      ·simp only [pt_]
       rfl
      refine pu_ (i := 22) (N := some 40) (v := ?_) (a' := ?_) 8388607 rfl rfl HT_ (Or.inl ⟨by rfl, ?_⟩) ?_ ?_
      rotate_left
      ·intro w'
       go_simp
       with_reducible rfl
      rotate_left
      ·simp only [pt_]
       rfl
      refine pu_ (i := 23) (N := some 41) (v := undef) (a' := ?_) 16777215 rfl rfl HT_ (Or.inr ⟨by rfl, rfl⟩) ?_ ?_
      rotate_left
      ·simp only [pt_]
       rfl
      refine pu_ (i := 24) (N := some 42) (v := undef) (a' := ?_) 33554431 rfl rfl HT_ (Or.inr ⟨by rfl, rfl⟩) ?_ ?_
      rotate_left
      ·simp only [pt_]
       rfl
      refine pu_ (i := 25) (N := some 43) (v := undef) (a' := ?_) 67108863 rfl rfl HT_ (Or.inr ⟨by rfl, rfl⟩) ?_ ?_
      rotate_left
      ·simp only [pt_]
       rfl
      refine pu_ (i := 26) (N := some 44) (v := undef) (a' := ?_) 134217727 rfl rfl HT_ (Or.inr ⟨by rfl, rfl⟩) ?_ ?_
      rotate_left
      ·simp only [pt_]
       rfl
      refine pu_ (i := 27) (N := some 45) (v := ?_) (a' := ?_) 268435455 rfl rfl HT_ (Or.inl ⟨by rfl, ?_⟩) ?_ ?_
      rotate_left
      ·intro w'
       go_simp
       with_reducible rfl
      rotate_left
      ·simp only [pt_]
       rfl
      refine one_ (i := 28) (N := none) (bs_ 31 536870911) rfl rfl (one_of HT_.out (by kernel_rfl)) (by decide) (fun K hK => ?_)
      have hs43 : w42.cell? ⟨gb198, 0, none⟩ = some (.string (⟨#[]⟩ : ByteArray)) := (blk_cell BK198.out 0).trans rfl
      have hfs43 := blk_frozen BK198.out 0
      have hns43_1 := NB207_198.out
      have hms43_1 := NB198_207.out
      have hs44 : w42.cell? ⟨gb198, 1, none⟩ = some (.int .i64 0) := (blk_cell BK198.out 1).trans rfl
      have hfs44 := blk_frozen BK198.out 1
      have hns44_1 := NB207_198.out
      have hms44_1 := NB198_207.out
      have hs45 : w42.cell? ⟨gb198, 2, none⟩ = some (.bool false) := (blk_cell BK198.out 2).trans rfl
      have hfs45 := blk_frozen BK198.out 2
      have hns45_1 := NB207_198.out
      have hms45_1 := NB198_207.out
      refine skip_ (w1 := ?_) (by rfl) rfl ?_ ?_
      rotate_left
      ·go_simp
       rfl
      refine hK.out _ _ ⟨((cell_far (p := ⟨gb198, _, none⟩) NB207_198.out _).trans (((cell_far (p := ⟨gb198, _, none⟩) NB207_198.out _).trans (((cell_far (p := ⟨gb198, _, none⟩) NB207_198.out _).trans (hHeld.1)))))), ((cell_far (p := ⟨gb198, _, none⟩) NB207_198.out _).trans (((cell_far (p := ⟨gb198, _, none⟩) NB207_198.out _).trans (((cell_far (p := ⟨gb198, _, none⟩) NB207_198.out _).trans (hHeld.2.1)))))), ((cell_far (p := ⟨gb198, _, none⟩) NB207_198.out _).trans (((cell_far (p := ⟨gb198, _, none⟩) NB207_198.out _).trans (((cell_far (p := ⟨gb198, _, none⟩) NB207_198.out _).trans (hHeld.2.2.1)))))), ((cell_far (p := ⟨gb198, _, none⟩) NB199_198.out _).trans (((cell_far (p := ⟨gb198, _, none⟩) NB199_198.out _).trans (((cell_far (p := ⟨gb198, _, none⟩) NB199_198.out _).trans (hHeld.2.2.2.1)))))), ((cell_far (p := ⟨gb198, _, none⟩) NB199_198.out _).trans (((cell_far (p := ⟨gb198, _, none⟩) NB199_198.out _).trans (((cell_far (p := ⟨gb198, _, none⟩) NB199_198.out _).trans (hHeld.2.2.2.2.1)))))), ((cell_far (p := ⟨gb198, _, none⟩) NB199_198.out _).trans (((cell_far (p := ⟨gb198, _, none⟩) NB199_198.out _).trans (((cell_far (p := ⟨gb198, _, none⟩) NB199_198.out _).trans (hHeld.2.2.2.2.2.1)))))), ((cell_far (p := ⟨gb198, _, none⟩) NB199_198.out _).trans (((cell_far (p := ⟨gb198, _, none⟩) NB199_198.out _).trans (((cell_far (p := ⟨gb198, _, none⟩) NB199_198.out _).trans (hHeld.2.2.2.2.2.2))))))⟩ (fun hHeld => ?_)
      clear hK K
      refine pu_ (i := 29) (N := some 7) (v := ?_) (a' := ?_) 1073741823 rfl rfl HT_ (Or.inl ⟨by rfl, ?_⟩) ?_ ?_
      rotate_left
      ·intro w'
       go_simp
       with_reducible rfl
      rotate_left
      ·simp only [pt_]
       rfl
      refine pu_ (i := 30) (N := some 8) (v := ?_) (a' := ?_) 2147483647 rfl rfl HT_ (Or.inl ⟨by rfl, ?_⟩) ?_ ?_
      rotate_left
      ·intro w'
       go_simp
       with_reducible rfl
      rotate_left
      ·simp only [pt_]
       rfl
      refine done_ (done_of HT_.out (by kernel_rfl)) ?_
      try go_wp2
      refine bodyPost_ret (results_ctt rfl _ _ gb198 97 #[.string t200, .int .i64 t201, .bool t202] (0, 0) _ rfl (a12_) Try.underlying97 rfl (by kernel_rfl)) rfl ?_
      exact ⟨by first | rfl | (simp [errW_none, errW_some] <;> rfl) | (simp [*, errW_none, errW_some] <;> rfl), a11_⟩
    ·rw [if_neg c20] at H
     exact absurd H (by simp)
   ·rw [if_neg c19] at H
    exact absurd H (by simp)
  ·rw [if_neg c18] at H
   exact absurd H (by simp)

end Go.Proofs.Ytmecapnpgedcnaa.PFnExactStepsFault
