/- Walks of Go functions, written by program out of the print of the translation, with contracts of our own where the print has none. -/
import Derived.Test.YtmecapnpgedcnaaPFnExactShowStepsx4
import Derived.Test.YtmecapnpgedcnaaPFnExactShowStepsx0
import Derived.Test.YtmecapnpgedcnaaPFnExactShowStepsx2
namespace Go.Proofs.Ytmecapnpgedcnaa.PFnExactShowSteps
open Go.RowKit Go.Proofs.YtmecapnpgedcnaaW.PrintWords Go.Proofs.YtmecapnpgedcnaaW.PrintLast Go.Proofs.YtmecapnpgedcnaaW.PrintMore
attribute [local go_sem] max2_int min2_int max_two min_two max_three min_three max_four min_four   -- for this text's walks alone
set_option linter.unusedVariables false
set_option linter.unusedSimpArgs false

/-! ### spec_l08Test_read2: function 82 -/
structure spec_l08Test_read2.B where
 c : spec_l08Test_read.C
def spec_l08Test_read2.I : Nat → spec_l08Test_read2.B
 | 0 => ⟨⟨fun _ _ _ _ _ _ => none, fun g s0_0 s0_1 s0_2 s0_3 a1 A2 c2 l2 r1 r2 r3 r4 r5 r6 r7 w0 w hI hB hr2 hc2 hf2 h => by cases h⟩⟩
 | k + 1 => ⟨⟨fun s0_0 s0_1 s0_2 s0_3 a1 l2 => @spec_l08Test_read1.f (spec_l08Test_read2.I k).c k s0_0 s0_1 s0_2 s0_3 a1 l2, fun g s0_0 s0_1 s0_2 s0_3 a1 A2 c2 l2 r1 r2 r3 r4 r5 r6 r7 w0 w hI hB hr2 hc2 hf2 h => @spec_l08Test_read1.calls (spec_l08Test_read2.I k).c k g s0_0 s0_1 s0_2 s0_3 a1 A2 c2 l2 r1 r2 r3 r4 r5 r6 r7 w0 w hI hB hr2 hc2 hf2 h⟩⟩
def spec_l08Test_read2.f (k : Nat) (s0_0 : ByteArray) (s0_1 : Int) (s0_2 : Int) (s0_3 : Bool) (a1 : Int) (l2 : List ByteArray) : Option (ByteArray × Int × Bool × ByteArray × Int × Int × Bool) := (spec_l08Test_read2.I k).c.f s0_0 s0_1 s0_2 s0_3 a1 l2
theorem spec_l08Test_read2.calls (k : Nat) (g : Nat) (s0_0 : ByteArray) (s0_1 : Int) (s0_2 : Int) (s0_3 : Bool) (a1 : Int) (A2 : Option Addr) (c2 : Nat) (l2 : List ByteArray) (r1 : ByteArray) (r2 : Int) (r3 : Bool) (r4 : ByteArray) (r5 : Int) (r6 : Int) (r7 : Bool) (w0 w : World) (hI : IsS123 w0 w g s0_0 s0_1 s0_2 s0_3) (hB : Below w0.heap.size w0 w) (hr2 : Kd.C Kd.string w A2 l2.length l2) (hc2 : l2.length ≤ c2) (hf2 : ∀ ad, A2 = some ad → 0 < l2.length → ad.block ≠ g) (h : spec_l08Test_read2.f k s0_0 s0_1 s0_2 s0_3 a1 l2 = some (r1, r2, r3, r4, r5, r6, r7)) : Calls Try.prog 82 #[.pointer (some ⟨g, 0, none⟩), .int .i64 a1, .slice A2 l2.length c2] w fun e w' => e = .returned (.agg #[.string r1, .int .i64 r2, .bool r3]) ∧ IsS123 w0 w' g r4 r5 r6 r7 ∧ Below w0.heap.size w0 w' ∧ KeepBut w w' g none := (spec_l08Test_read2.I k).c.calls g s0_0 s0_1 s0_2 s0_3 a1 A2 c2 l2 r1 r2 r3 r4 r5 r6 r7 w0 w hI hB hr2 hc2 hf2 h

/-! ### spec_l08Labels: function 59 -/
def spec_l08Labels.f (k : Nat) (a0 : ByteArray) (a1 : Int) (l2 : List ByteArray) : Option (ByteArray × Int × Bool × Int × Bool) := (spec_l08Test_read2.f k a0 a1 0 false 1 l2).bind fun bt216 => (if bt216.2.2.2.2.2.2 = true then (some (bt216.1, bt216.2.1, bt216.2.2.1, bt216.2.2.2.2.1, false)) else (if 0 ≤ a1 then (if a1 ≤ bt216.2.2.2.2.1 then (if bt216.2.2.2.2.1 ≤ (a0.size : Int) then (if bt216.1.toList = (a0.extract (a1 : Int).toNat (bt216.2.2.2.2.1 : Int).toNat).toList then (some (bt216.1, bt216.2.1, bt216.2.2.1, bt216.2.2.2.2.1, decide ((bt216.1.size : Int) ≤ 200))) else (some (bt216.1, bt216.2.1, bt216.2.2.1, bt216.2.2.2.2.1, false))) else (none)) else (none)) else (none)))
def spec_l08Labels.T3 : Bool × List (List Nat × List Nat) := (true, [([], []), ([], []), ([1], [1]), ([2], [2]), ([3], [3]), ([], []), ([5], [5]), ([6], [6]), ([7], [7]), ([8], [8]), ([9], [9]), ([10], [10]), ([11, 10], [10, 11]), ([10], [10]), ([10], [10]), ([10], [10]), ([15, 10], [10, 15]), ([16, 10], [10, 16]), ([17, 10], [10, 17]), ([13, 14, 18, 10], [10, 13, 14, 18]), ([12, 19, 10], [10, 12, 19]), ([10, 20], [10, 20]), ([21, 10], [21]), ([22], [22]), ([23, 22], [22, 23]), ([24, 22], [22, 24]), ([25, 22], [22, 25]), ([22, 26], [22, 26]), ([0, 22, 0], [0]), ([4, 28, 0, 1, 2, 3, 4, 28], [4]), ([27, 29, 0, 1, 2, 3, 4, 5, 6, 7, 8, 9, 10, 11, 12, 13, 14, 15, 16, 17, 18, 19, 20, 21, 22, 23, 24, 25, 26, 27, 28, 29], [27])])
def spec_l08Labels.B3 : List Nat := [0, 0, 2, 6, 14, 0, 32, 96, 224, 480, 992, 2016, 4064, 2016, 2016, 2016, 34784, 100320, 231392, 518112, 1048544, 2097120, 4194272, 8388576, 16777184, 33554400, 67108832, 134217696, 8388577, 276824063, 1073741823]
theorem spec_l08Labels.tab3 : rtab .any (opsOf Try.f59 3) = spec_l08Labels.T3 := by kernel_rfl
theorem spec_l08Labels.bits3 : waitsOk spec_l08Labels.T3.2 spec_l08Labels.B3 = true := by kernel_rfl
theorem spec_l08Labels.a1_ {p : Prop} (h : p := by repeat (first | (with_reducible first | exact HB.out | apply below_alloc | apply pw_below_drewN | apply below_drew1) | exact HB.out)) : p := h
theorem spec_l08Labels.a2_ {p : Prop} (h : p := by (with_reducible repeat (first | refine blk_drewN ?_ _ | refine blk_drew ?_ | refine blk_alloc ?_ _)); exact BK214.out) : p := h
theorem spec_l08Labels.a3_ {p : Prop} (h : p := by repeat (first | (with_reducible first | exact HB.out | apply below_alloc | apply pw_below_drewN | apply below_drew1 | refine below_set ?_ GE214.out) | exact HB.out)) : p := h
theorem spec_l08Labels.a4_ {p : Prop} (h : p := by (try simp only [List.map_toArray, List.map_cons, List.map_nil]); first | done | rfl | (simp only [List.length_drop, List.length_take]; rfl)) : p := h
theorem spec_l08Labels.a5_ {p : Prop} (h : p := by repeat (first | (with_reducible first | exact HI215.out | apply IsS123.alloc | apply IsS123.drewN | apply IsS123.drew | apply IsS123.set_0 | apply IsS123.set_1 | apply IsS123.set_2 | apply IsS123.set_3 | apply IsS123.far (p := ⟨gb214, _, none⟩) (hne := NB215_214.out)) | exact HI215.out)) : p := h
theorem spec_l08Labels.a6_ {p : Prop} (h : p := by repeat (first | (with_reducible first | exact HB.out | apply below_alloc | apply pw_below_drewN | apply below_drew1 | refine below_set ?_ (IsS123.ge HI215.out) | refine below_set ?_ GE214.out) | exact HB.out)) : p := h
theorem spec_l08Labels.a7_ {p : Prop} (h : p := by repeat (first | exact (Kd.C_below HR2.out HB.out) | (with_reducible refine Kd.C_alloc ?_ _) | (with_reducible refine Kd.C_drewN ?_ _) | (with_reducible refine Kd.C_drew ?_))) : p := h
theorem spec_l08Labels.a8_ {p : Prop} (h : p := by (with_reducible repeat (first | refine blk_drewN ?_ _ | refine blk_drew ?_ | refine blk_alloc ?_ _)); refine blk_far ?_ NB214_223.out _; (with_reducible repeat (first | refine blk_drewN ?_ _ | refine blk_drew ?_ | refine blk_alloc ?_ _)); refine blk_far ?_ NB214_223.out _; (with_reducible repeat (first | refine blk_drewN ?_ _ | refine blk_drew ?_ | refine blk_alloc ?_ _)); refine blk_far ?_ NB214_223.out _; (with_reducible repeat (first | refine blk_drewN ?_ _ | refine blk_drew ?_ | refine blk_alloc ?_ _)); exact BK214.out) : p := h
theorem spec_l08Labels.a9_ {p : Prop} (h : p := by (with_reducible repeat (first | refine blk_drewN ?_ _ | refine blk_drew ?_ | refine blk_alloc ?_ _)); refine blk_put (cs := #[.string t216, .int .i64 t217, .bool false]) ?_ 2 _ rfl; (with_reducible repeat (first | refine blk_drewN ?_ _ | refine blk_drew ?_ | refine blk_alloc ?_ _)); refine blk_put (cs := #[.string t216, .int .i64 0, .bool false]) ?_ 1 _ rfl; (with_reducible repeat (first | refine blk_drewN ?_ _ | refine blk_drew ?_ | refine blk_alloc ?_ _)); refine blk_put (cs := #[.string (⟨#[]⟩ : ByteArray), .int .i64 0, .bool false]) ?_ 0 _ rfl; (with_reducible repeat (first | refine blk_drewN ?_ _ | refine blk_drew ?_ | refine blk_alloc ?_ _)); exact BK223.out) : p := h
theorem spec_l08Labels.a10_ {p : Prop} (h : p := by repeat (first | (with_reducible first | exact HI215.out | apply IsS123.alloc | apply IsS123.drewN | apply IsS123.drew | apply IsS123.set_0 | apply IsS123.set_1 | apply IsS123.set_2 | apply IsS123.set_3 | apply IsS123.far (p := ⟨gb214, _, none⟩) (hne := NB215_214.out) | apply IsS123.far (p := ⟨gb223, _, none⟩) (hne := NB215_223.out)) | exact HI215.out)) : p := h
theorem spec_l08Labels.a11_ {p : Prop} (h : p := by repeat (first | (with_reducible first | exact HB.out | apply below_alloc | apply pw_below_drewN | apply below_drew1 | refine below_set ?_ (IsS123.ge HI215.out) | refine below_set ?_ GE214.out | refine below_set ?_ GE223.out) | exact HB.out)) : p := h
theorem spec_l08Labels.a12_ {p : Prop} (h : p := by rintro w' ⟨s0, s1, s2, s3, s4, s5, s6⟩; go_simp; with_reducible rfl) : p := h
theorem spec_l08Labels.a13_ {p : Prop} (h : p := by (with_reducible repeat (first | refine blk_drewN ?_ _ | refine blk_drew ?_ | refine blk_alloc ?_ _)); refine blk_put (cs := #[.string t216, .int .i64 t217, .bool false]) ?_ 2 _ rfl; (with_reducible repeat (first | refine blk_drewN ?_ _ | refine blk_drew ?_ | refine blk_alloc ?_ _)); refine blk_put (cs := #[.string t216, .int .i64 0, .bool false]) ?_ 1 _ rfl; (with_reducible repeat (first | refine blk_drewN ?_ _ | refine blk_drew ?_ | refine blk_alloc ?_ _)); refine blk_put (cs := #[.string (⟨#[]⟩ : ByteArray), .int .i64 0, .bool false]) ?_ 0 _ rfl; (with_reducible repeat (first | refine blk_drewN ?_ _ | refine blk_drew ?_ | refine blk_alloc ?_ _)); exact BK214.out) : p := h
set_option maxHeartbeats 8000000 in
set_option maxRecDepth 100000 in
theorem spec_l08Labels.calls (k : Nat) (a0 : ByteArray) (a1 : Int) (A2 : Option Addr) (c2 : Nat) (l2 : List ByteArray) (r1 : ByteArray) (r2 : Int) (r3 : Bool) (r4 : Int) (r5 : Bool) (w : World) (hr2 : Kd.C Kd.string w A2 l2.length l2) (hc2 : l2.length ≤ c2) (h : spec_l08Labels.f k a0 a1 l2 = some (r1, r2, r3, r4, r5)) :
  Calls Try.prog 59 #[.string a0, .int .i64 a1, .slice A2 l2.length c2] w fun e w' => e = .returned (.tuple #[.agg #[.string r1, .int .i64 r2, .bool r3], .int .i64 r4, .bool r5]) ∧ Below w.heap.size w w' := by
 have hu97 := Try.underlying97
 have hu123 := Try.underlying123
 have HR2 := Aside0.mk hr2
 have HC2 := Aside0.mk hc2
 clear hr2 hc2
 have HB := Aside0.mk (Below.refl w.heap.size w)
 have H : ((spec_l08Test_read2.f k a0 a1 0 false 1 l2).bind fun bt216 => (if bt216.2.2.2.2.2.2 = true then (some (bt216.1, bt216.2.1, bt216.2.2.1, bt216.2.2.2.2.1, false)) else (if 0 ≤ a1 then (if a1 ≤ bt216.2.2.2.2.1 then (if bt216.2.2.2.2.1 ≤ (a0.size : Int) then (if bt216.1.toList = (a0.extract (a1 : Int).toNat (bt216.2.2.2.2.1 : Int).toNat).toList then (some (bt216.1, bt216.2.1, bt216.2.2.1, bt216.2.2.2.2.1, decide ((bt216.1.size : Int) ≤ 200))) else (some (bt216.1, bt216.2.1, bt216.2.2.1, bt216.2.2.2.2.1, false))) else (none)) else (none)) else (none)))) = some (r1, r2, r3, r4, r5) := h
 clear h
 replace H := Option.bind_eq_some_iff.mp H
 obtain ⟨⟨t216, t217, t218, t219, t220, t221, t222⟩, A40, H⟩ := H
 try dsimp only at H
 have A4 := Aside0.mk A40
 clear A40
 by_cases c5 : t222 = true
 ·subst c5
  rw [if_pos rfl] at H
  try dsimp only at H
  simp only [Option.some.injEq, Prod.mk.injEq] at H
  obtain ⟨rfl, rfl, rfl, rfl, rfl⟩ := H
  go_enter Try.func59, Try.ntmps59
  try go_wp2_with (first | ((with_reducible refine gate_dst (N := 6) rfl ?_); (try (refine gate_guard (by rfl) ?_; dsimp only)); refine box_event ?hg (N := 6) ?hd (cs := #[.string (⟨#[]⟩ : ByteArray), .int .i64 0, .bool false]) (t := 97) ?hr ?_; (case hd => rfl); (case hg => rfl); (case hr => first | (go_simp; done) | (go_simp; rfl)); intro gb214 hg w6 hbox hb; have n_ := c4_ (below_step (a1_) hb) (hbox) ((by rw [hg]; exact (below_size (a1_)) : w.heap.size ≤ gb214)) ((by rw [hg]; exact (below_size (a1_)) : w.heap.size ≤ gb214)); clear HB; obtain ⟨HB, BK214, GW214, GE214⟩ := n_; clear hb hbox hg) | ((with_reducible refine gate_dst (N := 14) rfl ?_); (try (refine gate_guard (by rfl) ?_; dsimp only)); refine box_event ?hg (N := 14) ?hd (cs := #[.string a0, .int .i64 a1, .int .i64 0, .bool false]) (t := 123) ?hr ?_; (case hd => rfl); (case hg => rfl); (case hr => first | (go_simp; done) | (go_simp; rfl)); intro gb215 hg w7 hbox hb; have n_ := c7_ (blk_below (g := gb214) (o := .cells #[.string (⟨#[]⟩ : ByteArray), .int .i64 0, .bool false] 97 (0, 0)) (a2_) hb) (below_step (a3_) hb) ((by rw [hg]; exact (below_size (a3_)) : w.heap.size ≤ gb215)) ((by rw [hg]; exact (below_size (a3_)) : w.heap.size ≤ gb215)) ((by rw [hg]; exact Nat.ne_of_lt (blk_lt (g := gb214) (o := .cells #[.string (⟨#[]⟩ : ByteArray), .int .i64 0, .bool false] 97 (0, 0)) (a2_)) : gb214 ≠ gb215)) ((by rw [hg]; exact Nat.ne_of_gt (blk_lt (g := gb214) (o := .cells #[.string (⟨#[]⟩ : ByteArray), .int .i64 0, .bool false] 97 (0, 0)) (a2_)) : gb215 ≠ gb214)) ((show IsS123 w w7 gb215 a0 a1 0 false from ⟨hbox, (by rw [hg]; exact (below_size (a3_)) : w.heap.size ≤ gb215)⟩)); clear BK214 HB; obtain ⟨BK214, HB, GW215, GE215, NB214_215, NB215_214, HI215⟩ := n_; clear hb hbox hg) | ((with_reducible refine gate_callee (f := 82) rfl ?_); refine goesL_ (some 17) rfl rfl Try.func82 (by kernel_rfl) rfl #[.pointer (some ⟨gb215, 0, none⟩), .int .i64 1, .slice A2 l2.length c2] rfl (a4_) ?_; (with_reducible refine (spec_l08Test_read2.calls k gb215 a0 a1 0 false 1 _ _ l2 t216 t217 t218 t219 t220 t221 true w _ ?side1 ?side2 ?side3 ?side4 ?side5 A4.out).mono ?_); (case side1 => exact a5_); (case side2 => exact a6_); (case side3 => exact a7_); (case side4 => exact HC2.out); (case side5 => exact Kd.far_C (⟨#[]⟩ : ByteArray) HR2.out (IsS123.ge HI215.out)); rintro e w8 ⟨rfl, hi, hb, hk⟩; refine ⟨_, rfl, ?_⟩; have n_ := c3_ (KeepBut.blk hk (g' := gb214) (o := .cells #[.string (⟨#[]⟩ : ByteArray), .int .i64 0, .bool false] 97 (0, 0)) (a2_) NB214_215.out (by simp)) (hb) (hi); clear BK214 HB HI215; obtain ⟨BK214, HB, HI215⟩ := n_; (try clear hb); (try clear hb2); (try clear hk); (try clear hi)) | ((with_reducible refine gate_dst (N := 10) rfl ?_); (try (refine gate_guard (by rfl) ?_; dsimp only)); refine box_event ?hg (N := 10) ?hd (cs := #[.string (⟨#[]⟩ : ByteArray), .int .i64 0, .bool false]) (t := 97) ?hr ?_; (case hd => rfl); (case hg => rfl); (case hr => first | (go_simp; done) | (go_simp; rfl)); intro gb223 hg w9 hbox hb; have n_ := c10_ (blk_below (g := gb214) (o := .cells #[.string (⟨#[]⟩ : ByteArray), .int .i64 0, .bool false] 97 (0, 0)) (a2_) hb) (IsS123.below (a5_) hb) (below_step (a6_) hb) (hbox) ((by rw [hg]; exact (below_size (a6_)) : w.heap.size ≤ gb223)) ((by rw [hg]; exact (below_size (a6_)) : w.heap.size ≤ gb223)) ((by rw [hg]; exact Nat.ne_of_lt (blk_lt (g := gb214) (o := .cells #[.string (⟨#[]⟩ : ByteArray), .int .i64 0, .bool false] 97 (0, 0)) (a2_)) : gb214 ≠ gb223)) ((by rw [hg]; exact Nat.ne_of_gt (blk_lt (g := gb214) (o := .cells #[.string (⟨#[]⟩ : ByteArray), .int .i64 0, .bool false] 97 (0, 0)) (a2_)) : gb223 ≠ gb214)) ((by rw [hg]; exact Nat.ne_of_lt (IsS123.lt (show IsS123 w _ gb215 t219 t220 t221 true from a5_)) : gb215 ≠ gb223)) ((by rw [hg]; exact Nat.ne_of_gt (IsS123.lt (show IsS123 w _ gb215 t219 t220 t221 true from a5_)) : gb223 ≠ gb215)); clear BK214 HI215 HB; obtain ⟨BK214, HI215, HB, BK223, GW223, GE223, NB214_223, NB223_214, NB215_223, NB223_215⟩ := n_; clear hb hbox hg; have hnb10 := NB223_214.out; have hnc10 := NB214_223.out; have hnb11 := NB223_215.out; have hnc11 := NB215_223.out; obtain ⟨hcz12_0, hcz12_1, hcz12_2, hfz12_0, hfz12_1, hfz12_2⟩ := cf3_ BK223.out))
  have n_ := c4_ (show (((w9.setCell ⟨gb223, 0, none⟩ (.string t216)).setCell ⟨gb223, 1, none⟩ (.int .i64 t217)).setCell ⟨gb223, 2, none⟩ (.bool t218)).heap[gb214]? = some (.cells #[.string (⟨#[]⟩ : ByteArray), .int .i64 0, .bool false] 97 (0, 0)) from a8_) (show (((w9.setCell ⟨gb223, 0, none⟩ (.string t216)).setCell ⟨gb223, 1, none⟩ (.int .i64 t217)).setCell ⟨gb223, 2, none⟩ (.bool t218)).heap[gb223]? = some (.cells #[.string t216, .int .i64 t217, .bool t218] 97 (0, 0)) from a9_) (show IsS123 w (((w9.setCell ⟨gb223, 0, none⟩ (.string t216)).setCell ⟨gb223, 1, none⟩ (.int .i64 t217)).setCell ⟨gb223, 2, none⟩ (.bool t218)) gb215 t219 t220 t221 true from a10_) (show Below w.heap.size w (((w9.setCell ⟨gb223, 0, none⟩ (.string t216)).setCell ⟨gb223, 1, none⟩ (.int .i64 t217)).setCell ⟨gb223, 2, none⟩ (.bool t218)) from a11_)
  (try clear BK214)
  (try clear BK223)
  (try clear HI215)
  (try clear HB)
  generalize (((w9.setCell ⟨gb223, 0, none⟩ (.string t216)).setCell ⟨gb223, 1, none⟩ (.int .i64 t217)).setCell ⟨gb223, 2, none⟩ (.bool t218)) = w13 at n_ ⊢
  obtain ⟨BK214, BK223, HI215, HB⟩ := n_
  have n_ := c4_ (blk_drew BK214.out) (blk_drew BK223.out) (IsS123.drew HI215.out) (below_drew1 HB.out)
  clear BK214 BK223 HI215 HB
  obtain ⟨BK214, BK223, HI215, HB⟩ := n_
  refine start_ (n := 31) (S := fun w' => w'.cell? ⟨gb223, 0, none⟩ = some (.string t216) ∧ w'.cell? ⟨gb223, 1, none⟩ = some (.int .i64 t217) ∧ w'.cell? ⟨gb223, 2, none⟩ = some (.bool t218) ∧ w'.cell? ⟨gb215, 0, none⟩ = some (.string t219) ∧ w'.cell? ⟨gb215, 1, none⟩ = some (.int .i64 t220) ∧ w'.cell? ⟨gb215, 2, none⟩ = some (.int .i64 t221) ∧ w'.cell? ⟨gb215, 3, none⟩ = some (.bool true)) (ds := []) (bs_ 31 0) (by kernel_rfl) (by kernel_rfl) (by kernel_rfl) ⟨(blk_cell BK223.out 0).trans rfl, (blk_cell BK223.out 1).trans rfl, (blk_cell BK223.out 2).trans rfl, cellS123_0 HI215.out.1, cellS123_1 HI215.out.1, cellS123_2 HI215.out.1, cellS123_3 HI215.out.1⟩ (fun hHeld => ?_); refine with_tabW spec_l08Labels.tab3 spec_l08Labels.bits3 (fun HT_ HW_ => ?_)
  generalize w13.drew = w14 at BK214 BK223 HI215 HB hHeld ⊢
  refine pu_ (i := 1) (N := some 19) 2 rfl rfl HT_ (Or.inl ⟨by rfl, by intro w'; go_simp; with_reducible rfl⟩) (by simp only [pt_]; rfl) ?_
  refine pu_ (i := 2) (N := some 20) 6 rfl rfl HT_ (Or.inl ⟨by rfl, by intro w'; go_simp; with_reducible rfl⟩) (by simp only [pt_]; rfl) ?_
  refine pu_ (i := 3) (N := some 21) 14 rfl rfl HT_ (Or.inl ⟨by rfl, by intro w'; go_simp; with_reducible rfl⟩) (by simp only [pt_]; rfl) ?_
  refine pu_ (i := 5) (N := some 23) 46 rfl rfl HT_ (Or.inl ⟨by rfl, by intro w'; go_simp; with_reducible rfl⟩) (by simp only [pt_]; rfl) ?_
  refine pu_ (i := 6) (N := some 24) 110 rfl rfl HT_ (Or.inl ⟨by rfl, by intro w'; go_simp; with_reducible rfl⟩) (by simp only [pt_]; rfl) ?_
  refine pu_ (i := 7) (N := some 25) 238 rfl rfl HT_ (Or.inl ⟨by rfl, by intro w'; go_simp; with_reducible rfl⟩) (by simp only [pt_]; rfl) ?_
  refine tk_ (i := 0) (N := some 18) 239 rfl rfl HT_ HW_ (Or.inl ⟨by rfl, a12_⟩) hHeld (by simp only [pt_]; rfl) ?_
  refine tk_ (i := 4) (N := some 22) 255 rfl rfl HT_ HW_ (Or.inl ⟨by rfl, a12_⟩) hHeld (by simp only [pt_]; rfl) ?_
  refine tk_ (i := 8) (N := some 26) 511 rfl rfl HT_ HW_ (Or.inl ⟨by rfl, a12_⟩) hHeld (by simp only [pt_]; rfl) ?_
  refine pu_ (i := 9) (N := some 27) 1023 rfl rfl HT_ (Or.inl ⟨by rfl, by intro w'; go_simp; with_reducible rfl⟩) (by simp only [pt_]; rfl) ?_
  refine pu_ (i := 10) (N := some 28) 2047 rfl rfl HT_ (Or.inl ⟨by rfl, by intro w'; go_simp; with_reducible rfl⟩) (by simp only [pt_]; rfl) ?_
  refine pu_ (i := 11) (N := some 29) (v := undef) (a' := ?_) 4095 rfl rfl HT_ (Or.inr ⟨by rfl, rfl⟩) ?_ ?_
  rotate_left
  ·simp only [pt_]
   rfl
  refine pu_ (i := 12) (N := some 30) (v := undef) (a' := ?_) 8191 rfl rfl HT_ (Or.inr ⟨by rfl, rfl⟩) ?_ ?_
  rotate_left
  ·simp only [pt_]
   rfl
  refine pu_ (i := 13) (N := some 31) (v := undef) (a' := ?_) 16383 rfl rfl HT_ (Or.inr ⟨by rfl, rfl⟩) ?_ ?_
  rotate_left
  ·simp only [pt_]
   rfl
  refine pu_ (i := 14) (N := some 32) (v := undef) (a' := ?_) 32767 rfl rfl HT_ (Or.inr ⟨by rfl, rfl⟩) ?_ ?_
  rotate_left
  ·simp only [pt_]
   rfl
  refine pu_ (i := 15) (N := some 33) (v := undef) (a' := ?_) 65535 rfl rfl HT_ (Or.inr ⟨by rfl, rfl⟩) ?_ ?_
  rotate_left
  ·simp only [pt_]
   rfl
  refine pu_ (i := 16) (N := some 34) (v := undef) (a' := ?_) 131071 rfl rfl HT_ (Or.inr ⟨by rfl, rfl⟩) ?_ ?_
  rotate_left
  ·simp only [pt_]
   rfl
  refine pu_ (i := 17) (N := some 35) (v := undef) (a' := ?_) 262143 rfl rfl HT_ (Or.inr ⟨by rfl, rfl⟩) ?_ ?_
  rotate_left
  ·simp only [pt_]
   rfl
  refine pu_ (i := 18) (N := some 36) (v := undef) (a' := ?_) 524287 rfl rfl HT_ (Or.inr ⟨by rfl, rfl⟩) ?_ ?_
  rotate_left
  ·simp only [pt_]
   rfl
  refine pu_ (i := 19) (N := some 37) (v := undef) (a' := ?_) 1048575 rfl rfl HT_ (Or.inr ⟨by rfl, rfl⟩) ?_ ?_
  rotate_left
  ·simp only [pt_]
   rfl
  refine pu_ (i := 20) (N := some 38) (v := undef) (a' := ?_) 2097151 rfl rfl HT_ (Or.inr ⟨by rfl, rfl⟩) ?_ ?_
  rotate_left
  ·simp only [pt_]
   rfl
  refine pu_ (i := 21) (N := some 39) 4194303 rfl rfl HT_ (Or.inl ⟨by rfl, by intro w'; go_simp; with_reducible rfl⟩) (by simp only [pt_]; rfl) ?_
  refine pu_ (i := 22) (N := some 40) 8388607 rfl rfl HT_ (Or.inl ⟨by rfl, by intro w'; go_simp; with_reducible rfl⟩) (by simp only [pt_]; rfl) ?_
  refine pu_ (i := 23) (N := some 41) (v := undef) (a' := ?_) 16777215 rfl rfl HT_ (Or.inr ⟨by rfl, rfl⟩) ?_ ?_
  rotate_left
  ·simp only [pt_]
   rfl
  refine pu_ (i := 24) (N := some 42) (v := undef) (a' := ?_) 33554431 rfl rfl HT_ (Or.inr ⟨by rfl, rfl⟩) ?_ ?_
  rotate_left
  ·simp only [pt_]
   rfl
  refine pu_ (i := 25) (N := some 43) (v := undef) (a' := ?_) 67108863 rfl rfl HT_ (Or.inr ⟨by rfl, rfl⟩) ?_ ?_
  rotate_left
  ·simp only [pt_]
   rfl
  refine pu_ (i := 26) (N := some 44) (v := undef) (a' := ?_) 134217727 rfl rfl HT_ (Or.inr ⟨by rfl, rfl⟩) ?_ ?_
  rotate_left
  ·simp only [pt_]
   rfl
  refine pu_ (i := 27) (N := some 45) 268435455 rfl rfl HT_ (Or.inl ⟨by rfl, by intro w'; go_simp; with_reducible rfl⟩) (by simp only [pt_]; rfl) ?_
  refine one_ (i := 28) (N := none) (bs_ 31 536870911) rfl rfl (one_of HT_.out (by kernel_rfl)) (by decide) (fun K hK => ?_)
  have hs15 : w14.cell? ⟨gb214, 0, none⟩ = some (.string (⟨#[]⟩ : ByteArray)) := (blk_cell BK214.out 0).trans rfl
  have hfs15 := blk_frozen BK214.out 0
  have hns15_1 := NB223_214.out
  have hms15_1 := NB214_223.out
  have hs16 : w14.cell? ⟨gb214, 1, none⟩ = some (.int .i64 0) := (blk_cell BK214.out 1).trans rfl
  have hfs16 := blk_frozen BK214.out 1
  have hns16_1 := NB223_214.out
  have hms16_1 := NB214_223.out
  have hs17 : w14.cell? ⟨gb214, 2, none⟩ = some (.bool false) := (blk_cell BK214.out 2).trans rfl
  have hfs17 := blk_frozen BK214.out 2
  have hns17_1 := NB223_214.out
  have hms17_1 := NB214_223.out
  refine skip_ (w1 := ?_) (by rfl) rfl ?_ ?_
  rotate_left
  ·go_simp
   rfl
  refine hK.out _ _ ⟨((cell_far (p := ⟨gb214, _, none⟩) NB223_214.out _).trans (((cell_far (p := ⟨gb214, _, none⟩) NB223_214.out _).trans (((cell_far (p := ⟨gb214, _, none⟩) NB223_214.out _).trans (hHeld.1)))))), ((cell_far (p := ⟨gb214, _, none⟩) NB223_214.out _).trans (((cell_far (p := ⟨gb214, _, none⟩) NB223_214.out _).trans (((cell_far (p := ⟨gb214, _, none⟩) NB223_214.out _).trans (hHeld.2.1)))))), ((cell_far (p := ⟨gb214, _, none⟩) NB223_214.out _).trans (((cell_far (p := ⟨gb214, _, none⟩) NB223_214.out _).trans (((cell_far (p := ⟨gb214, _, none⟩) NB223_214.out _).trans (hHeld.2.2.1)))))), ((cell_far (p := ⟨gb214, _, none⟩) NB215_214.out _).trans (((cell_far (p := ⟨gb214, _, none⟩) NB215_214.out _).trans (((cell_far (p := ⟨gb214, _, none⟩) NB215_214.out _).trans (hHeld.2.2.2.1)))))), ((cell_far (p := ⟨gb214, _, none⟩) NB215_214.out _).trans (((cell_far (p := ⟨gb214, _, none⟩) NB215_214.out _).trans (((cell_far (p := ⟨gb214, _, none⟩) NB215_214.out _).trans (hHeld.2.2.2.2.1)))))), ((cell_far (p := ⟨gb214, _, none⟩) NB215_214.out _).trans (((cell_far (p := ⟨gb214, _, none⟩) NB215_214.out _).trans (((cell_far (p := ⟨gb214, _, none⟩) NB215_214.out _).trans (hHeld.2.2.2.2.2.1)))))), ((cell_far (p := ⟨gb214, _, none⟩) NB215_214.out _).trans (((cell_far (p := ⟨gb214, _, none⟩) NB215_214.out _).trans (((cell_far (p := ⟨gb214, _, none⟩) NB215_214.out _).trans (hHeld.2.2.2.2.2.2))))))⟩ (fun hHeld => ?_)
  clear hK K
  refine pu_ (i := 29) (N := some 7) 1073741823 rfl rfl HT_ (Or.inl ⟨by rfl, by intro w'; go_simp; with_reducible rfl⟩) (by simp only [pt_]; rfl) ?_
  refine pu_ (i := 30) (N := some 8) 2147483647 rfl rfl HT_ (Or.inl ⟨by rfl, by intro w'; go_simp; with_reducible rfl⟩) (by simp only [pt_]; rfl) ?_
  refine done_ (done_of HT_.out (by kernel_rfl)) ?_
  try go_wp2
  refine bodyPost_ret (results_ctt rfl _ _ gb214 97 #[.string t216, .int .i64 t217, .bool t218] (0, 0) _ rfl (a13_) Try.underlying97 rfl (by kernel_rfl)) rfl ?_
  exact ⟨by first | rfl | (simp [errW_none, errW_some] <;> rfl) | (simp [*, errW_none, errW_some] <;> rfl), a11_⟩
 ·replace c5 := Bool.eq_false_iff.mpr c5
  subst c5
  rw [if_neg (show ¬ (false = true) by decide)] at H
  try dsimp only at H
  by_cases c18 : 0 ≤ a1
  ·rw [if_pos c18] at H
   have c18b0 := eq_true c18
   have c18b1 : decide (0 ≤ a1) = true := decide_eq_true c18
   clear c18
   by_cases c19 : a1 ≤ t220
   ·rw [if_pos c19] at H
    have c19b0 := eq_true c19
    have c19b1 : decide (a1 ≤ t220) = true := decide_eq_true c19
    clear c19
    by_cases c20 : t220 ≤ (a0.size : Int)
    ·rw [if_pos c20] at H
     have c20b0 := eq_true c20
     have c20b1 : decide (t220 ≤ (a0.size : Int)) = true := decide_eq_true c20
     clear c20
     by_cases c21 : t216.toList = (a0.extract (a1 : Int).toNat (t220 : Int).toNat).toList
     ·rw [if_pos c21] at H
      have c21b0 : (t216.toList == (a0.extract (a1 : Int).toNat (t220 : Int).toNat).toList) = true := beq_iff_eq.mpr c21
      have c21b1 : (t216.toList != (a0.extract (a1 : Int).toNat (t220 : Int).toNat).toList) = false := bne_eq_false_iff_eq.mpr c21
      clear c21
      simp only [Option.some.injEq, Prod.mk.injEq] at H
      obtain ⟨rfl, rfl, rfl, rfl, rfl⟩ := H
      go_enter Try.func59, Try.ntmps59
      try go_wp2_with (first | ((with_reducible refine gate_dst (N := 6) rfl ?_); (try (refine gate_guard (by rfl) ?_; dsimp only)); refine box_event ?hg (N := 6) ?hd (cs := #[.string (⟨#[]⟩ : ByteArray), .int .i64 0, .bool false]) (t := 97) ?hr ?_; (case hd => rfl); (case hg => rfl); (case hr => first | (go_simp; done) | (go_simp; rfl)); intro gb214 hg w22 hbox hb; have n_ := c4_ (below_step (a1_) hb) (hbox) ((by rw [hg]; exact (below_size (a1_)) : w.heap.size ≤ gb214)) ((by rw [hg]; exact (below_size (a1_)) : w.heap.size ≤ gb214)); clear HB; obtain ⟨HB, BK214, GW214, GE214⟩ := n_; clear hb hbox hg) | ((with_reducible refine gate_dst (N := 14) rfl ?_); (try (refine gate_guard (by rfl) ?_; dsimp only)); refine box_event ?hg (N := 14) ?hd (cs := #[.string a0, .int .i64 a1, .int .i64 0, .bool false]) (t := 123) ?hr ?_; (case hd => rfl); (case hg => rfl); (case hr => first | (go_simp; done) | (go_simp; rfl)); intro gb215 hg w23 hbox hb; have n_ := c7_ (blk_below (g := gb214) (o := .cells #[.string (⟨#[]⟩ : ByteArray), .int .i64 0, .bool false] 97 (0, 0)) (a2_) hb) (below_step (a3_) hb) ((by rw [hg]; exact (below_size (a3_)) : w.heap.size ≤ gb215)) ((by rw [hg]; exact (below_size (a3_)) : w.heap.size ≤ gb215)) ((by rw [hg]; exact Nat.ne_of_lt (blk_lt (g := gb214) (o := .cells #[.string (⟨#[]⟩ : ByteArray), .int .i64 0, .bool false] 97 (0, 0)) (a2_)) : gb214 ≠ gb215)) ((by rw [hg]; exact Nat.ne_of_gt (blk_lt (g := gb214) (o := .cells #[.string (⟨#[]⟩ : ByteArray), .int .i64 0, .bool false] 97 (0, 0)) (a2_)) : gb215 ≠ gb214)) ((show IsS123 w w23 gb215 a0 a1 0 false from ⟨hbox, (by rw [hg]; exact (below_size (a3_)) : w.heap.size ≤ gb215)⟩)); clear BK214 HB; obtain ⟨BK214, HB, GW215, GE215, NB214_215, NB215_214, HI215⟩ := n_; clear hb hbox hg) | ((with_reducible refine gate_callee (f := 82) rfl ?_); refine goesL_ (some 17) rfl rfl Try.func82 (by kernel_rfl) rfl #[.pointer (some ⟨gb215, 0, none⟩), .int .i64 1, .slice A2 l2.length c2] rfl (a4_) ?_; (with_reducible refine (spec_l08Test_read2.calls k gb215 a0 a1 0 false 1 _ _ l2 t216 t217 t218 t219 t220 t221 false w _ ?side1 ?side2 ?side3 ?side4 ?side5 A4.out).mono ?_); (case side1 => exact a5_); (case side2 => exact a6_); (case side3 => exact a7_); (case side4 => exact HC2.out); (case side5 => exact Kd.far_C (⟨#[]⟩ : ByteArray) HR2.out (IsS123.ge HI215.out)); rintro e w24 ⟨rfl, hi, hb, hk⟩; refine ⟨_, rfl, ?_⟩; have n_ := c3_ (KeepBut.blk hk (g' := gb214) (o := .cells #[.string (⟨#[]⟩ : ByteArray), .int .i64 0, .bool false] 97 (0, 0)) (a2_) NB214_215.out (by simp)) (hb) (hi); clear BK214 HB HI215; obtain ⟨BK214, HB, HI215⟩ := n_; (try clear hb); (try clear hb2); (try clear hk); (try clear hi)) | ((with_reducible refine gate_dst (N := 10) rfl ?_); (try (refine gate_guard (by rfl) ?_; dsimp only)); refine box_event ?hg (N := 10) ?hd (cs := #[.string (⟨#[]⟩ : ByteArray), .int .i64 0, .bool false]) (t := 97) ?hr ?_; (case hd => rfl); (case hg => rfl); (case hr => first | (go_simp; done) | (go_simp; rfl)); intro gb223 hg w25 hbox hb; have n_ := c10_ (blk_below (g := gb214) (o := .cells #[.string (⟨#[]⟩ : ByteArray), .int .i64 0, .bool false] 97 (0, 0)) (a2_) hb) (IsS123.below (a5_) hb) (below_step (a6_) hb) (hbox) ((by rw [hg]; exact (below_size (a6_)) : w.heap.size ≤ gb223)) ((by rw [hg]; exact (below_size (a6_)) : w.heap.size ≤ gb223)) ((by rw [hg]; exact Nat.ne_of_lt (blk_lt (g := gb214) (o := .cells #[.string (⟨#[]⟩ : ByteArray), .int .i64 0, .bool false] 97 (0, 0)) (a2_)) : gb214 ≠ gb223)) ((by rw [hg]; exact Nat.ne_of_gt (blk_lt (g := gb214) (o := .cells #[.string (⟨#[]⟩ : ByteArray), .int .i64 0, .bool false] 97 (0, 0)) (a2_)) : gb223 ≠ gb214)) ((by rw [hg]; exact Nat.ne_of_lt (IsS123.lt (show IsS123 w _ gb215 t219 t220 t221 false from a5_)) : gb215 ≠ gb223)) ((by rw [hg]; exact Nat.ne_of_gt (IsS123.lt (show IsS123 w _ gb215 t219 t220 t221 false from a5_)) : gb223 ≠ gb215)); clear BK214 HI215 HB; obtain ⟨BK214, HI215, HB, BK223, GW223, GE223, NB214_223, NB223_214, NB215_223, NB223_215⟩ := n_; clear hb hbox hg; have hnb26 := NB223_214.out; have hnc26 := NB214_223.out; have hnb27 := NB223_215.out; have hnc27 := NB215_223.out; obtain ⟨hcz28_0, hcz28_1, hcz28_2, hfz28_0, hfz28_1, hfz28_2⟩ := cf3_ BK223.out))
      have n_ := c4_ (show (((w25.setCell ⟨gb223, 0, none⟩ (.string t216)).setCell ⟨gb223, 1, none⟩ (.int .i64 t217)).setCell ⟨gb223, 2, none⟩ (.bool t218)).heap[gb214]? = some (.cells #[.string (⟨#[]⟩ : ByteArray), .int .i64 0, .bool false] 97 (0, 0)) from a8_) (show (((w25.setCell ⟨gb223, 0, none⟩ (.string t216)).setCell ⟨gb223, 1, none⟩ (.int .i64 t217)).setCell ⟨gb223, 2, none⟩ (.bool t218)).heap[gb223]? = some (.cells #[.string t216, .int .i64 t217, .bool t218] 97 (0, 0)) from a9_) (show IsS123 w (((w25.setCell ⟨gb223, 0, none⟩ (.string t216)).setCell ⟨gb223, 1, none⟩ (.int .i64 t217)).setCell ⟨gb223, 2, none⟩ (.bool t218)) gb215 t219 t220 t221 false from a10_) (show Below w.heap.size w (((w25.setCell ⟨gb223, 0, none⟩ (.string t216)).setCell ⟨gb223, 1, none⟩ (.int .i64 t217)).setCell ⟨gb223, 2, none⟩ (.bool t218)) from a11_)
      (try clear BK214)
      (try clear BK223)
      (try clear HI215)
      (try clear HB)
      generalize (((w25.setCell ⟨gb223, 0, none⟩ (.string t216)).setCell ⟨gb223, 1, none⟩ (.int .i64 t217)).setCell ⟨gb223, 2, none⟩ (.bool t218)) = w29 at n_ ⊢
      obtain ⟨BK214, BK223, HI215, HB⟩ := n_
      have n_ := c4_ (blk_drew BK214.out) (blk_drew BK223.out) (IsS123.drew HI215.out) (below_drew1 HB.out)
      clear BK214 BK223 HI215 HB
      obtain ⟨BK214, BK223, HI215, HB⟩ := n_
      refine start_ (n := 31) (S := fun w' => w'.cell? ⟨gb223, 0, none⟩ = some (.string t216) ∧ w'.cell? ⟨gb223, 1, none⟩ = some (.int .i64 t217) ∧ w'.cell? ⟨gb223, 2, none⟩ = some (.bool t218) ∧ w'.cell? ⟨gb215, 0, none⟩ = some (.string t219) ∧ w'.cell? ⟨gb215, 1, none⟩ = some (.int .i64 t220) ∧ w'.cell? ⟨gb215, 2, none⟩ = some (.int .i64 t221) ∧ w'.cell? ⟨gb215, 3, none⟩ = some (.bool false)) (ds := []) (bs_ 31 0) (by kernel_rfl) (by kernel_rfl) (by kernel_rfl) ⟨(blk_cell BK223.out 0).trans rfl, (blk_cell BK223.out 1).trans rfl, (blk_cell BK223.out 2).trans rfl, cellS123_0 HI215.out.1, cellS123_1 HI215.out.1, cellS123_2 HI215.out.1, cellS123_3 HI215.out.1⟩ (fun hHeld => ?_); refine with_tabW spec_l08Labels.tab3 spec_l08Labels.bits3 (fun HT_ HW_ => ?_)
      generalize w29.drew = w30 at BK214 BK223 HI215 HB hHeld ⊢
      refine pu_ (i := 1) (N := some 19) 2 rfl rfl HT_ (Or.inl ⟨by rfl, by intro w'; go_simp; with_reducible rfl⟩) (by simp only [pt_]; rfl) ?_
      refine pu_ (i := 2) (N := some 20) 6 rfl rfl HT_ (Or.inl ⟨by rfl, by intro w'; go_simp; with_reducible rfl⟩) (by simp only [pt_]; rfl) ?_
      refine pu_ (i := 3) (N := some 21) 14 rfl rfl HT_ (Or.inl ⟨by rfl, by intro w'; go_simp; with_reducible rfl⟩) (by simp only [pt_]; rfl) ?_
      refine pu_ (i := 5) (N := some 23) 46 rfl rfl HT_ (Or.inl ⟨by rfl, by intro w'; go_simp; with_reducible rfl⟩) (by simp only [pt_]; rfl) ?_
      refine pu_ (i := 6) (N := some 24) 110 rfl rfl HT_ (Or.inl ⟨by rfl, by intro w'; go_simp; with_reducible rfl⟩) (by simp only [pt_]; rfl) ?_
      refine pu_ (i := 7) (N := some 25) 238 rfl rfl HT_ (Or.inl ⟨by rfl, by intro w'; go_simp; with_reducible rfl⟩) (by simp only [pt_]; rfl) ?_
      refine tk_ (i := 0) (N := some 18) 239 rfl rfl HT_ HW_ (Or.inl ⟨by rfl, a12_⟩) hHeld (by simp only [pt_]; rfl) ?_
      refine tk_ (i := 4) (N := some 22) 255 rfl rfl HT_ HW_ (Or.inl ⟨by rfl, a12_⟩) hHeld (by simp only [pt_]; rfl) ?_
      refine tk_ (i := 8) (N := some 26) 511 rfl rfl HT_ HW_ (Or.inl ⟨by rfl, a12_⟩) hHeld (by simp only [pt_]; rfl) ?_
      refine pu_ (i := 9) (N := some 27) 1023 rfl rfl HT_ (Or.inl ⟨by rfl, by intro w'; go_simp; with_reducible rfl⟩) (by simp only [pt_]; rfl) ?_
      refine pu_ (i := 10) (N := some 28) 2047 rfl rfl HT_ (Or.inl ⟨by rfl, by intro w'; go_simp; with_reducible rfl⟩) (by simp only [pt_]; rfl) ?_
      refine pu_ (i := 11) (N := some 29) 4095 rfl rfl HT_ (Or.inl ⟨by rfl, by intro w'; go_simp; with_reducible rfl⟩) (by simp only [pt_]; rfl) ?_
      refine pu_ (i := 13) (N := some 31) 12287 rfl rfl HT_ (Or.inl ⟨by rfl, by intro w'; go_simp; with_reducible rfl⟩) (by simp only [pt_]; rfl) ?_
      refine pu_ (i := 14) (N := some 32) 28671 rfl rfl HT_ (Or.inl ⟨by rfl, by intro w'; go_simp; with_reducible rfl⟩) (by simp only [pt_]; rfl) ?_
      refine pu_ (i := 15) (N := some 33) 61439 rfl rfl HT_ (Or.inl ⟨by rfl, by intro w'; go_simp; with_reducible rfl⟩) (by simp only [pt_]; rfl) ?_
      refine pu_ (i := 16) (N := some 34) 126975 rfl rfl HT_ (Or.inl ⟨by rfl, by intro w'; go_simp; with_reducible rfl⟩) (by simp only [pt_]; rfl) ?_
      refine pu_ (i := 17) (N := some 35) 258047 rfl rfl HT_ (Or.inl ⟨by rfl, by intro w'; go_simp; with_reducible rfl⟩) (by simp only [pt_]; rfl) ?_
      refine tk_ (i := 12) (N := some 30) 262143 rfl rfl HT_ HW_ (Or.inl ⟨by rfl, a12_⟩) hHeld (by simp only [pt_]; rfl) ?_
      refine tk_ (i := 18) (N := some 36) 524287 rfl rfl HT_ HW_ (Or.inl ⟨by rfl, a12_⟩) hHeld (by simp only [pt_]; rfl) ?_
      refine pu_ (i := 19) (N := some 37) 1048575 rfl rfl HT_ (Or.inl ⟨by rfl, by intro w'; go_simp; with_reducible rfl⟩) (by simp only [pt_]; rfl) ?_
      refine pu_ (i := 20) (N := some 38) 2097151 rfl rfl HT_ (Or.inl ⟨by rfl, by intro w'; go_simp; with_reducible rfl⟩) (by simp only [pt_]; rfl) ?_
      refine pu_ (i := 21) (N := some 39) 4194303 rfl rfl HT_ (Or.inl ⟨by rfl, by intro w'; go_simp; with_reducible rfl⟩) (by simp only [pt_]; rfl) ?_
      refine pu_ (i := 22) (N := some 40) 8388607 rfl rfl HT_ (Or.inl ⟨by rfl, by intro w'; go_simp; with_reducible rfl⟩) (by simp only [pt_]; rfl) ?_
      refine pu_ (i := 23) (N := some 41) 16777215 rfl rfl HT_ (Or.inl ⟨by rfl, by intro w'; go_simp; with_reducible rfl⟩) (by simp only [pt_]; rfl) ?_
      refine tk_ (i := 24) (N := some 42) 33554431 rfl rfl HT_ HW_ (Or.inl ⟨by rfl, a12_⟩) hHeld (by simp only [pt_]; rfl) ?_
      refine pu_ (i := 25) (N := some 43) 67108863 rfl rfl HT_ (Or.inl ⟨by rfl, by intro w'; go_simp; with_reducible rfl⟩) (by simp only [pt_]; rfl) ?_
      refine pu_ (i := 26) (N := some 44) 134217727 rfl rfl HT_ (Or.inl ⟨by rfl, by intro w'; go_simp; with_reducible rfl⟩) (by simp only [pt_]; rfl) ?_
      refine pu_ (i := 27) (N := some 45) 268435455 rfl rfl HT_ (Or.inl ⟨by rfl, by intro w'; go_simp; with_reducible rfl⟩) (by simp only [pt_]; rfl) ?_
      refine one_ (i := 28) (N := none) (bs_ 31 536870911) rfl rfl (one_of HT_.out (by kernel_rfl)) (by decide) (fun K hK => ?_)
      have hs31 : w30.cell? ⟨gb214, 0, none⟩ = some (.string (⟨#[]⟩ : ByteArray)) := (blk_cell BK214.out 0).trans rfl
      have hfs31 := blk_frozen BK214.out 0
      have hns31_1 := NB223_214.out
      have hms31_1 := NB214_223.out
      have hs32 : w30.cell? ⟨gb214, 1, none⟩ = some (.int .i64 0) := (blk_cell BK214.out 1).trans rfl
      have hfs32 := blk_frozen BK214.out 1
      have hns32_1 := NB223_214.out
      have hms32_1 := NB214_223.out
      have hs33 : w30.cell? ⟨gb214, 2, none⟩ = some (.bool false) := (blk_cell BK214.out 2).trans rfl
      have hfs33 := blk_frozen BK214.out 2
      have hns33_1 := NB223_214.out
      have hms33_1 := NB214_223.out
      refine skip_ (w1 := ?_) (by rfl) rfl ?_ ?_
      rotate_left
      ·go_simp
       rfl
      refine hK.out _ _ ⟨((cell_far (p := ⟨gb214, _, none⟩) NB223_214.out _).trans (((cell_far (p := ⟨gb214, _, none⟩) NB223_214.out _).trans (((cell_far (p := ⟨gb214, _, none⟩) NB223_214.out _).trans (hHeld.1)))))), ((cell_far (p := ⟨gb214, _, none⟩) NB223_214.out _).trans (((cell_far (p := ⟨gb214, _, none⟩) NB223_214.out _).trans (((cell_far (p := ⟨gb214, _, none⟩) NB223_214.out _).trans (hHeld.2.1)))))), ((cell_far (p := ⟨gb214, _, none⟩) NB223_214.out _).trans (((cell_far (p := ⟨gb214, _, none⟩) NB223_214.out _).trans (((cell_far (p := ⟨gb214, _, none⟩) NB223_214.out _).trans (hHeld.2.2.1)))))), ((cell_far (p := ⟨gb214, _, none⟩) NB215_214.out _).trans (((cell_far (p := ⟨gb214, _, none⟩) NB215_214.out _).trans (((cell_far (p := ⟨gb214, _, none⟩) NB215_214.out _).trans (hHeld.2.2.2.1)))))), ((cell_far (p := ⟨gb214, _, none⟩) NB215_214.out _).trans (((cell_far (p := ⟨gb214, _, none⟩) NB215_214.out _).trans (((cell_far (p := ⟨gb214, _, none⟩) NB215_214.out _).trans (hHeld.2.2.2.2.1)))))), ((cell_far (p := ⟨gb214, _, none⟩) NB215_214.out _).trans (((cell_far (p := ⟨gb214, _, none⟩) NB215_214.out _).trans (((cell_far (p := ⟨gb214, _, none⟩) NB215_214.out _).trans (hHeld.2.2.2.2.2.1)))))), ((cell_far (p := ⟨gb214, _, none⟩) NB215_214.out _).trans (((cell_far (p := ⟨gb214, _, none⟩) NB215_214.out _).trans (((cell_far (p := ⟨gb214, _, none⟩) NB215_214.out _).trans (hHeld.2.2.2.2.2.2))))))⟩ (fun hHeld => ?_)
      clear hK K
      refine pu_ (i := 29) (N := some 7) 1073741823 rfl rfl HT_ (Or.inl ⟨by rfl, by intro w'; go_simp; with_reducible rfl⟩) (by simp only [pt_]; rfl) ?_
      refine pu_ (i := 30) (N := some 8) 2147483647 rfl rfl HT_ (Or.inl ⟨by rfl, by intro w'; go_simp; with_reducible rfl⟩) (by simp only [pt_]; rfl) ?_
      refine done_ (done_of HT_.out (by kernel_rfl)) ?_
      try go_wp2
      refine bodyPost_ret (results_ctt rfl _ _ gb214 97 #[.string t216, .int .i64 t217, .bool t218] (0, 0) _ rfl (a13_) Try.underlying97 rfl (by kernel_rfl)) rfl ?_
      exact ⟨by first | rfl | (simp [errW_none, errW_some] <;> rfl) | (simp [*, errW_none, errW_some] <;> rfl), a11_⟩
     ·rw [if_neg c21] at H
      have c21b0 : (t216.toList == (a0.extract (a1 : Int).toNat (t220 : Int).toNat).toList) = false := beq_eq_false_iff_ne.mpr c21
      have c21b1 : (t216.toList != (a0.extract (a1 : Int).toNat (t220 : Int).toNat).toList) = true := bne_iff_ne.mpr c21
      simp only [Option.some.injEq, Prod.mk.injEq] at H
      obtain ⟨rfl, rfl, rfl, rfl, rfl⟩ := H
      go_enter Try.func59, Try.ntmps59
      try go_wp2_with (first | ((with_reducible refine gate_dst (N := 6) rfl ?_); (try (refine gate_guard (by rfl) ?_; dsimp only)); refine box_event ?hg (N := 6) ?hd (cs := #[.string (⟨#[]⟩ : ByteArray), .int .i64 0, .bool false]) (t := 97) ?hr ?_; (case hd => rfl); (case hg => rfl); (case hr => first | (go_simp; done) | (go_simp; rfl)); intro gb214 hg w34 hbox hb; have n_ := c4_ (below_step (a1_) hb) (hbox) ((by rw [hg]; exact (below_size (a1_)) : w.heap.size ≤ gb214)) ((by rw [hg]; exact (below_size (a1_)) : w.heap.size ≤ gb214)); clear HB; obtain ⟨HB, BK214, GW214, GE214⟩ := n_; clear hb hbox hg) | ((with_reducible refine gate_dst (N := 14) rfl ?_); (try (refine gate_guard (by rfl) ?_; dsimp only)); refine box_event ?hg (N := 14) ?hd (cs := #[.string a0, .int .i64 a1, .int .i64 0, .bool false]) (t := 123) ?hr ?_; (case hd => rfl); (case hg => rfl); (case hr => first | (go_simp; done) | (go_simp; rfl)); intro gb215 hg w35 hbox hb; have n_ := c7_ (blk_below (g := gb214) (o := .cells #[.string (⟨#[]⟩ : ByteArray), .int .i64 0, .bool false] 97 (0, 0)) (a2_) hb) (below_step (a3_) hb) ((by rw [hg]; exact (below_size (a3_)) : w.heap.size ≤ gb215)) ((by rw [hg]; exact (below_size (a3_)) : w.heap.size ≤ gb215)) ((by rw [hg]; exact Nat.ne_of_lt (blk_lt (g := gb214) (o := .cells #[.string (⟨#[]⟩ : ByteArray), .int .i64 0, .bool false] 97 (0, 0)) (a2_)) : gb214 ≠ gb215)) ((by rw [hg]; exact Nat.ne_of_gt (blk_lt (g := gb214) (o := .cells #[.string (⟨#[]⟩ : ByteArray), .int .i64 0, .bool false] 97 (0, 0)) (a2_)) : gb215 ≠ gb214)) ((show IsS123 w w35 gb215 a0 a1 0 false from ⟨hbox, (by rw [hg]; exact (below_size (a3_)) : w.heap.size ≤ gb215)⟩)); clear BK214 HB; obtain ⟨BK214, HB, GW215, GE215, NB214_215, NB215_214, HI215⟩ := n_; clear hb hbox hg) | ((with_reducible refine gate_callee (f := 82) rfl ?_); refine goesL_ (some 17) rfl rfl Try.func82 (by kernel_rfl) rfl #[.pointer (some ⟨gb215, 0, none⟩), .int .i64 1, .slice A2 l2.length c2] rfl (a4_) ?_; (with_reducible refine (spec_l08Test_read2.calls k gb215 a0 a1 0 false 1 _ _ l2 t216 t217 t218 t219 t220 t221 false w _ ?side1 ?side2 ?side3 ?side4 ?side5 A4.out).mono ?_); (case side1 => exact a5_); (case side2 => exact a6_); (case side3 => exact a7_); (case side4 => exact HC2.out); (case side5 => exact Kd.far_C (⟨#[]⟩ : ByteArray) HR2.out (IsS123.ge HI215.out)); rintro e w36 ⟨rfl, hi, hb, hk⟩; refine ⟨_, rfl, ?_⟩; have n_ := c3_ (KeepBut.blk hk (g' := gb214) (o := .cells #[.string (⟨#[]⟩ : ByteArray), .int .i64 0, .bool false] 97 (0, 0)) (a2_) NB214_215.out (by simp)) (hb) (hi); clear BK214 HB HI215; obtain ⟨BK214, HB, HI215⟩ := n_; (try clear hb); (try clear hb2); (try clear hk); (try clear hi)) | ((with_reducible refine gate_dst (N := 10) rfl ?_); (try (refine gate_guard (by rfl) ?_; dsimp only)); refine box_event ?hg (N := 10) ?hd (cs := #[.string (⟨#[]⟩ : ByteArray), .int .i64 0, .bool false]) (t := 97) ?hr ?_; (case hd => rfl); (case hg => rfl); (case hr => first | (go_simp; done) | (go_simp; rfl)); intro gb223 hg w37 hbox hb; have n_ := c10_ (blk_below (g := gb214) (o := .cells #[.string (⟨#[]⟩ : ByteArray), .int .i64 0, .bool false] 97 (0, 0)) (a2_) hb) (IsS123.below (a5_) hb) (below_step (a6_) hb) (hbox) ((by rw [hg]; exact (below_size (a6_)) : w.heap.size ≤ gb223)) ((by rw [hg]; exact (below_size (a6_)) : w.heap.size ≤ gb223)) ((by rw [hg]; exact Nat.ne_of_lt (blk_lt (g := gb214) (o := .cells #[.string (⟨#[]⟩ : ByteArray), .int .i64 0, .bool false] 97 (0, 0)) (a2_)) : gb214 ≠ gb223)) ((by rw [hg]; exact Nat.ne_of_gt (blk_lt (g := gb214) (o := .cells #[.string (⟨#[]⟩ : ByteArray), .int .i64 0, .bool false] 97 (0, 0)) (a2_)) : gb223 ≠ gb214)) ((by rw [hg]; exact Nat.ne_of_lt (IsS123.lt (show IsS123 w _ gb215 t219 t220 t221 false from a5_)) : gb215 ≠ gb223)) ((by rw [hg]; exact Nat.ne_of_gt (IsS123.lt (show IsS123 w _ gb215 t219 t220 t221 false from a5_)) : gb223 ≠ gb215)); clear BK214 HI215 HB; obtain ⟨BK214, HI215, HB, BK223, GW223, GE223, NB214_223, NB223_214, NB215_223, NB223_215⟩ := n_; clear hb hbox hg; have hnb38 := NB223_214.out; have hnc38 := NB214_223.out; have hnb39 := NB223_215.out; have hnc39 := NB215_223.out; obtain ⟨hcz40_0, hcz40_1, hcz40_2, hfz40_0, hfz40_1, hfz40_2⟩ := cf3_ BK223.out))
      have n_ := c4_ (show (((w37.setCell ⟨gb223, 0, none⟩ (.string t216)).setCell ⟨gb223, 1, none⟩ (.int .i64 t217)).setCell ⟨gb223, 2, none⟩ (.bool t218)).heap[gb214]? = some (.cells #[.string (⟨#[]⟩ : ByteArray), .int .i64 0, .bool false] 97 (0, 0)) from a8_) (show (((w37.setCell ⟨gb223, 0, none⟩ (.string t216)).setCell ⟨gb223, 1, none⟩ (.int .i64 t217)).setCell ⟨gb223, 2, none⟩ (.bool t218)).heap[gb223]? = some (.cells #[.string t216, .int .i64 t217, .bool t218] 97 (0, 0)) from a9_) (show IsS123 w (((w37.setCell ⟨gb223, 0, none⟩ (.string t216)).setCell ⟨gb223, 1, none⟩ (.int .i64 t217)).setCell ⟨gb223, 2, none⟩ (.bool t218)) gb215 t219 t220 t221 false from a10_) (show Below w.heap.size w (((w37.setCell ⟨gb223, 0, none⟩ (.string t216)).setCell ⟨gb223, 1, none⟩ (.int .i64 t217)).setCell ⟨gb223, 2, none⟩ (.bool t218)) from a11_)
      (try clear BK214)
      (try clear BK223)
      (try clear HI215)
      (try clear HB)
      generalize (((w37.setCell ⟨gb223, 0, none⟩ (.string t216)).setCell ⟨gb223, 1, none⟩ (.int .i64 t217)).setCell ⟨gb223, 2, none⟩ (.bool t218)) = w41 at n_ ⊢
      obtain ⟨BK214, BK223, HI215, HB⟩ := n_
      have n_ := c4_ (blk_drew BK214.out) (blk_drew BK223.out) (IsS123.drew HI215.out) (below_drew1 HB.out)
      clear BK214 BK223 HI215 HB
      obtain ⟨BK214, BK223, HI215, HB⟩ := n_
      refine start_ (n := 31) (S := fun w' => w'.cell? ⟨gb223, 0, none⟩ = some (.string t216) ∧ w'.cell? ⟨gb223, 1, none⟩ = some (.int .i64 t217) ∧ w'.cell? ⟨gb223, 2, none⟩ = some (.bool t218) ∧ w'.cell? ⟨gb215, 0, none⟩ = some (.string t219) ∧ w'.cell? ⟨gb215, 1, none⟩ = some (.int .i64 t220) ∧ w'.cell? ⟨gb215, 2, none⟩ = some (.int .i64 t221) ∧ w'.cell? ⟨gb215, 3, none⟩ = some (.bool false)) (ds := []) (bs_ 31 0) (by kernel_rfl) (by kernel_rfl) (by kernel_rfl) ⟨(blk_cell BK223.out 0).trans rfl, (blk_cell BK223.out 1).trans rfl, (blk_cell BK223.out 2).trans rfl, cellS123_0 HI215.out.1, cellS123_1 HI215.out.1, cellS123_2 HI215.out.1, cellS123_3 HI215.out.1⟩ (fun hHeld => ?_); refine with_tabW spec_l08Labels.tab3 spec_l08Labels.bits3 (fun HT_ HW_ => ?_)
      generalize w41.drew = w42 at BK214 BK223 HI215 HB hHeld ⊢
      refine pu_ (i := 1) (N := some 19) 2 rfl rfl HT_ (Or.inl ⟨by rfl, by intro w'; go_simp; with_reducible rfl⟩) (by simp only [pt_]; rfl) ?_
      refine pu_ (i := 2) (N := some 20) 6 rfl rfl HT_ (Or.inl ⟨by rfl, by intro w'; go_simp; with_reducible rfl⟩) (by simp only [pt_]; rfl) ?_
      refine pu_ (i := 3) (N := some 21) 14 rfl rfl HT_ (Or.inl ⟨by rfl, by intro w'; go_simp; with_reducible rfl⟩) (by simp only [pt_]; rfl) ?_
      refine pu_ (i := 5) (N := some 23) 46 rfl rfl HT_ (Or.inl ⟨by rfl, by intro w'; go_simp; with_reducible rfl⟩) (by simp only [pt_]; rfl) ?_
      refine pu_ (i := 6) (N := some 24) 110 rfl rfl HT_ (Or.inl ⟨by rfl, by intro w'; go_simp; with_reducible rfl⟩) (by simp only [pt_]; rfl) ?_
      refine pu_ (i := 7) (N := some 25) 238 rfl rfl HT_ (Or.inl ⟨by rfl, by intro w'; go_simp; with_reducible rfl⟩) (by simp only [pt_]; rfl) ?_
      refine tk_ (i := 0) (N := some 18) 239 rfl rfl HT_ HW_ (Or.inl ⟨by rfl, a12_⟩) hHeld (by simp only [pt_]; rfl) ?_
      refine tk_ (i := 4) (N := some 22) 255 rfl rfl HT_ HW_ (Or.inl ⟨by rfl, a12_⟩) hHeld (by simp only [pt_]; rfl) ?_
      refine tk_ (i := 8) (N := some 26) 511 rfl rfl HT_ HW_ (Or.inl ⟨by rfl, a12_⟩) hHeld (by simp only [pt_]; rfl) ?_
      refine pu_ (i := 9) (N := some 27) 1023 rfl rfl HT_ (Or.inl ⟨by rfl, by intro w'; go_simp; with_reducible rfl⟩) (by simp only [pt_]; rfl) ?_
      refine pu_ (i := 10) (N := some 28) 2047 rfl rfl HT_ (Or.inl ⟨by rfl, by intro w'; go_simp; with_reducible rfl⟩) (by simp only [pt_]; rfl) ?_
      refine pu_ (i := 11) (N := some 29) 4095 rfl rfl HT_ (Or.inl ⟨by rfl, by intro w'; go_simp; with_reducible rfl⟩) (by simp only [pt_]; rfl) ?_
      refine pu_ (i := 13) (N := some 31) 12287 rfl rfl HT_ (Or.inl ⟨by rfl, by intro w'; go_simp; with_reducible rfl⟩) (by simp only [pt_]; rfl) ?_
      refine pu_ (i := 14) (N := some 32) 28671 rfl rfl HT_ (Or.inl ⟨by rfl, by intro w'; go_simp; with_reducible rfl⟩) (by simp only [pt_]; rfl) ?_
      refine pu_ (i := 15) (N := some 33) 61439 rfl rfl HT_ (Or.inl ⟨by rfl, by intro w'; go_simp; with_reducible rfl⟩) (by simp only [pt_]; rfl) ?_
      refine pu_ (i := 16) (N := some 34) 126975 rfl rfl HT_ (Or.inl ⟨by rfl, by intro w'; go_simp; with_reducible rfl⟩) (by simp only [pt_]; rfl) ?_
      refine pu_ (i := 17) (N := some 35) 258047 rfl rfl HT_ (Or.inl ⟨by rfl, by intro w'; go_simp; with_reducible rfl⟩) (by simp only [pt_]; rfl) ?_
      refine tk_ (i := 12) (N := some 30) 262143 rfl rfl HT_ HW_ (Or.inl ⟨by rfl, a12_⟩) hHeld (by simp only [pt_]; rfl) ?_
      refine tk_ (i := 18) (N := some 36) 524287 rfl rfl HT_ HW_ (Or.inl ⟨by rfl, a12_⟩) hHeld (by simp only [pt_]; rfl) ?_
      refine pu_ (i := 19) (N := some 37) 1048575 rfl rfl HT_ (Or.inl ⟨by rfl, by intro w'; go_simp; with_reducible rfl⟩) (by simp only [pt_]; rfl) ?_
      refine pu_ (i := 20) (N := some 38) 2097151 rfl rfl HT_ (Or.inl ⟨by rfl, by intro w'; go_simp; with_reducible rfl⟩) (by simp only [pt_]; rfl) ?_
      refine pu_ (i := 21) (N := some 39) 4194303 rfl rfl HT_ (Or.inl ⟨by rfl, by intro w'; go_simp; with_reducible rfl⟩) (by simp only [pt_]; rfl) ?_
      refine pu_ (i := 22) (N := some 40) 8388607 rfl rfl HT_ (Or.inl ⟨by rfl, by intro w'; go_simp; with_reducible rfl⟩) (by simp only [pt_]; rfl) ?_
      refine pu_ (i := 23) (N := some 41) (v := undef) (a' := ?_) 16777215 rfl rfl HT_ (Or.inr ⟨by rfl, rfl⟩) ?_ ?_
      rotate_left
      ·simp only [pt_]
       rfl
      refine pu_ (i := 24) (N := some 42) (v := undef) (a' := ?_) 33554431 rfl rfl HT_ (Or.inr ⟨by rfl, rfl⟩) ?_ ?_
      rotate_left
      ·simp only [pt_]
       rfl
      refine pu_ (i := 25) (N := some 43) (v := undef) (a' := ?_) 67108863 rfl rfl HT_ (Or.inr ⟨by rfl, rfl⟩) ?_ ?_
      rotate_left
      ·simp only [pt_]
       rfl
      refine pu_ (i := 26) (N := some 44) (v := undef) (a' := ?_) 134217727 rfl rfl HT_ (Or.inr ⟨by rfl, rfl⟩) ?_ ?_
      rotate_left
      ·simp only [pt_]
       rfl
      refine pu_ (i := 27) (N := some 45) 268435455 rfl rfl HT_ (Or.inl ⟨by rfl, by intro w'; go_simp; with_reducible rfl⟩) (by simp only [pt_]; rfl) ?_
      refine one_ (i := 28) (N := none) (bs_ 31 536870911) rfl rfl (one_of HT_.out (by kernel_rfl)) (by decide) (fun K hK => ?_)
      have hs43 : w42.cell? ⟨gb214, 0, none⟩ = some (.string (⟨#[]⟩ : ByteArray)) := (blk_cell BK214.out 0).trans rfl
      have hfs43 := blk_frozen BK214.out 0
      have hns43_1 := NB223_214.out
      have hms43_1 := NB214_223.out
      have hs44 : w42.cell? ⟨gb214, 1, none⟩ = some (.int .i64 0) := (blk_cell BK214.out 1).trans rfl
      have hfs44 := blk_frozen BK214.out 1
      have hns44_1 := NB223_214.out
      have hms44_1 := NB214_223.out
      have hs45 : w42.cell? ⟨gb214, 2, none⟩ = some (.bool false) := (blk_cell BK214.out 2).trans rfl
      have hfs45 := blk_frozen BK214.out 2
      have hns45_1 := NB223_214.out
      have hms45_1 := NB214_223.out
      refine skip_ (w1 := ?_) (by rfl) rfl ?_ ?_
      rotate_left
      ·go_simp
       rfl
      refine hK.out _ _ ⟨((cell_far (p := ⟨gb214, _, none⟩) NB223_214.out _).trans (((cell_far (p := ⟨gb214, _, none⟩) NB223_214.out _).trans (((cell_far (p := ⟨gb214, _, none⟩) NB223_214.out _).trans (hHeld.1)))))), ((cell_far (p := ⟨gb214, _, none⟩) NB223_214.out _).trans (((cell_far (p := ⟨gb214, _, none⟩) NB223_214.out _).trans (((cell_far (p := ⟨gb214, _, none⟩) NB223_214.out _).trans (hHeld.2.1)))))), ((cell_far (p := ⟨gb214, _, none⟩) NB223_214.out _).trans (((cell_far (p := ⟨gb214, _, none⟩) NB223_214.out _).trans (((cell_far (p := ⟨gb214, _, none⟩) NB223_214.out _).trans (hHeld.2.2.1)))))), ((cell_far (p := ⟨gb214, _, none⟩) NB215_214.out _).trans (((cell_far (p := ⟨gb214, _, none⟩) NB215_214.out _).trans (((cell_far (p := ⟨gb214, _, none⟩) NB215_214.out _).trans (hHeld.2.2.2.1)))))), ((cell_far (p := ⟨gb214, _, none⟩) NB215_214.out _).trans (((cell_far (p := ⟨gb214, _, none⟩) NB215_214.out _).trans (((cell_far (p := ⟨gb214, _, none⟩) NB215_214.out _).trans (hHeld.2.2.2.2.1)))))), ((cell_far (p := ⟨gb214, _, none⟩) NB215_214.out _).trans (((cell_far (p := ⟨gb214, _, none⟩) NB215_214.out _).trans (((cell_far (p := ⟨gb214, _, none⟩) NB215_214.out _).trans (hHeld.2.2.2.2.2.1)))))), ((cell_far (p := ⟨gb214, _, none⟩) NB215_214.out _).trans (((cell_far (p := ⟨gb214, _, none⟩) NB215_214.out _).trans (((cell_far (p := ⟨gb214, _, none⟩) NB215_214.out _).trans (hHeld.2.2.2.2.2.2))))))⟩ (fun hHeld => ?_)
      clear hK K
      refine pu_ (i := 29) (N := some 7) 1073741823 rfl rfl HT_ (Or.inl ⟨by rfl, by intro w'; go_simp; with_reducible rfl⟩) (by simp only [pt_]; rfl) ?_
      refine pu_ (i := 30) (N := some 8) 2147483647 rfl rfl HT_ (Or.inl ⟨by rfl, by intro w'; go_simp; with_reducible rfl⟩) (by simp only [pt_]; rfl) ?_
      refine done_ (done_of HT_.out (by kernel_rfl)) ?_
      try go_wp2
      refine bodyPost_ret (results_ctt rfl _ _ gb214 97 #[.string t216, .int .i64 t217, .bool t218] (0, 0) _ rfl (a13_) Try.underlying97 rfl (by kernel_rfl)) rfl ?_
      exact ⟨by first | rfl | (simp [errW_none, errW_some] <;> rfl) | (simp [*, errW_none, errW_some] <;> rfl), a11_⟩
    ·rw [if_neg c20] at H
     exact absurd H (by simp)
   ·rw [if_neg c19] at H
    exact absurd H (by simp)
  ·rw [if_neg c18] at H
   exact absurd H (by simp)

/-! ### spec_LabelsFault: function 32 -/
def spec_LabelsFault.f (k : Nat) (a0 : ByteArray) : Option (Int) := if (a0.size : Int) > 200 then (some 1) else ((spec_l08Labels.f k a0 0 (([] : List ByteArray))).bind fun bt227 => (if bt227.2.2.2.2 = true then (if bt227.2.2.2.1 = (a0.size : Int) then (some 0) else (some 1)) else (some 1)))
theorem spec_LabelsFault.a1_ {p : Prop} (h : p := by first | rfl | (simp [errW_none, errW_some] <;> rfl) | (simp [*, errW_none, errW_some] <;> rfl)) : p := h
theorem spec_LabelsFault.a2_ {p : Prop} (h : p := by repeat (first | (with_reducible first | exact HB.out | apply below_alloc | apply pw_below_drewN | apply below_drew1) | exact HB.out)) : p := h
theorem spec_LabelsFault.a3_ {p : Prop} (h : p := by (try simp only [List.map_toArray, List.map_cons, List.map_nil]); first | done | rfl | (simp only [List.length_drop, List.length_take]; rfl)) : p := h
theorem spec_LabelsFault.a4_ {p : Prop} (h : p := by repeat (first | exact (Kd.R_reads' HO226.out).2.2 | (with_reducible refine Kd.C_alloc ?_ _) | (with_reducible refine Kd.C_drewN ?_ _) | (with_reducible refine Kd.C_drew ?_))) : p := h
theorem spec_LabelsFault.a5_ {p : Prop} (h : p := by (with_reducible repeat (first | apply Kd.R_alloc | apply Kd.R_drewN | apply Kd.R_drew)); exact HO226.out) : p := h
theorem spec_LabelsFault.a6_ {p : Prop} (h : p := by repeat (first | (with_reducible first | exact HB.out | apply below_alloc | apply pw_below_drewN | apply below_drew1 | refine below_set ?_ GE232.out) | exact HB.out)) : p := h
set_option maxHeartbeats 8000000 in
set_option maxRecDepth 100000 in
theorem spec_LabelsFault.calls (k : Nat) (a0 : ByteArray) (r : Int) (w : World) (h : spec_LabelsFault.f k a0 = some r) :
  Calls Try.prog 32 #[.string a0] w fun e w' => e = .returned (.int .i64 r) ∧ Below w.heap.size w w' := by
 have hu97 := Try.underlying97
 have HB := Aside0.mk (Below.refl w.heap.size w)
 have H : (if (a0.size : Int) > 200 then (some 1) else ((spec_l08Labels.f k a0 0 (([] : List ByteArray))).bind fun bt227 => (if bt227.2.2.2.2 = true then (if bt227.2.2.2.1 = (a0.size : Int) then (some 0) else (some 1)) else (some 1)))) = some r := h
 clear h
 by_cases c2 : (a0.size : Int) > 200
 ·rw [if_pos c2] at H
  have c2b0 : decide (200 < (a0.size : Int)) = true := decide_eq_true c2
  have c2b1 : decide (200 < a0.size) = true := decide_eq_true (by omega)
  clear c2
  obtain rfl := Option.some.inj H
  go_enter Try.func32, Try.ntmps32
  go_wp2
  go_ret
  exact ⟨a1_, a2_⟩
 ·rw [if_neg c2] at H
  have c2b0 : decide (200 < (a0.size : Int)) = false := decide_eq_false c2
  have c2b1 : decide (200 < a0.size) = false := decide_eq_false (by omega)
  clear c2
  obtain ⟨y224, hy224⟩ : ∃ y_ : List ByteArray, y_ = (([] : List ByteArray)) := ⟨_, rfl⟩
  replace H : ((spec_l08Labels.f k a0 0 y224).bind fun bt227 => (if bt227.2.2.2.2 = true then (if bt227.2.2.2.1 = (a0.size : Int) then (some 0) else (some 1)) else (some 1))) = some r := by first | (rw [hy224]; with_reducible exact H) | (have H2_ := (Option.bind_some _ _).symm.trans H; rw [hy224]; with_reducible exact H2_) | (have H2_ := (Option.bind_some _ _).symm.trans H; with_reducible exact H2_) | with_reducible exact H | (rw [hy224]; exact H) | exact H
  have Ny224 := Aside0.mk hy224
  clear hy224
  replace H := Option.bind_eq_some_iff.mp H
  obtain ⟨⟨t227, t228, t229, t230, t231⟩, A30, H⟩ := H
  try dsimp only at H
  have A3 := Aside0.mk A30
  clear A30
  by_cases c4 : t231 = true
  ·subst c4
   rw [if_pos rfl] at H
   try dsimp only at H
   by_cases c5 : t230 = (a0.size : Int)
   ·rw [if_pos c5] at H
    have c5b0 : (t230 == (a0.size : Int)) = true := beq_iff_eq.mpr c5
    have c5b1 : (t230 != (a0.size : Int)) = false := bne_eq_false_iff_eq.mpr c5
    clear c5
    obtain rfl := Option.some.inj H
    go_enter Try.func32, Try.ntmps32
    go_wp2_with (first | ((with_reducible refine gate_dst (N := 11) rfl ?_); (try (refine gate_guard (by rfl) ?_; dsimp only)); refine Kd.R_lit Kd.string _ 9 ?hg (N := 11) ?hd (xs := ([] : List ByteArray)) (inner := []) (ok := fun _ => True) (okp := fun _ => True) ?hr ?hp (fun _ hk => hk) trivial (Below.refl _ _) (Nat.le_refl _) (by simp) ?_; (case hd => rfl); (case hg => rfl); (case hr => first | (go_simp; done) | (go_simp; rfl)); (case hp => exact (Reps.none _ _)); intro v225 w6 ho7 hb hg_ hnew_; clear hg_ hnew_; (first | rw [← Ny224.out] at ho7 | (simp only [Int.reduceToNat] at ho7; rw [← Ny224.out] at ho7)); have n_ := c2_ (Kd.R_lower ho7 (below_size (a2_))) (below_step (a2_) hb); clear HB; obtain ⟨HO226, HB⟩ := n_; clear hb ho7; obtain ⟨Ao8, co8, eo8⟩ := Kd.R_slice HO226.out; subst eo8) | ((with_reducible refine gate_callee (f := 59) rfl ?_); refine goesL_ (some 12) rfl rfl Try.func59 (by kernel_rfl) rfl #[.string a0, .int .i64 0, .slice Ao8 y224.length co8] rfl (a3_) ?_; (with_reducible refine (spec_l08Labels.calls k a0 0 _ _ y224 t227 t228 t229 t230 true _ ?side1 ?side2 A3.out).mono ?_); (case side1 => exact a4_); (case side2 => exact (Kd.R_reads' HO226.out).2.1); rintro e w9 ⟨rfl, hb⟩; refine ⟨_, rfl, ?_⟩; have n_ := c2_ (Kd.R_below (a5_) hb) (below_step (a2_) hb); clear HO226 HB; obtain ⟨HO226, HB⟩ := n_; (try clear hb); (try clear hb2); (try clear hk); (try clear hi)) | ((with_reducible refine gate_dst (N := 3) rfl ?_); (try (refine gate_guard (by rfl) ?_; dsimp only)); refine box_event ?hg (N := 3) ?hd (cs := #[.string (⟨#[]⟩ : ByteArray), .int .i64 0, .bool false]) (t := 97) ?hr ?_; (case hd => rfl); (case hg => rfl); (case hr => first | (go_simp; done) | (go_simp; rfl)); intro gb232 hg w10 hbox hb; have n_ := c5_ (Kd.R_below (a5_) hb) (below_step (a2_) hb) (hbox) ((by rw [hg]; exact (below_size (a2_)) : w.heap.size ≤ gb232)) ((by rw [hg]; exact (below_size (a2_)) : w.heap.size ≤ gb232)); clear HO226 HB; obtain ⟨HO226, HB, BK232, GW232, GE232⟩ := n_; clear hb hbox hg; obtain ⟨hcz11_0, hcz11_1, hcz11_2, hfz11_0, hfz11_1, hfz11_2⟩ := cf3_ BK232.out))
    go_ret
    exact ⟨a1_, a6_⟩
   ·rw [if_neg c5] at H
    have c5b0 : (t230 == (a0.size : Int)) = false := beq_eq_false_iff_ne.mpr c5
    have c5b1 : (t230 != (a0.size : Int)) = true := bne_iff_ne.mpr c5
    obtain rfl := Option.some.inj H
    go_enter Try.func32, Try.ntmps32
    go_wp2_with (first | ((with_reducible refine gate_dst (N := 11) rfl ?_); (try (refine gate_guard (by rfl) ?_; dsimp only)); refine Kd.R_lit Kd.string _ 9 ?hg (N := 11) ?hd (xs := ([] : List ByteArray)) (inner := []) (ok := fun _ => True) (okp := fun _ => True) ?hr ?hp (fun _ hk => hk) trivial (Below.refl _ _) (Nat.le_refl _) (by simp) ?_; (case hd => rfl); (case hg => rfl); (case hr => first | (go_simp; done) | (go_simp; rfl)); (case hp => exact (Reps.none _ _)); intro v225 w12 ho13 hb hg_ hnew_; clear hg_ hnew_; (first | rw [← Ny224.out] at ho13 | (simp only [Int.reduceToNat] at ho13; rw [← Ny224.out] at ho13)); have n_ := c2_ (Kd.R_lower ho13 (below_size (a2_))) (below_step (a2_) hb); clear HB; obtain ⟨HO226, HB⟩ := n_; clear hb ho13; obtain ⟨Ao14, co14, eo14⟩ := Kd.R_slice HO226.out; subst eo14) | ((with_reducible refine gate_callee (f := 59) rfl ?_); refine goesL_ (some 12) rfl rfl Try.func59 (by kernel_rfl) rfl #[.string a0, .int .i64 0, .slice Ao14 y224.length co14] rfl (a3_) ?_; (with_reducible refine (spec_l08Labels.calls k a0 0 _ _ y224 t227 t228 t229 t230 true _ ?side1 ?side2 A3.out).mono ?_); (case side1 => exact a4_); (case side2 => exact (Kd.R_reads' HO226.out).2.1); rintro e w15 ⟨rfl, hb⟩; refine ⟨_, rfl, ?_⟩; have n_ := c2_ (Kd.R_below (a5_) hb) (below_step (a2_) hb); clear HO226 HB; obtain ⟨HO226, HB⟩ := n_; (try clear hb); (try clear hb2); (try clear hk); (try clear hi)) | ((with_reducible refine gate_dst (N := 3) rfl ?_); (try (refine gate_guard (by rfl) ?_; dsimp only)); refine box_event ?hg (N := 3) ?hd (cs := #[.string (⟨#[]⟩ : ByteArray), .int .i64 0, .bool false]) (t := 97) ?hr ?_; (case hd => rfl); (case hg => rfl); (case hr => first | (go_simp; done) | (go_simp; rfl)); intro gb232 hg w16 hbox hb; have n_ := c5_ (Kd.R_below (a5_) hb) (below_step (a2_) hb) (hbox) ((by rw [hg]; exact (below_size (a2_)) : w.heap.size ≤ gb232)) ((by rw [hg]; exact (below_size (a2_)) : w.heap.size ≤ gb232)); clear HO226 HB; obtain ⟨HO226, HB, BK232, GW232, GE232⟩ := n_; clear hb hbox hg; obtain ⟨hcz17_0, hcz17_1, hcz17_2, hfz17_0, hfz17_1, hfz17_2⟩ := cf3_ BK232.out))
    go_ret
    exact ⟨a1_, a6_⟩
  ·replace c4 := Bool.eq_false_iff.mpr c4
   subst c4
   rw [if_neg (show ¬ (false = true) by decide)] at H
   try dsimp only at H
   obtain rfl := Option.some.inj H
   go_enter Try.func32, Try.ntmps32
   go_wp2_with (first | ((with_reducible refine gate_dst (N := 11) rfl ?_); (try (refine gate_guard (by rfl) ?_; dsimp only)); refine Kd.R_lit Kd.string _ 9 ?hg (N := 11) ?hd (xs := ([] : List ByteArray)) (inner := []) (ok := fun _ => True) (okp := fun _ => True) ?hr ?hp (fun _ hk => hk) trivial (Below.refl _ _) (Nat.le_refl _) (by simp) ?_; (case hd => rfl); (case hg => rfl); (case hr => first | (go_simp; done) | (go_simp; rfl)); (case hp => exact (Reps.none _ _)); intro v225 w18 ho19 hb hg_ hnew_; clear hg_ hnew_; (first | rw [← Ny224.out] at ho19 | (simp only [Int.reduceToNat] at ho19; rw [← Ny224.out] at ho19)); have n_ := c2_ (Kd.R_lower ho19 (below_size (a2_))) (below_step (a2_) hb); clear HB; obtain ⟨HO226, HB⟩ := n_; clear hb ho19; obtain ⟨Ao20, co20, eo20⟩ := Kd.R_slice HO226.out; subst eo20) | ((with_reducible refine gate_callee (f := 59) rfl ?_); refine goesL_ (some 12) rfl rfl Try.func59 (by kernel_rfl) rfl #[.string a0, .int .i64 0, .slice Ao20 y224.length co20] rfl (a3_) ?_; (with_reducible refine (spec_l08Labels.calls k a0 0 _ _ y224 t227 t228 t229 t230 false _ ?side1 ?side2 A3.out).mono ?_); (case side1 => exact a4_); (case side2 => exact (Kd.R_reads' HO226.out).2.1); rintro e w21 ⟨rfl, hb⟩; refine ⟨_, rfl, ?_⟩; have n_ := c2_ (Kd.R_below (a5_) hb) (below_step (a2_) hb); clear HO226 HB; obtain ⟨HO226, HB⟩ := n_; (try clear hb); (try clear hb2); (try clear hk); (try clear hi)) | ((with_reducible refine gate_dst (N := 3) rfl ?_); (try (refine gate_guard (by rfl) ?_; dsimp only)); refine box_event ?hg (N := 3) ?hd (cs := #[.string (⟨#[]⟩ : ByteArray), .int .i64 0, .bool false]) (t := 97) ?hr ?_; (case hd => rfl); (case hg => rfl); (case hr => first | (go_simp; done) | (go_simp; rfl)); intro gb232 hg w22 hbox hb; have n_ := c5_ (Kd.R_below (a5_) hb) (below_step (a2_) hb) (hbox) ((by rw [hg]; exact (below_size (a2_)) : w.heap.size ≤ gb232)) ((by rw [hg]; exact (below_size (a2_)) : w.heap.size ≤ gb232)); clear HO226 HB; obtain ⟨HO226, HB, BK232, GW232, GE232⟩ := n_; clear hb hbox hg; obtain ⟨hcz23_0, hcz23_1, hcz23_2, hfz23_0, hfz23_1, hfz23_2⟩ := cf3_ BK232.out))
   go_ret
   exact ⟨a1_, a6_⟩

/-! ### spec_l09Thing: function 63 -/
mutual
def spec_l09Thing.j0 : Nat → Int → Bool → Int → ByteArray → Int → Option (Bool)
 | 0, _, _, _, _, _ => none
 | k + 1, x4, x5, x234000, x234001, x234002 => if x5 = true then ((spec_l01Name.f k x234001).bind fun t234 => (if t234 = true then (some (x234002 == 0)) else (some false))) else (if x4 = 3 then ((spec_LabelsFault.f k x234001).bind fun t235 => (if t235 = 0 then (some (x234002 == 0)) else (some false))) else (if x4 = 4 then (spec_l09Thing.j1 k x4 (x4 == 4) x234000 x234001 x234002) else (spec_l09Thing.j1 k x4 (x4 == 5) x234000 x234001 x234002)))
def spec_l09Thing.j1 : Nat → Int → Bool → Int → ByteArray → Int → Option (Bool)
 | 0, _, _, _, _, _ => none
 | k + 1, x4, x27, x234000, x234001, x234002 => if x27 = true then (if x234001.toList = ([] : List UInt8) then (some (x234002 == 2)) else (some false)) else (if x4 = 6 then (if x234001.toList = ([] : List UInt8) then (some (x234002 == 1)) else (some false)) else (if x4 = 7 then (if x234001.toList = ([] : List UInt8) then (some (x234002 == 1)) else (some false)) else (if x4 = 8 then (if x234001.toList = ([] : List UInt8) then (some (x234002 == 1)) else (some false)) else (some false))))
end
def spec_l09Thing.f (k : Nat) (a0_0 : Int) (a0_1 : ByteArray) (a0_2 : Int) : Option (Bool) := if a0_0 = 1 then (spec_l09Thing.j0 k a0_0 (a0_0 == 1) a0_0 a0_1 a0_2) else (spec_l09Thing.j0 k a0_0 (a0_0 == 2) a0_0 a0_1 a0_2)
theorem spec_l09Thing.a1_ {p : Prop} (h : p := by repeat (first | (with_reducible first | exact HB.out | apply below_alloc | apply pw_below_drewN | apply below_drew1) | exact HB.out)) : p := h
theorem spec_l09Thing.a2_ {p : Prop} (h : p := by (with_reducible repeat (first | refine blk_drewN ?_ _ | refine blk_drew ?_ | refine blk_alloc ?_ _)); exact BK233.out) : p := h
theorem spec_l09Thing.a3_ {p : Prop} (h : p := by repeat (first | (with_reducible first | exact HB.out | apply below_alloc | apply pw_below_drewN | apply below_drew1 | refine below_set ?_ GE233.out) | exact HB.out)) : p := h
theorem spec_l09Thing.a4_ {p : Prop} (h : p := by (try simp only [List.map_toArray, List.map_cons, List.map_nil]); first | done | rfl | (simp only [List.length_drop, List.length_take]; rfl)) : p := h
theorem spec_l09Thing.a5_ {p : Prop} (h : p := by first | rfl | (simp [errW_none, errW_some] <;> rfl) | (simp [*, errW_none, errW_some] <;> rfl)) : p := h
set_option maxHeartbeats 8000000 in
set_option maxRecDepth 100000 in
theorem spec_l09Thing.calls (k : Nat) (a0_0 : Int) (a0_1 : ByteArray) (a0_2 : Int) (r : Bool) (w : World) (h : spec_l09Thing.f k a0_0 a0_1 a0_2 = some r) :
  Calls Try.prog 63 #[.agg #[.int .i64 a0_0, .string a0_1, .int .i64 a0_2]] w fun e w' => e = .returned (.bool r) ∧ Below w.heap.size w w' := by
 have hu66 := Try.underlying66
 have HB := Aside0.mk (Below.refl w.heap.size w)
 have H : (if a0_0 = 1 then (spec_l09Thing.j0 k a0_0 (a0_0 == 1) a0_0 a0_1 a0_2) else (spec_l09Thing.j0 k a0_0 (a0_0 == 2) a0_0 a0_1 a0_2)) = some r := h
 clear h
 have HC2 := Aside0.mk H
 clear H
 go_enter Try.func63, Try.ntmps63
 go_upto_if 5 with (first | ((with_reducible refine gate_dst (N := 1) rfl ?_); refine box_event ?hg (N := 1) ?hd (cs := #[.int .i64 a0_0, .string a0_1, .int .i64 a0_2]) (t := 66) ?hr ?_; (case hd => rfl); (case hg => rfl); (case hr => first | (go_simp; done) | (go_simp; rfl)); intro gb233 hg w3 hbox hb; have n_ := c4_ (below_step (a1_) hb) (hbox) ((by rw [hg]; exact (below_size (a1_)) : w.heap.size ≤ gb233)) ((by rw [hg]; exact (below_size (a1_)) : w.heap.size ≤ gb233)); clear HB; obtain ⟨HB, BK233, GW233, GE233⟩ := n_; clear hb hbox hg; obtain ⟨hcz4_0, hcz4_1, hcz4_2, hfz4_0, hfz4_1, hfz4_2⟩ := cf3_ BK233.out))
 (try simp only [Act.put, List.setIfInBounds_toArray, List.set_cons_zero, List.set_cons_succ])
 go_cut [5] (fun v5 wc => ∃ (kq : Nat) (x5_1 : Bool), v5 = .bool x5_1 ∧ Aside0 (spec_l09Thing.j0 kq a0_0 x5_1 a0_0 a0_1 a0_2 = some r) ∧ Aside0 (kq ≤ k) ∧ Aside0 (wc.heap[gb233]? = some (.cells #[.int .i64 a0_0, .string a0_1, .int .i64 a0_2] 66 (0, 0))) ∧ Aside0 (Below w.heap.size w wc))
 case first =>
  have H := HC2.out
  clear HC2
  by_cases c5 : a0_0 = 1
  ·rw [if_pos c5] at H
   have c5b0 : (a0_0 == 1) = true := beq_iff_eq.mpr c5
   have c5b1 : (a0_0 != 1) = false := bne_eq_false_iff_eq.mpr c5
   clear c5
   (first | rw [c5b0] | (simp only [i64_w, i32_w]; rw [c5b0]) | skip)
   have H' := Aside0.mk H
   clear H
   go_wp2
   go_meet
   case rel => exact ⟨_, ((a0_0 == 1)), (by first | rfl | (simp; done) | (simp [*]; done)), H', ⟨by first | omega | exact Nat.le_refl _⟩, ⟨a2_⟩, ⟨a3_⟩⟩
  ·rw [if_neg c5] at H
   have c5b0 : (a0_0 == 1) = false := beq_eq_false_iff_ne.mpr c5
   have c5b1 : (a0_0 != 1) = true := bne_iff_ne.mpr c5
   (first | rw [c5b0] | (simp only [i64_w, i32_w]; rw [c5b0]) | skip)
   have H' := Aside0.mk H
   clear H
   go_wp2
   go_meet
   case rel => exact ⟨_, ((a0_0 == 2)), (by first | rfl | (simp; done) | (simp [*]; done)), H', ⟨by first | omega | exact Nat.le_refl _⟩, ⟨a2_⟩, ⟨a3_⟩⟩
 case rest =>
  clear HC2
  try clear p2
  try clear c5
  try clear c5b0
  try clear c5b1
  try clear hcz4_0
  try clear hcz4_1
  try clear hcz4_2
  try clear hfz4_0
  try clear hfz4_1
  try clear hfz4_2
  obtain ⟨kq, x5_1, rfl, HA, HJ1, BK233, HB⟩ := hcut
  cases kq with
  | zero => exact absurd HA.out (by simp [spec_l09Thing.j0])
  | succ kj1 =>
   have H := HA.out
   clear HA
   simp only [spec_l09Thing.j0] at H
   by_cases c6 : x5_1 = true
   ·subst c6
    rw [if_pos rfl] at H
    try dsimp only at H
    replace H := Option.bind_eq_some_iff.mp H
    obtain ⟨t234, A70, H⟩ := H
    try dsimp only at H
    have A7 := Aside0.mk A70
    clear A70
    by_cases c8 : t234 = true
    ·subst c8
     rw [if_pos rfl] at H
     try dsimp only at H
     obtain rfl := Option.some.inj H
     obtain ⟨hcz9_0, hcz9_1, hcz9_2, hfz9_0, hfz9_1, hfz9_2⟩ := cf3_ BK233.out
     go_wp2_with (first | ((with_reducible refine gate_callee (f := 31) rfl ?_); refine goesL_ (some 10) rfl rfl Try.func31 (by kernel_rfl) rfl #[.string a0_1] rfl (a4_) ?_; (with_reducible refine (spec_l01Name.calls kj1 a0_1 true _ A7.out).mono ?_); rintro e w' ⟨rfl, ⟨nd, rfl⟩⟩; refine ⟨_, rfl, ?_⟩))
     go_ret
     exact ⟨a5_, a3_⟩
    ·replace c8 := Bool.eq_false_iff.mpr c8
     subst c8
     rw [if_neg (show ¬ (false = true) by decide)] at H
     try dsimp only at H
     obtain rfl := Option.some.inj H
     obtain ⟨hcz10_0, hcz10_1, hcz10_2, hfz10_0, hfz10_1, hfz10_2⟩ := cf3_ BK233.out
     go_wp2_with (first | ((with_reducible refine gate_callee (f := 31) rfl ?_); refine goesL_ (some 10) rfl rfl Try.func31 (by kernel_rfl) rfl #[.string a0_1] rfl (a4_) ?_; (with_reducible refine (spec_l01Name.calls kj1 a0_1 false _ A7.out).mono ?_); rintro e w' ⟨rfl, ⟨nd, rfl⟩⟩; refine ⟨_, rfl, ?_⟩))
     go_ret
     exact ⟨a5_, a3_⟩
   ·replace c6 := Bool.eq_false_iff.mpr c6
    subst c6
    rw [if_neg (show ¬ (false = true) by decide)] at H
    try dsimp only at H
    by_cases c11 : a0_0 = 3
    ·rw [if_pos c11] at H
     have c11b0 : (a0_0 == 3) = true := beq_iff_eq.mpr c11
     have c11b1 : (a0_0 != 3) = false := bne_eq_false_iff_eq.mpr c11
     clear c11
     replace H := Option.bind_eq_some_iff.mp H
     obtain ⟨t235, A120, H⟩ := H
     try dsimp only at H
     have A12 := Aside0.mk A120
     clear A120
     by_cases c13 : t235 = 0
     ·rw [if_pos c13] at H
      have c13b0 : (t235 == 0) = true := beq_iff_eq.mpr c13
      have c13b1 : (t235 != 0) = false := bne_eq_false_iff_eq.mpr c13
      clear c13
      obtain rfl := Option.some.inj H
      obtain ⟨hcz14_0, hcz14_1, hcz14_2, hfz14_0, hfz14_1, hfz14_2⟩ := cf3_ BK233.out
      go_wp2_with (first | ((with_reducible refine gate_callee (f := 32) rfl ?_); refine goesL_ (some 20) rfl rfl Try.func32 (by kernel_rfl) rfl #[.string a0_1] rfl (a4_) ?_; (with_reducible refine (spec_LabelsFault.calls kj1 a0_1 t235 _ A12.out).mono ?_); rintro e w15 ⟨rfl, hb⟩; refine ⟨_, rfl, ?_⟩; have n_ := c2_ (blk_below (g := gb233) (o := .cells #[.int .i64 a0_0, .string a0_1, .int .i64 a0_2] 66 (0, 0)) (a2_) hb) (below_step (a3_) hb); clear BK233 HB; obtain ⟨BK233, HB⟩ := n_; (try clear hb); (try clear hb2); (try clear hk); (try clear hi); obtain ⟨hcz16_0, hcz16_1, hcz16_2, hfz16_0, hfz16_1, hfz16_2⟩ := cf3_ BK233.out))
      go_ret
      exact ⟨a5_, a3_⟩
     ·rw [if_neg c13] at H
      have c13b0 : (t235 == 0) = false := beq_eq_false_iff_ne.mpr c13
      have c13b1 : (t235 != 0) = true := bne_iff_ne.mpr c13
      obtain rfl := Option.some.inj H
      obtain ⟨hcz17_0, hcz17_1, hcz17_2, hfz17_0, hfz17_1, hfz17_2⟩ := cf3_ BK233.out
      go_wp2_with (first | ((with_reducible refine gate_callee (f := 32) rfl ?_); refine goesL_ (some 20) rfl rfl Try.func32 (by kernel_rfl) rfl #[.string a0_1] rfl (a4_) ?_; (with_reducible refine (spec_LabelsFault.calls kj1 a0_1 t235 _ A12.out).mono ?_); rintro e w18 ⟨rfl, hb⟩; refine ⟨_, rfl, ?_⟩; have n_ := c2_ (blk_below (g := gb233) (o := .cells #[.int .i64 a0_0, .string a0_1, .int .i64 a0_2] 66 (0, 0)) (a2_) hb) (below_step (a3_) hb); clear BK233 HB; obtain ⟨BK233, HB⟩ := n_; (try clear hb); (try clear hb2); (try clear hk); (try clear hi)))
      go_ret
      exact ⟨a5_, a3_⟩
    ·rw [if_neg c11] at H
     have c11b0 : (a0_0 == 3) = false := beq_eq_false_iff_ne.mpr c11
     have c11b1 : (a0_0 != 3) = true := bne_iff_ne.mpr c11
     have HC19 := Aside0.mk H
     clear H
     go_upto_if 27 with (fail)
     go_cut [27] (fun v27 wc => ∃ (kq : Nat) (x27_18 : Bool), v27 = .bool x27_18 ∧ Aside0 (spec_l09Thing.j1 kq a0_0 x27_18 a0_0 a0_1 a0_2 = some r) ∧ Aside0 (kq ≤ kj1) ∧ Aside0 (wc.heap[gb233]? = some (.cells #[.int .i64 a0_0, .string a0_1, .int .i64 a0_2] 66 (0, 0))) ∧ Aside0 (Below w.heap.size w wc))
     case first =>
      have H := HC19.out
      clear HC19
      by_cases c20 : a0_0 = 4
      ·rw [if_pos c20] at H
       have c20b0 : (a0_0 == 4) = true := beq_iff_eq.mpr c20
       have c20b1 : (a0_0 != 4) = false := bne_eq_false_iff_eq.mpr c20
       clear c20
       (first | rw [c20b0] | (simp only [i64_w, i32_w]; rw [c20b0]) | skip)
       have H' := Aside0.mk H
       clear H
       go_wp2
       go_meet
       case rel => exact ⟨_, ((a0_0 == 4)), (by first | rfl | (simp; done) | (simp [*]; done)), H', ⟨by have := HJ1.out; first | omega | exact Nat.le_refl _⟩, ⟨a2_⟩, ⟨a3_⟩⟩
      ·rw [if_neg c20] at H
       have c20b0 : (a0_0 == 4) = false := beq_eq_false_iff_ne.mpr c20
       have c20b1 : (a0_0 != 4) = true := bne_iff_ne.mpr c20
       (first | rw [c20b0] | (simp only [i64_w, i32_w]; rw [c20b0]) | skip)
       have H' := Aside0.mk H
       clear H
       go_wp2
       go_meet
       case rel => exact ⟨_, ((a0_0 == 5)), (by first | rfl | (simp; done) | (simp [*]; done)), H', ⟨by have := HJ1.out; first | omega | exact Nat.le_refl _⟩, ⟨a2_⟩, ⟨a3_⟩⟩
     case rest =>
      clear HC19
      try clear c1
      try clear c2
      try clear p2
      try clear c3
      try clear c5
      try clear c5b0
      try clear c5b1
      try clear c6
      try clear c8
      try clear c11
      try clear c11b0
      try clear c11b1
      try clear c13
      try clear c13b0
      try clear c13b1
      try clear c20
      try clear c20b0
      try clear c20b1
      try clear hcz10_0
      try clear hcz10_1
      try clear hcz10_2
      try clear hcz14_0
      try clear hcz14_1
      try clear hcz14_2
      try clear hcz16_0
      try clear hcz16_1
      try clear hcz16_2
      try clear hcz17_0
      try clear hcz17_1
      try clear hcz17_2
      try clear hcz4_0
      try clear hcz4_1
      try clear hcz4_2
      try clear hcz9_0
      try clear hcz9_1
      try clear hcz9_2
      try clear hfz10_0
      try clear hfz10_1
      try clear hfz10_2
      try clear hfz14_0
      try clear hfz14_1
      try clear hfz14_2
      try clear hfz16_0
      try clear hfz16_1
      try clear hfz16_2
      try clear hfz17_0
      try clear hfz17_1
      try clear hfz17_2
      try clear hfz4_0
      try clear hfz4_1
      try clear hfz4_2
      try clear hfz9_0
      try clear hfz9_1
      try clear hfz9_2
      try clear p2
      obtain ⟨kq, x27_18, rfl, HA, HJ18, BK233, HB⟩ := hcut
      cases kq with
      | zero => exact absurd HA.out (by simp [spec_l09Thing.j1])
      | succ kj18 =>
       have H := HA.out
       clear HA
       simp only [spec_l09Thing.j1] at H
       by_cases c21 : x27_18 = true
       ·subst c21
        rw [if_pos rfl] at H
        try dsimp only at H
        by_cases c22 : a0_1.toList = ([] : List UInt8)
        ·rw [if_pos c22] at H
         have c22b0 : (a0_1.toList == ([] : List UInt8)) = true := beq_iff_eq.mpr c22
         have c22b1 : (a0_1.toList != ([] : List UInt8)) = false := bne_eq_false_iff_eq.mpr c22
         clear c22
         obtain rfl := Option.some.inj H
         obtain ⟨hcz23_0, hcz23_1, hcz23_2, hfz23_0, hfz23_1, hfz23_2⟩ := cf3_ BK233.out
         go_wp2
         go_ret
         exact ⟨a5_, a3_⟩
        ·rw [if_neg c22] at H
         have c22b0 : (a0_1.toList == ([] : List UInt8)) = false := beq_eq_false_iff_ne.mpr c22
         have c22b1 : (a0_1.toList != ([] : List UInt8)) = true := bne_iff_ne.mpr c22
         obtain rfl := Option.some.inj H
         obtain ⟨hcz24_0, hcz24_1, hcz24_2, hfz24_0, hfz24_1, hfz24_2⟩ := cf3_ BK233.out
         go_wp2
         go_ret
         exact ⟨a5_, a3_⟩
       ·replace c21 := Bool.eq_false_iff.mpr c21
        subst c21
        rw [if_neg (show ¬ (false = true) by decide)] at H
        try dsimp only at H
        by_cases c25 : a0_0 = 6
        ·rw [if_pos c25] at H
         have c25b0 : (a0_0 == 6) = true := beq_iff_eq.mpr c25
         have c25b1 : (a0_0 != 6) = false := bne_eq_false_iff_eq.mpr c25
         clear c25
         by_cases c26 : a0_1.toList = ([] : List UInt8)
         ·rw [if_pos c26] at H
          have c26b0 : (a0_1.toList == ([] : List UInt8)) = true := beq_iff_eq.mpr c26
          have c26b1 : (a0_1.toList != ([] : List UInt8)) = false := bne_eq_false_iff_eq.mpr c26
          clear c26
          obtain rfl := Option.some.inj H
          obtain ⟨hcz27_0, hcz27_1, hcz27_2, hfz27_0, hfz27_1, hfz27_2⟩ := cf3_ BK233.out
          go_wp2
          go_ret
          exact ⟨a5_, a3_⟩
         ·rw [if_neg c26] at H
          have c26b0 : (a0_1.toList == ([] : List UInt8)) = false := beq_eq_false_iff_ne.mpr c26
          have c26b1 : (a0_1.toList != ([] : List UInt8)) = true := bne_iff_ne.mpr c26
          obtain rfl := Option.some.inj H
          obtain ⟨hcz28_0, hcz28_1, hcz28_2, hfz28_0, hfz28_1, hfz28_2⟩ := cf3_ BK233.out
          go_wp2
          go_ret
          exact ⟨a5_, a3_⟩
        ·rw [if_neg c25] at H
         have c25b0 : (a0_0 == 6) = false := beq_eq_false_iff_ne.mpr c25
         have c25b1 : (a0_0 != 6) = true := bne_iff_ne.mpr c25
         by_cases c29 : a0_0 = 7
         ·rw [if_pos c29] at H
          have c29b0 : (a0_0 == 7) = true := beq_iff_eq.mpr c29
          have c29b1 : (a0_0 != 7) = false := bne_eq_false_iff_eq.mpr c29
          clear c29
          by_cases c30 : a0_1.toList = ([] : List UInt8)
          ·rw [if_pos c30] at H
           have c30b0 : (a0_1.toList == ([] : List UInt8)) = true := beq_iff_eq.mpr c30
           have c30b1 : (a0_1.toList != ([] : List UInt8)) = false := bne_eq_false_iff_eq.mpr c30
           clear c30
           obtain rfl := Option.some.inj H
           obtain ⟨hcz31_0, hcz31_1, hcz31_2, hfz31_0, hfz31_1, hfz31_2⟩ := cf3_ BK233.out
           go_wp2
           go_ret
           exact ⟨a5_, a3_⟩
          ·rw [if_neg c30] at H
           have c30b0 : (a0_1.toList == ([] : List UInt8)) = false := beq_eq_false_iff_ne.mpr c30
           have c30b1 : (a0_1.toList != ([] : List UInt8)) = true := bne_iff_ne.mpr c30
           obtain rfl := Option.some.inj H
           obtain ⟨hcz32_0, hcz32_1, hcz32_2, hfz32_0, hfz32_1, hfz32_2⟩ := cf3_ BK233.out
           go_wp2
           go_ret
           exact ⟨a5_, a3_⟩
         ·rw [if_neg c29] at H
          have c29b0 : (a0_0 == 7) = false := beq_eq_false_iff_ne.mpr c29
          have c29b1 : (a0_0 != 7) = true := bne_iff_ne.mpr c29
          by_cases c33 : a0_0 = 8
          ·rw [if_pos c33] at H
           have c33b0 : (a0_0 == 8) = true := beq_iff_eq.mpr c33
           have c33b1 : (a0_0 != 8) = false := bne_eq_false_iff_eq.mpr c33
           clear c33
           by_cases c34 : a0_1.toList = ([] : List UInt8)
           ·rw [if_pos c34] at H
            have c34b0 : (a0_1.toList == ([] : List UInt8)) = true := beq_iff_eq.mpr c34
            have c34b1 : (a0_1.toList != ([] : List UInt8)) = false := bne_eq_false_iff_eq.mpr c34
            clear c34
            obtain rfl := Option.some.inj H
            obtain ⟨hcz35_0, hcz35_1, hcz35_2, hfz35_0, hfz35_1, hfz35_2⟩ := cf3_ BK233.out
            go_wp2
            go_ret
            exact ⟨a5_, a3_⟩
           ·rw [if_neg c34] at H
            have c34b0 : (a0_1.toList == ([] : List UInt8)) = false := beq_eq_false_iff_ne.mpr c34
            have c34b1 : (a0_1.toList != ([] : List UInt8)) = true := bne_iff_ne.mpr c34
            obtain rfl := Option.some.inj H
            obtain ⟨hcz36_0, hcz36_1, hcz36_2, hfz36_0, hfz36_1, hfz36_2⟩ := cf3_ BK233.out
            go_wp2
            go_ret
            exact ⟨a5_, a3_⟩
          ·rw [if_neg c33] at H
           have c33b0 : (a0_0 == 8) = false := beq_eq_false_iff_ne.mpr c33
           have c33b1 : (a0_0 != 8) = true := bne_iff_ne.mpr c33
           obtain rfl := Option.some.inj H
           go_wp2
           go_ret
           exact ⟨a5_, a3_⟩

end Go.Proofs.Ytmecapnpgedcnaa.PFnExactShowSteps
