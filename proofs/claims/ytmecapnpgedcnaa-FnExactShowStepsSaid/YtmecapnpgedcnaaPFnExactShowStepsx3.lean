/- Walks of Go functions, written by program out of the print of the translation, with contracts of our own where the print has none. -/
import Derived.Test.YtmecapnpgedcnaaPFnExactShowStepsx0
import Derived.Test.YtmecapnpgedcnaaPFnExactShowStepsx2
namespace Go.Proofs.Ytmecapnpgedcnaa.PFnExactShowSteps
open Go.RowKit Go.Proofs.YtmecapnpgedcnaaW.PrintWords Go.Proofs.YtmecapnpgedcnaaW.PrintLast Go.Proofs.YtmecapnpgedcnaaW.PrintMore
attribute [local go_sem] max2_int min2_int max_two min_two max_three min_three max_four min_four   -- for this text's walks alone
set_option linter.unusedVariables false
set_option linter.unusedSimpArgs false

/-! ### spec_l08Test_row: function 92 -/
def spec_l08Test_row.T7 : Bool × List (List Nat × List Nat) := (true, [([], []), ([], []), ([0, 1], [0, 1]), ([], []), ([3], [3]), ([4], [4]), ([2, 5], [2, 5]), ([], []), ([], []), ([7, 8, 2], [7, 8]), ([6, 9], [6, 9]), ([], []), ([], []), ([10, 11, 12], [10, 11, 12]), ([13, 9, 0, 1, 2, 3, 4, 5, 6, 7, 8, 9, 10, 11, 12, 13], [13])])
def spec_l08Test_row.B7 : List Nat := [0, 0, 3, 0, 8, 24, 63, 0, 0, 391, 1023, 0, 0, 8191, 16383]
theorem spec_l08Test_row.tab7 : rtab .any (opsOf Try.f92 7) = spec_l08Test_row.T7 := by kernel_rfl
theorem spec_l08Test_row.bits7 : waitsOk spec_l08Test_row.T7.2 spec_l08Test_row.B7 = true := by kernel_rfl
theorem spec_l08Test_row.a1_ {p : Prop} (h : p := by repeat (first | (with_reducible first | exact HI0.out | apply IsS123.alloc | apply IsS123.drewN | apply IsS123.drew | apply IsS123.set_0 | apply IsS123.set_1 | apply IsS123.set_2 | apply IsS123.set_3) | exact HI0.out)) : p := h
theorem spec_l08Test_row.a2_ {p : Prop} (h : p := by repeat (first | (with_reducible first | exact HK.out | apply KeepBut.set_ | apply keep_drewN | apply keep_drew | apply keep_alloc) | exact HK.out)) : p := h
theorem spec_l08Test_row.a3_ {p : Prop} (h : p := by (try simp only [List.map_toArray, List.map_cons, List.map_nil]); first | done | rfl | (simp only [List.length_drop, List.length_take]; rfl)) : p := h
theorem spec_l08Test_row.a4_ {p : Prop} (h : p := by repeat (first | (with_reducible first | exact HI0.out | apply IsS123.alloc | apply IsS123.drewN | apply IsS123.drew | apply IsS123.set_0 | apply IsS123.set_1 | apply IsS123.set_2 | apply IsS123.set_3 | apply IsS123.far (p := ⟨gb125, _, none⟩) (hne := NB0_125.out)) | exact HI0.out)) : p := h
theorem spec_l08Test_row.a5_ {p : Prop} (h : p := by repeat (first | (with_reducible first | exact HK.out | apply KeepBut.set_ | apply keep_drewN | apply keep_drew | apply keep_alloc | refine keep_far ?_ GW125.out _) | exact HK.out)) : p := h
theorem spec_l08Test_row.a6_ {p : Prop} (h : p := by (with_reducible repeat (first | refine blk_drewN ?_ _ | refine blk_drew ?_ | refine blk_alloc ?_ _)); exact BK125.out) : p := h
theorem spec_l08Test_row.a7_ {p : Prop} (h : p := by (with_reducible repeat (first | refine blk_drewN ?_ _ | refine blk_drew ?_ | refine blk_alloc ?_ _)); refine blk_far ?_ NB125_133.out _; (with_reducible repeat (first | refine blk_drewN ?_ _ | refine blk_drew ?_ | refine blk_alloc ?_ _)); refine blk_far ?_ NB125_133.out _; (with_reducible repeat (first | refine blk_drewN ?_ _ | refine blk_drew ?_ | refine blk_alloc ?_ _)); refine blk_far ?_ NB125_133.out _; (with_reducible repeat (first | refine blk_drewN ?_ _ | refine blk_drew ?_ | refine blk_alloc ?_ _)); exact BK125.out) : p := h
theorem spec_l08Test_row.a8_ {p : Prop} (h : p := by repeat (first | (with_reducible first | exact HI0.out | apply IsS123.alloc | apply IsS123.drewN | apply IsS123.drew | apply IsS123.set_0 | apply IsS123.set_1 | apply IsS123.set_2 | apply IsS123.set_3 | apply IsS123.far (p := ⟨gb125, _, none⟩) (hne := NB0_125.out) | apply IsS123.far (p := ⟨gb133, _, none⟩) (hne := NB0_133.out)) | exact HI0.out)) : p := h
theorem spec_l08Test_row.a9_ {p : Prop} (h : p := by repeat (first | (with_reducible first | exact HK.out | apply KeepBut.set_ | apply keep_drewN | apply keep_drew | apply keep_alloc | refine keep_far ?_ GW125.out _ | refine keep_far ?_ GW133.out _) | exact HK.out)) : p := h
theorem spec_l08Test_row.a10_ {p : Prop} (h : p := by repeat (first | (with_reducible first | exact HB.out | apply below_alloc | apply pw_below_drewN | apply below_drew1 | refine below_set ?_ (IsS123.ge HI0.out) | refine below_set ?_ GE125.out | refine below_set ?_ GE133.out) | exact HB.out)) : p := h
theorem spec_l08Test_row.a11_ {p : Prop} (h : p := by (with_reducible repeat (first | refine blk_drewN ?_ _ | refine blk_drew ?_ | refine blk_alloc ?_ _)); exact BK133.out) : p := h
theorem spec_l08Test_row.a12_ {p : Prop} (h : p := by (with_reducible repeat (first | refine blk_drewN ?_ _ | refine blk_drew ?_ | refine blk_alloc ?_ _)); refine blk_far ?_ NB125_146.out _; (with_reducible repeat (first | refine blk_drewN ?_ _ | refine blk_drew ?_ | refine blk_alloc ?_ _)); refine blk_far ?_ NB125_146.out _; (with_reducible repeat (first | refine blk_drewN ?_ _ | refine blk_drew ?_ | refine blk_alloc ?_ _)); refine blk_far ?_ NB125_146.out _; (with_reducible repeat (first | refine blk_drewN ?_ _ | refine blk_drew ?_ | refine blk_alloc ?_ _)); exact BK125.out) : p := h
theorem spec_l08Test_row.a13_ {p : Prop} (h : p := by (with_reducible repeat (first | refine blk_drewN ?_ _ | refine blk_drew ?_ | refine blk_alloc ?_ _)); refine blk_far ?_ NB133_146.out _; (with_reducible repeat (first | refine blk_drewN ?_ _ | refine blk_drew ?_ | refine blk_alloc ?_ _)); refine blk_far ?_ NB133_146.out _; (with_reducible repeat (first | refine blk_drewN ?_ _ | refine blk_drew ?_ | refine blk_alloc ?_ _)); refine blk_far ?_ NB133_146.out _; (with_reducible repeat (first | refine blk_drewN ?_ _ | refine blk_drew ?_ | refine blk_alloc ?_ _)); exact BK133.out) : p := h
theorem spec_l08Test_row.a14_ {p : Prop} (h : p := by (with_reducible repeat (first | refine blk_drewN ?_ _ | refine blk_drew ?_ | refine blk_alloc ?_ _)); refine blk_put (cs := #[.string t139, .int .i64 t140, .bool false]) ?_ 2 _ rfl; (with_reducible repeat (first | refine blk_drewN ?_ _ | refine blk_drew ?_ | refine blk_alloc ?_ _)); refine blk_put (cs := #[.string t139, .int .i64 0, .bool false]) ?_ 1 _ rfl; (with_reducible repeat (first | refine blk_drewN ?_ _ | refine blk_drew ?_ | refine blk_alloc ?_ _)); refine blk_put (cs := #[.string (⟨#[]⟩ : ByteArray), .int .i64 0, .bool false]) ?_ 0 _ rfl; (with_reducible repeat (first | refine blk_drewN ?_ _ | refine blk_drew ?_ | refine blk_alloc ?_ _)); exact BK146.out) : p := h
theorem spec_l08Test_row.a15_ {p : Prop} (h : p := by repeat (first | (with_reducible first | exact HI0.out | apply IsS123.alloc | apply IsS123.drewN | apply IsS123.drew | apply IsS123.set_0 | apply IsS123.set_1 | apply IsS123.set_2 | apply IsS123.set_3 | apply IsS123.far (p := ⟨gb125, _, none⟩) (hne := NB0_125.out) | apply IsS123.far (p := ⟨gb133, _, none⟩) (hne := NB0_133.out) | apply IsS123.far (p := ⟨gb146, _, none⟩) (hne := NB0_146.out)) | exact HI0.out)) : p := h
theorem spec_l08Test_row.a16_ {p : Prop} (h : p := by repeat (first | (with_reducible first | exact HK.out | apply KeepBut.set_ | apply keep_drewN | apply keep_drew | apply keep_alloc | refine keep_far ?_ GW125.out _ | refine keep_far ?_ GW133.out _ | refine keep_far ?_ GW146.out _) | exact HK.out)) : p := h
theorem spec_l08Test_row.a17_ {p : Prop} (h : p := by repeat (first | (with_reducible first | exact HB.out | apply below_alloc | apply pw_below_drewN | apply below_drew1 | refine below_set ?_ (IsS123.ge HI0.out) | refine below_set ?_ GE125.out | refine below_set ?_ GE133.out | refine below_set ?_ GE146.out) | exact HB.out)) : p := h
theorem spec_l08Test_row.a18_ {p : Prop} (h : p := by rintro w' ⟨s0, s1, s2, s3, s4, s5⟩; go_simp; with_reducible rfl) : p := h
theorem spec_l08Test_row.a19_ {p : Prop} (h : p := by (with_reducible repeat (first | refine blk_drewN ?_ _ | refine blk_drew ?_ | refine blk_alloc ?_ _)); exact BK146.out) : p := h
theorem spec_l08Test_row.a20_ {p : Prop} (h : p := by first | (simp only [putAll, Act.put, List.setIfInBounds_toArray, List.set_cons_zero, List.set_cons_succ]; done) | (simp only [putAll, Act.put, List.setIfInBounds_toArray, List.set_cons_zero, List.set_cons_succ]; rfl)) : p := h
theorem spec_l08Test_row.a21_ {p : Prop} (h : p := by (with_reducible repeat (first | apply Kd.R_alloc | apply Kd.R_drewN | apply Kd.R_drew)); exact HO150.out) : p := h
theorem spec_l08Test_row.a22_ {p : Prop} (h : p := by (with_reducible repeat (first | apply Kd.R_alloc | apply Kd.R_drewN | apply Kd.R_drew)); exact HO155.out) : p := h
theorem spec_l08Test_row.a23_ {p : Prop} (h : p := by (with_reducible repeat (first | apply Kd.R_alloc | apply Kd.R_drewN | apply Kd.R_drew)); exact HO160.out) : p := h
section
variable [spec_l08Test_read.C]
mutual
def spec_l08Test_row.l0 : Nat → Int → Int → List ByteArray → ByteArray → Int → Int → Bool → ByteArray → Int → Bool → Option (ByteArray × Int × Bool × ByteArray × Int × Int × Bool)
 | 0, _, _, _, _, _, _, _, _, _, _ => none
 | k + 1, x1, x2, x3, x1000, x1001, x1002, x1003, x134000, x134001, x134002 => (spec_l08Test_takes.f x1000 x1001 x1002 x1003 x2).bind fun bt134 => (if bt134.1 = true then ((spec_l08Test_read.f bt134.2.1 bt134.2.2.1 bt134.2.2.2.1 bt134.2.2.2.2 (wrap64 (x1 + 1)) x3).bind fun bt139 => (if x134002 = true then (spec_l08Test_row.j1 k x1 x2 x3 true bt139.2.2.2.1 bt139.2.2.2.2.1 bt139.2.2.2.2.2.1 bt139.2.2.2.2.2.2 x134000 x134001 x134002 bt139.1 bt139.2.1 bt139.2.2.1) else (spec_l08Test_row.j1 k x1 x2 x3 bt139.2.2.1 bt139.2.2.2.1 bt139.2.2.2.2.1 bt139.2.2.2.2.2.1 bt139.2.2.2.2.2.2 x134000 x134001 x134002 bt139.1 bt139.2.1 bt139.2.2.1))) else (some (x134000, x134001, x134002, bt134.2.1, bt134.2.2.1, bt134.2.2.2.1, bt134.2.2.2.2)))
def spec_l08Test_row.j1 : Nat → Int → Int → List ByteArray → Bool → ByteArray → Int → Int → Bool → ByteArray → Int → Bool → ByteArray → Int → Bool → Option (ByteArray × Int × Bool × ByteArray × Int × Int × Bool)
 | 0, _, _, _, _, _, _, _, _, _, _, _, _, _, _ => none
 | k + 1, x1, x2, x3, x11, x1000, x1001, x1002, x1003, x134000, x134001, x134002, x147000, x147001, x147002 => if x1 = 2 then (if x134002 = true then ((spec_l08In.f x134000 x134001 x134002 x1).bind fun t147 => ((some (([x2] : List Int) : List Int)).bind fun y148 => (if t147.size + (strOfNums y148).size ≤ 9223372036854775807 then ((spec_l08In.f x147000 x147001 x147002 x1).bind fun t151 => (if (t147 ++ (strOfNums y148)).size + t151.size ≤ 9223372036854775807 then (spec_l08Test_row.l0 k x1 x2 x3 x1000 x1001 x1002 x1003 ((t147 ++ (strOfNums y148)) ++ t151) x1 x147002) else (none))) else (none)))) else ((spec_l08In.f x134000 x134001 x134002 x1).bind fun t152 => ((some (([x2] : List Int) : List Int)).bind fun y153 => (if t152.size + (strOfNums y153).size ≤ 9223372036854775807 then ((spec_l08In.f x147000 x147001 x147002 x1).bind fun t156 => (if (t152 ++ (strOfNums y153)).size + t156.size ≤ 9223372036854775807 then (spec_l08Test_row.l0 k x1 x2 x3 x1000 x1001 x1002 x1003 ((t152 ++ (strOfNums y153)) ++ t156) x1 false) else (none))) else (none))))) else ((spec_l08In.f x134000 x134001 x134002 x1).bind fun t157 => ((some (([x2] : List Int) : List Int)).bind fun y158 => (if t157.size + (strOfNums y158).size ≤ 9223372036854775807 then ((spec_l08In.f x147000 x147001 x147002 x1).bind fun t161 => (if (t157 ++ (strOfNums y158)).size + t161.size ≤ 9223372036854775807 then (spec_l08Test_row.l0 k x1 x2 x3 x1000 x1001 x1002 x1003 ((t157 ++ (strOfNums y158)) ++ t161) x1 x11) else (none))) else (none))))
end
def spec_l08Test_row.f (k : Nat) (s0_0 : ByteArray) (s0_1 : Int) (s0_2 : Int) (s0_3 : Bool) (a1 : Int) (a2 : Int) (l3 : List ByteArray) : Option (ByteArray × Int × Bool × ByteArray × Int × Int × Bool) := (spec_l08Test_read.f s0_0 s0_1 s0_2 s0_3 (wrap64 (a1 + 1)) l3).bind fun bt126 => (spec_l08Test_row.l0 k a1 a2 l3 bt126.2.2.2.1 bt126.2.2.2.2.1 bt126.2.2.2.2.2.1 bt126.2.2.2.2.2.2 bt126.1 bt126.2.1 bt126.2.2.1)
theorem spec_l08Test_row.mono_l : ∀ k, (∀ y0 y1 y2 y3 y4 y5 y6 y7 y8 y9, LeO (spec_l08Test_row.l0 k y0 y1 y2 y3 y4 y5 y6 y7 y8 y9) (spec_l08Test_row.l0 (k + 1) y0 y1 y2 y3 y4 y5 y6 y7 y8 y9)) ∧ (∀ y0 y1 y2 y3 y4 y5 y6 y7 y8 y9 y10 y11 y12 y13, LeO (spec_l08Test_row.j1 k y0 y1 y2 y3 y4 y5 y6 y7 y8 y9 y10 y11 y12 y13) (spec_l08Test_row.j1 (k + 1) y0 y1 y2 y3 y4 y5 y6 y7 y8 y9 y10 y11 y12 y13))
 | 0 => ⟨fun _ _ _ _ _ _ _ _ _ _ r h => by simp [spec_l08Test_row.l0] at h, fun _ _ _ _ _ _ _ _ _ _ _ _ _ _ r h => by simp [spec_l08Test_row.j1] at h⟩
 | k + 1 => by
  obtain ⟨ih0, ih1⟩ := spec_l08Test_row.mono_l k
  refine ⟨?_, ?_⟩
  ·intro y0 y1 y2 y3 y4 y5 y6 y7 y8 y9
   unfold spec_l08Test_row.l0
   repeat' first
   | (with_reducible exact ih0 _ _ _ _ _ _ _ _ _ _)
   | (with_reducible exact ih1 _ _ _ _ _ _ _ _ _ _ _ _ _ _)
   | (with_reducible exact LeO.refl _)
   | (with_reducible exact LeO.none _)
   | (with_reducible refine LeO.ite ?_ ?_)
   | (with_reducible refine LeO.bind ?_ (fun _ => ?_))
   | exact ih0 _ _ _ _ _ _ _ _ _ _
   | exact ih1 _ _ _ _ _ _ _ _ _ _ _ _ _ _
   | exact LeO.none _
   | refine LeO.ite ?_ ?_
   | refine LeO.bind ?_ (fun _ => ?_)
  ·intro y0 y1 y2 y3 y4 y5 y6 y7 y8 y9 y10 y11 y12 y13
   unfold spec_l08Test_row.j1
   repeat' first
   | (with_reducible exact ih0 _ _ _ _ _ _ _ _ _ _)
   | (with_reducible exact ih1 _ _ _ _ _ _ _ _ _ _ _ _ _ _)
   | (with_reducible exact LeO.refl _)
   | (with_reducible exact LeO.none _)
   | (with_reducible refine LeO.ite ?_ ?_)
   | (with_reducible refine LeO.bind ?_ (fun _ => ?_))
   | exact ih0 _ _ _ _ _ _ _ _ _ _
   | exact ih1 _ _ _ _ _ _ _ _ _ _ _ _ _ _
   | exact LeO.none _
   | refine LeO.ite ?_ ?_
   | refine LeO.bind ?_ (fun _ => ?_)
theorem spec_l08Test_row.mono : ∀ a0 a1 a2 a3 a4 a5 a6 k, LeO (spec_l08Test_row.f k a0 a1 a2 a3 a4 a5 a6) (spec_l08Test_row.f (k + 1) a0 a1 a2 a3 a4 a5 a6) := by
 intro a0 a1 a2 a3 a4 a5 a6 k
 obtain ⟨ih0, ih1⟩ := spec_l08Test_row.mono_l k
 unfold spec_l08Test_row.f
 repeat' first
   | (with_reducible exact ih0 _ _ _ _ _ _ _ _ _ _)
   | (with_reducible exact ih1 _ _ _ _ _ _ _ _ _ _ _ _ _ _)
   | (with_reducible exact LeO.refl _)
   | (with_reducible exact LeO.none _)
   | (with_reducible refine LeO.ite ?_ ?_)
   | (with_reducible refine LeO.bind ?_ (fun _ => ?_))
   | exact ih0 _ _ _ _ _ _ _ _ _ _
   | exact ih1 _ _ _ _ _ _ _ _ _ _ _ _ _ _
   | exact LeO.none _
   | refine LeO.ite ?_ ?_
   | refine LeO.bind ?_ (fun _ => ?_)
set_option maxHeartbeats 8000000 in
set_option maxRecDepth 100000 in
theorem spec_l08Test_row.calls (k : Nat) (g : Nat) (s0_0 : ByteArray) (s0_1 : Int) (s0_2 : Int) (s0_3 : Bool) (a1 : Int) (a2 : Int) (A3 : Option Addr) (c3 : Nat) (l3 : List ByteArray) (r1 : ByteArray) (r2 : Int) (r3 : Bool) (r4 : ByteArray) (r5 : Int) (r6 : Int) (r7 : Bool) (w0 w : World) (hI : IsS123 w0 w g s0_0 s0_1 s0_2 s0_3) (hB : Below w0.heap.size w0 w) (hr3 : Kd.C Kd.string w A3 l3.length l3) (hc3 : l3.length ≤ c3) (hf3 : ∀ ad, A3 = some ad → 0 < l3.length → ad.block ≠ g) (h : spec_l08Test_row.f k s0_0 s0_1 s0_2 s0_3 a1 a2 l3 = some (r1, r2, r3, r4, r5, r6, r7)) :
  Calls Try.prog 92 #[.pointer (some ⟨g, 0, none⟩), .int .i64 a1, .int .u8 a2, .slice A3 l3.length c3] w fun e w' => e = .returned (.agg #[.string r1, .int .i64 r2, .bool r3]) ∧ IsS123 w0 w' g r4 r5 r6 r7 ∧ Below w0.heap.size w0 w' ∧ KeepBut w w' g none := by
 have hu97 := Try.underlying97
 have HR3 := Aside0.mk hr3
 have HC3 := Aside0.mk hc3
 clear hr3 hc3
 have HI0 := Aside0.mk hI
 have HK := Aside0.mk (KeepBut.refl w g none)
 have HL := Aside0.mk hB.size
 clear hI
 have HW0 := Aside0.mk hB.size
 have HB := Aside0.mk hB
 clear hB
 have H : ((spec_l08Test_read.f s0_0 s0_1 s0_2 s0_3 (wrap64 (a1 + 1)) l3).bind fun bt126 => (spec_l08Test_row.l0 k a1 a2 l3 bt126.2.2.2.1 bt126.2.2.2.2.1 bt126.2.2.2.2.2.1 bt126.2.2.2.2.2.2 bt126.1 bt126.2.1 bt126.2.2.1)) = some (r1, r2, r3, r4, r5, r6, r7) := h
 clear h
 replace H := Option.bind_eq_some_iff.mp H
 obtain ⟨⟨t126, t127, t128, t129, t130, t131, t132⟩, A50, H⟩ := H
 try dsimp only at H
 have A5 := Aside0.mk A50
 clear A50
 have H' := Aside0.mk H
 clear H
 go_enter Try.func92, Try.ntmps92
 go_wp2_with (first | ((with_reducible refine gate_dst (N := 8) rfl ?_); refine box_event ?hg (N := 8) ?hd (cs := #[.string (⟨#[]⟩ : ByteArray), .int .i64 0, .bool false]) (t := 97) ?hr ?_; (case hd => rfl); (case hg => rfl); (case hr => first | (go_simp; done) | (go_simp; rfl)); intro gb125 hg w6 hbox hb; have n_ := c8_ (IsS123.below (a1_) hb) (KeepBut.trans (a2_) (KeepBut.of_below hb g none) (.inl rfl)) (below_step (by repeat (first | (with_reducible first | exact HB.out | apply below_alloc | apply pw_below_drewN | apply below_drew1 | refine below_set ?_ (IsS123.ge HI0.out)) | exact HB.out)) hb) (hbox) ((by rw [hg]; exact (keep_size (w := w) (g := g) (row := none) (a2_)) : w.heap.size ≤ gb125)) ((Nat.le_trans HW0.out (by rw [hg]; exact (keep_size (w := w) (g := g) (row := none) (a2_)) : w.heap.size ≤ gb125) : w0.heap.size ≤ gb125)) ((by rw [hg]; exact Nat.ne_of_lt (IsS123.lt (show IsS123 w0 _ g s0_0 s0_1 s0_2 s0_3 from a1_)) : g ≠ gb125)) ((by rw [hg]; exact Nat.ne_of_gt (IsS123.lt (show IsS123 w0 _ g s0_0 s0_1 s0_2 s0_3 from a1_)) : gb125 ≠ g)); clear HI0 HK HB; obtain ⟨HI0, HK, HB, BK125, GW125, GE125, NB0_125, NB125_0⟩ := n_; clear hb hbox hg) | ((with_reducible refine gate_callee (f := 82) rfl ?_); refine goesL_ (some 16) rfl rfl Try.func82 (by kernel_rfl) rfl #[.pointer (some ⟨g, 0, none⟩), .int .i64 (wrap64 (a1 + 1)), .slice A3 l3.length c3] rfl (a3_) ?_; (with_reducible refine (spec_l08Test_read.calls g s0_0 s0_1 s0_2 s0_3 (wrap64 (a1 + 1)) _ _ l3 t126 t127 t128 t129 t130 t131 t132 w0 _ ?side1 ?side2 ?side3 ?side4 ?side5 A5.out).mono ?_); (case side1 => exact a4_); (case side2 => exact by repeat (first | (with_reducible first | exact HB.out | apply below_alloc | apply pw_below_drewN | apply below_drew1 | refine below_set ?_ (IsS123.ge HI0.out) | refine below_set ?_ GE125.out) | exact HB.out)); (case side3 => exact Kd.C_keep (⟨#[]⟩ : ByteArray) HR3.out (a5_) hf3); (case side4 => exact HC3.out); (case side5 => exact hf3); rintro e w7 ⟨rfl, hi, hb, hk⟩; refine ⟨_, rfl, ?_⟩; have n_ := c4_ (KeepBut.blk hk (g' := gb125) (o := .cells #[.string (⟨#[]⟩ : ByteArray), .int .i64 0, .bool false] 97 (0, 0)) (a6_) NB125_0.out (by simp)) (KeepBut.trans (a5_) hk (.inl rfl)) (hb) (hi); clear BK125 HK HB HI0; obtain ⟨BK125, HK, HB, HI0⟩ := n_; (try clear hb); (try clear hb2); (try clear hk); (try clear hi)) | ((with_reducible refine gate_dst (N := 9) rfl ?_); refine box_event ?hg (N := 9) ?hd (cs := #[.string (⟨#[]⟩ : ByteArray), .int .i64 0, .bool false]) (t := 97) ?hr ?_; (case hd => rfl); (case hg => rfl); (case hr => first | (go_simp; done) | (go_simp; rfl)); intro gb133 hg w8 hbox hb; have n_ := c11_ (IsS123.below (a4_) hb) (blk_below (g := gb125) (o := .cells #[.string (⟨#[]⟩ : ByteArray), .int .i64 0, .bool false] 97 (0, 0)) (a6_) hb) (KeepBut.trans (a5_) (KeepBut.of_below hb g none) (.inl rfl)) (below_step (by repeat (first | (with_reducible first | exact HB.out | apply below_alloc | apply pw_below_drewN | apply below_drew1 | refine below_set ?_ (IsS123.ge HI0.out) | refine below_set ?_ GE125.out) | exact HB.out)) hb) (hbox) ((by rw [hg]; exact (keep_size (w := w) (g := g) (row := none) (a5_)) : w.heap.size ≤ gb133)) ((Nat.le_trans HW0.out (by rw [hg]; exact (keep_size (w := w) (g := g) (row := none) (a5_)) : w.heap.size ≤ gb133) : w0.heap.size ≤ gb133)) ((by rw [hg]; exact Nat.ne_of_lt (blk_lt (g := gb125) (o := .cells #[.string (⟨#[]⟩ : ByteArray), .int .i64 0, .bool false] 97 (0, 0)) (a6_)) : gb125 ≠ gb133)) ((by rw [hg]; exact Nat.ne_of_gt (blk_lt (g := gb125) (o := .cells #[.string (⟨#[]⟩ : ByteArray), .int .i64 0, .bool false] 97 (0, 0)) (a6_)) : gb133 ≠ gb125)) ((by rw [hg]; exact Nat.ne_of_lt (IsS123.lt (show IsS123 w0 _ g t129 t130 t131 t132 from a4_)) : g ≠ gb133)) ((by rw [hg]; exact Nat.ne_of_gt (IsS123.lt (show IsS123 w0 _ g t129 t130 t131 t132 from a4_)) : gb133 ≠ g)); clear HI0 BK125 HK HB; obtain ⟨HI0, BK125, HK, HB, BK133, GW133, GE133, NB125_133, NB133_125, NB0_133, NB133_0⟩ := n_; clear hb hbox hg; have hnb9 := NB133_125.out; have hnc9 := NB125_133.out; have hnb10 := NB133_0.out; have hnc10 := NB0_133.out; obtain ⟨hcz11_0, hcz11_1, hcz11_2, hfz11_0, hfz11_1, hfz11_2⟩ := cf3_ BK133.out))
 go_loopg [] k (fun kq w' => ∃ (x1000_1 : ByteArray) (x1001_1 : Int) (x1002_1 : Int) (x1003_1 : Bool) (x134000_1 : ByteArray) (x134001_1 : Int) (x134002_1 : Bool), Aside0 (spec_l08Test_row.l0 kq a1 a2 l3 x1000_1 x1001_1 x1002_1 x1003_1 x134000_1 x134001_1 x134002_1 = some (r1, r2, r3, r4, r5, r6, r7)) ∧ Aside0 (kq ≤ k) ∧ Aside0 (w'.heap[gb125]? = some (.cells #[.string (⟨#[]⟩ : ByteArray), .int .i64 0, .bool false] 97 (0, 0))) ∧ Aside0 (w'.heap[gb133]? = some (.cells #[.string x134000_1, .int .i64 x134001_1, .bool x134002_1] 97 (0, 0))) ∧ Aside0 (IsS123 w0 w' g x1000_1 x1001_1 x1002_1 x1003_1) ∧ Aside0 (KeepBut w w' g none) ∧ Aside0 (Below w0.heap.size w0 w'))
 case atStart => exact ⟨(t129), (t130), (t131), (t132), (t126), (t127), (t128), H', ⟨Nat.le_refl _⟩, ⟨a7_⟩, ⟨by (with_reducible repeat (first | refine blk_drewN ?_ _ | refine blk_drew ?_ | refine blk_alloc ?_ _)); refine blk_put (cs := #[.string t126, .int .i64 t127, .bool false]) ?_ 2 _ rfl; (with_reducible repeat (first | refine blk_drewN ?_ _ | refine blk_drew ?_ | refine blk_alloc ?_ _)); refine blk_put (cs := #[.string t126, .int .i64 0, .bool false]) ?_ 1 _ rfl; (with_reducible repeat (first | refine blk_drewN ?_ _ | refine blk_drew ?_ | refine blk_alloc ?_ _)); refine blk_put (cs := #[.string (⟨#[]⟩ : ByteArray), .int .i64 0, .bool false]) ?_ 0 _ rfl; (with_reducible repeat (first | refine blk_drewN ?_ _ | refine blk_drew ?_ | refine blk_alloc ?_ _)); exact BK133.out⟩, ⟨a8_⟩, ⟨a9_⟩, ⟨a10_⟩⟩
 case round =>
  clear H'
  try clear c1
  try clear p2
  try clear c3
  try clear p6
  try clear c8
  try clear c9
  try clear c10
  try clear hcz11_0
  try clear hcz11_1
  try clear hcz11_2
  try clear hfz11_0
  try clear hfz11_1
  try clear hfz11_2
  obtain ⟨x1000_1, x1001_1, x1002_1, x1003_1, x134000_1, x134001_1, x134002_1, HA, HK1, BK125, BK133, HI0, HK, HB⟩ := hrel
  cases gk with
  | zero => exact absurd HA.out (by simp [spec_l08Test_row.l0])
  | succ k1 =>
   have H := HA.out
   clear HA
   simp only [spec_l08Test_row.l0] at H
   replace H := Option.bind_eq_some_iff.mp H
   obtain ⟨⟨t134, t135, t136, t137, t138⟩, A120, H⟩ := H
   try dsimp only at H
   have A12 := Aside0.mk A120
   clear A120
   by_cases c13 : t134 = true
   ·subst c13
    rw [if_pos rfl] at H
    try dsimp only at H
    replace H := Option.bind_eq_some_iff.mp H
    obtain ⟨⟨t139, t140, t141, t142, t143, t144, t145⟩, A140, H⟩ := H
    try dsimp only at H
    have A14 := Aside0.mk A140
    clear A140
    have HC15 := Aside0.mk H
    clear H
    go_upto_region 4 with (first | ((with_reducible refine gate_callee (f := 93) rfl ?_); refine goesL_ (some 19) rfl rfl Try.func93 (by kernel_rfl) rfl #[.pointer (some ⟨g, 0, none⟩), .int .u8 a2] rfl (a3_) ?_; (with_reducible refine (spec_l08Test_takes.calls g x1000_1 x1001_1 x1002_1 x1003_1 a2 true t135 t136 t137 t138 w0 _ ?side1 ?side2 A12.out).mono ?_); (case side1 => exact a8_); (case side2 => exact a10_); rintro e w16 ⟨rfl, hi, hb, hk⟩; refine ⟨_, rfl, ?_⟩; have n_ := c5_ (KeepBut.blk hk (g' := gb125) (o := .cells #[.string (⟨#[]⟩ : ByteArray), .int .i64 0, .bool false] 97 (0, 0)) (a6_) NB125_0.out (by simp)) (KeepBut.blk hk (g' := gb133) (o := .cells #[.string x134000_1, .int .i64 x134001_1, .bool x134002_1] 97 (0, 0)) (a11_) NB133_0.out (by simp)) (KeepBut.trans (a9_) hk (.inl rfl)) (hb) (hi); clear BK125 BK133 HK HB HI0; obtain ⟨BK125, BK133, HK, HB, HI0⟩ := n_; (try clear hb); (try clear hb2); (try clear hk); (try clear hi)) | ((with_reducible refine gate_callee (f := 82) rfl ?_); refine goesL_ (some 24) rfl rfl Try.func82 (by kernel_rfl) rfl #[.pointer (some ⟨g, 0, none⟩), .int .i64 (wrap64 (a1 + 1)), .slice A3 l3.length c3] rfl (a3_) ?_; (with_reducible refine (spec_l08Test_read.calls g t135 t136 t137 t138 (wrap64 (a1 + 1)) _ _ l3 t139 t140 t141 t142 t143 t144 t145 w0 _ ?side1 ?side2 ?side3 ?side4 ?side5 A14.out).mono ?_); (case side1 => exact a8_); (case side2 => exact a10_); (case side3 => exact Kd.C_keep (⟨#[]⟩ : ByteArray) HR3.out (a9_) hf3); (case side4 => exact HC3.out); (case side5 => exact hf3); rintro e w17 ⟨rfl, hi, hb, hk⟩; refine ⟨_, rfl, ?_⟩; have n_ := c5_ (KeepBut.blk hk (g' := gb125) (o := .cells #[.string (⟨#[]⟩ : ByteArray), .int .i64 0, .bool false] 97 (0, 0)) (a6_) NB125_0.out (by simp)) (KeepBut.blk hk (g' := gb133) (o := .cells #[.string x134000_1, .int .i64 x134001_1, .bool x134002_1] 97 (0, 0)) (a11_) NB133_0.out (by simp)) (KeepBut.trans (a9_) hk (.inl rfl)) (hb) (hi); clear BK125 BK133 HK HB HI0; obtain ⟨BK125, BK133, HK, HB, HI0⟩ := n_; (try clear hb); (try clear hb2); (try clear hk); (try clear hi)) | ((with_reducible refine gate_dst (N := 10) rfl ?_); refine box_event ?hg (N := 10) ?hd (cs := #[.string (⟨#[]⟩ : ByteArray), .int .i64 0, .bool false]) (t := 97) ?hr ?_; (case hd => rfl); (case hg => rfl); (case hr => first | (go_simp; done) | (go_simp; rfl)); intro gb146 hg w18 hbox hb; have n_ := c14_ (blk_below (g := gb125) (o := .cells #[.string (⟨#[]⟩ : ByteArray), .int .i64 0, .bool false] 97 (0, 0)) (a6_) hb) (blk_below (g := gb133) (o := .cells #[.string x134000_1, .int .i64 x134001_1, .bool x134002_1] 97 (0, 0)) (a11_) hb) (IsS123.below (a8_) hb) (KeepBut.trans (a9_) (KeepBut.of_below hb g none) (.inl rfl)) (below_step (a10_) hb) (hbox) ((by rw [hg]; exact (keep_size (w := w) (g := g) (row := none) (a9_)) : w.heap.size ≤ gb146)) ((Nat.le_trans HW0.out (by rw [hg]; exact (keep_size (w := w) (g := g) (row := none) (a9_)) : w.heap.size ≤ gb146) : w0.heap.size ≤ gb146)) ((by rw [hg]; exact Nat.ne_of_lt (blk_lt (g := gb125) (o := .cells #[.string (⟨#[]⟩ : ByteArray), .int .i64 0, .bool false] 97 (0, 0)) (a6_)) : gb125 ≠ gb146)) ((by rw [hg]; exact Nat.ne_of_gt (blk_lt (g := gb125) (o := .cells #[.string (⟨#[]⟩ : ByteArray), .int .i64 0, .bool false] 97 (0, 0)) (a6_)) : gb146 ≠ gb125)) ((by rw [hg]; exact Nat.ne_of_lt (blk_lt (g := gb133) (o := .cells #[.string x134000_1, .int .i64 x134001_1, .bool x134002_1] 97 (0, 0)) (a11_)) : gb133 ≠ gb146)) ((by rw [hg]; exact Nat.ne_of_gt (blk_lt (g := gb133) (o := .cells #[.string x134000_1, .int .i64 x134001_1, .bool x134002_1] 97 (0, 0)) (a11_)) : gb146 ≠ gb133)) ((by rw [hg]; exact Nat.ne_of_lt (IsS123.lt (show IsS123 w0 _ g t142 t143 t144 t145 from a8_)) : g ≠ gb146)) ((by rw [hg]; exact Nat.ne_of_gt (IsS123.lt (show IsS123 w0 _ g t142 t143 t144 t145 from a8_)) : gb146 ≠ g)); clear BK125 BK133 HI0 HK HB; obtain ⟨BK125, BK133, HI0, HK, HB, BK146, GW146, GE146, NB125_146, NB146_125, NB133_146, NB146_133, NB0_146, NB146_0⟩ := n_; clear hb hbox hg; have hnb19 := NB146_125.out; have hnc19 := NB125_146.out; have hnb20 := NB146_133.out; have hnc20 := NB133_146.out; have hnb21 := NB146_0.out; have hnc21 := NB0_146.out; obtain ⟨hcz22_0, hcz22_1, hcz22_2, hfz22_0, hfz22_1, hfz22_2⟩ := cf3_ BK146.out))
    (try simp only [Act.put, List.setIfInBounds_toArray, List.set_cons_zero, List.set_cons_succ])
    go_cut [11] (fun v11 wc => ∃ (kq : Nat) (x11_14 : Bool), v11 = .bool x11_14 ∧ Aside0 (spec_l08Test_row.j1 kq a1 a2 l3 x11_14 t142 t143 t144 t145 x134000_1 x134001_1 x134002_1 t139 t140 t141 = some (r1, r2, r3, r4, r5, r6, r7)) ∧ Aside0 (kq ≤ k1) ∧ Aside0 (wc.heap[gb125]? = some (.cells #[.string (⟨#[]⟩ : ByteArray), .int .i64 0, .bool false] 97 (0, 0))) ∧ Aside0 (wc.heap[gb133]? = some (.cells #[.string x134000_1, .int .i64 x134001_1, .bool x134002_1] 97 (0, 0))) ∧ Aside0 (wc.heap[gb146]? = some (.cells #[.string t139, .int .i64 t140, .bool t141] 97 (0, 0))) ∧ Aside0 (IsS123 w0 wc g t142 t143 t144 t145) ∧ Aside0 (KeepBut w wc g none) ∧ Aside0 (Below w0.heap.size w0 wc))
    case first =>
     have H := HC15.out
     clear HC15
     by_cases c23 : x134002_1 = true
     ·subst c23
      rw [if_pos rfl] at H
      try dsimp only at H
      have H' := Aside0.mk H
      clear H
      have hnb24 := NB133_125.out
      have hnc24 := NB125_133.out
      have hnb25 := NB133_146.out
      have hnc25 := NB146_133.out
      have hnb26 := NB133_0.out
      have hnc26 := NB0_133.out
      obtain ⟨hcz27_0, hcz27_1, hcz27_2, hfz27_0, hfz27_1, hfz27_2⟩ := cf3_ BK133.out
      go_wp2
      go_meet
      case rel => exact ⟨_, (true), (by first | rfl | (simp; done) | (simp [*]; done)), H', ⟨by have := HK1.out; first | omega | exact Nat.le_refl _⟩, ⟨a12_⟩, ⟨a13_⟩, ⟨a14_⟩, ⟨a15_⟩, ⟨a16_⟩, ⟨a17_⟩⟩
     ·replace c23 := Bool.eq_false_iff.mpr c23
      subst c23
      rw [if_neg (show ¬ (false = true) by decide)] at H
      try dsimp only at H
      have H' := Aside0.mk H
      clear H
      have hnb28 := NB133_125.out
      have hnc28 := NB125_133.out
      have hnb29 := NB133_146.out
      have hnc29 := NB146_133.out
      have hnb30 := NB133_0.out
      have hnc30 := NB0_133.out
      obtain ⟨hcz31_0, hcz31_1, hcz31_2, hfz31_0, hfz31_1, hfz31_2⟩ := cf3_ BK133.out
      have hnb32 := NB146_125.out
      have hnc32 := NB125_146.out
      have hnb33 := NB146_0.out
      have hnc33 := NB0_146.out
      obtain ⟨hcz34_0, hcz34_1, hcz34_2, hfz34_0, hfz34_1, hfz34_2⟩ := cf3_ BK146.out
      go_wp2
      go_meet
      case rel => exact ⟨_, (t141), (by first | rfl | (simp; done) | (simp [*]; done)), H', ⟨by have := HK1.out; first | omega | exact Nat.le_refl _⟩, ⟨a12_⟩, ⟨a13_⟩, ⟨a14_⟩, ⟨a15_⟩, ⟨a16_⟩, ⟨a17_⟩⟩
    case rest =>
     clear HC15
     try clear c1
     try clear c2
     try clear p2
     try clear c3
     try clear p6
     try clear c8
     try clear c9
     try clear c10
     try clear c13
     try clear c19
     try clear c20
     try clear c21
     try clear c23
     try clear c24
     try clear c25
     try clear c26
     try clear c28
     try clear c29
     try clear c30
     try clear c32
     try clear c33
     try clear hcz11_0
     try clear hcz11_1
     try clear hcz11_2
     try clear hcz22_0
     try clear hcz22_1
     try clear hcz22_2
     try clear hcz27_0
     try clear hcz27_1
     try clear hcz27_2
     try clear hcz31_0
     try clear hcz31_1
     try clear hcz31_2
     try clear hcz34_0
     try clear hcz34_1
     try clear hcz34_2
     try clear hfz11_0
     try clear hfz11_1
     try clear hfz11_2
     try clear hfz22_0
     try clear hfz22_1
     try clear hfz22_2
     try clear hfz27_0
     try clear hfz27_1
     try clear hfz27_2
     try clear hfz31_0
     try clear hfz31_1
     try clear hfz31_2
     try clear hfz34_0
     try clear hfz34_1
     try clear hfz34_2
     try clear p2
     try clear p6
     obtain ⟨kq, x11_14, rfl, HA, HJ14, BK125, BK133, BK146, HI0, HK, HB⟩ := hcut
     cases kq with
     | zero => exact absurd HA.out (by simp [spec_l08Test_row.j1])
     | succ kj14 =>
      have H := HA.out
      clear HA
      simp only [spec_l08Test_row.j1] at H
      by_cases c35 : a1 = 2
      ·rw [if_pos c35] at H
       have c35b0 : (a1 == 2) = true := beq_iff_eq.mpr c35
       have c35b1 : (a1 != 2) = false := bne_eq_false_iff_eq.mpr c35
       clear c35
       by_cases c36 : x134002_1 = true
       ·subst c36
        rw [if_pos rfl] at H
        try dsimp only at H
        replace H := Option.bind_eq_some_iff.mp H
        obtain ⟨t147, A370, H⟩ := H
        try dsimp only at H
        have A37 := Aside0.mk A370
        clear A370
        obtain ⟨y148, hy148⟩ : ∃ y_ : List Int, y_ = (([a2] : List Int)) := ⟨_, rfl⟩
        replace H : (if t147.size + (strOfNums y148).size ≤ 9223372036854775807 then ((spec_l08In.f t139 t140 t141 a1).bind fun t151 => (if (t147 ++ (strOfNums y148)).size + t151.size ≤ 9223372036854775807 then (spec_l08Test_row.l0 kj14 a1 a2 l3 t142 t143 t144 t145 ((t147 ++ (strOfNums y148)) ++ t151) a1 t141) else (none))) else (none)) = some (r1, r2, r3, r4, r5, r6, r7) := by first | (rw [hy148]; with_reducible exact H) | (have H2_ := (Option.bind_some _ _).symm.trans H; rw [hy148]; with_reducible exact H2_) | (have H2_ := (Option.bind_some _ _).symm.trans H; with_reducible exact H2_) | with_reducible exact H | (rw [hy148]; exact H) | exact H
        have Ny148 := Aside0.mk hy148
        clear hy148
        by_cases c38 : t147.size + (strOfNums y148).size ≤ 9223372036854775807
        ·rw [if_pos c38] at H
         have c38b0 := eq_true c38
         have c38b1 : decide (t147.size + (strOfNums y148).size ≤ 9223372036854775807) = true := decide_eq_true c38
         try have c38b2 : (9223372036854775807 < t147.size + (strOfNums y148).size) = False := eq_false (Nat.not_lt.2 c38)
         replace H := Option.bind_eq_some_iff.mp H
         obtain ⟨t151, A390, H⟩ := H
         try dsimp only at H
         have A39 := Aside0.mk A390
         clear A390
         by_cases c40 : (t147 ++ (strOfNums y148)).size + t151.size ≤ 9223372036854775807
         ·rw [if_pos c40] at H
          have c40b0 := eq_true c40
          have c40s : ((t147).size + (strOfNums y148).size) + ((t151).size) ≤ 9223372036854775807 := by (have h_ := c40; (try simp only [ByteArray.size_append] at h_); first | exact h_ | omega)
          try have c40t : (9223372036854775807 < ((t147).size + (strOfNums y148).size) + ((t151).size)) = False := eq_false (Nat.not_lt.2 c40s)
          have c40b1 : decide ((t147 ++ (strOfNums y148)).size + t151.size ≤ 9223372036854775807) = true := decide_eq_true c40
          try have c40b2 : (9223372036854775807 < (t147 ++ (strOfNums y148)).size + t151.size) = False := eq_false (Nat.not_lt.2 c40)
          have H' := Aside0.mk H
          clear H
          have hnb41 := NB133_125.out
          have hnc41 := NB125_133.out
          have hnb42 := NB133_146.out
          have hnc42 := NB146_133.out
          have hnb43 := NB133_0.out
          have hnc43 := NB0_133.out
          obtain ⟨hcz44_0, hcz44_1, hcz44_2, hfz44_0, hfz44_1, hfz44_2⟩ := cf3_ BK133.out
          have hnb45 := NB146_125.out
          have hnc45 := NB125_146.out
          have hnb46 := NB146_0.out
          have hnc46 := NB0_146.out
          obtain ⟨hcz47_0, hcz47_1, hcz47_2, hfz47_0, hfz47_1, hfz47_2⟩ := cf3_ BK146.out
          try go_wp2
          have n_ := c6_ (blk_drew BK125.out) (blk_drew BK133.out) (blk_drew BK146.out) (IsS123.drew HI0.out) (keep_drew HK.out) (below_drew1 HB.out)
          clear BK125 BK133 BK146 HI0 HK HB
          obtain ⟨BK125, BK133, BK146, HI0, HK, HB⟩ := n_
          refine start_ (n := 15) (S := fun w' => w'.cell? ⟨gb133, 0, none⟩ = some (.string x134000_1) ∧ w'.cell? ⟨gb133, 1, none⟩ = some (.int .i64 x134001_1) ∧ w'.cell? ⟨gb133, 2, none⟩ = some (.bool true) ∧ w'.cell? ⟨gb146, 0, none⟩ = some (.string t139) ∧ w'.cell? ⟨gb146, 1, none⟩ = some (.int .i64 t140) ∧ w'.cell? ⟨gb146, 2, none⟩ = some (.bool t141)) (ds := [14]) (bs_ 15 0) (by kernel_rfl) (by kernel_rfl) (by kernel_rfl) ⟨(blk_cell BK133.out 0).trans rfl, (blk_cell BK133.out 1).trans rfl, (blk_cell BK133.out 2).trans rfl, (blk_cell BK146.out 0).trans rfl, (blk_cell BK146.out 1).trans rfl, (blk_cell BK146.out 2).trans rfl⟩ (fun hHeld => ?_); refine with_tabW spec_l08Test_row.tab7 spec_l08Test_row.bits7 (fun HT_ HW_ => ?_)
          generalize wc.drew = w48 at BK125 BK133 BK146 HI0 HK HB hHeld ⊢
          refine pu_ (i := 1) (N := some 40) 2 rfl rfl HT_ (Or.inl ⟨by rfl, by intro w'; go_simp; with_reducible rfl⟩) (by simp only [pt_]; rfl) ?_
          refine pu_ (i := 3) (N := some 42) 10 rfl rfl HT_ (Or.inl ⟨by rfl, by intro w'; go_simp; with_reducible rfl⟩) (by simp only [pt_]; rfl) ?_
          refine pu_ (i := 8) (N := some 47) 266 rfl rfl HT_ (Or.inl ⟨by rfl, by intro w'; go_simp; with_reducible rfl⟩) (by simp only [pt_]; rfl) ?_
          refine pu_ (i := 11) (N := some 50) 2314 rfl rfl HT_ (Or.inl ⟨by rfl, by intro w'; go_simp; with_reducible rfl⟩) (by simp only [pt_]; rfl) ?_
          refine pu_ (i := 12) (N := some 51) 6410 rfl rfl HT_ (Or.inl ⟨by rfl, by intro w'; go_simp; with_reducible rfl⟩) (by simp only [pt_]; rfl) ?_
          refine tk_ (i := 0) (N := some 39) 6411 rfl rfl HT_ HW_ (Or.inl ⟨by rfl, a18_⟩) hHeld (by simp only [pt_]; rfl) ?_
          refine tk_ (i := 7) (N := some 46) 6539 rfl rfl HT_ HW_ (Or.inl ⟨by rfl, a18_⟩) hHeld (by simp only [pt_]; rfl) ?_
          refine join_ (σ := Value) 3 (bs_ 15 7167) (fun s_ => [(41, .string t147), (43, s_), (44, .string (strOfNums y148)), (48, .string t151), (45, .string (t147 ++ (strOfNums y148)))]) (fun s_ w' => (w'.cell? ⟨gb133, 0, none⟩ = some (.string x134000_1) ∧ w'.cell? ⟨gb133, 1, none⟩ = some (.int .i64 x134001_1) ∧ w'.cell? ⟨gb133, 2, none⟩ = some (.bool true) ∧ w'.cell? ⟨gb146, 0, none⟩ = some (.string t139) ∧ w'.cell? ⟨gb146, 1, none⟩ = some (.int .i64 t140) ∧ w'.cell? ⟨gb146, 2, none⟩ = some (.bool t141)) ∧ (Kd.R (Kd.int .u8) 5 w' w.heap.size (fun _ => True) s_ y148) ∧ (w'.heap[gb125]? = some (.cells #[.string (⟨#[]⟩ : ByteArray), .int .i64 0, .bool false] 97 (0, 0))) ∧ (w'.heap[gb133]? = some (.cells #[.string x134000_1, .int .i64 x134001_1, .bool true] 97 (0, 0))) ∧ (w'.heap[gb146]? = some (.cells #[.string t139, .int .i64 t140, .bool t141] 97 (0, 0))) ∧ (IsS123 w0 w' g t142 t143 t144 t145) ∧ (KeepBut w w' g none) ∧ (Below w0.heap.size w0 w')) ?_ ?_
          rotate_left
          ·intro hJ2_4_5_9
           refine join_ (σ := Value) 4 (bs_ 15 6655) (fun s_ => [(41, .string t147), (43, s_), (44, .string (strOfNums y148)), (45, .string (t147 ++ (strOfNums y148)))]) (fun s_ w' => (w'.cell? ⟨gb133, 0, none⟩ = some (.string x134000_1) ∧ w'.cell? ⟨gb133, 1, none⟩ = some (.int .i64 x134001_1) ∧ w'.cell? ⟨gb133, 2, none⟩ = some (.bool true) ∧ w'.cell? ⟨gb146, 0, none⟩ = some (.string t139) ∧ w'.cell? ⟨gb146, 1, none⟩ = some (.int .i64 t140) ∧ w'.cell? ⟨gb146, 2, none⟩ = some (.bool t141)) ∧ (Kd.R (Kd.int .u8) 5 w' w.heap.size (fun _ => True) s_ y148) ∧ (w'.heap[gb125]? = some (.cells #[.string (⟨#[]⟩ : ByteArray), .int .i64 0, .bool false] 97 (0, 0))) ∧ (w'.heap[gb133]? = some (.cells #[.string x134000_1, .int .i64 x134001_1, .bool true] 97 (0, 0))) ∧ (w'.heap[gb146]? = some (.cells #[.string t139, .int .i64 t140, .bool t141] 97 (0, 0))) ∧ (IsS123 w0 w' g t142 t143 t144 t145) ∧ (KeepBut w w' g none) ∧ (Below w0.heap.size w0 w')) ?_ ?_
           rotate_left
           ·intro hJ2_4_5
            refine join_ (σ := Value) 5 (bs_ 15 7071) (fun s_ => [(41, .string t147), (43, s_), (48, .string t151)]) (fun s_ w' => (w'.cell? ⟨gb133, 0, none⟩ = some (.string x134000_1) ∧ w'.cell? ⟨gb133, 1, none⟩ = some (.int .i64 x134001_1) ∧ w'.cell? ⟨gb133, 2, none⟩ = some (.bool true) ∧ w'.cell? ⟨gb146, 0, none⟩ = some (.string t139) ∧ w'.cell? ⟨gb146, 1, none⟩ = some (.int .i64 t140) ∧ w'.cell? ⟨gb146, 2, none⟩ = some (.bool t141)) ∧ (Kd.R (Kd.int .u8) 5 w' w.heap.size (fun _ => True) s_ y148) ∧ (w'.heap[gb125]? = some (.cells #[.string (⟨#[]⟩ : ByteArray), .int .i64 0, .bool false] 97 (0, 0))) ∧ (w'.heap[gb133]? = some (.cells #[.string x134000_1, .int .i64 x134001_1, .bool true] 97 (0, 0))) ∧ (w'.heap[gb146]? = some (.cells #[.string t139, .int .i64 t140, .bool t141] 97 (0, 0))) ∧ (IsS123 w0 w' g t142 t143 t144 t145) ∧ (KeepBut w w' g none) ∧ (Below w0.heap.size w0 w')) ?_ ?_
            rotate_left
            ·intro hJ2_4_9
             refine join_ (σ := Value) 6 (bs_ 15 6559) (fun s_ => [(41, .string t147), (43, s_)]) (fun s_ w' => (w'.cell? ⟨gb133, 0, none⟩ = some (.string x134000_1) ∧ w'.cell? ⟨gb133, 1, none⟩ = some (.int .i64 x134001_1) ∧ w'.cell? ⟨gb133, 2, none⟩ = some (.bool true) ∧ w'.cell? ⟨gb146, 0, none⟩ = some (.string t139) ∧ w'.cell? ⟨gb146, 1, none⟩ = some (.int .i64 t140) ∧ w'.cell? ⟨gb146, 2, none⟩ = some (.bool t141)) ∧ (Kd.R (Kd.int .u8) 5 w' w.heap.size (fun _ => True) s_ y148) ∧ (w'.heap[gb125]? = some (.cells #[.string (⟨#[]⟩ : ByteArray), .int .i64 0, .bool false] 97 (0, 0))) ∧ (w'.heap[gb133]? = some (.cells #[.string x134000_1, .int .i64 x134001_1, .bool true] 97 (0, 0))) ∧ (w'.heap[gb146]? = some (.cells #[.string t139, .int .i64 t140, .bool t141] 97 (0, 0))) ∧ (IsS123 w0 w' g t142 t143 t144 t145) ∧ (KeepBut w w' g none) ∧ (Below w0.heap.size w0 w')) ?_ ?_
             rotate_left
             ·intro hJ2_4
              refine join_ (σ := Unit) 6 (bs_ 15 7055) (fun s_ => [(41, .string t147), (48, .string t151)]) (fun s_ w' => (w'.cell? ⟨gb133, 0, none⟩ = some (.string x134000_1) ∧ w'.cell? ⟨gb133, 1, none⟩ = some (.int .i64 x134001_1) ∧ w'.cell? ⟨gb133, 2, none⟩ = some (.bool true) ∧ w'.cell? ⟨gb146, 0, none⟩ = some (.string t139) ∧ w'.cell? ⟨gb146, 1, none⟩ = some (.int .i64 t140) ∧ w'.cell? ⟨gb146, 2, none⟩ = some (.bool t141)) ∧ (w'.heap[gb125]? = some (.cells #[.string (⟨#[]⟩ : ByteArray), .int .i64 0, .bool false] 97 (0, 0))) ∧ (w'.heap[gb133]? = some (.cells #[.string x134000_1, .int .i64 x134001_1, .bool true] 97 (0, 0))) ∧ (w'.heap[gb146]? = some (.cells #[.string t139, .int .i64 t140, .bool t141] 97 (0, 0))) ∧ (IsS123 w0 w' g t142 t143 t144 t145) ∧ (KeepBut w w' g none) ∧ (Below w0.heap.size w0 w')) ?_ ?_
              rotate_left
              ·intro hJ2_9
               refine join_ (σ := Value) 6 (bs_ 15 6587) (fun s_ => [(43, s_), (44, .string (strOfNums y148))]) (fun s_ w' => (w'.cell? ⟨gb133, 0, none⟩ = some (.string x134000_1) ∧ w'.cell? ⟨gb133, 1, none⟩ = some (.int .i64 x134001_1) ∧ w'.cell? ⟨gb133, 2, none⟩ = some (.bool true) ∧ w'.cell? ⟨gb146, 0, none⟩ = some (.string t139) ∧ w'.cell? ⟨gb146, 1, none⟩ = some (.int .i64 t140) ∧ w'.cell? ⟨gb146, 2, none⟩ = some (.bool t141)) ∧ (Kd.R (Kd.int .u8) 5 w' w.heap.size (fun _ => True) s_ y148) ∧ (w'.heap[gb125]? = some (.cells #[.string (⟨#[]⟩ : ByteArray), .int .i64 0, .bool false] 97 (0, 0))) ∧ (w'.heap[gb133]? = some (.cells #[.string x134000_1, .int .i64 x134001_1, .bool true] 97 (0, 0))) ∧ (w'.heap[gb146]? = some (.cells #[.string t139, .int .i64 t140, .bool t141] 97 (0, 0))) ∧ (IsS123 w0 w' g t142 t143 t144 t145) ∧ (KeepBut w w' g none) ∧ (Below w0.heap.size w0 w')) ?_ ?_
               rotate_left
               ·intro hJ4_5
                refine join_ (σ := Unit) 7 (bs_ 15 6543) (fun s_ => [(41, .string t147)]) (fun s_ w' => (w'.cell? ⟨gb133, 0, none⟩ = some (.string x134000_1) ∧ w'.cell? ⟨gb133, 1, none⟩ = some (.int .i64 x134001_1) ∧ w'.cell? ⟨gb133, 2, none⟩ = some (.bool true) ∧ w'.cell? ⟨gb146, 0, none⟩ = some (.string t139) ∧ w'.cell? ⟨gb146, 1, none⟩ = some (.int .i64 t140) ∧ w'.cell? ⟨gb146, 2, none⟩ = some (.bool t141)) ∧ (w'.heap[gb125]? = some (.cells #[.string (⟨#[]⟩ : ByteArray), .int .i64 0, .bool false] 97 (0, 0))) ∧ (w'.heap[gb133]? = some (.cells #[.string x134000_1, .int .i64 x134001_1, .bool true] 97 (0, 0))) ∧ (w'.heap[gb146]? = some (.cells #[.string t139, .int .i64 t140, .bool t141] 97 (0, 0))) ∧ (IsS123 w0 w' g t142 t143 t144 t145) ∧ (KeepBut w w' g none) ∧ (Below w0.heap.size w0 w')) ?_ ?_
                rotate_left
                ·intro hJ2
                 refine join_ (σ := Value) 7 (bs_ 15 6555) (fun s_ => [(43, s_)]) (fun s_ w' => (w'.cell? ⟨gb133, 0, none⟩ = some (.string x134000_1) ∧ w'.cell? ⟨gb133, 1, none⟩ = some (.int .i64 x134001_1) ∧ w'.cell? ⟨gb133, 2, none⟩ = some (.bool true) ∧ w'.cell? ⟨gb146, 0, none⟩ = some (.string t139) ∧ w'.cell? ⟨gb146, 1, none⟩ = some (.int .i64 t140) ∧ w'.cell? ⟨gb146, 2, none⟩ = some (.bool t141)) ∧ (Kd.R (Kd.int .u8) 5 w' w.heap.size (fun _ => True) s_ y148) ∧ (w'.heap[gb125]? = some (.cells #[.string (⟨#[]⟩ : ByteArray), .int .i64 0, .bool false] 97 (0, 0))) ∧ (w'.heap[gb133]? = some (.cells #[.string x134000_1, .int .i64 x134001_1, .bool true] 97 (0, 0))) ∧ (w'.heap[gb146]? = some (.cells #[.string t139, .int .i64 t140, .bool t141] 97 (0, 0))) ∧ (IsS123 w0 w' g t142 t143 t144 t145) ∧ (KeepBut w w' g none) ∧ (Below w0.heap.size w0 w')) ?_ ?_
                 rotate_left
                 ·intro hJ4
                  refine two_ (i := 2) (j := 4) (Ni := some 41) (Nj := some 43) (bs_ 15 6543) (bs_ 15 6555) rfl rfl rfl rfl (two_of HT_.out (by kernel_rfl)) (by decide) (by decide) (fun K hK => ?_) (fun K hK => ?_)
                  ·skip
                   refine goes_ Try.func94 (by kernel_rfl) rfl #[.agg #[.string x134000_1, .int .i64 x134001_1, .bool true], .int .i64 a1] (by rfl) rfl rfl (a3_) ?_
                   with_reducible refine (spec_l08In.calls x134000_1 x134001_1 true a1 t147 _ A37.out).mono ?_
                   rintro e w49 ⟨rfl, hb⟩
                   refine ⟨_, rfl, ?_⟩
                   have n_ := c6_ (blk_below (g := gb125) (o := .cells #[.string (⟨#[]⟩ : ByteArray), .int .i64 0, .bool false] 97 (0, 0)) (a6_) hb) (blk_below (g := gb133) (o := .cells #[.string x134000_1, .int .i64 x134001_1, .bool true] 97 (0, 0)) (a11_) hb) (blk_below (g := gb146) (o := .cells #[.string t139, .int .i64 t140, .bool t141] 97 (0, 0)) (a19_) hb) (IsS123.below (a15_) hb) (KeepBut.trans (a16_) (KeepBut.of_below hb g none) (.inl rfl)) (below_step (a17_) hb)
                   clear BK125 BK133 BK146 HI0 HK HB
                   obtain ⟨BK125, BK133, BK146, HI0, HK, HB⟩ := n_
                   (try clear hb)
                   (try clear hb2)
                   (try clear hk)
                   (try clear hi)
                   refine hK.out _ _ ⟨(blk_cell BK133.out 0).trans rfl, (blk_cell BK133.out 1).trans rfl, (blk_cell BK133.out 2).trans rfl, (blk_cell BK146.out 0).trans rfl, (blk_cell BK146.out 1).trans rfl, (blk_cell BK146.out 2).trans rfl⟩ (fun hHeld => ?_)
                   clear hK K
                   refine norm_ (a' := ?_) ?_ ?_
                   rotate_left
                   ·show Act.put _ (some 41) _ = _
                    simp only [pt_]
                    rfl
                   exact norm_ (a20_) (hJ2 () _ ⟨hHeld, (a6_), (a11_), (a19_), (a15_), (a16_), (a17_)⟩)
                  ·skip
                   refine Kd.R_lit_step (Kd.int .u8) _ 5 ?hg (N := 43) ?hd (xs := ([a2] : List Int)) (inner := [.int .u8 a2]) (ok := fun _ => True) (okp := fun _ => True) ?hr ?hp (fun _ hk => hk) trivial (Below.refl _ _) (Nat.le_refl _) (by simp) ?_; (case hd => rfl); (case hg => rfl); (case hr => first | (go_simp; done) | (go_simp; rfl)); (case hp => exact (Reps.one (show Kd.M (Kd.int .u8) _ _ _ a2 [.int .u8 a2] from rfl) (Reps.none _ _)))
                   intro v149 w49 ho50 hb hg_ hnew_
                   clear hg_ hnew_
                   (first | rw [← Ny148.out] at ho50 | (simp only [Int.reduceToNat] at ho50; rw [← Ny148.out] at ho50))
                   have n_ := c7_ (Kd.R_lower ho50 (keep_size (w := w) (g := g) (row := none) (a16_))) (blk_below (g := gb125) (o := .cells #[.string (⟨#[]⟩ : ByteArray), .int .i64 0, .bool false] 97 (0, 0)) (a6_) hb) (blk_below (g := gb133) (o := .cells #[.string x134000_1, .int .i64 x134001_1, .bool true] 97 (0, 0)) (a11_) hb) (blk_below (g := gb146) (o := .cells #[.string t139, .int .i64 t140, .bool t141] 97 (0, 0)) (a19_) hb) (IsS123.below (a15_) hb) (KeepBut.trans (a16_) (KeepBut.of_below hb g none) (.inl rfl)) (below_step (a17_) hb)
                   clear BK125 BK133 BK146 HI0 HK HB
                   obtain ⟨HO150, BK125, BK133, BK146, HI0, HK, HB⟩ := n_
                   clear hb ho50
                   refine hK.out _ _ ⟨(blk_cell BK133.out 0).trans rfl, (blk_cell BK133.out 1).trans rfl, (blk_cell BK133.out 2).trans rfl, (blk_cell BK146.out 0).trans rfl, (blk_cell BK146.out 1).trans rfl, (blk_cell BK146.out 2).trans rfl⟩ (fun hHeld => ?_)
                   clear hK K
                   refine norm_ (a' := ?_) ?_ ?_
                   rotate_left
                   ·show Act.put _ (some 43) _ = _
                    simp only [pt_]
                    rfl
                   exact norm_ (a20_) (hJ4 (v149) _ ⟨hHeld, (a21_), (a6_), (a11_), (a19_), (a15_), (a16_), (a17_)⟩)
                 ·skip
                  rintro v149 w51 ⟨hS_, h0_, h1_, h2_, h3_, h4_, h5_, h6_⟩
                  have n_ := c7_ (show Kd.R (Kd.int .u8) 5 w51 w.heap.size (fun _ => True) v149 y148 from h0_) (show w51.heap[gb125]? = some (.cells #[.string (⟨#[]⟩ : ByteArray), .int .i64 0, .bool false] 97 (0, 0)) from h1_) (show w51.heap[gb133]? = some (.cells #[.string x134000_1, .int .i64 x134001_1, .bool true] 97 (0, 0)) from h2_) (show w51.heap[gb146]? = some (.cells #[.string t139, .int .i64 t140, .bool t141] 97 (0, 0)) from h3_) (show IsS123 w0 w51 g t142 t143 t144 t145 from h4_) (show KeepBut w w51 g none from h5_) (show Below w0.heap.size w0 w51 from h6_)
                  clear BK125 BK133 BK146 HI0 HK HB h0_ h1_ h2_ h3_ h4_ h5_ h6_
                  obtain ⟨HO150, BK125, BK133, BK146, HI0, HK, HB⟩ := n_
                  have hHeld : w51.cell? ⟨gb133, 0, none⟩ = some (.string x134000_1) ∧ w51.cell? ⟨gb133, 1, none⟩ = some (.int .i64 x134001_1) ∧ w51.cell? ⟨gb133, 2, none⟩ = some (.bool true) ∧ w51.cell? ⟨gb146, 0, none⟩ = some (.string t139) ∧ w51.cell? ⟨gb146, 1, none⟩ = some (.int .i64 t140) ∧ w51.cell? ⟨gb146, 2, none⟩ = some (.bool t141) := hS_
                  refine norm_ (a' := ?_) ?_ ?_
                  rotate_left
                  ·simp only [putAll, Act.put, List.setIfInBounds_toArray, List.set_cons_zero, List.set_cons_succ]
                   rfl
                  refine two_ (i := 2) (j := 5) (Ni := some 41) (Nj := some 44) (bs_ 15 6559) (bs_ 15 6587) rfl rfl rfl rfl (two_of HT_.out (by kernel_rfl)) (by decide) (by decide) (fun K hK => ?_) (fun K hK => ?_)
                  ·skip
                   refine goes_ Try.func94 (by kernel_rfl) rfl #[.agg #[.string x134000_1, .int .i64 x134001_1, .bool true], .int .i64 a1] (by rfl) rfl rfl (a3_) ?_
                   with_reducible refine (spec_l08In.calls x134000_1 x134001_1 true a1 t147 _ A37.out).mono ?_
                   rintro e w52 ⟨rfl, hb⟩
                   refine ⟨_, rfl, ?_⟩
                   have n_ := c7_ (Kd.R_below (a21_) hb) (blk_below (g := gb125) (o := .cells #[.string (⟨#[]⟩ : ByteArray), .int .i64 0, .bool false] 97 (0, 0)) (a6_) hb) (blk_below (g := gb133) (o := .cells #[.string x134000_1, .int .i64 x134001_1, .bool true] 97 (0, 0)) (a11_) hb) (blk_below (g := gb146) (o := .cells #[.string t139, .int .i64 t140, .bool t141] 97 (0, 0)) (a19_) hb) (IsS123.below (a15_) hb) (KeepBut.trans (a16_) (KeepBut.of_below hb g none) (.inl rfl)) (below_step (a17_) hb)
                   clear HO150 BK125 BK133 BK146 HI0 HK HB
                   obtain ⟨HO150, BK125, BK133, BK146, HI0, HK, HB⟩ := n_
                   (try clear hb)
                   (try clear hb2)
                   (try clear hk)
                   (try clear hi)
                   refine hK.out _ _ ⟨(blk_cell BK133.out 0).trans rfl, (blk_cell BK133.out 1).trans rfl, (blk_cell BK133.out 2).trans rfl, (blk_cell BK146.out 0).trans rfl, (blk_cell BK146.out 1).trans rfl, (blk_cell BK146.out 2).trans rfl⟩ (fun hHeld => ?_)
                   clear hK K
                   refine norm_ (a' := ?_) ?_ ?_
                   rotate_left
                   ·show Act.put _ (some 41) _ = _
                    simp only [pt_]
                    rfl
                   exact norm_ (a20_) (hJ2_4 (v149) _ ⟨hHeld, (a21_), (a6_), (a11_), (a19_), (a15_), (a16_), (a17_)⟩)
                  ·skip
                   have hcv52 := own_string (P := Try.prog) Try.underlying107 Try.underlying5 Try.underlying9 (Kd.own_of_R HO150.out)
                   refine value_ (w1 := ?_) (v := ?_) (by rfl) rfl ?_ ?_
                   rotate_left 2
                   ·go_simp
                    constructor
                    ·rfl
                    ·rfl
                   clear hcv52
                   refine hK.out _ _ ⟨(blk_cell BK133.out 0).trans rfl, (blk_cell BK133.out 1).trans rfl, (blk_cell BK133.out 2).trans rfl, (blk_cell BK146.out 0).trans rfl, (blk_cell BK146.out 1).trans rfl, (blk_cell BK146.out 2).trans rfl⟩ (fun hHeld => ?_)
                   clear hK K
                   refine norm_ (a' := ?_) ?_ ?_
                   rotate_left
                   ·show Act.put _ (some 44) _ = _
                    simp only [pt_]
                    rfl
                   exact norm_ (a20_) (hJ4_5 (v149) _ ⟨hHeld, (a21_), (a6_), (a11_), (a19_), (a15_), (a16_), (a17_)⟩)
                ·skip
                 rintro _ w50 ⟨hS_, h0_, h1_, h2_, h3_, h4_, h5_⟩
                 have n_ := c6_ (show w50.heap[gb125]? = some (.cells #[.string (⟨#[]⟩ : ByteArray), .int .i64 0, .bool false] 97 (0, 0)) from h0_) (show w50.heap[gb133]? = some (.cells #[.string x134000_1, .int .i64 x134001_1, .bool true] 97 (0, 0)) from h1_) (show w50.heap[gb146]? = some (.cells #[.string t139, .int .i64 t140, .bool t141] 97 (0, 0)) from h2_) (show IsS123 w0 w50 g t142 t143 t144 t145 from h3_) (show KeepBut w w50 g none from h4_) (show Below w0.heap.size w0 w50 from h5_)
                 clear BK125 BK133 BK146 HI0 HK HB h0_ h1_ h2_ h3_ h4_ h5_
                 obtain ⟨BK125, BK133, BK146, HI0, HK, HB⟩ := n_
                 have hHeld : w50.cell? ⟨gb133, 0, none⟩ = some (.string x134000_1) ∧ w50.cell? ⟨gb133, 1, none⟩ = some (.int .i64 x134001_1) ∧ w50.cell? ⟨gb133, 2, none⟩ = some (.bool true) ∧ w50.cell? ⟨gb146, 0, none⟩ = some (.string t139) ∧ w50.cell? ⟨gb146, 1, none⟩ = some (.int .i64 t140) ∧ w50.cell? ⟨gb146, 2, none⟩ = some (.bool t141) := hS_
                 refine norm_ (a' := ?_) ?_ ?_
                 rotate_left
                 ·simp only [putAll, Act.put, List.setIfInBounds_toArray, List.set_cons_zero, List.set_cons_succ]
                  rfl
                 refine two_ (i := 4) (j := 9) (Ni := some 43) (Nj := some 48) (bs_ 15 6559) (bs_ 15 7055) rfl rfl rfl rfl (two_of HT_.out (by kernel_rfl)) (by decide) (by decide) (fun K hK => ?_) (fun K hK => ?_)
                 ·skip
                  refine Kd.R_lit_step (Kd.int .u8) _ 5 ?hg (N := 43) ?hd (xs := ([a2] : List Int)) (inner := [.int .u8 a2]) (ok := fun _ => True) (okp := fun _ => True) ?hr ?hp (fun _ hk => hk) trivial (Below.refl _ _) (Nat.le_refl _) (by simp) ?_; (case hd => rfl); (case hg => rfl); (case hr => first | (go_simp; done) | (go_simp; rfl)); (case hp => exact (Reps.one (show Kd.M (Kd.int .u8) _ _ _ a2 [.int .u8 a2] from rfl) (Reps.none _ _)))
                  intro v149 w51 ho52 hb hg_ hnew_
                  clear hg_ hnew_
                  (first | rw [← Ny148.out] at ho52 | (simp only [Int.reduceToNat] at ho52; rw [← Ny148.out] at ho52))
                  have n_ := c7_ (Kd.R_lower ho52 (keep_size (w := w) (g := g) (row := none) (a16_))) (blk_below (g := gb125) (o := .cells #[.string (⟨#[]⟩ : ByteArray), .int .i64 0, .bool false] 97 (0, 0)) (a6_) hb) (blk_below (g := gb133) (o := .cells #[.string x134000_1, .int .i64 x134001_1, .bool true] 97 (0, 0)) (a11_) hb) (blk_below (g := gb146) (o := .cells #[.string t139, .int .i64 t140, .bool t141] 97 (0, 0)) (a19_) hb) (IsS123.below (a15_) hb) (KeepBut.trans (a16_) (KeepBut.of_below hb g none) (.inl rfl)) (below_step (a17_) hb)
                  clear BK125 BK133 BK146 HI0 HK HB
                  obtain ⟨HO150, BK125, BK133, BK146, HI0, HK, HB⟩ := n_
                  clear hb ho52
                  refine hK.out _ _ ⟨(blk_cell BK133.out 0).trans rfl, (blk_cell BK133.out 1).trans rfl, (blk_cell BK133.out 2).trans rfl, (blk_cell BK146.out 0).trans rfl, (blk_cell BK146.out 1).trans rfl, (blk_cell BK146.out 2).trans rfl⟩ (fun hHeld => ?_)
                  clear hK K
                  refine norm_ (a' := ?_) ?_ ?_
                  rotate_left
                  ·show Act.put _ (some 43) _ = _
                   simp only [pt_]
                   rfl
                  exact norm_ (a20_) (hJ2_4 (v149) _ ⟨hHeld, (a21_), (a6_), (a11_), (a19_), (a15_), (a16_), (a17_)⟩)
                 ·skip
                  refine goes_ Try.func94 (by kernel_rfl) rfl #[.agg #[.string t139, .int .i64 t140, .bool t141], .int .i64 a1] (by rfl) rfl rfl (a3_) ?_
                  with_reducible refine (spec_l08In.calls t139 t140 t141 a1 t151 _ A39.out).mono ?_
                  rintro e w51 ⟨rfl, hb⟩
                  refine ⟨_, rfl, ?_⟩
                  have n_ := c6_ (blk_below (g := gb125) (o := .cells #[.string (⟨#[]⟩ : ByteArray), .int .i64 0, .bool false] 97 (0, 0)) (a6_) hb) (blk_below (g := gb133) (o := .cells #[.string x134000_1, .int .i64 x134001_1, .bool true] 97 (0, 0)) (a11_) hb) (blk_below (g := gb146) (o := .cells #[.string t139, .int .i64 t140, .bool t141] 97 (0, 0)) (a19_) hb) (IsS123.below (a15_) hb) (KeepBut.trans (a16_) (KeepBut.of_below hb g none) (.inl rfl)) (below_step (a17_) hb)
                  clear BK125 BK133 BK146 HI0 HK HB
                  obtain ⟨BK125, BK133, BK146, HI0, HK, HB⟩ := n_
                  (try clear hb)
                  (try clear hb2)
                  (try clear hk)
                  (try clear hi)
                  refine hK.out _ _ ⟨(blk_cell BK133.out 0).trans rfl, (blk_cell BK133.out 1).trans rfl, (blk_cell BK133.out 2).trans rfl, (blk_cell BK146.out 0).trans rfl, (blk_cell BK146.out 1).trans rfl, (blk_cell BK146.out 2).trans rfl⟩ (fun hHeld => ?_)
                  clear hK K
                  refine norm_ (a' := ?_) ?_ ?_
                  rotate_left
                  ·show Act.put _ (some 48) _ = _
                   simp only [pt_]
                   rfl
                  exact norm_ (a20_) (hJ2_9 () _ ⟨hHeld, (a6_), (a11_), (a19_), (a15_), (a16_), (a17_)⟩)
               ·skip
                rintro v149 w52 ⟨hS_, h0_, h1_, h2_, h3_, h4_, h5_, h6_⟩
                have n_ := c7_ (show Kd.R (Kd.int .u8) 5 w52 w.heap.size (fun _ => True) v149 y148 from h0_) (show w52.heap[gb125]? = some (.cells #[.string (⟨#[]⟩ : ByteArray), .int .i64 0, .bool false] 97 (0, 0)) from h1_) (show w52.heap[gb133]? = some (.cells #[.string x134000_1, .int .i64 x134001_1, .bool true] 97 (0, 0)) from h2_) (show w52.heap[gb146]? = some (.cells #[.string t139, .int .i64 t140, .bool t141] 97 (0, 0)) from h3_) (show IsS123 w0 w52 g t142 t143 t144 t145 from h4_) (show KeepBut w w52 g none from h5_) (show Below w0.heap.size w0 w52 from h6_)
                clear BK125 BK133 BK146 HI0 HK HB h0_ h1_ h2_ h3_ h4_ h5_ h6_
                obtain ⟨HO150, BK125, BK133, BK146, HI0, HK, HB⟩ := n_
                have hHeld : w52.cell? ⟨gb133, 0, none⟩ = some (.string x134000_1) ∧ w52.cell? ⟨gb133, 1, none⟩ = some (.int .i64 x134001_1) ∧ w52.cell? ⟨gb133, 2, none⟩ = some (.bool true) ∧ w52.cell? ⟨gb146, 0, none⟩ = some (.string t139) ∧ w52.cell? ⟨gb146, 1, none⟩ = some (.int .i64 t140) ∧ w52.cell? ⟨gb146, 2, none⟩ = some (.bool t141) := hS_
                refine norm_ (a' := ?_) ?_ ?_
                rotate_left
                ·simp only [putAll, Act.put, List.setIfInBounds_toArray, List.set_cons_zero, List.set_cons_succ]
                 rfl
                refine one_ (i := 2) (N := some 41) (bs_ 15 6591) rfl rfl (one_of HT_.out (by kernel_rfl)) (by decide) (fun K hK => ?_)
                refine goes_ Try.func94 (by kernel_rfl) rfl #[.agg #[.string x134000_1, .int .i64 x134001_1, .bool true], .int .i64 a1] (by rfl) rfl rfl (a3_) ?_
                with_reducible refine (spec_l08In.calls x134000_1 x134001_1 true a1 t147 _ A37.out).mono ?_
                rintro e w53 ⟨rfl, hb⟩
                refine ⟨_, rfl, ?_⟩
                have n_ := c7_ (Kd.R_below (a21_) hb) (blk_below (g := gb125) (o := .cells #[.string (⟨#[]⟩ : ByteArray), .int .i64 0, .bool false] 97 (0, 0)) (a6_) hb) (blk_below (g := gb133) (o := .cells #[.string x134000_1, .int .i64 x134001_1, .bool true] 97 (0, 0)) (a11_) hb) (blk_below (g := gb146) (o := .cells #[.string t139, .int .i64 t140, .bool t141] 97 (0, 0)) (a19_) hb) (IsS123.below (a15_) hb) (KeepBut.trans (a16_) (KeepBut.of_below hb g none) (.inl rfl)) (below_step (a17_) hb)
                clear HO150 BK125 BK133 BK146 HI0 HK HB
                obtain ⟨HO150, BK125, BK133, BK146, HI0, HK, HB⟩ := n_
                (try clear hb)
                (try clear hb2)
                (try clear hk)
                (try clear hi)
                refine hK.out _ _ ⟨(blk_cell BK133.out 0).trans rfl, (blk_cell BK133.out 1).trans rfl, (blk_cell BK133.out 2).trans rfl, (blk_cell BK146.out 0).trans rfl, (blk_cell BK146.out 1).trans rfl, (blk_cell BK146.out 2).trans rfl⟩ (fun hHeld => ?_)
                clear hK K
                refine norm_ (a' := ?_) ?_ ?_
                rotate_left
                ·show Act.put _ (some 41) _ = _
                 simp only [pt_]
                 rfl
                refine pu_ (i := 6) (N := some 45) 6655 rfl rfl HT_ (Or.inl ⟨by rfl, by intro w'; go_simp; with_reducible rfl⟩) (by simp only [pt_]; rfl) ?_
                exact norm_ (a20_) (hJ2_4_5 (v149) _ ⟨hHeld, (a21_), (a6_), (a11_), (a19_), (a15_), (a16_), (a17_)⟩)
              ·skip
               rintro _ w51 ⟨hS_, h0_, h1_, h2_, h3_, h4_, h5_⟩
               have n_ := c6_ (show w51.heap[gb125]? = some (.cells #[.string (⟨#[]⟩ : ByteArray), .int .i64 0, .bool false] 97 (0, 0)) from h0_) (show w51.heap[gb133]? = some (.cells #[.string x134000_1, .int .i64 x134001_1, .bool true] 97 (0, 0)) from h1_) (show w51.heap[gb146]? = some (.cells #[.string t139, .int .i64 t140, .bool t141] 97 (0, 0)) from h2_) (show IsS123 w0 w51 g t142 t143 t144 t145 from h3_) (show KeepBut w w51 g none from h4_) (show Below w0.heap.size w0 w51 from h5_)
               clear BK125 BK133 BK146 HI0 HK HB h0_ h1_ h2_ h3_ h4_ h5_
               obtain ⟨BK125, BK133, BK146, HI0, HK, HB⟩ := n_
               have hHeld : w51.cell? ⟨gb133, 0, none⟩ = some (.string x134000_1) ∧ w51.cell? ⟨gb133, 1, none⟩ = some (.int .i64 x134001_1) ∧ w51.cell? ⟨gb133, 2, none⟩ = some (.bool true) ∧ w51.cell? ⟨gb146, 0, none⟩ = some (.string t139) ∧ w51.cell? ⟨gb146, 1, none⟩ = some (.int .i64 t140) ∧ w51.cell? ⟨gb146, 2, none⟩ = some (.bool t141) := hS_
               refine norm_ (a' := ?_) ?_ ?_
               rotate_left
               ·simp only [putAll, Act.put, List.setIfInBounds_toArray, List.set_cons_zero, List.set_cons_succ]
                rfl
               refine one_ (i := 4) (N := some 43) (bs_ 15 7071) rfl rfl (one_of HT_.out (by kernel_rfl)) (by decide) (fun K hK => ?_)
               refine Kd.R_lit_step (Kd.int .u8) _ 5 ?hg (N := 43) ?hd (xs := ([a2] : List Int)) (inner := [.int .u8 a2]) (ok := fun _ => True) (okp := fun _ => True) ?hr ?hp (fun _ hk => hk) trivial (Below.refl _ _) (Nat.le_refl _) (by simp) ?_; (case hd => rfl); (case hg => rfl); (case hr => first | (go_simp; done) | (go_simp; rfl)); (case hp => exact (Reps.one (show Kd.M (Kd.int .u8) _ _ _ a2 [.int .u8 a2] from rfl) (Reps.none _ _)))
               intro v149 w52 ho53 hb hg_ hnew_
               clear hg_ hnew_
               (first | rw [← Ny148.out] at ho53 | (simp only [Int.reduceToNat] at ho53; rw [← Ny148.out] at ho53))
               have n_ := c7_ (Kd.R_lower ho53 (keep_size (w := w) (g := g) (row := none) (a16_))) (blk_below (g := gb125) (o := .cells #[.string (⟨#[]⟩ : ByteArray), .int .i64 0, .bool false] 97 (0, 0)) (a6_) hb) (blk_below (g := gb133) (o := .cells #[.string x134000_1, .int .i64 x134001_1, .bool true] 97 (0, 0)) (a11_) hb) (blk_below (g := gb146) (o := .cells #[.string t139, .int .i64 t140, .bool t141] 97 (0, 0)) (a19_) hb) (IsS123.below (a15_) hb) (KeepBut.trans (a16_) (KeepBut.of_below hb g none) (.inl rfl)) (below_step (a17_) hb)
               clear BK125 BK133 BK146 HI0 HK HB
               obtain ⟨HO150, BK125, BK133, BK146, HI0, HK, HB⟩ := n_
               clear hb ho53
               refine hK.out _ _ ⟨(blk_cell BK133.out 0).trans rfl, (blk_cell BK133.out 1).trans rfl, (blk_cell BK133.out 2).trans rfl, (blk_cell BK146.out 0).trans rfl, (blk_cell BK146.out 1).trans rfl, (blk_cell BK146.out 2).trans rfl⟩ (fun hHeld => ?_)
               clear hK K
               refine norm_ (a' := ?_) ?_ ?_
               rotate_left
               ·show Act.put _ (some 43) _ = _
                simp only [pt_]
                rfl
               exact norm_ (a20_) (hJ2_4_9 (v149) _ ⟨hHeld, (a21_), (a6_), (a11_), (a19_), (a15_), (a16_), (a17_)⟩)
             ·skip
              rintro v149 w52 ⟨hS_, h0_, h1_, h2_, h3_, h4_, h5_, h6_⟩
              have n_ := c7_ (show Kd.R (Kd.int .u8) 5 w52 w.heap.size (fun _ => True) v149 y148 from h0_) (show w52.heap[gb125]? = some (.cells #[.string (⟨#[]⟩ : ByteArray), .int .i64 0, .bool false] 97 (0, 0)) from h1_) (show w52.heap[gb133]? = some (.cells #[.string x134000_1, .int .i64 x134001_1, .bool true] 97 (0, 0)) from h2_) (show w52.heap[gb146]? = some (.cells #[.string t139, .int .i64 t140, .bool t141] 97 (0, 0)) from h3_) (show IsS123 w0 w52 g t142 t143 t144 t145 from h4_) (show KeepBut w w52 g none from h5_) (show Below w0.heap.size w0 w52 from h6_)
              clear BK125 BK133 BK146 HI0 HK HB h0_ h1_ h2_ h3_ h4_ h5_ h6_
              obtain ⟨HO150, BK125, BK133, BK146, HI0, HK, HB⟩ := n_
              have hHeld : w52.cell? ⟨gb133, 0, none⟩ = some (.string x134000_1) ∧ w52.cell? ⟨gb133, 1, none⟩ = some (.int .i64 x134001_1) ∧ w52.cell? ⟨gb133, 2, none⟩ = some (.bool true) ∧ w52.cell? ⟨gb146, 0, none⟩ = some (.string t139) ∧ w52.cell? ⟨gb146, 1, none⟩ = some (.int .i64 t140) ∧ w52.cell? ⟨gb146, 2, none⟩ = some (.bool t141) := hS_
              refine norm_ (a' := ?_) ?_ ?_
              rotate_left
              ·simp only [putAll, Act.put, List.setIfInBounds_toArray, List.set_cons_zero, List.set_cons_succ]
               rfl
              refine two_ (i := 5) (j := 9) (Ni := some 44) (Nj := some 48) (bs_ 15 6591) (bs_ 15 7071) rfl rfl rfl rfl (two_of HT_.out (by kernel_rfl)) (by decide) (by decide) (fun K hK => ?_) (fun K hK => ?_)
              ·skip
               have hcv53 := own_string (P := Try.prog) Try.underlying107 Try.underlying5 Try.underlying9 (Kd.own_of_R HO150.out)
               refine value_ (w1 := ?_) (v := ?_) (by rfl) rfl ?_ ?_
               rotate_left 2
               ·go_simp
                constructor
                ·rfl
                ·rfl
               clear hcv53
               refine hK.out _ _ ⟨(blk_cell BK133.out 0).trans rfl, (blk_cell BK133.out 1).trans rfl, (blk_cell BK133.out 2).trans rfl, (blk_cell BK146.out 0).trans rfl, (blk_cell BK146.out 1).trans rfl, (blk_cell BK146.out 2).trans rfl⟩ (fun hHeld => ?_)
               clear hK K
               refine norm_ (a' := ?_) ?_ ?_
               rotate_left
               ·show Act.put _ (some 44) _ = _
                simp only [pt_]
                rfl
               refine pu_ (i := 6) (N := some 45) 6655 rfl rfl HT_ (Or.inl ⟨by rfl, by intro w'; go_simp; with_reducible rfl⟩) (by simp only [pt_]; rfl) ?_
               exact norm_ (a20_) (hJ2_4_5 (v149) _ ⟨hHeld, (a21_), (a6_), (a11_), (a19_), (a15_), (a16_), (a17_)⟩)
              ·skip
               refine goes_ Try.func94 (by kernel_rfl) rfl #[.agg #[.string t139, .int .i64 t140, .bool t141], .int .i64 a1] (by rfl) rfl rfl (a3_) ?_
               with_reducible refine (spec_l08In.calls t139 t140 t141 a1 t151 _ A39.out).mono ?_
               rintro e w53 ⟨rfl, hb⟩
               refine ⟨_, rfl, ?_⟩
               have n_ := c7_ (Kd.R_below (a21_) hb) (blk_below (g := gb125) (o := .cells #[.string (⟨#[]⟩ : ByteArray), .int .i64 0, .bool false] 97 (0, 0)) (a6_) hb) (blk_below (g := gb133) (o := .cells #[.string x134000_1, .int .i64 x134001_1, .bool true] 97 (0, 0)) (a11_) hb) (blk_below (g := gb146) (o := .cells #[.string t139, .int .i64 t140, .bool t141] 97 (0, 0)) (a19_) hb) (IsS123.below (a15_) hb) (KeepBut.trans (a16_) (KeepBut.of_below hb g none) (.inl rfl)) (below_step (a17_) hb)
               clear HO150 BK125 BK133 BK146 HI0 HK HB
               obtain ⟨HO150, BK125, BK133, BK146, HI0, HK, HB⟩ := n_
               (try clear hb)
               (try clear hb2)
               (try clear hk)
               (try clear hi)
               refine hK.out _ _ ⟨(blk_cell BK133.out 0).trans rfl, (blk_cell BK133.out 1).trans rfl, (blk_cell BK133.out 2).trans rfl, (blk_cell BK146.out 0).trans rfl, (blk_cell BK146.out 1).trans rfl, (blk_cell BK146.out 2).trans rfl⟩ (fun hHeld => ?_)
               clear hK K
               refine norm_ (a' := ?_) ?_ ?_
               rotate_left
               ·show Act.put _ (some 48) _ = _
                simp only [pt_]
                rfl
               exact norm_ (a20_) (hJ2_4_9 (v149) _ ⟨hHeld, (a21_), (a6_), (a11_), (a19_), (a15_), (a16_), (a17_)⟩)
            ·skip
             rintro v149 w53 ⟨hS_, h0_, h1_, h2_, h3_, h4_, h5_, h6_⟩
             have n_ := c7_ (show Kd.R (Kd.int .u8) 5 w53 w.heap.size (fun _ => True) v149 y148 from h0_) (show w53.heap[gb125]? = some (.cells #[.string (⟨#[]⟩ : ByteArray), .int .i64 0, .bool false] 97 (0, 0)) from h1_) (show w53.heap[gb133]? = some (.cells #[.string x134000_1, .int .i64 x134001_1, .bool true] 97 (0, 0)) from h2_) (show w53.heap[gb146]? = some (.cells #[.string t139, .int .i64 t140, .bool t141] 97 (0, 0)) from h3_) (show IsS123 w0 w53 g t142 t143 t144 t145 from h4_) (show KeepBut w w53 g none from h5_) (show Below w0.heap.size w0 w53 from h6_)
             clear BK125 BK133 BK146 HI0 HK HB h0_ h1_ h2_ h3_ h4_ h5_ h6_
             obtain ⟨HO150, BK125, BK133, BK146, HI0, HK, HB⟩ := n_
             have hHeld : w53.cell? ⟨gb133, 0, none⟩ = some (.string x134000_1) ∧ w53.cell? ⟨gb133, 1, none⟩ = some (.int .i64 x134001_1) ∧ w53.cell? ⟨gb133, 2, none⟩ = some (.bool true) ∧ w53.cell? ⟨gb146, 0, none⟩ = some (.string t139) ∧ w53.cell? ⟨gb146, 1, none⟩ = some (.int .i64 t140) ∧ w53.cell? ⟨gb146, 2, none⟩ = some (.bool t141) := hS_
             refine norm_ (a' := ?_) ?_ ?_
             rotate_left
             ·simp only [putAll, Act.put, List.setIfInBounds_toArray, List.set_cons_zero, List.set_cons_succ]
              rfl
             refine one_ (i := 5) (N := some 44) (bs_ 15 7103) rfl rfl (one_of HT_.out (by kernel_rfl)) (by decide) (fun K hK => ?_)
             have hcv54 := own_string (P := Try.prog) Try.underlying107 Try.underlying5 Try.underlying9 (Kd.own_of_R HO150.out)
             refine value_ (w1 := ?_) (v := ?_) (by rfl) rfl ?_ ?_
             rotate_left 2
             ·go_simp
              constructor
              ·rfl
              ·rfl
             clear hcv54
             refine hK.out _ _ ⟨(blk_cell BK133.out 0).trans rfl, (blk_cell BK133.out 1).trans rfl, (blk_cell BK133.out 2).trans rfl, (blk_cell BK146.out 0).trans rfl, (blk_cell BK146.out 1).trans rfl, (blk_cell BK146.out 2).trans rfl⟩ (fun hHeld => ?_)
             clear hK K
             refine norm_ (a' := ?_) ?_ ?_
             rotate_left
             ·show Act.put _ (some 44) _ = _
              simp only [pt_]
              rfl
             refine pu_ (i := 6) (N := some 45) 7167 rfl rfl HT_ (Or.inl ⟨by rfl, by intro w'; go_simp; with_reducible rfl⟩) (by simp only [pt_]; rfl) ?_
             exact norm_ (a20_) (hJ2_4_5_9 (v149) _ ⟨hHeld, (a21_), (a6_), (a11_), (a19_), (a15_), (a16_), (a17_)⟩)
           ·skip
            rintro v149 w53 ⟨hS_, h0_, h1_, h2_, h3_, h4_, h5_, h6_⟩
            have n_ := c7_ (show Kd.R (Kd.int .u8) 5 w53 w.heap.size (fun _ => True) v149 y148 from h0_) (show w53.heap[gb125]? = some (.cells #[.string (⟨#[]⟩ : ByteArray), .int .i64 0, .bool false] 97 (0, 0)) from h1_) (show w53.heap[gb133]? = some (.cells #[.string x134000_1, .int .i64 x134001_1, .bool true] 97 (0, 0)) from h2_) (show w53.heap[gb146]? = some (.cells #[.string t139, .int .i64 t140, .bool t141] 97 (0, 0)) from h3_) (show IsS123 w0 w53 g t142 t143 t144 t145 from h4_) (show KeepBut w w53 g none from h5_) (show Below w0.heap.size w0 w53 from h6_)
            clear BK125 BK133 BK146 HI0 HK HB h0_ h1_ h2_ h3_ h4_ h5_ h6_
            obtain ⟨HO150, BK125, BK133, BK146, HI0, HK, HB⟩ := n_
            have hHeld : w53.cell? ⟨gb133, 0, none⟩ = some (.string x134000_1) ∧ w53.cell? ⟨gb133, 1, none⟩ = some (.int .i64 x134001_1) ∧ w53.cell? ⟨gb133, 2, none⟩ = some (.bool true) ∧ w53.cell? ⟨gb146, 0, none⟩ = some (.string t139) ∧ w53.cell? ⟨gb146, 1, none⟩ = some (.int .i64 t140) ∧ w53.cell? ⟨gb146, 2, none⟩ = some (.bool t141) := hS_
            refine norm_ (a' := ?_) ?_ ?_
            rotate_left
            ·simp only [putAll, Act.put, List.setIfInBounds_toArray, List.set_cons_zero, List.set_cons_succ]
             rfl
            refine one_ (i := 9) (N := some 48) (bs_ 15 7167) rfl rfl (one_of HT_.out (by kernel_rfl)) (by decide) (fun K hK => ?_)
            refine goes_ Try.func94 (by kernel_rfl) rfl #[.agg #[.string t139, .int .i64 t140, .bool t141], .int .i64 a1] (by rfl) rfl rfl (a3_) ?_
            with_reducible refine (spec_l08In.calls t139 t140 t141 a1 t151 _ A39.out).mono ?_
            rintro e w54 ⟨rfl, hb⟩
            refine ⟨_, rfl, ?_⟩
            have n_ := c7_ (Kd.R_below (a21_) hb) (blk_below (g := gb125) (o := .cells #[.string (⟨#[]⟩ : ByteArray), .int .i64 0, .bool false] 97 (0, 0)) (a6_) hb) (blk_below (g := gb133) (o := .cells #[.string x134000_1, .int .i64 x134001_1, .bool true] 97 (0, 0)) (a11_) hb) (blk_below (g := gb146) (o := .cells #[.string t139, .int .i64 t140, .bool t141] 97 (0, 0)) (a19_) hb) (IsS123.below (a15_) hb) (KeepBut.trans (a16_) (KeepBut.of_below hb g none) (.inl rfl)) (below_step (a17_) hb)
            clear HO150 BK125 BK133 BK146 HI0 HK HB
            obtain ⟨HO150, BK125, BK133, BK146, HI0, HK, HB⟩ := n_
            (try clear hb)
            (try clear hb2)
            (try clear hk)
            (try clear hi)
            refine hK.out _ _ ⟨(blk_cell BK133.out 0).trans rfl, (blk_cell BK133.out 1).trans rfl, (blk_cell BK133.out 2).trans rfl, (blk_cell BK146.out 0).trans rfl, (blk_cell BK146.out 1).trans rfl, (blk_cell BK146.out 2).trans rfl⟩ (fun hHeld => ?_)
            clear hK K
            refine norm_ (a' := ?_) ?_ ?_
            rotate_left
            ·show Act.put _ (some 48) _ = _
             simp only [pt_]
             rfl
            exact norm_ (a20_) (hJ2_4_5_9 (v149) _ ⟨hHeld, (a21_), (a6_), (a11_), (a19_), (a15_), (a16_), (a17_)⟩)
          rintro v149 w54 ⟨hS_, h0_, h1_, h2_, h3_, h4_, h5_, h6_⟩
          have n_ := c7_ (show Kd.R (Kd.int .u8) 5 w54 w.heap.size (fun _ => True) v149 y148 from h0_) (show w54.heap[gb125]? = some (.cells #[.string (⟨#[]⟩ : ByteArray), .int .i64 0, .bool false] 97 (0, 0)) from h1_) (show w54.heap[gb133]? = some (.cells #[.string x134000_1, .int .i64 x134001_1, .bool true] 97 (0, 0)) from h2_) (show w54.heap[gb146]? = some (.cells #[.string t139, .int .i64 t140, .bool t141] 97 (0, 0)) from h3_) (show IsS123 w0 w54 g t142 t143 t144 t145 from h4_) (show KeepBut w w54 g none from h5_) (show Below w0.heap.size w0 w54 from h6_)
          clear BK125 BK133 BK146 HI0 HK HB h0_ h1_ h2_ h3_ h4_ h5_ h6_
          obtain ⟨HO150, BK125, BK133, BK146, HI0, HK, HB⟩ := n_
          have hHeld : w54.cell? ⟨gb133, 0, none⟩ = some (.string x134000_1) ∧ w54.cell? ⟨gb133, 1, none⟩ = some (.int .i64 x134001_1) ∧ w54.cell? ⟨gb133, 2, none⟩ = some (.bool true) ∧ w54.cell? ⟨gb146, 0, none⟩ = some (.string t139) ∧ w54.cell? ⟨gb146, 1, none⟩ = some (.int .i64 t140) ∧ w54.cell? ⟨gb146, 2, none⟩ = some (.bool t141) := hS_
          refine norm_ (a' := ?_) ?_ ?_
          rotate_left
          ·simp only [putAll, Act.put, List.setIfInBounds_toArray, List.set_cons_zero, List.set_cons_succ]
           rfl
          refine pu_ (i := 10) (N := some 49) 8191 rfl rfl HT_ (Or.inl ⟨by rfl, by intro w'; go_simp; with_reducible rfl⟩) (by simp only [pt_]; rfl) ?_
          refine pu_ (i := 13) (N := some 52) 16383 rfl rfl HT_ (Or.inl ⟨by rfl, by intro w'; go_simp; with_reducible rfl⟩) (by simp only [pt_]; rfl) ?_
          refine last_ (i := 14) (N := none) (bs_ 15 32767) rfl rfl (one_of HT_.out (by kernel_rfl)) (by decide) (fun K hK => ?_)
          have hs55 : w54.cell? ⟨gb133, 0, none⟩ = some (.string x134000_1) := (blk_cell BK133.out 0).trans rfl
          have hfs55 := blk_frozen BK133.out 0
          have hns55_0 := NB125_133.out
          have hns55_2 := NB146_133.out
          have hms55_0 := NB133_125.out
          have hms55_2 := NB133_146.out
          have hs56 : w54.cell? ⟨gb133, 1, none⟩ = some (.int .i64 x134001_1) := (blk_cell BK133.out 1).trans rfl
          have hfs56 := blk_frozen BK133.out 1
          have hns56_0 := NB125_133.out
          have hns56_2 := NB146_133.out
          have hms56_0 := NB133_125.out
          have hms56_2 := NB133_146.out
          have hs57 : w54.cell? ⟨gb133, 2, none⟩ = some (.bool true) := (blk_cell BK133.out 2).trans rfl
          have hfs57 := blk_frozen BK133.out 2
          have hns57_0 := NB125_133.out
          have hns57_2 := NB146_133.out
          have hms57_0 := NB133_125.out
          have hms57_2 := NB133_146.out
          refine skip_ (w1 := ?_) (by rfl) rfl ?_ ?_
          rotate_left
          ·go_simp
           rfl
          refine hK.out _ _ ?_
          clear hK K
          refine done_ (done_of HT_.out (by kernel_rfl)) ?_
          try go_wp2
          go_roundg kj14
          case measure => have := HK1.out; have := HJ14.out; omega
          case rel => exact ⟨(t142), (t143), (t144), (t145), ((t147 ++ (strOfNums y148)) ++ t151), (a1), (t141), H', ⟨by have := HK1.out; have := HJ14.out; omega⟩, ⟨a7_⟩, ⟨by (with_reducible repeat (first | refine blk_drewN ?_ _ | refine blk_drew ?_ | refine blk_alloc ?_ _)); refine blk_put (cs := #[.string ((t147 ++ (strOfNums y148)) ++ t151), .int .i64 a1, .bool true]) ?_ 2 _ rfl; (with_reducible repeat (first | refine blk_drewN ?_ _ | refine blk_drew ?_ | refine blk_alloc ?_ _)); refine blk_put (cs := #[.string ((t147 ++ (strOfNums y148)) ++ t151), .int .i64 x134001_1, .bool true]) ?_ 1 _ rfl; (with_reducible repeat (first | refine blk_drewN ?_ _ | refine blk_drew ?_ | refine blk_alloc ?_ _)); refine blk_put (cs := #[.string x134000_1, .int .i64 x134001_1, .bool true]) ?_ 0 _ rfl; (with_reducible repeat (first | refine blk_drewN ?_ _ | refine blk_drew ?_ | refine blk_alloc ?_ _)); exact BK133.out⟩, ⟨a15_⟩, ⟨a16_⟩, ⟨a17_⟩⟩
         ·rw [if_neg c40] at H
          exact absurd H (by simp)
        ·rw [if_neg c38] at H
         exact absurd H (by simp)
       ·replace c36 := Bool.eq_false_iff.mpr c36
        subst c36
        rw [if_neg (show ¬ (false = true) by decide)] at H
        try dsimp only at H
        replace H := Option.bind_eq_some_iff.mp H
        obtain ⟨t152, A580, H⟩ := H
        try dsimp only at H
        have A58 := Aside0.mk A580
        clear A580
        obtain ⟨y153, hy153⟩ : ∃ y_ : List Int, y_ = (([a2] : List Int)) := ⟨_, rfl⟩
        replace H : (if t152.size + (strOfNums y153).size ≤ 9223372036854775807 then ((spec_l08In.f t139 t140 t141 a1).bind fun t156 => (if (t152 ++ (strOfNums y153)).size + t156.size ≤ 9223372036854775807 then (spec_l08Test_row.l0 kj14 a1 a2 l3 t142 t143 t144 t145 ((t152 ++ (strOfNums y153)) ++ t156) a1 false) else (none))) else (none)) = some (r1, r2, r3, r4, r5, r6, r7) := by first | (rw [hy153]; with_reducible exact H) | (have H2_ := (Option.bind_some _ _).symm.trans H; rw [hy153]; with_reducible exact H2_) | (have H2_ := (Option.bind_some _ _).symm.trans H; with_reducible exact H2_) | with_reducible exact H | (rw [hy153]; exact H) | exact H
        have Ny153 := Aside0.mk hy153
        clear hy153
        by_cases c59 : t152.size + (strOfNums y153).size ≤ 9223372036854775807
        ·rw [if_pos c59] at H
         have c59b0 := eq_true c59
         have c59b1 : decide (t152.size + (strOfNums y153).size ≤ 9223372036854775807) = true := decide_eq_true c59
         try have c59b2 : (9223372036854775807 < t152.size + (strOfNums y153).size) = False := eq_false (Nat.not_lt.2 c59)
         replace H := Option.bind_eq_some_iff.mp H
         obtain ⟨t156, A600, H⟩ := H
         try dsimp only at H
         have A60 := Aside0.mk A600
         clear A600
         by_cases c61 : (t152 ++ (strOfNums y153)).size + t156.size ≤ 9223372036854775807
         ·rw [if_pos c61] at H
          have c61b0 := eq_true c61
          have c61s : ((t152).size + (strOfNums y153).size) + ((t156).size) ≤ 9223372036854775807 := by (have h_ := c61; (try simp only [ByteArray.size_append] at h_); first | exact h_ | omega)
          try have c61t : (9223372036854775807 < ((t152).size + (strOfNums y153).size) + ((t156).size)) = False := eq_false (Nat.not_lt.2 c61s)
          have c61b1 : decide ((t152 ++ (strOfNums y153)).size + t156.size ≤ 9223372036854775807) = true := decide_eq_true c61
          try have c61b2 : (9223372036854775807 < (t152 ++ (strOfNums y153)).size + t156.size) = False := eq_false (Nat.not_lt.2 c61)
          have H' := Aside0.mk H
          clear H
          have hnb62 := NB133_125.out
          have hnc62 := NB125_133.out
          have hnb63 := NB133_146.out
          have hnc63 := NB146_133.out
          have hnb64 := NB133_0.out
          have hnc64 := NB0_133.out
          obtain ⟨hcz65_0, hcz65_1, hcz65_2, hfz65_0, hfz65_1, hfz65_2⟩ := cf3_ BK133.out
          try go_wp2
          have n_ := c6_ (blk_drew BK125.out) (blk_drew BK133.out) (blk_drew BK146.out) (IsS123.drew HI0.out) (keep_drew HK.out) (below_drew1 HB.out)
          clear BK125 BK133 BK146 HI0 HK HB
          obtain ⟨BK125, BK133, BK146, HI0, HK, HB⟩ := n_
          refine start_ (n := 15) (S := fun w' => w'.cell? ⟨gb133, 0, none⟩ = some (.string x134000_1) ∧ w'.cell? ⟨gb133, 1, none⟩ = some (.int .i64 x134001_1) ∧ w'.cell? ⟨gb133, 2, none⟩ = some (.bool false) ∧ w'.cell? ⟨gb146, 0, none⟩ = some (.string t139) ∧ w'.cell? ⟨gb146, 1, none⟩ = some (.int .i64 t140) ∧ w'.cell? ⟨gb146, 2, none⟩ = some (.bool t141)) (ds := [14]) (bs_ 15 0) (by kernel_rfl) (by kernel_rfl) (by kernel_rfl) ⟨(blk_cell BK133.out 0).trans rfl, (blk_cell BK133.out 1).trans rfl, (blk_cell BK133.out 2).trans rfl, (blk_cell BK146.out 0).trans rfl, (blk_cell BK146.out 1).trans rfl, (blk_cell BK146.out 2).trans rfl⟩ (fun hHeld => ?_); refine with_tabW spec_l08Test_row.tab7 spec_l08Test_row.bits7 (fun HT_ HW_ => ?_)
          generalize wc.drew = w66 at BK125 BK133 BK146 HI0 HK HB hHeld ⊢
          refine pu_ (i := 1) (N := some 40) 2 rfl rfl HT_ (Or.inl ⟨by rfl, by intro w'; go_simp; with_reducible rfl⟩) (by simp only [pt_]; rfl) ?_
          refine pu_ (i := 3) (N := some 42) 10 rfl rfl HT_ (Or.inl ⟨by rfl, by intro w'; go_simp; with_reducible rfl⟩) (by simp only [pt_]; rfl) ?_
          refine pu_ (i := 8) (N := some 47) 266 rfl rfl HT_ (Or.inl ⟨by rfl, by intro w'; go_simp; with_reducible rfl⟩) (by simp only [pt_]; rfl) ?_
          refine pu_ (i := 11) (N := some 50) 2314 rfl rfl HT_ (Or.inl ⟨by rfl, by intro w'; go_simp; with_reducible rfl⟩) (by simp only [pt_]; rfl) ?_
          refine pu_ (i := 12) (N := some 51) 6410 rfl rfl HT_ (Or.inl ⟨by rfl, by intro w'; go_simp; with_reducible rfl⟩) (by simp only [pt_]; rfl) ?_
          refine tk_ (i := 0) (N := some 39) 6411 rfl rfl HT_ HW_ (Or.inl ⟨by rfl, a18_⟩) hHeld (by simp only [pt_]; rfl) ?_
          refine tk_ (i := 7) (N := some 46) 6539 rfl rfl HT_ HW_ (Or.inl ⟨by rfl, a18_⟩) hHeld (by simp only [pt_]; rfl) ?_
          refine join_ (σ := Value) 3 (bs_ 15 7167) (fun s_ => [(41, .string t152), (43, s_), (44, .string (strOfNums y153)), (48, .string t156), (45, .string (t152 ++ (strOfNums y153)))]) (fun s_ w' => (w'.cell? ⟨gb133, 0, none⟩ = some (.string x134000_1) ∧ w'.cell? ⟨gb133, 1, none⟩ = some (.int .i64 x134001_1) ∧ w'.cell? ⟨gb133, 2, none⟩ = some (.bool false) ∧ w'.cell? ⟨gb146, 0, none⟩ = some (.string t139) ∧ w'.cell? ⟨gb146, 1, none⟩ = some (.int .i64 t140) ∧ w'.cell? ⟨gb146, 2, none⟩ = some (.bool t141)) ∧ (Kd.R (Kd.int .u8) 5 w' w.heap.size (fun _ => True) s_ y153) ∧ (w'.heap[gb125]? = some (.cells #[.string (⟨#[]⟩ : ByteArray), .int .i64 0, .bool false] 97 (0, 0))) ∧ (w'.heap[gb133]? = some (.cells #[.string x134000_1, .int .i64 x134001_1, .bool false] 97 (0, 0))) ∧ (w'.heap[gb146]? = some (.cells #[.string t139, .int .i64 t140, .bool t141] 97 (0, 0))) ∧ (IsS123 w0 w' g t142 t143 t144 t145) ∧ (KeepBut w w' g none) ∧ (Below w0.heap.size w0 w')) ?_ ?_
          rotate_left
          ·intro hJ2_4_5_9
           refine join_ (σ := Value) 4 (bs_ 15 6655) (fun s_ => [(41, .string t152), (43, s_), (44, .string (strOfNums y153)), (45, .string (t152 ++ (strOfNums y153)))]) (fun s_ w' => (w'.cell? ⟨gb133, 0, none⟩ = some (.string x134000_1) ∧ w'.cell? ⟨gb133, 1, none⟩ = some (.int .i64 x134001_1) ∧ w'.cell? ⟨gb133, 2, none⟩ = some (.bool false) ∧ w'.cell? ⟨gb146, 0, none⟩ = some (.string t139) ∧ w'.cell? ⟨gb146, 1, none⟩ = some (.int .i64 t140) ∧ w'.cell? ⟨gb146, 2, none⟩ = some (.bool t141)) ∧ (Kd.R (Kd.int .u8) 5 w' w.heap.size (fun _ => True) s_ y153) ∧ (w'.heap[gb125]? = some (.cells #[.string (⟨#[]⟩ : ByteArray), .int .i64 0, .bool false] 97 (0, 0))) ∧ (w'.heap[gb133]? = some (.cells #[.string x134000_1, .int .i64 x134001_1, .bool false] 97 (0, 0))) ∧ (w'.heap[gb146]? = some (.cells #[.string t139, .int .i64 t140, .bool t141] 97 (0, 0))) ∧ (IsS123 w0 w' g t142 t143 t144 t145) ∧ (KeepBut w w' g none) ∧ (Below w0.heap.size w0 w')) ?_ ?_
           rotate_left
           ·intro hJ2_4_5
            refine join_ (σ := Value) 5 (bs_ 15 7071) (fun s_ => [(41, .string t152), (43, s_), (48, .string t156)]) (fun s_ w' => (w'.cell? ⟨gb133, 0, none⟩ = some (.string x134000_1) ∧ w'.cell? ⟨gb133, 1, none⟩ = some (.int .i64 x134001_1) ∧ w'.cell? ⟨gb133, 2, none⟩ = some (.bool false) ∧ w'.cell? ⟨gb146, 0, none⟩ = some (.string t139) ∧ w'.cell? ⟨gb146, 1, none⟩ = some (.int .i64 t140) ∧ w'.cell? ⟨gb146, 2, none⟩ = some (.bool t141)) ∧ (Kd.R (Kd.int .u8) 5 w' w.heap.size (fun _ => True) s_ y153) ∧ (w'.heap[gb125]? = some (.cells #[.string (⟨#[]⟩ : ByteArray), .int .i64 0, .bool false] 97 (0, 0))) ∧ (w'.heap[gb133]? = some (.cells #[.string x134000_1, .int .i64 x134001_1, .bool false] 97 (0, 0))) ∧ (w'.heap[gb146]? = some (.cells #[.string t139, .int .i64 t140, .bool t141] 97 (0, 0))) ∧ (IsS123 w0 w' g t142 t143 t144 t145) ∧ (KeepBut w w' g none) ∧ (Below w0.heap.size w0 w')) ?_ ?_
            rotate_left
            ·intro hJ2_4_9
             refine join_ (σ := Value) 6 (bs_ 15 6559) (fun s_ => [(41, .string t152), (43, s_)]) (fun s_ w' => (w'.cell? ⟨gb133, 0, none⟩ = some (.string x134000_1) ∧ w'.cell? ⟨gb133, 1, none⟩ = some (.int .i64 x134001_1) ∧ w'.cell? ⟨gb133, 2, none⟩ = some (.bool false) ∧ w'.cell? ⟨gb146, 0, none⟩ = some (.string t139) ∧ w'.cell? ⟨gb146, 1, none⟩ = some (.int .i64 t140) ∧ w'.cell? ⟨gb146, 2, none⟩ = some (.bool t141)) ∧ (Kd.R (Kd.int .u8) 5 w' w.heap.size (fun _ => True) s_ y153) ∧ (w'.heap[gb125]? = some (.cells #[.string (⟨#[]⟩ : ByteArray), .int .i64 0, .bool false] 97 (0, 0))) ∧ (w'.heap[gb133]? = some (.cells #[.string x134000_1, .int .i64 x134001_1, .bool false] 97 (0, 0))) ∧ (w'.heap[gb146]? = some (.cells #[.string t139, .int .i64 t140, .bool t141] 97 (0, 0))) ∧ (IsS123 w0 w' g t142 t143 t144 t145) ∧ (KeepBut w w' g none) ∧ (Below w0.heap.size w0 w')) ?_ ?_
             rotate_left
             ·intro hJ2_4
              refine join_ (σ := Unit) 6 (bs_ 15 7055) (fun s_ => [(41, .string t152), (48, .string t156)]) (fun s_ w' => (w'.cell? ⟨gb133, 0, none⟩ = some (.string x134000_1) ∧ w'.cell? ⟨gb133, 1, none⟩ = some (.int .i64 x134001_1) ∧ w'.cell? ⟨gb133, 2, none⟩ = some (.bool false) ∧ w'.cell? ⟨gb146, 0, none⟩ = some (.string t139) ∧ w'.cell? ⟨gb146, 1, none⟩ = some (.int .i64 t140) ∧ w'.cell? ⟨gb146, 2, none⟩ = some (.bool t141)) ∧ (w'.heap[gb125]? = some (.cells #[.string (⟨#[]⟩ : ByteArray), .int .i64 0, .bool false] 97 (0, 0))) ∧ (w'.heap[gb133]? = some (.cells #[.string x134000_1, .int .i64 x134001_1, .bool false] 97 (0, 0))) ∧ (w'.heap[gb146]? = some (.cells #[.string t139, .int .i64 t140, .bool t141] 97 (0, 0))) ∧ (IsS123 w0 w' g t142 t143 t144 t145) ∧ (KeepBut w w' g none) ∧ (Below w0.heap.size w0 w')) ?_ ?_
              rotate_left
              ·intro hJ2_9
               refine join_ (σ := Value) 6 (bs_ 15 6587) (fun s_ => [(43, s_), (44, .string (strOfNums y153))]) (fun s_ w' => (w'.cell? ⟨gb133, 0, none⟩ = some (.string x134000_1) ∧ w'.cell? ⟨gb133, 1, none⟩ = some (.int .i64 x134001_1) ∧ w'.cell? ⟨gb133, 2, none⟩ = some (.bool false) ∧ w'.cell? ⟨gb146, 0, none⟩ = some (.string t139) ∧ w'.cell? ⟨gb146, 1, none⟩ = some (.int .i64 t140) ∧ w'.cell? ⟨gb146, 2, none⟩ = some (.bool t141)) ∧ (Kd.R (Kd.int .u8) 5 w' w.heap.size (fun _ => True) s_ y153) ∧ (w'.heap[gb125]? = some (.cells #[.string (⟨#[]⟩ : ByteArray), .int .i64 0, .bool false] 97 (0, 0))) ∧ (w'.heap[gb133]? = some (.cells #[.string x134000_1, .int .i64 x134001_1, .bool false] 97 (0, 0))) ∧ (w'.heap[gb146]? = some (.cells #[.string t139, .int .i64 t140, .bool t141] 97 (0, 0))) ∧ (IsS123 w0 w' g t142 t143 t144 t145) ∧ (KeepBut w w' g none) ∧ (Below w0.heap.size w0 w')) ?_ ?_
               rotate_left
               ·intro hJ4_5
                refine join_ (σ := Unit) 7 (bs_ 15 6543) (fun s_ => [(41, .string t152)]) (fun s_ w' => (w'.cell? ⟨gb133, 0, none⟩ = some (.string x134000_1) ∧ w'.cell? ⟨gb133, 1, none⟩ = some (.int .i64 x134001_1) ∧ w'.cell? ⟨gb133, 2, none⟩ = some (.bool false) ∧ w'.cell? ⟨gb146, 0, none⟩ = some (.string t139) ∧ w'.cell? ⟨gb146, 1, none⟩ = some (.int .i64 t140) ∧ w'.cell? ⟨gb146, 2, none⟩ = some (.bool t141)) ∧ (w'.heap[gb125]? = some (.cells #[.string (⟨#[]⟩ : ByteArray), .int .i64 0, .bool false] 97 (0, 0))) ∧ (w'.heap[gb133]? = some (.cells #[.string x134000_1, .int .i64 x134001_1, .bool false] 97 (0, 0))) ∧ (w'.heap[gb146]? = some (.cells #[.string t139, .int .i64 t140, .bool t141] 97 (0, 0))) ∧ (IsS123 w0 w' g t142 t143 t144 t145) ∧ (KeepBut w w' g none) ∧ (Below w0.heap.size w0 w')) ?_ ?_
                rotate_left
                ·intro hJ2
                 refine join_ (σ := Value) 7 (bs_ 15 6555) (fun s_ => [(43, s_)]) (fun s_ w' => (w'.cell? ⟨gb133, 0, none⟩ = some (.string x134000_1) ∧ w'.cell? ⟨gb133, 1, none⟩ = some (.int .i64 x134001_1) ∧ w'.cell? ⟨gb133, 2, none⟩ = some (.bool false) ∧ w'.cell? ⟨gb146, 0, none⟩ = some (.string t139) ∧ w'.cell? ⟨gb146, 1, none⟩ = some (.int .i64 t140) ∧ w'.cell? ⟨gb146, 2, none⟩ = some (.bool t141)) ∧ (Kd.R (Kd.int .u8) 5 w' w.heap.size (fun _ => True) s_ y153) ∧ (w'.heap[gb125]? = some (.cells #[.string (⟨#[]⟩ : ByteArray), .int .i64 0, .bool false] 97 (0, 0))) ∧ (w'.heap[gb133]? = some (.cells #[.string x134000_1, .int .i64 x134001_1, .bool false] 97 (0, 0))) ∧ (w'.heap[gb146]? = some (.cells #[.string t139, .int .i64 t140, .bool t141] 97 (0, 0))) ∧ (IsS123 w0 w' g t142 t143 t144 t145) ∧ (KeepBut w w' g none) ∧ (Below w0.heap.size w0 w')) ?_ ?_
                 rotate_left
                 ·intro hJ4
                  refine two_ (i := 2) (j := 4) (Ni := some 41) (Nj := some 43) (bs_ 15 6543) (bs_ 15 6555) rfl rfl rfl rfl (two_of HT_.out (by kernel_rfl)) (by decide) (by decide) (fun K hK => ?_) (fun K hK => ?_)
                  ·skip
                   refine goes_ Try.func94 (by kernel_rfl) rfl #[.agg #[.string x134000_1, .int .i64 x134001_1, .bool false], .int .i64 a1] (by rfl) rfl rfl (a3_) ?_
                   with_reducible refine (spec_l08In.calls x134000_1 x134001_1 false a1 t152 _ A58.out).mono ?_
                   rintro e w67 ⟨rfl, hb⟩
                   refine ⟨_, rfl, ?_⟩
                   have n_ := c6_ (blk_below (g := gb125) (o := .cells #[.string (⟨#[]⟩ : ByteArray), .int .i64 0, .bool false] 97 (0, 0)) (a6_) hb) (blk_below (g := gb133) (o := .cells #[.string x134000_1, .int .i64 x134001_1, .bool false] 97 (0, 0)) (a11_) hb) (blk_below (g := gb146) (o := .cells #[.string t139, .int .i64 t140, .bool t141] 97 (0, 0)) (a19_) hb) (IsS123.below (a15_) hb) (KeepBut.trans (a16_) (KeepBut.of_below hb g none) (.inl rfl)) (below_step (a17_) hb)
                   clear BK125 BK133 BK146 HI0 HK HB
                   obtain ⟨BK125, BK133, BK146, HI0, HK, HB⟩ := n_
                   (try clear hb)
                   (try clear hb2)
                   (try clear hk)
                   (try clear hi)
                   refine hK.out _ _ ⟨(blk_cell BK133.out 0).trans rfl, (blk_cell BK133.out 1).trans rfl, (blk_cell BK133.out 2).trans rfl, (blk_cell BK146.out 0).trans rfl, (blk_cell BK146.out 1).trans rfl, (blk_cell BK146.out 2).trans rfl⟩ (fun hHeld => ?_)
                   clear hK K
                   refine norm_ (a' := ?_) ?_ ?_
                   rotate_left
                   ·show Act.put _ (some 41) _ = _
                    simp only [pt_]
                    rfl
                   exact norm_ (a20_) (hJ2 () _ ⟨hHeld, (a6_), (a11_), (a19_), (a15_), (a16_), (a17_)⟩)
                  ·skip
                   refine Kd.R_lit_step (Kd.int .u8) _ 5 ?hg (N := 43) ?hd (xs := ([a2] : List Int)) (inner := [.int .u8 a2]) (ok := fun _ => True) (okp := fun _ => True) ?hr ?hp (fun _ hk => hk) trivial (Below.refl _ _) (Nat.le_refl _) (by simp) ?_; (case hd => rfl); (case hg => rfl); (case hr => first | (go_simp; done) | (go_simp; rfl)); (case hp => exact (Reps.one (show Kd.M (Kd.int .u8) _ _ _ a2 [.int .u8 a2] from rfl) (Reps.none _ _)))
                   intro v154 w67 ho68 hb hg_ hnew_
                   clear hg_ hnew_
                   (first | rw [← Ny153.out] at ho68 | (simp only [Int.reduceToNat] at ho68; rw [← Ny153.out] at ho68))
                   have n_ := c7_ (Kd.R_lower ho68 (keep_size (w := w) (g := g) (row := none) (a16_))) (blk_below (g := gb125) (o := .cells #[.string (⟨#[]⟩ : ByteArray), .int .i64 0, .bool false] 97 (0, 0)) (a6_) hb) (blk_below (g := gb133) (o := .cells #[.string x134000_1, .int .i64 x134001_1, .bool false] 97 (0, 0)) (a11_) hb) (blk_below (g := gb146) (o := .cells #[.string t139, .int .i64 t140, .bool t141] 97 (0, 0)) (a19_) hb) (IsS123.below (a15_) hb) (KeepBut.trans (a16_) (KeepBut.of_below hb g none) (.inl rfl)) (below_step (a17_) hb)
                   clear BK125 BK133 BK146 HI0 HK HB
                   obtain ⟨HO155, BK125, BK133, BK146, HI0, HK, HB⟩ := n_
                   clear hb ho68
                   refine hK.out _ _ ⟨(blk_cell BK133.out 0).trans rfl, (blk_cell BK133.out 1).trans rfl, (blk_cell BK133.out 2).trans rfl, (blk_cell BK146.out 0).trans rfl, (blk_cell BK146.out 1).trans rfl, (blk_cell BK146.out 2).trans rfl⟩ (fun hHeld => ?_)
                   clear hK K
                   refine norm_ (a' := ?_) ?_ ?_
                   rotate_left
                   ·show Act.put _ (some 43) _ = _
                    simp only [pt_]
                    rfl
                   exact norm_ (a20_) (hJ4 (v154) _ ⟨hHeld, (a22_), (a6_), (a11_), (a19_), (a15_), (a16_), (a17_)⟩)
                 ·skip
                  rintro v154 w69 ⟨hS_, h0_, h1_, h2_, h3_, h4_, h5_, h6_⟩
                  have n_ := c7_ (show Kd.R (Kd.int .u8) 5 w69 w.heap.size (fun _ => True) v154 y153 from h0_) (show w69.heap[gb125]? = some (.cells #[.string (⟨#[]⟩ : ByteArray), .int .i64 0, .bool false] 97 (0, 0)) from h1_) (show w69.heap[gb133]? = some (.cells #[.string x134000_1, .int .i64 x134001_1, .bool false] 97 (0, 0)) from h2_) (show w69.heap[gb146]? = some (.cells #[.string t139, .int .i64 t140, .bool t141] 97 (0, 0)) from h3_) (show IsS123 w0 w69 g t142 t143 t144 t145 from h4_) (show KeepBut w w69 g none from h5_) (show Below w0.heap.size w0 w69 from h6_)
                  clear BK125 BK133 BK146 HI0 HK HB h0_ h1_ h2_ h3_ h4_ h5_ h6_
                  obtain ⟨HO155, BK125, BK133, BK146, HI0, HK, HB⟩ := n_
                  have hHeld : w69.cell? ⟨gb133, 0, none⟩ = some (.string x134000_1) ∧ w69.cell? ⟨gb133, 1, none⟩ = some (.int .i64 x134001_1) ∧ w69.cell? ⟨gb133, 2, none⟩ = some (.bool false) ∧ w69.cell? ⟨gb146, 0, none⟩ = some (.string t139) ∧ w69.cell? ⟨gb146, 1, none⟩ = some (.int .i64 t140) ∧ w69.cell? ⟨gb146, 2, none⟩ = some (.bool t141) := hS_
                  refine norm_ (a' := ?_) ?_ ?_
                  rotate_left
                  ·simp only [putAll, Act.put, List.setIfInBounds_toArray, List.set_cons_zero, List.set_cons_succ]
                   rfl
                  refine two_ (i := 2) (j := 5) (Ni := some 41) (Nj := some 44) (bs_ 15 6559) (bs_ 15 6587) rfl rfl rfl rfl (two_of HT_.out (by kernel_rfl)) (by decide) (by decide) (fun K hK => ?_) (fun K hK => ?_)
                  ·skip
                   refine goes_ Try.func94 (by kernel_rfl) rfl #[.agg #[.string x134000_1, .int .i64 x134001_1, .bool false], .int .i64 a1] (by rfl) rfl rfl (a3_) ?_
                   with_reducible refine (spec_l08In.calls x134000_1 x134001_1 false a1 t152 _ A58.out).mono ?_
                   rintro e w70 ⟨rfl, hb⟩
                   refine ⟨_, rfl, ?_⟩
                   have n_ := c7_ (Kd.R_below (a22_) hb) (blk_below (g := gb125) (o := .cells #[.string (⟨#[]⟩ : ByteArray), .int .i64 0, .bool false] 97 (0, 0)) (a6_) hb) (blk_below (g := gb133) (o := .cells #[.string x134000_1, .int .i64 x134001_1, .bool false] 97 (0, 0)) (a11_) hb) (blk_below (g := gb146) (o := .cells #[.string t139, .int .i64 t140, .bool t141] 97 (0, 0)) (a19_) hb) (IsS123.below (a15_) hb) (KeepBut.trans (a16_) (KeepBut.of_below hb g none) (.inl rfl)) (below_step (a17_) hb)
                   clear HO155 BK125 BK133 BK146 HI0 HK HB
                   obtain ⟨HO155, BK125, BK133, BK146, HI0, HK, HB⟩ := n_
                   (try clear hb)
                   (try clear hb2)
                   (try clear hk)
                   (try clear hi)
                   refine hK.out _ _ ⟨(blk_cell BK133.out 0).trans rfl, (blk_cell BK133.out 1).trans rfl, (blk_cell BK133.out 2).trans rfl, (blk_cell BK146.out 0).trans rfl, (blk_cell BK146.out 1).trans rfl, (blk_cell BK146.out 2).trans rfl⟩ (fun hHeld => ?_)
                   clear hK K
                   refine norm_ (a' := ?_) ?_ ?_
                   rotate_left
                   ·show Act.put _ (some 41) _ = _
                    simp only [pt_]
                    rfl
                   exact norm_ (a20_) (hJ2_4 (v154) _ ⟨hHeld, (a22_), (a6_), (a11_), (a19_), (a15_), (a16_), (a17_)⟩)
                  ·skip
                   have hcv70 := own_string (P := Try.prog) Try.underlying107 Try.underlying5 Try.underlying9 (Kd.own_of_R HO155.out)
                   refine value_ (w1 := ?_) (v := ?_) (by rfl) rfl ?_ ?_
                   rotate_left 2
                   ·go_simp
                    constructor
                    ·rfl
                    ·rfl
                   clear hcv70
                   refine hK.out _ _ ⟨(blk_cell BK133.out 0).trans rfl, (blk_cell BK133.out 1).trans rfl, (blk_cell BK133.out 2).trans rfl, (blk_cell BK146.out 0).trans rfl, (blk_cell BK146.out 1).trans rfl, (blk_cell BK146.out 2).trans rfl⟩ (fun hHeld => ?_)
                   clear hK K
                   refine norm_ (a' := ?_) ?_ ?_
                   rotate_left
                   ·show Act.put _ (some 44) _ = _
                    simp only [pt_]
                    rfl
                   exact norm_ (a20_) (hJ4_5 (v154) _ ⟨hHeld, (a22_), (a6_), (a11_), (a19_), (a15_), (a16_), (a17_)⟩)
                ·skip
                 rintro _ w68 ⟨hS_, h0_, h1_, h2_, h3_, h4_, h5_⟩
                 have n_ := c6_ (show w68.heap[gb125]? = some (.cells #[.string (⟨#[]⟩ : ByteArray), .int .i64 0, .bool false] 97 (0, 0)) from h0_) (show w68.heap[gb133]? = some (.cells #[.string x134000_1, .int .i64 x134001_1, .bool false] 97 (0, 0)) from h1_) (show w68.heap[gb146]? = some (.cells #[.string t139, .int .i64 t140, .bool t141] 97 (0, 0)) from h2_) (show IsS123 w0 w68 g t142 t143 t144 t145 from h3_) (show KeepBut w w68 g none from h4_) (show Below w0.heap.size w0 w68 from h5_)
                 clear BK125 BK133 BK146 HI0 HK HB h0_ h1_ h2_ h3_ h4_ h5_
                 obtain ⟨BK125, BK133, BK146, HI0, HK, HB⟩ := n_
                 have hHeld : w68.cell? ⟨gb133, 0, none⟩ = some (.string x134000_1) ∧ w68.cell? ⟨gb133, 1, none⟩ = some (.int .i64 x134001_1) ∧ w68.cell? ⟨gb133, 2, none⟩ = some (.bool false) ∧ w68.cell? ⟨gb146, 0, none⟩ = some (.string t139) ∧ w68.cell? ⟨gb146, 1, none⟩ = some (.int .i64 t140) ∧ w68.cell? ⟨gb146, 2, none⟩ = some (.bool t141) := hS_
                 refine norm_ (a' := ?_) ?_ ?_
                 rotate_left
                 ·simp only [putAll, Act.put, List.setIfInBounds_toArray, List.set_cons_zero, List.set_cons_succ]
                  rfl
                 refine two_ (i := 4) (j := 9) (Ni := some 43) (Nj := some 48) (bs_ 15 6559) (bs_ 15 7055) rfl rfl rfl rfl (two_of HT_.out (by kernel_rfl)) (by decide) (by decide) (fun K hK => ?_) (fun K hK => ?_)
                 ·skip
                  refine Kd.R_lit_step (Kd.int .u8) _ 5 ?hg (N := 43) ?hd (xs := ([a2] : List Int)) (inner := [.int .u8 a2]) (ok := fun _ => True) (okp := fun _ => True) ?hr ?hp (fun _ hk => hk) trivial (Below.refl _ _) (Nat.le_refl _) (by simp) ?_; (case hd => rfl); (case hg => rfl); (case hr => first | (go_simp; done) | (go_simp; rfl)); (case hp => exact (Reps.one (show Kd.M (Kd.int .u8) _ _ _ a2 [.int .u8 a2] from rfl) (Reps.none _ _)))
                  intro v154 w69 ho70 hb hg_ hnew_
                  clear hg_ hnew_
                  (first | rw [← Ny153.out] at ho70 | (simp only [Int.reduceToNat] at ho70; rw [← Ny153.out] at ho70))
                  have n_ := c7_ (Kd.R_lower ho70 (keep_size (w := w) (g := g) (row := none) (a16_))) (blk_below (g := gb125) (o := .cells #[.string (⟨#[]⟩ : ByteArray), .int .i64 0, .bool false] 97 (0, 0)) (a6_) hb) (blk_below (g := gb133) (o := .cells #[.string x134000_1, .int .i64 x134001_1, .bool false] 97 (0, 0)) (a11_) hb) (blk_below (g := gb146) (o := .cells #[.string t139, .int .i64 t140, .bool t141] 97 (0, 0)) (a19_) hb) (IsS123.below (a15_) hb) (KeepBut.trans (a16_) (KeepBut.of_below hb g none) (.inl rfl)) (below_step (a17_) hb)
                  clear BK125 BK133 BK146 HI0 HK HB
                  obtain ⟨HO155, BK125, BK133, BK146, HI0, HK, HB⟩ := n_
                  clear hb ho70
                  refine hK.out _ _ ⟨(blk_cell BK133.out 0).trans rfl, (blk_cell BK133.out 1).trans rfl, (blk_cell BK133.out 2).trans rfl, (blk_cell BK146.out 0).trans rfl, (blk_cell BK146.out 1).trans rfl, (blk_cell BK146.out 2).trans rfl⟩ (fun hHeld => ?_)
                  clear hK K
                  refine norm_ (a' := ?_) ?_ ?_
                  rotate_left
                  ·show Act.put _ (some 43) _ = _
                   simp only [pt_]
                   rfl
                  exact norm_ (a20_) (hJ2_4 (v154) _ ⟨hHeld, (a22_), (a6_), (a11_), (a19_), (a15_), (a16_), (a17_)⟩)
                 ·skip
                  refine goes_ Try.func94 (by kernel_rfl) rfl #[.agg #[.string t139, .int .i64 t140, .bool t141], .int .i64 a1] (by rfl) rfl rfl (a3_) ?_
                  with_reducible refine (spec_l08In.calls t139 t140 t141 a1 t156 _ A60.out).mono ?_
                  rintro e w69 ⟨rfl, hb⟩
                  refine ⟨_, rfl, ?_⟩
                  have n_ := c6_ (blk_below (g := gb125) (o := .cells #[.string (⟨#[]⟩ : ByteArray), .int .i64 0, .bool false] 97 (0, 0)) (a6_) hb) (blk_below (g := gb133) (o := .cells #[.string x134000_1, .int .i64 x134001_1, .bool false] 97 (0, 0)) (a11_) hb) (blk_below (g := gb146) (o := .cells #[.string t139, .int .i64 t140, .bool t141] 97 (0, 0)) (a19_) hb) (IsS123.below (a15_) hb) (KeepBut.trans (a16_) (KeepBut.of_below hb g none) (.inl rfl)) (below_step (a17_) hb)
                  clear BK125 BK133 BK146 HI0 HK HB
                  obtain ⟨BK125, BK133, BK146, HI0, HK, HB⟩ := n_
                  (try clear hb)
                  (try clear hb2)
                  (try clear hk)
                  (try clear hi)
                  refine hK.out _ _ ⟨(blk_cell BK133.out 0).trans rfl, (blk_cell BK133.out 1).trans rfl, (blk_cell BK133.out 2).trans rfl, (blk_cell BK146.out 0).trans rfl, (blk_cell BK146.out 1).trans rfl, (blk_cell BK146.out 2).trans rfl⟩ (fun hHeld => ?_)
                  clear hK K
                  refine norm_ (a' := ?_) ?_ ?_
                  rotate_left
                  ·show Act.put _ (some 48) _ = _
                   simp only [pt_]
                   rfl
                  exact norm_ (a20_) (hJ2_9 () _ ⟨hHeld, (a6_), (a11_), (a19_), (a15_), (a16_), (a17_)⟩)
               ·skip
                rintro v154 w70 ⟨hS_, h0_, h1_, h2_, h3_, h4_, h5_, h6_⟩
                have n_ := c7_ (show Kd.R (Kd.int .u8) 5 w70 w.heap.size (fun _ => True) v154 y153 from h0_) (show w70.heap[gb125]? = some (.cells #[.string (⟨#[]⟩ : ByteArray), .int .i64 0, .bool false] 97 (0, 0)) from h1_) (show w70.heap[gb133]? = some (.cells #[.string x134000_1, .int .i64 x134001_1, .bool false] 97 (0, 0)) from h2_) (show w70.heap[gb146]? = some (.cells #[.string t139, .int .i64 t140, .bool t141] 97 (0, 0)) from h3_) (show IsS123 w0 w70 g t142 t143 t144 t145 from h4_) (show KeepBut w w70 g none from h5_) (show Below w0.heap.size w0 w70 from h6_)
                clear BK125 BK133 BK146 HI0 HK HB h0_ h1_ h2_ h3_ h4_ h5_ h6_
                obtain ⟨HO155, BK125, BK133, BK146, HI0, HK, HB⟩ := n_
                have hHeld : w70.cell? ⟨gb133, 0, none⟩ = some (.string x134000_1) ∧ w70.cell? ⟨gb133, 1, none⟩ = some (.int .i64 x134001_1) ∧ w70.cell? ⟨gb133, 2, none⟩ = some (.bool false) ∧ w70.cell? ⟨gb146, 0, none⟩ = some (.string t139) ∧ w70.cell? ⟨gb146, 1, none⟩ = some (.int .i64 t140) ∧ w70.cell? ⟨gb146, 2, none⟩ = some (.bool t141) := hS_
                refine norm_ (a' := ?_) ?_ ?_
                rotate_left
                ·simp only [putAll, Act.put, List.setIfInBounds_toArray, List.set_cons_zero, List.set_cons_succ]
                 rfl
                refine one_ (i := 2) (N := some 41) (bs_ 15 6591) rfl rfl (one_of HT_.out (by kernel_rfl)) (by decide) (fun K hK => ?_)
                refine goes_ Try.func94 (by kernel_rfl) rfl #[.agg #[.string x134000_1, .int .i64 x134001_1, .bool false], .int .i64 a1] (by rfl) rfl rfl (a3_) ?_
                with_reducible refine (spec_l08In.calls x134000_1 x134001_1 false a1 t152 _ A58.out).mono ?_
                rintro e w71 ⟨rfl, hb⟩
                refine ⟨_, rfl, ?_⟩
                have n_ := c7_ (Kd.R_below (a22_) hb) (blk_below (g := gb125) (o := .cells #[.string (⟨#[]⟩ : ByteArray), .int .i64 0, .bool false] 97 (0, 0)) (a6_) hb) (blk_below (g := gb133) (o := .cells #[.string x134000_1, .int .i64 x134001_1, .bool false] 97 (0, 0)) (a11_) hb) (blk_below (g := gb146) (o := .cells #[.string t139, .int .i64 t140, .bool t141] 97 (0, 0)) (a19_) hb) (IsS123.below (a15_) hb) (KeepBut.trans (a16_) (KeepBut.of_below hb g none) (.inl rfl)) (below_step (a17_) hb)
                clear HO155 BK125 BK133 BK146 HI0 HK HB
                obtain ⟨HO155, BK125, BK133, BK146, HI0, HK, HB⟩ := n_
                (try clear hb)
                (try clear hb2)
                (try clear hk)
                (try clear hi)
                refine hK.out _ _ ⟨(blk_cell BK133.out 0).trans rfl, (blk_cell BK133.out 1).trans rfl, (blk_cell BK133.out 2).trans rfl, (blk_cell BK146.out 0).trans rfl, (blk_cell BK146.out 1).trans rfl, (blk_cell BK146.out 2).trans rfl⟩ (fun hHeld => ?_)
                clear hK K
                refine norm_ (a' := ?_) ?_ ?_
                rotate_left
                ·show Act.put _ (some 41) _ = _
                 simp only [pt_]
                 rfl
                refine pu_ (i := 6) (N := some 45) 6655 rfl rfl HT_ (Or.inl ⟨by rfl, by intro w'; go_simp; with_reducible rfl⟩) (by simp only [pt_]; rfl) ?_
                exact norm_ (a20_) (hJ2_4_5 (v154) _ ⟨hHeld, (a22_), (a6_), (a11_), (a19_), (a15_), (a16_), (a17_)⟩)
              ·skip
               rintro _ w69 ⟨hS_, h0_, h1_, h2_, h3_, h4_, h5_⟩
               have n_ := c6_ (show w69.heap[gb125]? = some (.cells #[.string (⟨#[]⟩ : ByteArray), .int .i64 0, .bool false] 97 (0, 0)) from h0_) (show w69.heap[gb133]? = some (.cells #[.string x134000_1, .int .i64 x134001_1, .bool false] 97 (0, 0)) from h1_) (show w69.heap[gb146]? = some (.cells #[.string t139, .int .i64 t140, .bool t141] 97 (0, 0)) from h2_) (show IsS123 w0 w69 g t142 t143 t144 t145 from h3_) (show KeepBut w w69 g none from h4_) (show Below w0.heap.size w0 w69 from h5_)
               clear BK125 BK133 BK146 HI0 HK HB h0_ h1_ h2_ h3_ h4_ h5_
               obtain ⟨BK125, BK133, BK146, HI0, HK, HB⟩ := n_
               have hHeld : w69.cell? ⟨gb133, 0, none⟩ = some (.string x134000_1) ∧ w69.cell? ⟨gb133, 1, none⟩ = some (.int .i64 x134001_1) ∧ w69.cell? ⟨gb133, 2, none⟩ = some (.bool false) ∧ w69.cell? ⟨gb146, 0, none⟩ = some (.string t139) ∧ w69.cell? ⟨gb146, 1, none⟩ = some (.int .i64 t140) ∧ w69.cell? ⟨gb146, 2, none⟩ = some (.bool t141) := hS_
               refine norm_ (a' := ?_) ?_ ?_
               rotate_left
               ·simp only [putAll, Act.put, List.setIfInBounds_toArray, List.set_cons_zero, List.set_cons_succ]
                rfl
               refine one_ (i := 4) (N := some 43) (bs_ 15 7071) rfl rfl (one_of HT_.out (by kernel_rfl)) (by decide) (fun K hK => ?_)
               refine Kd.R_lit_step (Kd.int .u8) _ 5 ?hg (N := 43) ?hd (xs := ([a2] : List Int)) (inner := [.int .u8 a2]) (ok := fun _ => True) (okp := fun _ => True) ?hr ?hp (fun _ hk => hk) trivial (Below.refl _ _) (Nat.le_refl _) (by simp) ?_; (case hd => rfl); (case hg => rfl); (case hr => first | (go_simp; done) | (go_simp; rfl)); (case hp => exact (Reps.one (show Kd.M (Kd.int .u8) _ _ _ a2 [.int .u8 a2] from rfl) (Reps.none _ _)))
               intro v154 w70 ho71 hb hg_ hnew_
               clear hg_ hnew_
               (first | rw [← Ny153.out] at ho71 | (simp only [Int.reduceToNat] at ho71; rw [← Ny153.out] at ho71))
               have n_ := c7_ (Kd.R_lower ho71 (keep_size (w := w) (g := g) (row := none) (a16_))) (blk_below (g := gb125) (o := .cells #[.string (⟨#[]⟩ : ByteArray), .int .i64 0, .bool false] 97 (0, 0)) (a6_) hb) (blk_below (g := gb133) (o := .cells #[.string x134000_1, .int .i64 x134001_1, .bool false] 97 (0, 0)) (a11_) hb) (blk_below (g := gb146) (o := .cells #[.string t139, .int .i64 t140, .bool t141] 97 (0, 0)) (a19_) hb) (IsS123.below (a15_) hb) (KeepBut.trans (a16_) (KeepBut.of_below hb g none) (.inl rfl)) (below_step (a17_) hb)
               clear BK125 BK133 BK146 HI0 HK HB
               obtain ⟨HO155, BK125, BK133, BK146, HI0, HK, HB⟩ := n_
               clear hb ho71
               refine hK.out _ _ ⟨(blk_cell BK133.out 0).trans rfl, (blk_cell BK133.out 1).trans rfl, (blk_cell BK133.out 2).trans rfl, (blk_cell BK146.out 0).trans rfl, (blk_cell BK146.out 1).trans rfl, (blk_cell BK146.out 2).trans rfl⟩ (fun hHeld => ?_)
               clear hK K
               refine norm_ (a' := ?_) ?_ ?_
               rotate_left
               ·show Act.put _ (some 43) _ = _
                simp only [pt_]
                rfl
               exact norm_ (a20_) (hJ2_4_9 (v154) _ ⟨hHeld, (a22_), (a6_), (a11_), (a19_), (a15_), (a16_), (a17_)⟩)
             ·skip
              rintro v154 w70 ⟨hS_, h0_, h1_, h2_, h3_, h4_, h5_, h6_⟩
              have n_ := c7_ (show Kd.R (Kd.int .u8) 5 w70 w.heap.size (fun _ => True) v154 y153 from h0_) (show w70.heap[gb125]? = some (.cells #[.string (⟨#[]⟩ : ByteArray), .int .i64 0, .bool false] 97 (0, 0)) from h1_) (show w70.heap[gb133]? = some (.cells #[.string x134000_1, .int .i64 x134001_1, .bool false] 97 (0, 0)) from h2_) (show w70.heap[gb146]? = some (.cells #[.string t139, .int .i64 t140, .bool t141] 97 (0, 0)) from h3_) (show IsS123 w0 w70 g t142 t143 t144 t145 from h4_) (show KeepBut w w70 g none from h5_) (show Below w0.heap.size w0 w70 from h6_)
              clear BK125 BK133 BK146 HI0 HK HB h0_ h1_ h2_ h3_ h4_ h5_ h6_
              obtain ⟨HO155, BK125, BK133, BK146, HI0, HK, HB⟩ := n_
              have hHeld : w70.cell? ⟨gb133, 0, none⟩ = some (.string x134000_1) ∧ w70.cell? ⟨gb133, 1, none⟩ = some (.int .i64 x134001_1) ∧ w70.cell? ⟨gb133, 2, none⟩ = some (.bool false) ∧ w70.cell? ⟨gb146, 0, none⟩ = some (.string t139) ∧ w70.cell? ⟨gb146, 1, none⟩ = some (.int .i64 t140) ∧ w70.cell? ⟨gb146, 2, none⟩ = some (.bool t141) := hS_
              refine norm_ (a' := ?_) ?_ ?_
              rotate_left
              ·simp only [putAll, Act.put, List.setIfInBounds_toArray, List.set_cons_zero, List.set_cons_succ]
               rfl
              refine two_ (i := 5) (j := 9) (Ni := some 44) (Nj := some 48) (bs_ 15 6591) (bs_ 15 7071) rfl rfl rfl rfl (two_of HT_.out (by kernel_rfl)) (by decide) (by decide) (fun K hK => ?_) (fun K hK => ?_)
              ·skip
               have hcv71 := own_string (P := Try.prog) Try.underlying107 Try.underlying5 Try.underlying9 (Kd.own_of_R HO155.out)
               refine value_ (w1 := ?_) (v := ?_) (by rfl) rfl ?_ ?_
               rotate_left 2
               ·go_simp
                constructor
                ·rfl
                ·rfl
               clear hcv71
               refine hK.out _ _ ⟨(blk_cell BK133.out 0).trans rfl, (blk_cell BK133.out 1).trans rfl, (blk_cell BK133.out 2).trans rfl, (blk_cell BK146.out 0).trans rfl, (blk_cell BK146.out 1).trans rfl, (blk_cell BK146.out 2).trans rfl⟩ (fun hHeld => ?_)
               clear hK K
               refine norm_ (a' := ?_) ?_ ?_
               rotate_left
               ·show Act.put _ (some 44) _ = _
                simp only [pt_]
                rfl
               refine pu_ (i := 6) (N := some 45) 6655 rfl rfl HT_ (Or.inl ⟨by rfl, by intro w'; go_simp; with_reducible rfl⟩) (by simp only [pt_]; rfl) ?_
               exact norm_ (a20_) (hJ2_4_5 (v154) _ ⟨hHeld, (a22_), (a6_), (a11_), (a19_), (a15_), (a16_), (a17_)⟩)
              ·skip
               refine goes_ Try.func94 (by kernel_rfl) rfl #[.agg #[.string t139, .int .i64 t140, .bool t141], .int .i64 a1] (by rfl) rfl rfl (a3_) ?_
               with_reducible refine (spec_l08In.calls t139 t140 t141 a1 t156 _ A60.out).mono ?_
               rintro e w71 ⟨rfl, hb⟩
               refine ⟨_, rfl, ?_⟩
               have n_ := c7_ (Kd.R_below (a22_) hb) (blk_below (g := gb125) (o := .cells #[.string (⟨#[]⟩ : ByteArray), .int .i64 0, .bool false] 97 (0, 0)) (a6_) hb) (blk_below (g := gb133) (o := .cells #[.string x134000_1, .int .i64 x134001_1, .bool false] 97 (0, 0)) (a11_) hb) (blk_below (g := gb146) (o := .cells #[.string t139, .int .i64 t140, .bool t141] 97 (0, 0)) (a19_) hb) (IsS123.below (a15_) hb) (KeepBut.trans (a16_) (KeepBut.of_below hb g none) (.inl rfl)) (below_step (a17_) hb)
               clear HO155 BK125 BK133 BK146 HI0 HK HB
               obtain ⟨HO155, BK125, BK133, BK146, HI0, HK, HB⟩ := n_
               (try clear hb)
               (try clear hb2)
               (try clear hk)
               (try clear hi)
               refine hK.out _ _ ⟨(blk_cell BK133.out 0).trans rfl, (blk_cell BK133.out 1).trans rfl, (blk_cell BK133.out 2).trans rfl, (blk_cell BK146.out 0).trans rfl, (blk_cell BK146.out 1).trans rfl, (blk_cell BK146.out 2).trans rfl⟩ (fun hHeld => ?_)
               clear hK K
               refine norm_ (a' := ?_) ?_ ?_
               rotate_left
               ·show Act.put _ (some 48) _ = _
                simp only [pt_]
                rfl
               exact norm_ (a20_) (hJ2_4_9 (v154) _ ⟨hHeld, (a22_), (a6_), (a11_), (a19_), (a15_), (a16_), (a17_)⟩)
            ·skip
             rintro v154 w71 ⟨hS_, h0_, h1_, h2_, h3_, h4_, h5_, h6_⟩
             have n_ := c7_ (show Kd.R (Kd.int .u8) 5 w71 w.heap.size (fun _ => True) v154 y153 from h0_) (show w71.heap[gb125]? = some (.cells #[.string (⟨#[]⟩ : ByteArray), .int .i64 0, .bool false] 97 (0, 0)) from h1_) (show w71.heap[gb133]? = some (.cells #[.string x134000_1, .int .i64 x134001_1, .bool false] 97 (0, 0)) from h2_) (show w71.heap[gb146]? = some (.cells #[.string t139, .int .i64 t140, .bool t141] 97 (0, 0)) from h3_) (show IsS123 w0 w71 g t142 t143 t144 t145 from h4_) (show KeepBut w w71 g none from h5_) (show Below w0.heap.size w0 w71 from h6_)
             clear BK125 BK133 BK146 HI0 HK HB h0_ h1_ h2_ h3_ h4_ h5_ h6_
             obtain ⟨HO155, BK125, BK133, BK146, HI0, HK, HB⟩ := n_
             have hHeld : w71.cell? ⟨gb133, 0, none⟩ = some (.string x134000_1) ∧ w71.cell? ⟨gb133, 1, none⟩ = some (.int .i64 x134001_1) ∧ w71.cell? ⟨gb133, 2, none⟩ = some (.bool false) ∧ w71.cell? ⟨gb146, 0, none⟩ = some (.string t139) ∧ w71.cell? ⟨gb146, 1, none⟩ = some (.int .i64 t140) ∧ w71.cell? ⟨gb146, 2, none⟩ = some (.bool t141) := hS_
             refine norm_ (a' := ?_) ?_ ?_
             rotate_left
             ·simp only [putAll, Act.put, List.setIfInBounds_toArray, List.set_cons_zero, List.set_cons_succ]
              rfl
             refine one_ (i := 5) (N := some 44) (bs_ 15 7103) rfl rfl (one_of HT_.out (by kernel_rfl)) (by decide) (fun K hK => ?_)
             have hcv72 := own_string (P := Try.prog) Try.underlying107 Try.underlying5 Try.underlying9 (Kd.own_of_R HO155.out)
             refine value_ (w1 := ?_) (v := ?_) (by rfl) rfl ?_ ?_
             rotate_left 2
             ·go_simp
              constructor
              ·rfl
              ·rfl
             clear hcv72
             refine hK.out _ _ ⟨(blk_cell BK133.out 0).trans rfl, (blk_cell BK133.out 1).trans rfl, (blk_cell BK133.out 2).trans rfl, (blk_cell BK146.out 0).trans rfl, (blk_cell BK146.out 1).trans rfl, (blk_cell BK146.out 2).trans rfl⟩ (fun hHeld => ?_)
             clear hK K
             refine norm_ (a' := ?_) ?_ ?_
             rotate_left
             ·show Act.put _ (some 44) _ = _
              simp only [pt_]
              rfl
             refine pu_ (i := 6) (N := some 45) 7167 rfl rfl HT_ (Or.inl ⟨by rfl, by intro w'; go_simp; with_reducible rfl⟩) (by simp only [pt_]; rfl) ?_
             exact norm_ (a20_) (hJ2_4_5_9 (v154) _ ⟨hHeld, (a22_), (a6_), (a11_), (a19_), (a15_), (a16_), (a17_)⟩)
           ·skip
            rintro v154 w71 ⟨hS_, h0_, h1_, h2_, h3_, h4_, h5_, h6_⟩
            have n_ := c7_ (show Kd.R (Kd.int .u8) 5 w71 w.heap.size (fun _ => True) v154 y153 from h0_) (show w71.heap[gb125]? = some (.cells #[.string (⟨#[]⟩ : ByteArray), .int .i64 0, .bool false] 97 (0, 0)) from h1_) (show w71.heap[gb133]? = some (.cells #[.string x134000_1, .int .i64 x134001_1, .bool false] 97 (0, 0)) from h2_) (show w71.heap[gb146]? = some (.cells #[.string t139, .int .i64 t140, .bool t141] 97 (0, 0)) from h3_) (show IsS123 w0 w71 g t142 t143 t144 t145 from h4_) (show KeepBut w w71 g none from h5_) (show Below w0.heap.size w0 w71 from h6_)
            clear BK125 BK133 BK146 HI0 HK HB h0_ h1_ h2_ h3_ h4_ h5_ h6_
            obtain ⟨HO155, BK125, BK133, BK146, HI0, HK, HB⟩ := n_
            have hHeld : w71.cell? ⟨gb133, 0, none⟩ = some (.string x134000_1) ∧ w71.cell? ⟨gb133, 1, none⟩ = some (.int .i64 x134001_1) ∧ w71.cell? ⟨gb133, 2, none⟩ = some (.bool false) ∧ w71.cell? ⟨gb146, 0, none⟩ = some (.string t139) ∧ w71.cell? ⟨gb146, 1, none⟩ = some (.int .i64 t140) ∧ w71.cell? ⟨gb146, 2, none⟩ = some (.bool t141) := hS_
            refine norm_ (a' := ?_) ?_ ?_
            rotate_left
            ·simp only [putAll, Act.put, List.setIfInBounds_toArray, List.set_cons_zero, List.set_cons_succ]
             rfl
            refine one_ (i := 9) (N := some 48) (bs_ 15 7167) rfl rfl (one_of HT_.out (by kernel_rfl)) (by decide) (fun K hK => ?_)
            refine goes_ Try.func94 (by kernel_rfl) rfl #[.agg #[.string t139, .int .i64 t140, .bool t141], .int .i64 a1] (by rfl) rfl rfl (a3_) ?_
            with_reducible refine (spec_l08In.calls t139 t140 t141 a1 t156 _ A60.out).mono ?_
            rintro e w72 ⟨rfl, hb⟩
            refine ⟨_, rfl, ?_⟩
            have n_ := c7_ (Kd.R_below (a22_) hb) (blk_below (g := gb125) (o := .cells #[.string (⟨#[]⟩ : ByteArray), .int .i64 0, .bool false] 97 (0, 0)) (a6_) hb) (blk_below (g := gb133) (o := .cells #[.string x134000_1, .int .i64 x134001_1, .bool false] 97 (0, 0)) (a11_) hb) (blk_below (g := gb146) (o := .cells #[.string t139, .int .i64 t140, .bool t141] 97 (0, 0)) (a19_) hb) (IsS123.below (a15_) hb) (KeepBut.trans (a16_) (KeepBut.of_below hb g none) (.inl rfl)) (below_step (a17_) hb)
            clear HO155 BK125 BK133 BK146 HI0 HK HB
            obtain ⟨HO155, BK125, BK133, BK146, HI0, HK, HB⟩ := n_
            (try clear hb)
            (try clear hb2)
            (try clear hk)
            (try clear hi)
            refine hK.out _ _ ⟨(blk_cell BK133.out 0).trans rfl, (blk_cell BK133.out 1).trans rfl, (blk_cell BK133.out 2).trans rfl, (blk_cell BK146.out 0).trans rfl, (blk_cell BK146.out 1).trans rfl, (blk_cell BK146.out 2).trans rfl⟩ (fun hHeld => ?_)
            clear hK K
            refine norm_ (a' := ?_) ?_ ?_
            rotate_left
            ·show Act.put _ (some 48) _ = _
             simp only [pt_]
             rfl
            exact norm_ (a20_) (hJ2_4_5_9 (v154) _ ⟨hHeld, (a22_), (a6_), (a11_), (a19_), (a15_), (a16_), (a17_)⟩)
          rintro v154 w72 ⟨hS_, h0_, h1_, h2_, h3_, h4_, h5_, h6_⟩
          have n_ := c7_ (show Kd.R (Kd.int .u8) 5 w72 w.heap.size (fun _ => True) v154 y153 from h0_) (show w72.heap[gb125]? = some (.cells #[.string (⟨#[]⟩ : ByteArray), .int .i64 0, .bool false] 97 (0, 0)) from h1_) (show w72.heap[gb133]? = some (.cells #[.string x134000_1, .int .i64 x134001_1, .bool false] 97 (0, 0)) from h2_) (show w72.heap[gb146]? = some (.cells #[.string t139, .int .i64 t140, .bool t141] 97 (0, 0)) from h3_) (show IsS123 w0 w72 g t142 t143 t144 t145 from h4_) (show KeepBut w w72 g none from h5_) (show Below w0.heap.size w0 w72 from h6_)
          clear BK125 BK133 BK146 HI0 HK HB h0_ h1_ h2_ h3_ h4_ h5_ h6_
          obtain ⟨HO155, BK125, BK133, BK146, HI0, HK, HB⟩ := n_
          have hHeld : w72.cell? ⟨gb133, 0, none⟩ = some (.string x134000_1) ∧ w72.cell? ⟨gb133, 1, none⟩ = some (.int .i64 x134001_1) ∧ w72.cell? ⟨gb133, 2, none⟩ = some (.bool false) ∧ w72.cell? ⟨gb146, 0, none⟩ = some (.string t139) ∧ w72.cell? ⟨gb146, 1, none⟩ = some (.int .i64 t140) ∧ w72.cell? ⟨gb146, 2, none⟩ = some (.bool t141) := hS_
          refine norm_ (a' := ?_) ?_ ?_
          rotate_left
          ·simp only [putAll, Act.put, List.setIfInBounds_toArray, List.set_cons_zero, List.set_cons_succ]
           rfl
          refine pu_ (i := 10) (N := some 49) 8191 rfl rfl HT_ (Or.inl ⟨by rfl, by intro w'; go_simp; with_reducible rfl⟩) (by simp only [pt_]; rfl) ?_
          refine pu_ (i := 13) (N := some 52) 16383 rfl rfl HT_ (Or.inl ⟨by rfl, by intro w'; go_simp; with_reducible rfl⟩) (by simp only [pt_]; rfl) ?_
          refine last_ (i := 14) (N := none) (bs_ 15 32767) rfl rfl (one_of HT_.out (by kernel_rfl)) (by decide) (fun K hK => ?_)
          have hs73 : w72.cell? ⟨gb133, 0, none⟩ = some (.string x134000_1) := (blk_cell BK133.out 0).trans rfl
          have hfs73 := blk_frozen BK133.out 0
          have hns73_0 := NB125_133.out
          have hns73_2 := NB146_133.out
          have hms73_0 := NB133_125.out
          have hms73_2 := NB133_146.out
          have hs74 : w72.cell? ⟨gb133, 1, none⟩ = some (.int .i64 x134001_1) := (blk_cell BK133.out 1).trans rfl
          have hfs74 := blk_frozen BK133.out 1
          have hns74_0 := NB125_133.out
          have hns74_2 := NB146_133.out
          have hms74_0 := NB133_125.out
          have hms74_2 := NB133_146.out
          have hs75 : w72.cell? ⟨gb133, 2, none⟩ = some (.bool false) := (blk_cell BK133.out 2).trans rfl
          have hfs75 := blk_frozen BK133.out 2
          have hns75_0 := NB125_133.out
          have hns75_2 := NB146_133.out
          have hms75_0 := NB133_125.out
          have hms75_2 := NB133_146.out
          refine skip_ (w1 := ?_) (by rfl) rfl ?_ ?_
          rotate_left
          ·go_simp
           rfl
          refine hK.out _ _ ?_
          clear hK K
          refine done_ (done_of HT_.out (by kernel_rfl)) ?_
          try go_wp2
          go_roundg kj14
          case measure => have := HK1.out; have := HJ14.out; omega
          case rel => exact ⟨(t142), (t143), (t144), (t145), ((t152 ++ (strOfNums y153)) ++ t156), (a1), (false), H', ⟨by have := HK1.out; have := HJ14.out; omega⟩, ⟨a7_⟩, ⟨by (with_reducible repeat (first | refine blk_drewN ?_ _ | refine blk_drew ?_ | refine blk_alloc ?_ _)); refine blk_put (cs := #[.string ((t152 ++ (strOfNums y153)) ++ t156), .int .i64 a1, .bool false]) ?_ 2 _ rfl; (with_reducible repeat (first | refine blk_drewN ?_ _ | refine blk_drew ?_ | refine blk_alloc ?_ _)); refine blk_put (cs := #[.string ((t152 ++ (strOfNums y153)) ++ t156), .int .i64 x134001_1, .bool false]) ?_ 1 _ rfl; (with_reducible repeat (first | refine blk_drewN ?_ _ | refine blk_drew ?_ | refine blk_alloc ?_ _)); refine blk_put (cs := #[.string x134000_1, .int .i64 x134001_1, .bool false]) ?_ 0 _ rfl; (with_reducible repeat (first | refine blk_drewN ?_ _ | refine blk_drew ?_ | refine blk_alloc ?_ _)); exact BK133.out⟩, ⟨a15_⟩, ⟨a16_⟩, ⟨a17_⟩⟩
         ·rw [if_neg c61] at H
          exact absurd H (by simp)
        ·rw [if_neg c59] at H
         exact absurd H (by simp)
      ·rw [if_neg c35] at H
       have c35b0 : (a1 == 2) = false := beq_eq_false_iff_ne.mpr c35
       have c35b1 : (a1 != 2) = true := bne_iff_ne.mpr c35
       replace H := Option.bind_eq_some_iff.mp H
       obtain ⟨t157, A760, H⟩ := H
       try dsimp only at H
       have A76 := Aside0.mk A760
       clear A760
       obtain ⟨y158, hy158⟩ : ∃ y_ : List Int, y_ = (([a2] : List Int)) := ⟨_, rfl⟩
       replace H : (if t157.size + (strOfNums y158).size ≤ 9223372036854775807 then ((spec_l08In.f t139 t140 t141 a1).bind fun t161 => (if (t157 ++ (strOfNums y158)).size + t161.size ≤ 9223372036854775807 then (spec_l08Test_row.l0 kj14 a1 a2 l3 t142 t143 t144 t145 ((t157 ++ (strOfNums y158)) ++ t161) a1 x11_14) else (none))) else (none)) = some (r1, r2, r3, r4, r5, r6, r7) := by first | (rw [hy158]; with_reducible exact H) | (have H2_ := (Option.bind_some _ _).symm.trans H; rw [hy158]; with_reducible exact H2_) | (have H2_ := (Option.bind_some _ _).symm.trans H; with_reducible exact H2_) | with_reducible exact H | (rw [hy158]; exact H) | exact H
       have Ny158 := Aside0.mk hy158
       clear hy158
       by_cases c77 : t157.size + (strOfNums y158).size ≤ 9223372036854775807
       ·rw [if_pos c77] at H
        have c77b0 := eq_true c77
        have c77b1 : decide (t157.size + (strOfNums y158).size ≤ 9223372036854775807) = true := decide_eq_true c77
        try have c77b2 : (9223372036854775807 < t157.size + (strOfNums y158).size) = False := eq_false (Nat.not_lt.2 c77)
        replace H := Option.bind_eq_some_iff.mp H
        obtain ⟨t161, A780, H⟩ := H
        try dsimp only at H
        have A78 := Aside0.mk A780
        clear A780
        by_cases c79 : (t157 ++ (strOfNums y158)).size + t161.size ≤ 9223372036854775807
        ·rw [if_pos c79] at H
         have c79b0 := eq_true c79
         have c79s : ((t157).size + (strOfNums y158).size) + ((t161).size) ≤ 9223372036854775807 := by (have h_ := c79; (try simp only [ByteArray.size_append] at h_); first | exact h_ | omega)
         try have c79t : (9223372036854775807 < ((t157).size + (strOfNums y158).size) + ((t161).size)) = False := eq_false (Nat.not_lt.2 c79s)
         have c79b1 : decide ((t157 ++ (strOfNums y158)).size + t161.size ≤ 9223372036854775807) = true := decide_eq_true c79
         try have c79b2 : (9223372036854775807 < (t157 ++ (strOfNums y158)).size + t161.size) = False := eq_false (Nat.not_lt.2 c79)
         have H' := Aside0.mk H
         clear H
         try go_wp2
         have n_ := c6_ (blk_drew BK125.out) (blk_drew BK133.out) (blk_drew BK146.out) (IsS123.drew HI0.out) (keep_drew HK.out) (below_drew1 HB.out)
         clear BK125 BK133 BK146 HI0 HK HB
         obtain ⟨BK125, BK133, BK146, HI0, HK, HB⟩ := n_
         refine start_ (n := 15) (S := fun w' => w'.cell? ⟨gb133, 0, none⟩ = some (.string x134000_1) ∧ w'.cell? ⟨gb133, 1, none⟩ = some (.int .i64 x134001_1) ∧ w'.cell? ⟨gb133, 2, none⟩ = some (.bool x134002_1) ∧ w'.cell? ⟨gb146, 0, none⟩ = some (.string t139) ∧ w'.cell? ⟨gb146, 1, none⟩ = some (.int .i64 t140) ∧ w'.cell? ⟨gb146, 2, none⟩ = some (.bool t141)) (ds := [14]) (bs_ 15 0) (by kernel_rfl) (by kernel_rfl) (by kernel_rfl) ⟨(blk_cell BK133.out 0).trans rfl, (blk_cell BK133.out 1).trans rfl, (blk_cell BK133.out 2).trans rfl, (blk_cell BK146.out 0).trans rfl, (blk_cell BK146.out 1).trans rfl, (blk_cell BK146.out 2).trans rfl⟩ (fun hHeld => ?_); refine with_tabW spec_l08Test_row.tab7 spec_l08Test_row.bits7 (fun HT_ HW_ => ?_)
         generalize wc.drew = w80 at BK125 BK133 BK146 HI0 HK HB hHeld ⊢
         refine pu_ (i := 1) (N := some 40) 2 rfl rfl HT_ (Or.inl ⟨by rfl, by intro w'; go_simp; with_reducible rfl⟩) (by simp only [pt_]; rfl) ?_
         refine pu_ (i := 3) (N := some 42) 10 rfl rfl HT_ (Or.inl ⟨by rfl, by intro w'; go_simp; with_reducible rfl⟩) (by simp only [pt_]; rfl) ?_
         refine pu_ (i := 8) (N := some 47) 266 rfl rfl HT_ (Or.inl ⟨by rfl, by intro w'; go_simp; with_reducible rfl⟩) (by simp only [pt_]; rfl) ?_
         refine pu_ (i := 11) (N := some 50) 2314 rfl rfl HT_ (Or.inl ⟨by rfl, by intro w'; go_simp; with_reducible rfl⟩) (by simp only [pt_]; rfl) ?_
         refine pu_ (i := 12) (N := some 51) 6410 rfl rfl HT_ (Or.inl ⟨by rfl, by intro w'; go_simp; with_reducible rfl⟩) (by simp only [pt_]; rfl) ?_
         refine tk_ (i := 0) (N := some 39) 6411 rfl rfl HT_ HW_ (Or.inl ⟨by rfl, a18_⟩) hHeld (by simp only [pt_]; rfl) ?_
         refine tk_ (i := 7) (N := some 46) 6539 rfl rfl HT_ HW_ (Or.inl ⟨by rfl, a18_⟩) hHeld (by simp only [pt_]; rfl) ?_
         refine join_ (σ := Value) 3 (bs_ 15 7167) (fun s_ => [(41, .string t157), (43, s_), (44, .string (strOfNums y158)), (48, .string t161), (45, .string (t157 ++ (strOfNums y158)))]) (fun s_ w' => (w'.cell? ⟨gb133, 0, none⟩ = some (.string x134000_1) ∧ w'.cell? ⟨gb133, 1, none⟩ = some (.int .i64 x134001_1) ∧ w'.cell? ⟨gb133, 2, none⟩ = some (.bool x134002_1) ∧ w'.cell? ⟨gb146, 0, none⟩ = some (.string t139) ∧ w'.cell? ⟨gb146, 1, none⟩ = some (.int .i64 t140) ∧ w'.cell? ⟨gb146, 2, none⟩ = some (.bool t141)) ∧ (Kd.R (Kd.int .u8) 5 w' w.heap.size (fun _ => True) s_ y158) ∧ (w'.heap[gb125]? = some (.cells #[.string (⟨#[]⟩ : ByteArray), .int .i64 0, .bool false] 97 (0, 0))) ∧ (w'.heap[gb133]? = some (.cells #[.string x134000_1, .int .i64 x134001_1, .bool x134002_1] 97 (0, 0))) ∧ (w'.heap[gb146]? = some (.cells #[.string t139, .int .i64 t140, .bool t141] 97 (0, 0))) ∧ (IsS123 w0 w' g t142 t143 t144 t145) ∧ (KeepBut w w' g none) ∧ (Below w0.heap.size w0 w')) ?_ ?_
         rotate_left
         ·intro hJ2_4_5_9
          refine join_ (σ := Value) 4 (bs_ 15 6655) (fun s_ => [(41, .string t157), (43, s_), (44, .string (strOfNums y158)), (45, .string (t157 ++ (strOfNums y158)))]) (fun s_ w' => (w'.cell? ⟨gb133, 0, none⟩ = some (.string x134000_1) ∧ w'.cell? ⟨gb133, 1, none⟩ = some (.int .i64 x134001_1) ∧ w'.cell? ⟨gb133, 2, none⟩ = some (.bool x134002_1) ∧ w'.cell? ⟨gb146, 0, none⟩ = some (.string t139) ∧ w'.cell? ⟨gb146, 1, none⟩ = some (.int .i64 t140) ∧ w'.cell? ⟨gb146, 2, none⟩ = some (.bool t141)) ∧ (Kd.R (Kd.int .u8) 5 w' w.heap.size (fun _ => True) s_ y158) ∧ (w'.heap[gb125]? = some (.cells #[.string (⟨#[]⟩ : ByteArray), .int .i64 0, .bool false] 97 (0, 0))) ∧ (w'.heap[gb133]? = some (.cells #[.string x134000_1, .int .i64 x134001_1, .bool x134002_1] 97 (0, 0))) ∧ (w'.heap[gb146]? = some (.cells #[.string t139, .int .i64 t140, .bool t141] 97 (0, 0))) ∧ (IsS123 w0 w' g t142 t143 t144 t145) ∧ (KeepBut w w' g none) ∧ (Below w0.heap.size w0 w')) ?_ ?_
          rotate_left
          ·intro hJ2_4_5
           refine join_ (σ := Value) 5 (bs_ 15 7071) (fun s_ => [(41, .string t157), (43, s_), (48, .string t161)]) (fun s_ w' => (w'.cell? ⟨gb133, 0, none⟩ = some (.string x134000_1) ∧ w'.cell? ⟨gb133, 1, none⟩ = some (.int .i64 x134001_1) ∧ w'.cell? ⟨gb133, 2, none⟩ = some (.bool x134002_1) ∧ w'.cell? ⟨gb146, 0, none⟩ = some (.string t139) ∧ w'.cell? ⟨gb146, 1, none⟩ = some (.int .i64 t140) ∧ w'.cell? ⟨gb146, 2, none⟩ = some (.bool t141)) ∧ (Kd.R (Kd.int .u8) 5 w' w.heap.size (fun _ => True) s_ y158) ∧ (w'.heap[gb125]? = some (.cells #[.string (⟨#[]⟩ : ByteArray), .int .i64 0, .bool false] 97 (0, 0))) ∧ (w'.heap[gb133]? = some (.cells #[.string x134000_1, .int .i64 x134001_1, .bool x134002_1] 97 (0, 0))) ∧ (w'.heap[gb146]? = some (.cells #[.string t139, .int .i64 t140, .bool t141] 97 (0, 0))) ∧ (IsS123 w0 w' g t142 t143 t144 t145) ∧ (KeepBut w w' g none) ∧ (Below w0.heap.size w0 w')) ?_ ?_
           rotate_left
           ·intro hJ2_4_9
            refine join_ (σ := Value) 6 (bs_ 15 6559) (fun s_ => [(41, .string t157), (43, s_)]) (fun s_ w' => (w'.cell? ⟨gb133, 0, none⟩ = some (.string x134000_1) ∧ w'.cell? ⟨gb133, 1, none⟩ = some (.int .i64 x134001_1) ∧ w'.cell? ⟨gb133, 2, none⟩ = some (.bool x134002_1) ∧ w'.cell? ⟨gb146, 0, none⟩ = some (.string t139) ∧ w'.cell? ⟨gb146, 1, none⟩ = some (.int .i64 t140) ∧ w'.cell? ⟨gb146, 2, none⟩ = some (.bool t141)) ∧ (Kd.R (Kd.int .u8) 5 w' w.heap.size (fun _ => True) s_ y158) ∧ (w'.heap[gb125]? = some (.cells #[.string (⟨#[]⟩ : ByteArray), .int .i64 0, .bool false] 97 (0, 0))) ∧ (w'.heap[gb133]? = some (.cells #[.string x134000_1, .int .i64 x134001_1, .bool x134002_1] 97 (0, 0))) ∧ (w'.heap[gb146]? = some (.cells #[.string t139, .int .i64 t140, .bool t141] 97 (0, 0))) ∧ (IsS123 w0 w' g t142 t143 t144 t145) ∧ (KeepBut w w' g none) ∧ (Below w0.heap.size w0 w')) ?_ ?_
            rotate_left
            ·intro hJ2_4
             refine join_ (σ := Unit) 6 (bs_ 15 7055) (fun s_ => [(41, .string t157), (48, .string t161)]) (fun s_ w' => (w'.cell? ⟨gb133, 0, none⟩ = some (.string x134000_1) ∧ w'.cell? ⟨gb133, 1, none⟩ = some (.int .i64 x134001_1) ∧ w'.cell? ⟨gb133, 2, none⟩ = some (.bool x134002_1) ∧ w'.cell? ⟨gb146, 0, none⟩ = some (.string t139) ∧ w'.cell? ⟨gb146, 1, none⟩ = some (.int .i64 t140) ∧ w'.cell? ⟨gb146, 2, none⟩ = some (.bool t141)) ∧ (w'.heap[gb125]? = some (.cells #[.string (⟨#[]⟩ : ByteArray), .int .i64 0, .bool false] 97 (0, 0))) ∧ (w'.heap[gb133]? = some (.cells #[.string x134000_1, .int .i64 x134001_1, .bool x134002_1] 97 (0, 0))) ∧ (w'.heap[gb146]? = some (.cells #[.string t139, .int .i64 t140, .bool t141] 97 (0, 0))) ∧ (IsS123 w0 w' g t142 t143 t144 t145) ∧ (KeepBut w w' g none) ∧ (Below w0.heap.size w0 w')) ?_ ?_
             rotate_left
             ·intro hJ2_9
              refine join_ (σ := Value) 6 (bs_ 15 6587) (fun s_ => [(43, s_), (44, .string (strOfNums y158))]) (fun s_ w' => (w'.cell? ⟨gb133, 0, none⟩ = some (.string x134000_1) ∧ w'.cell? ⟨gb133, 1, none⟩ = some (.int .i64 x134001_1) ∧ w'.cell? ⟨gb133, 2, none⟩ = some (.bool x134002_1) ∧ w'.cell? ⟨gb146, 0, none⟩ = some (.string t139) ∧ w'.cell? ⟨gb146, 1, none⟩ = some (.int .i64 t140) ∧ w'.cell? ⟨gb146, 2, none⟩ = some (.bool t141)) ∧ (Kd.R (Kd.int .u8) 5 w' w.heap.size (fun _ => True) s_ y158) ∧ (w'.heap[gb125]? = some (.cells #[.string (⟨#[]⟩ : ByteArray), .int .i64 0, .bool false] 97 (0, 0))) ∧ (w'.heap[gb133]? = some (.cells #[.string x134000_1, .int .i64 x134001_1, .bool x134002_1] 97 (0, 0))) ∧ (w'.heap[gb146]? = some (.cells #[.string t139, .int .i64 t140, .bool t141] 97 (0, 0))) ∧ (IsS123 w0 w' g t142 t143 t144 t145) ∧ (KeepBut w w' g none) ∧ (Below w0.heap.size w0 w')) ?_ ?_
              rotate_left
              ·intro hJ4_5
               refine join_ (σ := Unit) 7 (bs_ 15 6543) (fun s_ => [(41, .string t157)]) (fun s_ w' => (w'.cell? ⟨gb133, 0, none⟩ = some (.string x134000_1) ∧ w'.cell? ⟨gb133, 1, none⟩ = some (.int .i64 x134001_1) ∧ w'.cell? ⟨gb133, 2, none⟩ = some (.bool x134002_1) ∧ w'.cell? ⟨gb146, 0, none⟩ = some (.string t139) ∧ w'.cell? ⟨gb146, 1, none⟩ = some (.int .i64 t140) ∧ w'.cell? ⟨gb146, 2, none⟩ = some (.bool t141)) ∧ (w'.heap[gb125]? = some (.cells #[.string (⟨#[]⟩ : ByteArray), .int .i64 0, .bool false] 97 (0, 0))) ∧ (w'.heap[gb133]? = some (.cells #[.string x134000_1, .int .i64 x134001_1, .bool x134002_1] 97 (0, 0))) ∧ (w'.heap[gb146]? = some (.cells #[.string t139, .int .i64 t140, .bool t141] 97 (0, 0))) ∧ (IsS123 w0 w' g t142 t143 t144 t145) ∧ (KeepBut w w' g none) ∧ (Below w0.heap.size w0 w')) ?_ ?_
               rotate_left
               ·intro hJ2
                refine join_ (σ := Value) 7 (bs_ 15 6555) (fun s_ => [(43, s_)]) (fun s_ w' => (w'.cell? ⟨gb133, 0, none⟩ = some (.string x134000_1) ∧ w'.cell? ⟨gb133, 1, none⟩ = some (.int .i64 x134001_1) ∧ w'.cell? ⟨gb133, 2, none⟩ = some (.bool x134002_1) ∧ w'.cell? ⟨gb146, 0, none⟩ = some (.string t139) ∧ w'.cell? ⟨gb146, 1, none⟩ = some (.int .i64 t140) ∧ w'.cell? ⟨gb146, 2, none⟩ = some (.bool t141)) ∧ (Kd.R (Kd.int .u8) 5 w' w.heap.size (fun _ => True) s_ y158) ∧ (w'.heap[gb125]? = some (.cells #[.string (⟨#[]⟩ : ByteArray), .int .i64 0, .bool false] 97 (0, 0))) ∧ (w'.heap[gb133]? = some (.cells #[.string x134000_1, .int .i64 x134001_1, .bool x134002_1] 97 (0, 0))) ∧ (w'.heap[gb146]? = some (.cells #[.string t139, .int .i64 t140, .bool t141] 97 (0, 0))) ∧ (IsS123 w0 w' g t142 t143 t144 t145) ∧ (KeepBut w w' g none) ∧ (Below w0.heap.size w0 w')) ?_ ?_
                rotate_left
                ·intro hJ4
                 refine two_ (i := 2) (j := 4) (Ni := some 41) (Nj := some 43) (bs_ 15 6543) (bs_ 15 6555) rfl rfl rfl rfl (two_of HT_.out (by kernel_rfl)) (by decide) (by decide) (fun K hK => ?_) (fun K hK => ?_)
                 ·skip
                  refine goes_ Try.func94 (by kernel_rfl) rfl #[.agg #[.string x134000_1, .int .i64 x134001_1, .bool x134002_1], .int .i64 a1] (by rfl) rfl rfl (a3_) ?_
                  with_reducible refine (spec_l08In.calls x134000_1 x134001_1 x134002_1 a1 t157 _ A76.out).mono ?_
                  rintro e w81 ⟨rfl, hb⟩
                  refine ⟨_, rfl, ?_⟩
                  have n_ := c6_ (blk_below (g := gb125) (o := .cells #[.string (⟨#[]⟩ : ByteArray), .int .i64 0, .bool false] 97 (0, 0)) (a6_) hb) (blk_below (g := gb133) (o := .cells #[.string x134000_1, .int .i64 x134001_1, .bool x134002_1] 97 (0, 0)) (a11_) hb) (blk_below (g := gb146) (o := .cells #[.string t139, .int .i64 t140, .bool t141] 97 (0, 0)) (a19_) hb) (IsS123.below (a15_) hb) (KeepBut.trans (a16_) (KeepBut.of_below hb g none) (.inl rfl)) (below_step (a17_) hb)
                  clear BK125 BK133 BK146 HI0 HK HB
                  obtain ⟨BK125, BK133, BK146, HI0, HK, HB⟩ := n_
                  (try clear hb)
                  (try clear hb2)
                  (try clear hk)
                  (try clear hi)
                  refine hK.out _ _ ⟨(blk_cell BK133.out 0).trans rfl, (blk_cell BK133.out 1).trans rfl, (blk_cell BK133.out 2).trans rfl, (blk_cell BK146.out 0).trans rfl, (blk_cell BK146.out 1).trans rfl, (blk_cell BK146.out 2).trans rfl⟩ (fun hHeld => ?_)
                  clear hK K
                  refine norm_ (a' := ?_) ?_ ?_
                  rotate_left
                  ·show Act.put _ (some 41) _ = _
                   simp only [pt_]
                   rfl
                  exact norm_ (a20_) (hJ2 () _ ⟨hHeld, (a6_), (a11_), (a19_), (a15_), (a16_), (a17_)⟩)
                 ·skip
                  refine Kd.R_lit_step (Kd.int .u8) _ 5 ?hg (N := 43) ?hd (xs := ([a2] : List Int)) (inner := [.int .u8 a2]) (ok := fun _ => True) (okp := fun _ => True) ?hr ?hp (fun _ hk => hk) trivial (Below.refl _ _) (Nat.le_refl _) (by simp) ?_; (case hd => rfl); (case hg => rfl); (case hr => first | (go_simp; done) | (go_simp; rfl)); (case hp => exact (Reps.one (show Kd.M (Kd.int .u8) _ _ _ a2 [.int .u8 a2] from rfl) (Reps.none _ _)))
                  intro v159 w81 ho82 hb hg_ hnew_
                  clear hg_ hnew_
                  (first | rw [← Ny158.out] at ho82 | (simp only [Int.reduceToNat] at ho82; rw [← Ny158.out] at ho82))
                  have n_ := c7_ (Kd.R_lower ho82 (keep_size (w := w) (g := g) (row := none) (a16_))) (blk_below (g := gb125) (o := .cells #[.string (⟨#[]⟩ : ByteArray), .int .i64 0, .bool false] 97 (0, 0)) (a6_) hb) (blk_below (g := gb133) (o := .cells #[.string x134000_1, .int .i64 x134001_1, .bool x134002_1] 97 (0, 0)) (a11_) hb) (blk_below (g := gb146) (o := .cells #[.string t139, .int .i64 t140, .bool t141] 97 (0, 0)) (a19_) hb) (IsS123.below (a15_) hb) (KeepBut.trans (a16_) (KeepBut.of_below hb g none) (.inl rfl)) (below_step (a17_) hb)
                  clear BK125 BK133 BK146 HI0 HK HB
                  obtain ⟨HO160, BK125, BK133, BK146, HI0, HK, HB⟩ := n_
                  clear hb ho82
                  refine hK.out _ _ ⟨(blk_cell BK133.out 0).trans rfl, (blk_cell BK133.out 1).trans rfl, (blk_cell BK133.out 2).trans rfl, (blk_cell BK146.out 0).trans rfl, (blk_cell BK146.out 1).trans rfl, (blk_cell BK146.out 2).trans rfl⟩ (fun hHeld => ?_)
                  clear hK K
                  refine norm_ (a' := ?_) ?_ ?_
                  rotate_left
                  ·show Act.put _ (some 43) _ = _
                   simp only [pt_]
                   rfl
                  exact norm_ (a20_) (hJ4 (v159) _ ⟨hHeld, (a23_), (a6_), (a11_), (a19_), (a15_), (a16_), (a17_)⟩)
                ·skip
                 rintro v159 w83 ⟨hS_, h0_, h1_, h2_, h3_, h4_, h5_, h6_⟩
                 have n_ := c7_ (show Kd.R (Kd.int .u8) 5 w83 w.heap.size (fun _ => True) v159 y158 from h0_) (show w83.heap[gb125]? = some (.cells #[.string (⟨#[]⟩ : ByteArray), .int .i64 0, .bool false] 97 (0, 0)) from h1_) (show w83.heap[gb133]? = some (.cells #[.string x134000_1, .int .i64 x134001_1, .bool x134002_1] 97 (0, 0)) from h2_) (show w83.heap[gb146]? = some (.cells #[.string t139, .int .i64 t140, .bool t141] 97 (0, 0)) from h3_) (show IsS123 w0 w83 g t142 t143 t144 t145 from h4_) (show KeepBut w w83 g none from h5_) (show Below w0.heap.size w0 w83 from h6_)
                 clear BK125 BK133 BK146 HI0 HK HB h0_ h1_ h2_ h3_ h4_ h5_ h6_
                 obtain ⟨HO160, BK125, BK133, BK146, HI0, HK, HB⟩ := n_
                 have hHeld : w83.cell? ⟨gb133, 0, none⟩ = some (.string x134000_1) ∧ w83.cell? ⟨gb133, 1, none⟩ = some (.int .i64 x134001_1) ∧ w83.cell? ⟨gb133, 2, none⟩ = some (.bool x134002_1) ∧ w83.cell? ⟨gb146, 0, none⟩ = some (.string t139) ∧ w83.cell? ⟨gb146, 1, none⟩ = some (.int .i64 t140) ∧ w83.cell? ⟨gb146, 2, none⟩ = some (.bool t141) := hS_
                 refine norm_ (a' := ?_) ?_ ?_
                 rotate_left
                 ·simp only [putAll, Act.put, List.setIfInBounds_toArray, List.set_cons_zero, List.set_cons_succ]
                  rfl
                 refine two_ (i := 2) (j := 5) (Ni := some 41) (Nj := some 44) (bs_ 15 6559) (bs_ 15 6587) rfl rfl rfl rfl (two_of HT_.out (by kernel_rfl)) (by decide) (by decide) (fun K hK => ?_) (fun K hK => ?_)
                 ·skip
                  refine goes_ Try.func94 (by kernel_rfl) rfl #[.agg #[.string x134000_1, .int .i64 x134001_1, .bool x134002_1], .int .i64 a1] (by rfl) rfl rfl (a3_) ?_
                  with_reducible refine (spec_l08In.calls x134000_1 x134001_1 x134002_1 a1 t157 _ A76.out).mono ?_
                  rintro e w84 ⟨rfl, hb⟩
                  refine ⟨_, rfl, ?_⟩
                  have n_ := c7_ (Kd.R_below (a23_) hb) (blk_below (g := gb125) (o := .cells #[.string (⟨#[]⟩ : ByteArray), .int .i64 0, .bool false] 97 (0, 0)) (a6_) hb) (blk_below (g := gb133) (o := .cells #[.string x134000_1, .int .i64 x134001_1, .bool x134002_1] 97 (0, 0)) (a11_) hb) (blk_below (g := gb146) (o := .cells #[.string t139, .int .i64 t140, .bool t141] 97 (0, 0)) (a19_) hb) (IsS123.below (a15_) hb) (KeepBut.trans (a16_) (KeepBut.of_below hb g none) (.inl rfl)) (below_step (a17_) hb)
                  clear HO160 BK125 BK133 BK146 HI0 HK HB
                  obtain ⟨HO160, BK125, BK133, BK146, HI0, HK, HB⟩ := n_
                  (try clear hb)
                  (try clear hb2)
                  (try clear hk)
                  (try clear hi)
                  refine hK.out _ _ ⟨(blk_cell BK133.out 0).trans rfl, (blk_cell BK133.out 1).trans rfl, (blk_cell BK133.out 2).trans rfl, (blk_cell BK146.out 0).trans rfl, (blk_cell BK146.out 1).trans rfl, (blk_cell BK146.out 2).trans rfl⟩ (fun hHeld => ?_)
                  clear hK K
                  refine norm_ (a' := ?_) ?_ ?_
                  rotate_left
                  ·show Act.put _ (some 41) _ = _
                   simp only [pt_]
                   rfl
                  exact norm_ (a20_) (hJ2_4 (v159) _ ⟨hHeld, (a23_), (a6_), (a11_), (a19_), (a15_), (a16_), (a17_)⟩)
                 ·skip
                  have hcv84 := own_string (P := Try.prog) Try.underlying107 Try.underlying5 Try.underlying9 (Kd.own_of_R HO160.out)
                  refine value_ (w1 := ?_) (v := ?_) (by rfl) rfl ?_ ?_
                  rotate_left 2
                  ·go_simp
                   constructor
                   ·rfl
                   ·rfl
                  clear hcv84
                  refine hK.out _ _ ⟨(blk_cell BK133.out 0).trans rfl, (blk_cell BK133.out 1).trans rfl, (blk_cell BK133.out 2).trans rfl, (blk_cell BK146.out 0).trans rfl, (blk_cell BK146.out 1).trans rfl, (blk_cell BK146.out 2).trans rfl⟩ (fun hHeld => ?_)
                  clear hK K
                  refine norm_ (a' := ?_) ?_ ?_
                  rotate_left
                  ·show Act.put _ (some 44) _ = _
                   simp only [pt_]
                   rfl
                  exact norm_ (a20_) (hJ4_5 (v159) _ ⟨hHeld, (a23_), (a6_), (a11_), (a19_), (a15_), (a16_), (a17_)⟩)
               ·skip
                rintro _ w82 ⟨hS_, h0_, h1_, h2_, h3_, h4_, h5_⟩
                have n_ := c6_ (show w82.heap[gb125]? = some (.cells #[.string (⟨#[]⟩ : ByteArray), .int .i64 0, .bool false] 97 (0, 0)) from h0_) (show w82.heap[gb133]? = some (.cells #[.string x134000_1, .int .i64 x134001_1, .bool x134002_1] 97 (0, 0)) from h1_) (show w82.heap[gb146]? = some (.cells #[.string t139, .int .i64 t140, .bool t141] 97 (0, 0)) from h2_) (show IsS123 w0 w82 g t142 t143 t144 t145 from h3_) (show KeepBut w w82 g none from h4_) (show Below w0.heap.size w0 w82 from h5_)
                clear BK125 BK133 BK146 HI0 HK HB h0_ h1_ h2_ h3_ h4_ h5_
                obtain ⟨BK125, BK133, BK146, HI0, HK, HB⟩ := n_
                have hHeld : w82.cell? ⟨gb133, 0, none⟩ = some (.string x134000_1) ∧ w82.cell? ⟨gb133, 1, none⟩ = some (.int .i64 x134001_1) ∧ w82.cell? ⟨gb133, 2, none⟩ = some (.bool x134002_1) ∧ w82.cell? ⟨gb146, 0, none⟩ = some (.string t139) ∧ w82.cell? ⟨gb146, 1, none⟩ = some (.int .i64 t140) ∧ w82.cell? ⟨gb146, 2, none⟩ = some (.bool t141) := hS_
                refine norm_ (a' := ?_) ?_ ?_
                rotate_left
                ·simp only [putAll, Act.put, List.setIfInBounds_toArray, List.set_cons_zero, List.set_cons_succ]
                 rfl
                refine two_ (i := 4) (j := 9) (Ni := some 43) (Nj := some 48) (bs_ 15 6559) (bs_ 15 7055) rfl rfl rfl rfl (two_of HT_.out (by kernel_rfl)) (by decide) (by decide) (fun K hK => ?_) (fun K hK => ?_)
                ·skip
                 refine Kd.R_lit_step (Kd.int .u8) _ 5 ?hg (N := 43) ?hd (xs := ([a2] : List Int)) (inner := [.int .u8 a2]) (ok := fun _ => True) (okp := fun _ => True) ?hr ?hp (fun _ hk => hk) trivial (Below.refl _ _) (Nat.le_refl _) (by simp) ?_; (case hd => rfl); (case hg => rfl); (case hr => first | (go_simp; done) | (go_simp; rfl)); (case hp => exact (Reps.one (show Kd.M (Kd.int .u8) _ _ _ a2 [.int .u8 a2] from rfl) (Reps.none _ _)))
                 intro v159 w83 ho84 hb hg_ hnew_
                 clear hg_ hnew_
                 (first | rw [← Ny158.out] at ho84 | (simp only [Int.reduceToNat] at ho84; rw [← Ny158.out] at ho84))
                 have n_ := c7_ (Kd.R_lower ho84 (keep_size (w := w) (g := g) (row := none) (a16_))) (blk_below (g := gb125) (o := .cells #[.string (⟨#[]⟩ : ByteArray), .int .i64 0, .bool false] 97 (0, 0)) (a6_) hb) (blk_below (g := gb133) (o := .cells #[.string x134000_1, .int .i64 x134001_1, .bool x134002_1] 97 (0, 0)) (a11_) hb) (blk_below (g := gb146) (o := .cells #[.string t139, .int .i64 t140, .bool t141] 97 (0, 0)) (a19_) hb) (IsS123.below (a15_) hb) (KeepBut.trans (a16_) (KeepBut.of_below hb g none) (.inl rfl)) (below_step (a17_) hb)
                 clear BK125 BK133 BK146 HI0 HK HB
                 obtain ⟨HO160, BK125, BK133, BK146, HI0, HK, HB⟩ := n_
                 clear hb ho84
                 refine hK.out _ _ ⟨(blk_cell BK133.out 0).trans rfl, (blk_cell BK133.out 1).trans rfl, (blk_cell BK133.out 2).trans rfl, (blk_cell BK146.out 0).trans rfl, (blk_cell BK146.out 1).trans rfl, (blk_cell BK146.out 2).trans rfl⟩ (fun hHeld => ?_)
                 clear hK K
                 refine norm_ (a' := ?_) ?_ ?_
                 rotate_left
                 ·show Act.put _ (some 43) _ = _
                  simp only [pt_]
                  rfl
                 exact norm_ (a20_) (hJ2_4 (v159) _ ⟨hHeld, (a23_), (a6_), (a11_), (a19_), (a15_), (a16_), (a17_)⟩)
                ·skip
                 refine goes_ Try.func94 (by kernel_rfl) rfl #[.agg #[.string t139, .int .i64 t140, .bool t141], .int .i64 a1] (by rfl) rfl rfl (a3_) ?_
                 with_reducible refine (spec_l08In.calls t139 t140 t141 a1 t161 _ A78.out).mono ?_
                 rintro e w83 ⟨rfl, hb⟩
                 refine ⟨_, rfl, ?_⟩
                 have n_ := c6_ (blk_below (g := gb125) (o := .cells #[.string (⟨#[]⟩ : ByteArray), .int .i64 0, .bool false] 97 (0, 0)) (a6_) hb) (blk_below (g := gb133) (o := .cells #[.string x134000_1, .int .i64 x134001_1, .bool x134002_1] 97 (0, 0)) (a11_) hb) (blk_below (g := gb146) (o := .cells #[.string t139, .int .i64 t140, .bool t141] 97 (0, 0)) (a19_) hb) (IsS123.below (a15_) hb) (KeepBut.trans (a16_) (KeepBut.of_below hb g none) (.inl rfl)) (below_step (a17_) hb)
                 clear BK125 BK133 BK146 HI0 HK HB
                 obtain ⟨BK125, BK133, BK146, HI0, HK, HB⟩ := n_
                 (try clear hb)
                 (try clear hb2)
                 (try clear hk)
                 (try clear hi)
                 refine hK.out _ _ ⟨(blk_cell BK133.out 0).trans rfl, (blk_cell BK133.out 1).trans rfl, (blk_cell BK133.out 2).trans rfl, (blk_cell BK146.out 0).trans rfl, (blk_cell BK146.out 1).trans rfl, (blk_cell BK146.out 2).trans rfl⟩ (fun hHeld => ?_)
                 clear hK K
                 refine norm_ (a' := ?_) ?_ ?_
                 rotate_left
                 ·show Act.put _ (some 48) _ = _
                  simp only [pt_]
                  rfl
                 exact norm_ (a20_) (hJ2_9 () _ ⟨hHeld, (a6_), (a11_), (a19_), (a15_), (a16_), (a17_)⟩)
              ·skip
               rintro v159 w84 ⟨hS_, h0_, h1_, h2_, h3_, h4_, h5_, h6_⟩
               have n_ := c7_ (show Kd.R (Kd.int .u8) 5 w84 w.heap.size (fun _ => True) v159 y158 from h0_) (show w84.heap[gb125]? = some (.cells #[.string (⟨#[]⟩ : ByteArray), .int .i64 0, .bool false] 97 (0, 0)) from h1_) (show w84.heap[gb133]? = some (.cells #[.string x134000_1, .int .i64 x134001_1, .bool x134002_1] 97 (0, 0)) from h2_) (show w84.heap[gb146]? = some (.cells #[.string t139, .int .i64 t140, .bool t141] 97 (0, 0)) from h3_) (show IsS123 w0 w84 g t142 t143 t144 t145 from h4_) (show KeepBut w w84 g none from h5_) (show Below w0.heap.size w0 w84 from h6_)
               clear BK125 BK133 BK146 HI0 HK HB h0_ h1_ h2_ h3_ h4_ h5_ h6_
               obtain ⟨HO160, BK125, BK133, BK146, HI0, HK, HB⟩ := n_
               have hHeld : w84.cell? ⟨gb133, 0, none⟩ = some (.string x134000_1) ∧ w84.cell? ⟨gb133, 1, none⟩ = some (.int .i64 x134001_1) ∧ w84.cell? ⟨gb133, 2, none⟩ = some (.bool x134002_1) ∧ w84.cell? ⟨gb146, 0, none⟩ = some (.string t139) ∧ w84.cell? ⟨gb146, 1, none⟩ = some (.int .i64 t140) ∧ w84.cell? ⟨gb146, 2, none⟩ = some (.bool t141) := hS_
               refine norm_ (a' := ?_) ?_ ?_
               rotate_left
               ·simp only [putAll, Act.put, List.setIfInBounds_toArray, List.set_cons_zero, List.set_cons_succ]
                rfl
               refine one_ (i := 2) (N := some 41) (bs_ 15 6591) rfl rfl (one_of HT_.out (by kernel_rfl)) (by decide) (fun K hK => ?_)
               refine goes_ Try.func94 (by kernel_rfl) rfl #[.agg #[.string x134000_1, .int .i64 x134001_1, .bool x134002_1], .int .i64 a1] (by rfl) rfl rfl (a3_) ?_
               with_reducible refine (spec_l08In.calls x134000_1 x134001_1 x134002_1 a1 t157 _ A76.out).mono ?_
               rintro e w85 ⟨rfl, hb⟩
               refine ⟨_, rfl, ?_⟩
               have n_ := c7_ (Kd.R_below (a23_) hb) (blk_below (g := gb125) (o := .cells #[.string (⟨#[]⟩ : ByteArray), .int .i64 0, .bool false] 97 (0, 0)) (a6_) hb) (blk_below (g := gb133) (o := .cells #[.string x134000_1, .int .i64 x134001_1, .bool x134002_1] 97 (0, 0)) (a11_) hb) (blk_below (g := gb146) (o := .cells #[.string t139, .int .i64 t140, .bool t141] 97 (0, 0)) (a19_) hb) (IsS123.below (a15_) hb) (KeepBut.trans (a16_) (KeepBut.of_below hb g none) (.inl rfl)) (below_step (a17_) hb)
               clear HO160 BK125 BK133 BK146 HI0 HK HB
               obtain ⟨HO160, BK125, BK133, BK146, HI0, HK, HB⟩ := n_
               (try clear hb)
               (try clear hb2)
               (try clear hk)
               (try clear hi)
               refine hK.out _ _ ⟨(blk_cell BK133.out 0).trans rfl, (blk_cell BK133.out 1).trans rfl, (blk_cell BK133.out 2).trans rfl, (blk_cell BK146.out 0).trans rfl, (blk_cell BK146.out 1).trans rfl, (blk_cell BK146.out 2).trans rfl⟩ (fun hHeld => ?_)
               clear hK K
               refine norm_ (a' := ?_) ?_ ?_
               rotate_left
               ·show Act.put _ (some 41) _ = _
                simp only [pt_]
                rfl
               refine pu_ (i := 6) (N := some 45) 6655 rfl rfl HT_ (Or.inl ⟨by rfl, by intro w'; go_simp; with_reducible rfl⟩) (by simp only [pt_]; rfl) ?_
               exact norm_ (a20_) (hJ2_4_5 (v159) _ ⟨hHeld, (a23_), (a6_), (a11_), (a19_), (a15_), (a16_), (a17_)⟩)
             ·skip
              rintro _ w83 ⟨hS_, h0_, h1_, h2_, h3_, h4_, h5_⟩
              have n_ := c6_ (show w83.heap[gb125]? = some (.cells #[.string (⟨#[]⟩ : ByteArray), .int .i64 0, .bool false] 97 (0, 0)) from h0_) (show w83.heap[gb133]? = some (.cells #[.string x134000_1, .int .i64 x134001_1, .bool x134002_1] 97 (0, 0)) from h1_) (show w83.heap[gb146]? = some (.cells #[.string t139, .int .i64 t140, .bool t141] 97 (0, 0)) from h2_) (show IsS123 w0 w83 g t142 t143 t144 t145 from h3_) (show KeepBut w w83 g none from h4_) (show Below w0.heap.size w0 w83 from h5_)
              clear BK125 BK133 BK146 HI0 HK HB h0_ h1_ h2_ h3_ h4_ h5_
              obtain ⟨BK125, BK133, BK146, HI0, HK, HB⟩ := n_
              have hHeld : w83.cell? ⟨gb133, 0, none⟩ = some (.string x134000_1) ∧ w83.cell? ⟨gb133, 1, none⟩ = some (.int .i64 x134001_1) ∧ w83.cell? ⟨gb133, 2, none⟩ = some (.bool x134002_1) ∧ w83.cell? ⟨gb146, 0, none⟩ = some (.string t139) ∧ w83.cell? ⟨gb146, 1, none⟩ = some (.int .i64 t140) ∧ w83.cell? ⟨gb146, 2, none⟩ = some (.bool t141) := hS_
              refine norm_ (a' := ?_) ?_ ?_
              rotate_left
              ·simp only [putAll, Act.put, List.setIfInBounds_toArray, List.set_cons_zero, List.set_cons_succ]
               rfl
              refine one_ (i := 4) (N := some 43) (bs_ 15 7071) rfl rfl (one_of HT_.out (by kernel_rfl)) (by decide) (fun K hK => ?_)
              refine Kd.R_lit_step (Kd.int .u8) _ 5 ?hg (N := 43) ?hd (xs := ([a2] : List Int)) (inner := [.int .u8 a2]) (ok := fun _ => True) (okp := fun _ => True) ?hr ?hp (fun _ hk => hk) trivial (Below.refl _ _) (Nat.le_refl _) (by simp) ?_; (case hd => rfl); (case hg => rfl); (case hr => first | (go_simp; done) | (go_simp; rfl)); (case hp => exact (Reps.one (show Kd.M (Kd.int .u8) _ _ _ a2 [.int .u8 a2] from rfl) (Reps.none _ _)))
              intro v159 w84 ho85 hb hg_ hnew_
              clear hg_ hnew_
              (first | rw [← Ny158.out] at ho85 | (simp only [Int.reduceToNat] at ho85; rw [← Ny158.out] at ho85))
              have n_ := c7_ (Kd.R_lower ho85 (keep_size (w := w) (g := g) (row := none) (a16_))) (blk_below (g := gb125) (o := .cells #[.string (⟨#[]⟩ : ByteArray), .int .i64 0, .bool false] 97 (0, 0)) (a6_) hb) (blk_below (g := gb133) (o := .cells #[.string x134000_1, .int .i64 x134001_1, .bool x134002_1] 97 (0, 0)) (a11_) hb) (blk_below (g := gb146) (o := .cells #[.string t139, .int .i64 t140, .bool t141] 97 (0, 0)) (a19_) hb) (IsS123.below (a15_) hb) (KeepBut.trans (a16_) (KeepBut.of_below hb g none) (.inl rfl)) (below_step (a17_) hb)
              clear BK125 BK133 BK146 HI0 HK HB
              obtain ⟨HO160, BK125, BK133, BK146, HI0, HK, HB⟩ := n_
              clear hb ho85
              refine hK.out _ _ ⟨(blk_cell BK133.out 0).trans rfl, (blk_cell BK133.out 1).trans rfl, (blk_cell BK133.out 2).trans rfl, (blk_cell BK146.out 0).trans rfl, (blk_cell BK146.out 1).trans rfl, (blk_cell BK146.out 2).trans rfl⟩ (fun hHeld => ?_)
              clear hK K
              refine norm_ (a' := ?_) ?_ ?_
              rotate_left
              ·show Act.put _ (some 43) _ = _
               simp only [pt_]
               rfl
              exact norm_ (a20_) (hJ2_4_9 (v159) _ ⟨hHeld, (a23_), (a6_), (a11_), (a19_), (a15_), (a16_), (a17_)⟩)
            ·skip
             rintro v159 w84 ⟨hS_, h0_, h1_, h2_, h3_, h4_, h5_, h6_⟩
             have n_ := c7_ (show Kd.R (Kd.int .u8) 5 w84 w.heap.size (fun _ => True) v159 y158 from h0_) (show w84.heap[gb125]? = some (.cells #[.string (⟨#[]⟩ : ByteArray), .int .i64 0, .bool false] 97 (0, 0)) from h1_) (show w84.heap[gb133]? = some (.cells #[.string x134000_1, .int .i64 x134001_1, .bool x134002_1] 97 (0, 0)) from h2_) (show w84.heap[gb146]? = some (.cells #[.string t139, .int .i64 t140, .bool t141] 97 (0, 0)) from h3_) (show IsS123 w0 w84 g t142 t143 t144 t145 from h4_) (show KeepBut w w84 g none from h5_) (show Below w0.heap.size w0 w84 from h6_)
             clear BK125 BK133 BK146 HI0 HK HB h0_ h1_ h2_ h3_ h4_ h5_ h6_
             obtain ⟨HO160, BK125, BK133, BK146, HI0, HK, HB⟩ := n_
             have hHeld : w84.cell? ⟨gb133, 0, none⟩ = some (.string x134000_1) ∧ w84.cell? ⟨gb133, 1, none⟩ = some (.int .i64 x134001_1) ∧ w84.cell? ⟨gb133, 2, none⟩ = some (.bool x134002_1) ∧ w84.cell? ⟨gb146, 0, none⟩ = some (.string t139) ∧ w84.cell? ⟨gb146, 1, none⟩ = some (.int .i64 t140) ∧ w84.cell? ⟨gb146, 2, none⟩ = some (.bool t141) := hS_
             refine norm_ (a' := ?_) ?_ ?_
             rotate_left
             ·simp only [putAll, Act.put, List.setIfInBounds_toArray, List.set_cons_zero, List.set_cons_succ]
              rfl
             refine two_ (i := 5) (j := 9) (Ni := some 44) (Nj := some 48) (bs_ 15 6591) (bs_ 15 7071) rfl rfl rfl rfl (two_of HT_.out (by kernel_rfl)) (by decide) (by decide) (fun K hK => ?_) (fun K hK => ?_)
             ·skip
              have hcv85 := own_string (P := Try.prog) Try.underlying107 Try.underlying5 Try.underlying9 (Kd.own_of_R HO160.out)
              refine value_ (w1 := ?_) (v := ?_) (by rfl) rfl ?_ ?_
              rotate_left 2
              ·go_simp
               constructor
               ·rfl
               ·rfl
              clear hcv85
              refine hK.out _ _ ⟨(blk_cell BK133.out 0).trans rfl, (blk_cell BK133.out 1).trans rfl, (blk_cell BK133.out 2).trans rfl, (blk_cell BK146.out 0).trans rfl, (blk_cell BK146.out 1).trans rfl, (blk_cell BK146.out 2).trans rfl⟩ (fun hHeld => ?_)
              clear hK K
              refine norm_ (a' := ?_) ?_ ?_
              rotate_left
              ·show Act.put _ (some 44) _ = _
               simp only [pt_]
               rfl
              refine pu_ (i := 6) (N := some 45) 6655 rfl rfl HT_ (Or.inl ⟨by rfl, by intro w'; go_simp; with_reducible rfl⟩) (by simp only [pt_]; rfl) ?_
              exact norm_ (a20_) (hJ2_4_5 (v159) _ ⟨hHeld, (a23_), (a6_), (a11_), (a19_), (a15_), (a16_), (a17_)⟩)
             ·skip
              refine goes_ Try.func94 (by kernel_rfl) rfl #[.agg #[.string t139, .int .i64 t140, .bool t141], .int .i64 a1] (by rfl) rfl rfl (a3_) ?_
              with_reducible refine (spec_l08In.calls t139 t140 t141 a1 t161 _ A78.out).mono ?_
              rintro e w85 ⟨rfl, hb⟩
              refine ⟨_, rfl, ?_⟩
              have n_ := c7_ (Kd.R_below (a23_) hb) (blk_below (g := gb125) (o := .cells #[.string (⟨#[]⟩ : ByteArray), .int .i64 0, .bool false] 97 (0, 0)) (a6_) hb) (blk_below (g := gb133) (o := .cells #[.string x134000_1, .int .i64 x134001_1, .bool x134002_1] 97 (0, 0)) (a11_) hb) (blk_below (g := gb146) (o := .cells #[.string t139, .int .i64 t140, .bool t141] 97 (0, 0)) (a19_) hb) (IsS123.below (a15_) hb) (KeepBut.trans (a16_) (KeepBut.of_below hb g none) (.inl rfl)) (below_step (a17_) hb)
              clear HO160 BK125 BK133 BK146 HI0 HK HB
              obtain ⟨HO160, BK125, BK133, BK146, HI0, HK, HB⟩ := n_
              (try clear hb)
              (try clear hb2)
              (try clear hk)
              (try clear hi)
              refine hK.out _ _ ⟨(blk_cell BK133.out 0).trans rfl, (blk_cell BK133.out 1).trans rfl, (blk_cell BK133.out 2).trans rfl, (blk_cell BK146.out 0).trans rfl, (blk_cell BK146.out 1).trans rfl, (blk_cell BK146.out 2).trans rfl⟩ (fun hHeld => ?_)
              clear hK K
              refine norm_ (a' := ?_) ?_ ?_
              rotate_left
              ·show Act.put _ (some 48) _ = _
               simp only [pt_]
               rfl
              exact norm_ (a20_) (hJ2_4_9 (v159) _ ⟨hHeld, (a23_), (a6_), (a11_), (a19_), (a15_), (a16_), (a17_)⟩)
           ·skip
            rintro v159 w85 ⟨hS_, h0_, h1_, h2_, h3_, h4_, h5_, h6_⟩
            have n_ := c7_ (show Kd.R (Kd.int .u8) 5 w85 w.heap.size (fun _ => True) v159 y158 from h0_) (show w85.heap[gb125]? = some (.cells #[.string (⟨#[]⟩ : ByteArray), .int .i64 0, .bool false] 97 (0, 0)) from h1_) (show w85.heap[gb133]? = some (.cells #[.string x134000_1, .int .i64 x134001_1, .bool x134002_1] 97 (0, 0)) from h2_) (show w85.heap[gb146]? = some (.cells #[.string t139, .int .i64 t140, .bool t141] 97 (0, 0)) from h3_) (show IsS123 w0 w85 g t142 t143 t144 t145 from h4_) (show KeepBut w w85 g none from h5_) (show Below w0.heap.size w0 w85 from h6_)
            clear BK125 BK133 BK146 HI0 HK HB h0_ h1_ h2_ h3_ h4_ h5_ h6_
            obtain ⟨HO160, BK125, BK133, BK146, HI0, HK, HB⟩ := n_
            have hHeld : w85.cell? ⟨gb133, 0, none⟩ = some (.string x134000_1) ∧ w85.cell? ⟨gb133, 1, none⟩ = some (.int .i64 x134001_1) ∧ w85.cell? ⟨gb133, 2, none⟩ = some (.bool x134002_1) ∧ w85.cell? ⟨gb146, 0, none⟩ = some (.string t139) ∧ w85.cell? ⟨gb146, 1, none⟩ = some (.int .i64 t140) ∧ w85.cell? ⟨gb146, 2, none⟩ = some (.bool t141) := hS_
            refine norm_ (a' := ?_) ?_ ?_
            rotate_left
            ·simp only [putAll, Act.put, List.setIfInBounds_toArray, List.set_cons_zero, List.set_cons_succ]
             rfl
            refine one_ (i := 5) (N := some 44) (bs_ 15 7103) rfl rfl (one_of HT_.out (by kernel_rfl)) (by decide) (fun K hK => ?_)
            have hcv86 := own_string (P := Try.prog) Try.underlying107 Try.underlying5 Try.underlying9 (Kd.own_of_R HO160.out)
            refine value_ (w1 := ?_) (v := ?_) (by rfl) rfl ?_ ?_
            rotate_left 2
            ·go_simp
             constructor
             ·rfl
             ·rfl
            clear hcv86
            refine hK.out _ _ ⟨(blk_cell BK133.out 0).trans rfl, (blk_cell BK133.out 1).trans rfl, (blk_cell BK133.out 2).trans rfl, (blk_cell BK146.out 0).trans rfl, (blk_cell BK146.out 1).trans rfl, (blk_cell BK146.out 2).trans rfl⟩ (fun hHeld => ?_)
            clear hK K
            refine norm_ (a' := ?_) ?_ ?_
            rotate_left
            ·show Act.put _ (some 44) _ = _
             simp only [pt_]
             rfl
            refine pu_ (i := 6) (N := some 45) 7167 rfl rfl HT_ (Or.inl ⟨by rfl, by intro w'; go_simp; with_reducible rfl⟩) (by simp only [pt_]; rfl) ?_
            exact norm_ (a20_) (hJ2_4_5_9 (v159) _ ⟨hHeld, (a23_), (a6_), (a11_), (a19_), (a15_), (a16_), (a17_)⟩)
          ·skip
           rintro v159 w85 ⟨hS_, h0_, h1_, h2_, h3_, h4_, h5_, h6_⟩
           have n_ := c7_ (show Kd.R (Kd.int .u8) 5 w85 w.heap.size (fun _ => True) v159 y158 from h0_) (show w85.heap[gb125]? = some (.cells #[.string (⟨#[]⟩ : ByteArray), .int .i64 0, .bool false] 97 (0, 0)) from h1_) (show w85.heap[gb133]? = some (.cells #[.string x134000_1, .int .i64 x134001_1, .bool x134002_1] 97 (0, 0)) from h2_) (show w85.heap[gb146]? = some (.cells #[.string t139, .int .i64 t140, .bool t141] 97 (0, 0)) from h3_) (show IsS123 w0 w85 g t142 t143 t144 t145 from h4_) (show KeepBut w w85 g none from h5_) (show Below w0.heap.size w0 w85 from h6_)
           clear BK125 BK133 BK146 HI0 HK HB h0_ h1_ h2_ h3_ h4_ h5_ h6_
           obtain ⟨HO160, BK125, BK133, BK146, HI0, HK, HB⟩ := n_
           have hHeld : w85.cell? ⟨gb133, 0, none⟩ = some (.string x134000_1) ∧ w85.cell? ⟨gb133, 1, none⟩ = some (.int .i64 x134001_1) ∧ w85.cell? ⟨gb133, 2, none⟩ = some (.bool x134002_1) ∧ w85.cell? ⟨gb146, 0, none⟩ = some (.string t139) ∧ w85.cell? ⟨gb146, 1, none⟩ = some (.int .i64 t140) ∧ w85.cell? ⟨gb146, 2, none⟩ = some (.bool t141) := hS_
           refine norm_ (a' := ?_) ?_ ?_
           rotate_left
           ·simp only [putAll, Act.put, List.setIfInBounds_toArray, List.set_cons_zero, List.set_cons_succ]
            rfl
           refine one_ (i := 9) (N := some 48) (bs_ 15 7167) rfl rfl (one_of HT_.out (by kernel_rfl)) (by decide) (fun K hK => ?_)
           refine goes_ Try.func94 (by kernel_rfl) rfl #[.agg #[.string t139, .int .i64 t140, .bool t141], .int .i64 a1] (by rfl) rfl rfl (a3_) ?_
           with_reducible refine (spec_l08In.calls t139 t140 t141 a1 t161 _ A78.out).mono ?_
           rintro e w86 ⟨rfl, hb⟩
           refine ⟨_, rfl, ?_⟩
           have n_ := c7_ (Kd.R_below (a23_) hb) (blk_below (g := gb125) (o := .cells #[.string (⟨#[]⟩ : ByteArray), .int .i64 0, .bool false] 97 (0, 0)) (a6_) hb) (blk_below (g := gb133) (o := .cells #[.string x134000_1, .int .i64 x134001_1, .bool x134002_1] 97 (0, 0)) (a11_) hb) (blk_below (g := gb146) (o := .cells #[.string t139, .int .i64 t140, .bool t141] 97 (0, 0)) (a19_) hb) (IsS123.below (a15_) hb) (KeepBut.trans (a16_) (KeepBut.of_below hb g none) (.inl rfl)) (below_step (a17_) hb)
           clear HO160 BK125 BK133 BK146 HI0 HK HB
           obtain ⟨HO160, BK125, BK133, BK146, HI0, HK, HB⟩ := n_
           (try clear hb)
           (try clear hb2)
           (try clear hk)
           (try clear hi)
           refine hK.out _ _ ⟨(blk_cell BK133.out 0).trans rfl, (blk_cell BK133.out 1).trans rfl, (blk_cell BK133.out 2).trans rfl, (blk_cell BK146.out 0).trans rfl, (blk_cell BK146.out 1).trans rfl, (blk_cell BK146.out 2).trans rfl⟩ (fun hHeld => ?_)
           clear hK K
           refine norm_ (a' := ?_) ?_ ?_
           rotate_left
           ·show Act.put _ (some 48) _ = _
            simp only [pt_]
            rfl
           exact norm_ (a20_) (hJ2_4_5_9 (v159) _ ⟨hHeld, (a23_), (a6_), (a11_), (a19_), (a15_), (a16_), (a17_)⟩)
         rintro v159 w86 ⟨hS_, h0_, h1_, h2_, h3_, h4_, h5_, h6_⟩
         have n_ := c7_ (show Kd.R (Kd.int .u8) 5 w86 w.heap.size (fun _ => True) v159 y158 from h0_) (show w86.heap[gb125]? = some (.cells #[.string (⟨#[]⟩ : ByteArray), .int .i64 0, .bool false] 97 (0, 0)) from h1_) (show w86.heap[gb133]? = some (.cells #[.string x134000_1, .int .i64 x134001_1, .bool x134002_1] 97 (0, 0)) from h2_) (show w86.heap[gb146]? = some (.cells #[.string t139, .int .i64 t140, .bool t141] 97 (0, 0)) from h3_) (show IsS123 w0 w86 g t142 t143 t144 t145 from h4_) (show KeepBut w w86 g none from h5_) (show Below w0.heap.size w0 w86 from h6_)
         clear BK125 BK133 BK146 HI0 HK HB h0_ h1_ h2_ h3_ h4_ h5_ h6_
         obtain ⟨HO160, BK125, BK133, BK146, HI0, HK, HB⟩ := n_
         have hHeld : w86.cell? ⟨gb133, 0, none⟩ = some (.string x134000_1) ∧ w86.cell? ⟨gb133, 1, none⟩ = some (.int .i64 x134001_1) ∧ w86.cell? ⟨gb133, 2, none⟩ = some (.bool x134002_1) ∧ w86.cell? ⟨gb146, 0, none⟩ = some (.string t139) ∧ w86.cell? ⟨gb146, 1, none⟩ = some (.int .i64 t140) ∧ w86.cell? ⟨gb146, 2, none⟩ = some (.bool t141) := hS_
         refine norm_ (a' := ?_) ?_ ?_
         rotate_left
         ·simp only [putAll, Act.put, List.setIfInBounds_toArray, List.set_cons_zero, List.set_cons_succ]
          rfl
         refine pu_ (i := 10) (N := some 49) 8191 rfl rfl HT_ (Or.inl ⟨by rfl, by intro w'; go_simp; with_reducible rfl⟩) (by simp only [pt_]; rfl) ?_
         refine pu_ (i := 13) (N := some 52) 16383 rfl rfl HT_ (Or.inl ⟨by rfl, by intro w'; go_simp; with_reducible rfl⟩) (by simp only [pt_]; rfl) ?_
         refine last_ (i := 14) (N := none) (bs_ 15 32767) rfl rfl (one_of HT_.out (by kernel_rfl)) (by decide) (fun K hK => ?_)
         have hs87 : w86.cell? ⟨gb133, 0, none⟩ = some (.string x134000_1) := (blk_cell BK133.out 0).trans rfl
         have hfs87 := blk_frozen BK133.out 0
         have hns87_0 := NB125_133.out
         have hns87_2 := NB146_133.out
         have hms87_0 := NB133_125.out
         have hms87_2 := NB133_146.out
         have hs88 : w86.cell? ⟨gb133, 1, none⟩ = some (.int .i64 x134001_1) := (blk_cell BK133.out 1).trans rfl
         have hfs88 := blk_frozen BK133.out 1
         have hns88_0 := NB125_133.out
         have hns88_2 := NB146_133.out
         have hms88_0 := NB133_125.out
         have hms88_2 := NB133_146.out
         have hs89 : w86.cell? ⟨gb133, 2, none⟩ = some (.bool x134002_1) := (blk_cell BK133.out 2).trans rfl
         have hfs89 := blk_frozen BK133.out 2
         have hns89_0 := NB125_133.out
         have hns89_2 := NB146_133.out
         have hms89_0 := NB133_125.out
         have hms89_2 := NB133_146.out
         refine skip_ (w1 := ?_) (by rfl) rfl ?_ ?_
         rotate_left
         ·go_simp
          rfl
         refine hK.out _ _ ?_
         clear hK K
         refine done_ (done_of HT_.out (by kernel_rfl)) ?_
         try go_wp2
         go_roundg kj14
         case measure => have := HK1.out; have := HJ14.out; omega
         case rel => exact ⟨(t142), (t143), (t144), (t145), ((t157 ++ (strOfNums y158)) ++ t161), (a1), (x11_14), H', ⟨by have := HK1.out; have := HJ14.out; omega⟩, ⟨a7_⟩, ⟨by (with_reducible repeat (first | refine blk_drewN ?_ _ | refine blk_drew ?_ | refine blk_alloc ?_ _)); refine blk_put (cs := #[.string ((t157 ++ (strOfNums y158)) ++ t161), .int .i64 a1, .bool x134002_1]) ?_ 2 _ rfl; (with_reducible repeat (first | refine blk_drewN ?_ _ | refine blk_drew ?_ | refine blk_alloc ?_ _)); refine blk_put (cs := #[.string ((t157 ++ (strOfNums y158)) ++ t161), .int .i64 x134001_1, .bool x134002_1]) ?_ 1 _ rfl; (with_reducible repeat (first | refine blk_drewN ?_ _ | refine blk_drew ?_ | refine blk_alloc ?_ _)); refine blk_put (cs := #[.string x134000_1, .int .i64 x134001_1, .bool x134002_1]) ?_ 0 _ rfl; (with_reducible repeat (first | refine blk_drewN ?_ _ | refine blk_drew ?_ | refine blk_alloc ?_ _)); exact BK133.out⟩, ⟨a15_⟩, ⟨a16_⟩, ⟨a17_⟩⟩
        ·rw [if_neg c79] at H
         exact absurd H (by simp)
       ·rw [if_neg c77] at H
        exact absurd H (by simp)
   ·replace c13 := Bool.eq_false_iff.mpr c13
    subst c13
    rw [if_neg (show ¬ (false = true) by decide)] at H
    try dsimp only at H
    simp only [Option.some.injEq, Prod.mk.injEq] at H
    obtain ⟨rfl, rfl, rfl, rfl, rfl, rfl, rfl⟩ := H
    go_wp2_with (first | ((with_reducible refine gate_callee (f := 93) rfl ?_); refine goesL_ (some 19) rfl rfl Try.func93 (by kernel_rfl) rfl #[.pointer (some ⟨g, 0, none⟩), .int .u8 a2] rfl (a3_) ?_; (with_reducible refine (spec_l08Test_takes.calls g x1000_1 x1001_1 x1002_1 x1003_1 a2 false t135 t136 t137 t138 w0 _ ?side1 ?side2 A12.out).mono ?_); (case side1 => exact a8_); (case side2 => exact a10_); rintro e w90 ⟨rfl, hi, hb, hk⟩; refine ⟨_, rfl, ?_⟩; have n_ := c5_ (KeepBut.blk hk (g' := gb125) (o := .cells #[.string (⟨#[]⟩ : ByteArray), .int .i64 0, .bool false] 97 (0, 0)) (a6_) NB125_0.out (by simp)) (KeepBut.blk hk (g' := gb133) (o := .cells #[.string x134000_1, .int .i64 x134001_1, .bool x134002_1] 97 (0, 0)) (a11_) NB133_0.out (by simp)) (KeepBut.trans (a9_) hk (.inl rfl)) (hb) (hi); clear BK125 BK133 HK HB HI0; obtain ⟨BK125, BK133, HK, HB, HI0⟩ := n_; (try clear hb); (try clear hb2); (try clear hk); (try clear hi); have hnb91 := NB133_125.out; have hnc91 := NB125_133.out; have hnb92 := NB133_0.out; have hnc92 := NB0_133.out; obtain ⟨hcz93_0, hcz93_1, hcz93_2, hfz93_0, hfz93_1, hfz93_2⟩ := cf3_ BK133.out; have hnb94 := NB125_0.out; have hnc94 := NB0_125.out; obtain ⟨hcz95_0, hcz95_1, hcz95_2, hfz95_0, hfz95_1, hfz95_2⟩ := cf3_ BK125.out))
    refine bodyPost_ret (results_cell_row rfl _ _ gb125 97 #[.string x134000_1, .int .i64 x134001_1, .bool x134002_1] (0, 0) _ rfl (by (with_reducible repeat (first | refine blk_drewN ?_ _ | refine blk_drew ?_ | refine blk_alloc ?_ _)); refine blk_put (cs := #[.string x134000_1, .int .i64 x134001_1, .bool false]) ?_ 2 _ rfl; (with_reducible repeat (first | refine blk_drewN ?_ _ | refine blk_drew ?_ | refine blk_alloc ?_ _)); refine blk_put (cs := #[.string x134000_1, .int .i64 0, .bool false]) ?_ 1 _ rfl; (with_reducible repeat (first | refine blk_drewN ?_ _ | refine blk_drew ?_ | refine blk_alloc ?_ _)); refine blk_put (cs := #[.string (⟨#[]⟩ : ByteArray), .int .i64 0, .bool false]) ?_ 0 _ rfl; (with_reducible repeat (first | refine blk_drewN ?_ _ | refine blk_drew ?_ | refine blk_alloc ?_ _)); exact BK125.out) Try.underlying97 rfl (by kernel_rfl)) rfl ?_
    exact ⟨by first | rfl | (simp [errW_none, errW_some] <;> rfl) | (simp [*, errW_none, errW_some] <;> rfl), a8_, a10_, a9_⟩
end

end Go.Proofs.Ytmecapnpgedcnaa.PFnExactShowSteps
